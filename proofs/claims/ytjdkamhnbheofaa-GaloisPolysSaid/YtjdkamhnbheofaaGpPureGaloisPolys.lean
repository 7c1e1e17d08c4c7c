/- For every field, every two lists of bytes and every byte: Eval, Plus, Times, Divide, Gcd, Derive and Roots are the document's; what is handed in stays; what is told is memory of its own. The plain law of GaloisPolys; no condition. -/
import Derived.Test.YtjdkamhnbheofaaGpPx92
import Derived.Test.YtjdkamhnbheofaaGpQGalG
set_option linter.unusedVariables false
set_option linter.unusedSimpArgs false
namespace Go.Proofs.Ytjdkamhnbheofaa.Pure
open Go.RowKit Go.Proofs.Ytjdkamhnbheofaa.P Go.Proofs.YtjdkamhnbheofaaW.PrintWords Go.Proofs.YtjdkamhnbheofaaW.PrintLast Go.Proofs.YtjdkamhnbheofaaW.Q Go.Proofs.Ytjdkamhnbheofaa.GalP Go.Proofs.Ytjdkamhnbheofaa.Gal
theorem apart_true (l : List (List Int)) (h : ∀ x ∈ l, x.length ≤ 140737488355000) : l1_ApartBytes.f l = some true := by
  unfold l1_ApartBytes.f
  rw [if_pos h]
theorem all9 {Q : List Int → Prop} {a b c d e f g h i : List Int} (h1 : Q a) (h2 : Q b) (h3 : Q c) (h4 : Q d) (h5 : Q e) (h6 : Q f) (h7 : Q g) (h8 : Q h) (h9 : Q i) : ∀ x ∈ [a, b, c, d, e, f, g, h, i], Q x := by
  intro x hx
  simp only [List.mem_cons, List.not_mem_nil, or_false] at hx
  rcases hx with rfl | rfl | rfl | rfl | rfl | rfl | rfl | rfl | rfl <;> assumption
theorem GaloisPolys : l3_GaloisPolys.Pure := by
  intro M P l1 l2 x hM hP ml1 sl1 hl1 ml2 sl2 hl2 hx
  obtain ⟨A, rfl, hA⟩ := bytes_of hl1
  obtain ⟨B, rfl, hB⟩ := bytes_of hl2
  obtain ⟨x, rfl⟩ : ∃ v : Nat, x = (v : Int) := ⟨x.toNat, by have := wf_u8 hx; omega⟩
  have hx2 : x < 256 := by have := wf_u8 hx; omega
  rw [ints_length] at sl1 sl2
  refine Ev.rounds (g := fun k => l3_GaloisPolys.f k M P (ints A) (ints B) (x : Int)) ?_
  unfold l3_GaloisPolys.f
  rcases made_f M P (wf_i64 hM) (wf_u64 hP) with h | ⟨m, p, rfl, rfl, F, h⟩
  · refine Ev.bind h ?_
    refine ev_neg (by simp) ?_
    exact Ev.step (f := fun _ => some true) (fun k => by simp only [l3_GaloisPolys.j0, if_true]) (Ev.now _)
  · refine Ev.bind h ?_
    refine ev_pos rfl ?_
    have la : A.length ≤ 9223372036854775806 := by omega
    have lb : B.length ≤ 9223372036854775806 := by omega
    obtain ⟨rv, v1, v2⟩ := Eval_both F A hA la x hx2
    obtain ⟨rs, s1, s2, s3⟩ := Plus_both F A B hA hB la lb
    obtain ⟨rt, t1, t2, t3⟩ := Times_both F A B hA hB la lb
    obtain ⟨rq, rr, re, d1, d2, d3, d4⟩ := Divide_both F A B hA hB la lb
    obtain ⟨rg, g1, g2, g3⟩ := Gcd_both F A B hA hB la lb
    obtain ⟨rd, rde, e1, e2, e3⟩ := Derive_both F A hA la
    obtain ⟨rz, rze, z1, z2, z3⟩ := Roots_both F A hA la
    have n1 : l1_Lent.f (ints A) = some (ints A) := by
      unfold l1_Lent.f
      rw [if_pos (by rw [ints_length]; omega)]
    have n2 : l1_Lent.f (ints B) = some (ints B) := by
      unfold l1_Lent.f
      rw [if_pos (by rw [ints_length]; omega)]
    have sf : ∀ l : List Int, l3_same.f l l = some true := fun l => by
      unfold l3_same.f
      rw [beq_self_eq_true]
    have st : ∀ l : List Int, l1_Stays.f l l = some true := fun l => by
      unfold l1_Stays.f
      rw [if_pos rfl]
    have ap := apart_true [ints rs, ints rt, ints rq, ints rr, ints rg, ints rd, ints rz, ints A, ints B] (all9 (Q := fun l => l.length ≤ 140737488355000) (by rw [ints_length]; omega) (by rw [ints_length]; omega) (by rw [ints_length]; omega) (by rw [ints_length]; omega) (by rw [ints_length]; omega) (by rw [ints_length]; omega) (by rw [ints_length]; omega) (by rw [ints_length]; omega) (by rw [ints_length]; omega))
    refine Ev.succ ?_
    simp only [l3_GaloisPolys.j0, Bool.not_true, Bool.false_eq_true, if_false, n1, n2, Option.bind_some]
    refine Ev.bind v1 (Ev.bind s1 (Ev.bind t1 (Ev.bind d1 (Ev.bind g1 (Ev.bind e1 (Ev.bind z1 (Ev.bind v2 (Ev.bind s2 (Ev.bind t2 (Ev.bind d2 (Ev.bind g2 (Ev.bind e2 (Ev.bind z2 ?_)))))))))))))
    simp only [l3_num.f, Option.bind_some, if_true, bne_self_eq_false]
    refine Ev.succ ?_
    simp only [l3_GaloisPolys.j1, Bool.false_eq_true, if_false, sf, Option.bind_some, if_true, Bool.not_true]
    refine Ev.step (f := fun _ => some true) (fun k => ?_) (Ev.now _)
    simp only [l3_GaloisPolys.j2, Bool.false_eq_true, if_false, st, Option.bind_some, if_true, ap]
end Go.Proofs.Ytjdkamhnbheofaa.Pure
