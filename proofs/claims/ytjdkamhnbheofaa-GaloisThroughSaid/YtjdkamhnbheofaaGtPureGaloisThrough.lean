/- For every field and every two lists of bytes: the polynomial through points (or the error), what it leaves of its arguments, and its rows, are the document's. The plain law of GaloisThrough; no condition. -/
import Derived.Test.YtjdkamhnbheofaaGtPx15
import Derived.Test.YtjdkamhnbheofaaGtQGalX
set_option linter.unusedVariables false
set_option linter.unusedSimpArgs false
namespace Go.Proofs.Ytjdkamhnbheofaa.Pure
open Go.RowKit Go.Proofs.Ytjdkamhnbheofaa.P Go.Proofs.YtjdkamhnbheofaaW.PrintWords Go.Proofs.YtjdkamhnbheofaaW.PrintLast Go.Proofs.YtjdkamhnbheofaaW.Q Go.Proofs.Ytjdkamhnbheofaa.GalP Go.Proofs.Ytjdkamhnbheofaa.Gal
theorem thrN_length {m p : Nat} (F : Fi m p) (X Y : List Nat) (hX : ∀ x ∈ X, x < 2 ^ m) (hY : ∀ x ∈ Y, x < 2 ^ m) (d : Nat) : ∀ i out way, i + d = X.length → Th m p X i out way → (thrN p m X Y d i out way).length ≤ X.length + 1 := by
  induction d with
  | zero =>
    intro i out way hi ht
    have := ht.olen
    unfold thrN
    omega
  | succ d ih =>
    intro i out way hi ht
    unfold thrN
    exact ih (i + 1) _ _ (by omega) (ht.next F hX (getD_lt' F.zero_lt hY i) (by omega))
theorem through_both {m p : Nat} (F : Fi m p) (A B : List Nat) (hA : ∀ x ∈ A, x < 256) (hB : ∀ x ∈ B, x < 256) (la : A.length ≤ 9223372036854775806) (lb : B.length ≤ 9223372036854775806) :
    ∃ r : List Int × Int, Ev (fun k => galois_Tables_Through.f k (tab m p) (ints A) (ints B)) r ∧ Ev (fun k => outpostref32_Through.f k (m : Int) (p : Int) (ints A) (ints B)) r ∧ r.1.length ≤ 1025 := by
  have w := wrong_f F A B hA hB la lb
  have g := lists_f F [A, B] (by simp) (fun C hC => by
    rcases List.mem_cons.1 hC with rfl | hC
    · exact hA
    · rw [List.mem_singleton.1 hC]; exact hB)
  have e0 : ([A, B] : List (List Nat)).map ints = [ints A, ints B] := rfl
  rw [e0] at g
  unfold galois_Tables_Through.f outpostref32_Through.f
  by_cases c : lerr m [A, B] = 0
  · by_cases cl : A.length = B.length
    · have hall : A.length ≤ 1024 ∧ (∀ x ∈ A, x < 2 ^ m) ∧ (∀ x ∈ B, x < 2 ^ m) := by
        unfold lerr at c
        simp only [List.all_cons, List.all_nil, Bool.and_true] at c
        by_cases c1 : (decide (A.length ≤ 1024) && decide (B.length ≤ 1024)) = true
        · rw [if_pos c1] at c
          rw [Bool.and_eq_true] at c1
          refine ⟨of_decide_eq_true c1.1, ?_⟩
          cases h1 : elems m A <;> cases h2 : elems m B <;> rw [h1, h2] at c
          · exact absurd c (by decide)
          · exact absurd c (by decide)
          · exact absurd c (by decide)
          · unfold elems at h1 h2
            rw [List.all_eq_true] at h1 h2
            exact ⟨fun x hx => of_decide_eq_true (h1 x hx), fun x hx => of_decide_eq_true (h2 x hx)⟩
        · rw [if_neg c1] at c
          exact absurd c (by decide)
      obtain ⟨l1, hX, hY⟩ := hall
      obtain ⟨r, h1, h2, h3⟩ : ∃ r : List Int × Int, ((∃ j, j < A.length ∧ A.getD j 0 ∈ A.take j) → r = ([], 3)) ∧ ((∀ j, j < A.length → A.getD j 0 ∉ A.take j) → r = (ints (thrN p m A B A.length 0 [] [1]), 0)) ∧ r.1.length ≤ 1025 := by
        by_cases hd : ∃ j, j < A.length ∧ A.getD j 0 ∈ A.take j
        · exact ⟨([], 3), fun _ => rfl, fun h => by obtain ⟨j, h4, h5⟩ := hd; exact absurd h5 (h j h4), by simp⟩
        · refine ⟨(ints (thrN p m A B A.length 0 [] [1]), 0), fun h => absurd h hd, fun _ => rfl, ?_⟩
          have := thrN_length F A B hX hY A.length 0 [] [1] (by omega) (Th.start F A)
          simp only [ints_length]
          omega
      have q1 := thr_l0 F A B hX hY l1 cl.symm r h1 h2 A.length 0 (by omega) (fun j hj => by omega)
      have q2 := refThr_l0 F A B hX hY l1 cl.symm r h1 _ h2 A.length 0 [] [1] (by omega) (Th.start F A) (fun j hj => by omega) rfl
      refine ⟨r, Ev.bind g (ev_pos c (ev_pos (by rw [ints_length, ints_length, cl]) ?_)), Ev.bind w (ev_pos c ?_), h3⟩
      · rw [ints_length]
        exact q1
      · have ef : (((ints A).length : Int) != ((ints B).length : Int)) = false := by rw [ints_length, ints_length, cl, bne_self_eq_false]
        rw [ef, c]
        refine Ev.succ ?_
        simp only [outpostref32_Through.j0, Bool.false_eq_true, if_false]
        refine Ev.succ ?_
        simp only [outpostref32_Through.j1, if_true]
        exact q2
    · refine ⟨([], 5), Ev.bind g (ev_pos c (ev_neg (by rw [ints_length, ints_length]; omega) (Ev.now _))), Ev.bind w (ev_pos c ?_), by simp⟩
      have ef : (((ints A).length : Int) != ((ints B).length : Int)) = true := by
        rw [ints_length, ints_length, bne_iff_ne]
        omega
      rw [ef]
      refine Ev.succ ?_
      simp only [outpostref32_Through.j0, if_true]
      refine Ev.step (f := fun _ => some (([] : List Int), 5)) (fun k => ?_) (Ev.now _)
      simp only [outpostref32_Through.j1]
      rfl
  · refine ⟨([], lerr m [A, B]), Ev.bind g (ev_neg c (Ev.now _)), Ev.bind w (ev_neg c ?_), by simp⟩
    refine Ev.succ ?_
    simp only [outpostref32_Through.j0, Bool.false_eq_true, if_false]
    refine Ev.step (f := fun _ => some (([] : List Int), lerr m [A, B])) (fun k => ?_) (Ev.now _)
    simp only [outpostref32_Through.j1]
    rw [if_neg c]
theorem GaloisThrough : outpostlaw32_GaloisThrough.Pure := by
  intro M P l1 l2 hM hP ml1 sl1 hl1 ml2 sl2 hl2
  obtain ⟨A, rfl, hA⟩ := bytes_of hl1
  obtain ⟨B, rfl, hB⟩ := bytes_of hl2
  rw [ints_length] at sl1 sl2
  refine Ev.rounds (g := fun k => outpostlaw32_GaloisThrough.f k M P (ints A) (ints B)) ?_
  unfold outpostlaw32_GaloisThrough.f
  rcases made_f M P (wf_i64 hM) (wf_u64 hP) with h | ⟨m, p, rfl, rfl, F, h⟩
  · refine Ev.bind h ?_
    refine ev_neg (by simp) ?_
    exact Ev.step (f := fun _ => some true) (fun k => by simp only [outpostlaw32_GaloisThrough.j0, if_true]) (Ev.now _)
  · refine Ev.bind h ?_
    refine ev_pos rfl ?_
    obtain ⟨r, g1, g2, g3⟩ := through_both F A B hA hB (by omega) (by omega)
    have e1 : outpostlaw01_Lent.f (ints A) = some (ints A) := by
      unfold outpostlaw01_Lent.f
      rw [if_pos (by rw [ints_length]; omega)]
    have e2 : outpostlaw01_Lent.f (ints B) = some (ints B) := by
      unfold outpostlaw01_Lent.f
      rw [if_pos (by rw [ints_length]; omega)]
    have e3 : outpostlaw32_same.f r.1 r.1 = some true := by
      unfold outpostlaw32_same.f
      rw [beq_self_eq_true]
    have e4 : ∀ l : List Int, outpostlaw01_Stays.f l l = some true := fun l => by
      unfold outpostlaw01_Stays.f
      rw [if_pos rfl]
    have e5 : outpostlaw01_ApartBytes.f [r.1, ints A, ints B] = some true := by
      unfold outpostlaw01_ApartBytes.f
      rw [if_pos ?_]
      intro x hx
      rcases List.mem_cons.1 hx with rfl | hx
      · omega
      · rcases List.mem_cons.1 hx with rfl | hx
        · rw [ints_length]; omega
        · rw [List.mem_singleton.1 hx, ints_length]; omega
    refine Ev.succ ?_
    simp only [outpostlaw32_GaloisThrough.j0, Bool.not_true, Bool.false_eq_true, if_false, e1, e2, Option.bind_some]
    refine Ev.bind g1 (Ev.bind g2 ?_)
    simp only [e3, e4, e5, outpostlaw32_num.f, Option.bind_some, if_true]
    exact Ev.now _
end Go.Proofs.Ytjdkamhnbheofaa.Pure
