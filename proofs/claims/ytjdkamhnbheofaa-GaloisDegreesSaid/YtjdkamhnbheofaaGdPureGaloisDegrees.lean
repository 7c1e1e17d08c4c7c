/- For every field and every two lists of bytes, taken as polynomials: degrees of products, quotient and rest, a factor's Gcd. The plain law of GaloisDegrees; no condition. -/
import Derived.Test.YtjdkamhnbheofaaGdPx11
import Derived.Test.YtjdkamhnbheofaaGdQGalF
set_option linter.unusedVariables false
set_option linter.unusedSimpArgs false
namespace Go.Proofs.Ytjdkamhnbheofaa.Pure
open Go.RowKit Go.Proofs.Ytjdkamhnbheofaa.P Go.Proofs.YtjdkamhnbheofaaW.PrintWords Go.Proofs.YtjdkamhnbheofaaW.PrintLast Go.Proofs.YtjdkamhnbheofaaW.Q Go.Proofs.Ytjdkamhnbheofaa.GalP Go.Proofs.Ytjdkamhnbheofaa.Gal
theorem gcN_nil (p m n : Nat) (b : List Nat) : gcN p m n b [] = finN p m b := by
  cases n with
  | zero => rfl
  | succ n => rw [gcN, if_pos rfl]
theorem divN_nil (p m : Nat) (b : List Nat) (hb0 : trimN b ≠ []) : (divN p m [] b).2 = [] := by
  have hl := List.length_pos_iff.2 hb0
  unfold divN
  simp only
  rw [show (trimN []).length + 1 - (trimN b).length = 0 by show 0 + 1 - _ = 0; omega, dvR]
  rfl
theorem same_f (l : List Int) : outpostlaw32_same.f l l = some true := by
  unfold outpostlaw32_same.f
  rw [beq_self_eq_true]
section
variable {m p : Nat} (F : Fi m p) {a b : List Nat} (ta : Tr a) (tb : Tr b) (ha : ∀ y ∈ a, y < 2 ^ m) (hb : ∀ y ∈ b, y < 2 ^ m) (la : a.length ≤ 512) (lb : b.length ≤ 512)
include F ta tb ha hb la lb
theorem degrees_j3 (P : List Nat) (hP : P = trimN (prod p m a b)) : Ev (fun k => outpostlaw32_GaloisDegrees.j3 k (tab m p) (ints a) (ints b) (ints P) false) true := by
  have eb : trimN b = b := tb
  have lP : ∀ y ∈ P, y < 2 ^ m := fun y hy => by rw [hP] at hy; exact prod_lt F ha y (trimN_mem hy)
  have nP : P.length ≤ 1024 := by
    rw [hP]
    have h1 := trimN_length (prod p m a b)
    rw [prod_length] at h1
    omega
  refine Ev.succ ?_
  simp only [outpostlaw32_GaloisDegrees.j3, Bool.false_eq_true, if_false]
  by_cases c : b = []
  · subst c
    refine Ev.bind (Divide_0 F a [] ha hb (by omega) (by simp) rfl) (ev_pos rfl ?_)
    simp only [outpostlaw32_num.f, Option.bind_some, if_true]
    exact ev_pos rfl (Ev.now _)
  · have hl := List.length_pos_iff.2 c
    have hbt : trimN b ≠ [] := by rw [eb]; exact c
    have h1 := divN_length p m a b hbt
    rw [eb] at h1
    have h2 := divN_lt F ha hb
    obtain ⟨i1, i2, i3⟩ := inv_head F tb c hb
    have e0 : rd (ints b) 0 = ((b.getD 0 0 : Nat) : Int) := rd_ints b 0
    have lM : ∀ y ∈ trimN (prod p m (divN p m a b).1 b), y < 2 ^ m := fun y hy => prod_lt F h2.1 y (trimN_mem hy)
    have nM : (trimN (prod p m (divN p m a b).1 b)).length ≤ 1024 := by
      have h3 := trimN_length (prod p m (divN p m a b).1 b)
      rw [prod_length] at h3
      omega
    have eP : trimN P = P := by rw [hP]; exact tr_trim _
    have er : (divN p m P b).2 = [] := by
      by_cases c2 : a = []
      · subst c2
        have e1 : P = [] := by rw [hP]; unfold prod prodr; exact trim_rep _
        rw [e1]
        exact divN_nil p m b hbt
      · obtain ⟨x, l, e, hx⟩ := tr_prod F ta tb ha hb c2 c
        have e1 : P = prod p m a b := by rw [hP, e]; exact tr_cons hx
        rw [e1, divN_prod F ta tb c2 c ha hb]
    have eg : gcN p m (trimN b).length (trimN P) (trimN b) = trimN (prod p m b [iv p m (b.getD 0 0)]) := by
      rw [eb, eP]
      obtain ⟨n, hn⟩ : ∃ n, b.length = n + 1 := ⟨b.length - 1, by omega⟩
      rw [hn, gcN, if_neg c, er, gcN_nil]
      unfold finN
      rw [if_neg c]
    refine Ev.bind (Divide_t F a b ha hb (by omega) (by omega) hbt) (ev_neg (by rw [ints_length]; omega) ?_)
    refine Ev.bind (Times_t F _ b h2.1 hb (by omega) (by omega)) (Ev.bind (Plus_t F _ _ lM h2.2 nM (by omega)) (Ev.bind (Gcd_t F P b lP hb nP (by omega)) (ev_pos (by rw [ints_length]; omega) ?_)))
    rw [e0]
    refine Ev.bind (Inv_t F i1 i2) ?_
    refine Ev.bind (Times_t F b [iv p m (b.getD 0 0)] hb (fun y hy => by rw [List.mem_singleton.1 hy]; exact iv_lt F _) (by omega) (by simp)) ?_
    simp only [outpostlaw32_num.f, Option.bind_some]
    refine ev_pos (by have z : wrap64 0 = 0 := w64 (by omega) (by omega); simp only [Int.add_zero, z]) (ev_neg (by rw [ints_length, ints_length]; omega) ?_)
    rw [divN_sum F ta tb c ha hb, eg]
    simp only [same_f, Option.bind_some, if_true]
    exact Ev.now _
theorem degrees_j1 : Ev (fun k => if ((ints a).length : Int) = 0 then outpostlaw32_GaloisDegrees.j1 k (tab m p) (ints a) (ints b) (ints (trimN (prod p m a b))) 0 (wrap64 ((wrap64 (((ints a).length : Int) + ((ints b).length : Int))) - 1)) true else outpostlaw32_GaloisDegrees.j1 k (tab m p) (ints a) (ints b) (ints (trimN (prod p m a b))) 0 (wrap64 ((wrap64 (((ints a).length : Int) + ((ints b).length : Int))) - 1)) (((ints b).length : Int) == 0)) true := by
  have g := degrees_j3 F ta tb ha hb la lb _ rfl
  have none : trimN (prod p m a b) = [] → ∀ z : Int, Ev (fun k => outpostlaw32_GaloisDegrees.j1 k (tab m p) (ints a) (ints b) (ints (trimN (prod p m a b))) 0 z true) true := fun e z => by
    refine Ev.succ ?_
    simp only [outpostlaw32_GaloisDegrees.j1, if_true]
    refine Ev.succ ?_
    simp only [outpostlaw32_GaloisDegrees.j2, outpostlaw32_num.f, Option.bind_some, if_true]
    refine ev_pos (by rw [e]; rfl) ?_
    refine ev_neg (by decide) g
  by_cases c : a = []
  · subst c
    refine ev_pos rfl (none ?_ _)
    unfold prod prodr
    exact trim_rep _
  · have hl := List.length_pos_iff.2 c
    refine ev_neg (by rw [ints_length]; omega) ?_
    by_cases c2 : b = []
    · subst c2
      have e : trimN (prod p m a []) = [] := trim_prod_nil F a
      exact none e _
    · have hl2 := List.length_pos_iff.2 c2
      obtain ⟨x, l, e, hx⟩ := tr_prod F ta tb ha hb c c2
      have eP : trimN (prod p m a b) = prod p m a b := by rw [e]; exact tr_cons hx
      have el : (ints (trimN (prod p m a b))).length = a.length + b.length - 1 := by rw [eP, ints_length, prod_length]
      have e2 : (((ints b).length : Int) == 0) = false := by rw [ints_length]; simp; omega
      have e3 : wrap64 ((wrap64 (((ints a).length : Int) + ((ints b).length : Int))) - 1) = ((a.length + b.length - 1 : Nat) : Int) := by
        rw [ints_length, ints_length, w64 (n := (a.length : Int) + (b.length : Int)) (by omega) (by omega), w64 (by omega) (by omega)]
        omega
      have e4 : (rd (ints (trimN (prod p m a b))) 0 == 0) = false := by
        rw [eP, e]
        have : rd (ints (x :: l)) 0 = (x : Int) := rfl
        rw [this]
        simp
        exact hx
      rw [e2, e3]
      clear e3
      refine Ev.succ ?_
      simp only [outpostlaw32_GaloisDegrees.j1, Bool.false_eq_true, if_false]
      refine Ev.succ ?_
      simp only [outpostlaw32_GaloisDegrees.j2, outpostlaw32_num.f, Option.bind_some, if_true]
      refine ev_pos (by rw [el]) (ev_pos (by omega) (ev_pos (by rw [el]; omega) ?_))
      rw [e4]
      exact g
end
theorem GaloisDegrees : outpostlaw32_GaloisDegrees.Pure := by
  intro M P l1 l2 hM hP ml1 sl1 hl1 ml2 sl2 hl2
  obtain ⟨A, rfl, hA⟩ := bytes_of hl1
  obtain ⟨B, rfl, hB⟩ := bytes_of hl2
  refine Ev.rounds (g := fun k => outpostlaw32_GaloisDegrees.f k M P (ints A) (ints B)) ?_
  unfold outpostlaw32_GaloisDegrees.f
  rcases made_f M P (wf_i64 hM) (wf_u64 hP) with h | ⟨m, p, rfl, rfl, F, h⟩
  · refine Ev.bind h ?_
    refine ev_neg (by simp) ?_
    exact Ev.step (f := fun _ => some true) (fun k => by simp only [outpostlaw32_GaloisDegrees.j0, if_true]) (Ev.now _)
  · refine Ev.bind h ?_
    refine ev_pos rfl ?_
    have g1 := row_f F 512 A hA (by omega)
    have g2 := row_f F 512 B hB (by omega)
    have n1 := rowN_length m 512 A
    have n2 := rowN_length m 512 B
    have t1 := trimN_length (rowN m 512 A)
    have t2 := trimN_length (rowN m 512 B)
    have l1 : ∀ y ∈ trimN (rowN m 512 A), y < 2 ^ m := fun y hy => rowN_lt F 512 A y (trimN_mem hy)
    have l2 : ∀ y ∈ trimN (rowN m 512 B), y < 2 ^ m := fun y hy => rowN_lt F 512 B y (trimN_mem hy)
    refine Ev.succ ?_
    simp only [outpostlaw32_GaloisDegrees.j0, Bool.not_true, Bool.false_eq_true, if_false]
    refine Ev.bind g1 (Ev.bind (refTrim_f _ (by omega)) (Ev.bind g2 (Ev.bind (refTrim_f _ (by omega)) (Ev.bind (Times_t F _ _ l1 l2 (by omega) (by omega)) ?_))))
    exact degrees_j1 F (tr_trim _) (tr_trim _) l1 l2 (by omega) (by omega)
end Go.Proofs.Ytjdkamhnbheofaa.Pure
