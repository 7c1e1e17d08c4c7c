/- For every field, every list of bytes, taken as a polynomial, and every byte, taken as an element: roots, the rest of a division by X + a, double roots. The plain law of GaloisRoots; no condition. -/
import Derived.Test.YtjdkamhnbheofaaGrPx91
import Derived.Test.YtjdkamhnbheofaaGrQGalI
import Derived.Test.YtjdkamhnbheofaaGrPx12
set_option linter.unusedVariables false
set_option linter.unusedSimpArgs false
namespace Go.Proofs.Ytjdkamhnbheofaa.Pure
open Go.RowKit Go.Proofs.Ytjdkamhnbheofaa.P Go.Proofs.YtjdkamhnbheofaaW.PrintWords Go.Proofs.YtjdkamhnbheofaaW.PrintLast Go.Proofs.YtjdkamhnbheofaaW.Q Go.Proofs.Ytjdkamhnbheofaa.GalP Go.Proofs.Ytjdkamhnbheofaa.Gal
theorem beq_iff {a b : Prop} [Decidable a] [Decidable b] (h : a ↔ b) : (decide a == decide b) = true := by
  by_cases c : a
  · rw [decide_eq_true c, decide_eq_true (h.1 c)]; rfl
  · rw [decide_eq_false c, decide_eq_false (fun q => c (h.2 q))]; rfl
theorem nat_beq (n : Nat) : ((n : Int) == 0) = decide (n = 0) := by
  by_cases c : n = 0
  · subst c; rfl
  · rw [decide_eq_false c]; simp; exact c
section
variable {m p a : Nat} (F : Fi m p) (ha : a < 2 ^ m) {P : List Nat} (tP : Tr P) (lP : ∀ y ∈ P, y < 2 ^ m) (nP : P.length ≤ 1024) (h0 : P ≠ [])
include F ha tP lP nP h0
theorem roots_end : Ev (fun k => (galois_Tables_Derive.f k (tab m p) (ints P)).bind fun bt688 => ((galois_Tables_Eval.f k (tab m p) bt688.1 (a : Int)).bind fun bt692 => ((galois_Tables_Times.f k (tab m p) [1, (a : Int)] [1, (a : Int)]).bind fun bt700 => ((galois_Tables_Divide.f k (tab m p) (ints P) bt700.1).bind fun bt704 => ((outpostlaw32_num.f bt688.2).bind fun t711 => ((outpostlaw32_num.f bt692.2).bind fun t712 => ((outpostlaw32_num.f bt700.2).bind fun t713 => ((outpostlaw32_num.f bt704.2.2).bind fun t714 => (if (wrap64 ((wrap64 ((wrap64 (t711 + t712)) + t713)) + t714)) = 0 then (if ((hv p m P a : Nat) : Int) = 0 then (some ((bt692.1 == 0) == ((bt704.2.1.length : Int) == 0))) else (some (false == ((bt704.2.1.length : Int) == 0)))) else (some false)))))))))) true := by
  have _ := h0
  have lb : ∀ y ∈ [1, a], y < 2 ^ m := fun y hy => by rcases List.mem_cons.1 hy with rfl | hy; exact F.one_lt; rw [List.mem_singleton.1 hy]; exact ha
  have ls : ∀ y ∈ sqN p m a, y < 2 ^ m := fun y hy => by rw [← sq_prod F ha] at hy; exact prod_lt F lb y (trimN_mem hy)
  have tS : Tr (sqN p m a) := tr_cons (by omega)
  have hst : trimN (sqN p m a) ≠ [] := by rw [show trimN (sqN p m a) = sqN p m a from tS]; unfold sqN; simp
  have lD : ∀ y ∈ trimN (derN P), y < 2 ^ m := fun y hy => derN_lt lP y (trimN_mem hy)
  have nD : (trimN (derN P)).length ≤ 1024 := by
    have h1 := trimN_length (derN P)
    rw [derN_length] at h1
    omega
  have e1 := Times_t F [1, a] [1, a] lb lb (by simp) (by simp)
  rw [sq_prod F ha] at e1
  have e2 := Eval_t F ha _ lD nD
  have ed : hv p m (trimN (derN P)) a = dv p m P a := hv_trim F _ _
  rw [ed] at e2
  refine Ev.bind (Derive_t F P lP nP) (Ev.bind e2 (Ev.bind e1 (Ev.bind (Divide_t F P (sqN p m a) lP ls nP (by unfold sqN; simp) hst) ?_)))
  simp only [outpostlaw32_num.f, Option.bind_some]
  refine ev_pos (by have z : wrap64 0 = 0 := w64 (by omega) (by omega); simp only [Int.add_zero, z]) ?_
  have hr := rest_two F ha tP lP
  obtain ⟨R, hR⟩ : ∃ R, R = (divN p m P (sqN p m a)).2 := ⟨_, rfl⟩
  rw [← hR] at hr ⊢
  rw [nat_beq, ints_length, nat_beq]
  have hr2 : R.length = 0 ↔ R = [] := List.length_eq_zero_iff
  by_cases c : hv p m P a = 0
  · refine ev_pos (by omega) ?_
    have e : (decide (dv p m P a = 0) == decide (R.length = 0)) = true := beq_iff ⟨fun h => hr2.2 (hr.2 ⟨c, h⟩), fun h => (hr.1 (hr2.1 h)).2⟩
    rw [e]
    exact Ev.now _
  · refine ev_neg (by omega) ?_
    rw [decide_eq_false (fun h => c (hr.1 (hr2.1 h)).1)]
    exact Ev.now _
theorem roots_l0 (d : Nat) : ∀ i, i + d = (rtN p m (2 ^ m) P).length →
    Ev (fun k => outpostlaw32_GaloisRoots.l0 k (tab m p) (ints P) (a : Int) ((hv p m P a : Nat) : Int) (ints (rtN p m (2 ^ m) P)) (decide (a ∈ (rtN p m (2 ^ m) P).take i)) (i : Int)) true := by
  have hlen := rtN_length p m (2 ^ m) P
  have h256 := F.sz256
  obtain ⟨R, hR⟩ : ∃ R, R = rtN p m (2 ^ m) P := ⟨_, rfl⟩
  have hm := fun x => mem_rtN p m (2 ^ m) P x
  have hup := fun i j => rtN_up p m (2 ^ m) P i j
  rw [← hR] at hlen hm hup ⊢
  induction d with
  | zero =>
    intro i hi
    rw [List.take_of_length_le (by omega)]
    have g := roots_end F ha tP lP nP h0
    have e : (decide (a ∈ R) != (((hv p m P a : Nat) : Int) == 0)) = false := by
      rw [nat_beq, bne_eq_false_iff_eq, decide_eq_decide, hm]
      exact ⟨fun h => h.2, fun h => ⟨ha, h⟩⟩
    refine Ev.succ ?_
    simp only [outpostlaw32_GaloisRoots.l0]
    refine ev_neg (by rw [ints_length]; omega) ?_
    rw [e]
    exact ev_neg (by decide) g
  | succ d ih =>
    intro i hi
    have hil : i < R.length := by omega
    have g := ih (i + 1) (by omega)
    have ht := take_one R i hil
    have c1 : (i : Int) < ((ints R).length : Int) := by rw [ints_length]; omega
    have c2 : (0 : Int) ≤ (i : Int) := by omega
    have nx : ∀ (b : Bool), b = decide (a ∈ R.take (i + 1)) → Ev (fun k => outpostlaw32_GaloisRoots.l0 k (tab m p) (ints P) (a : Int) ((hv p m P a : Nat) : Int) (ints R) b ((i + 1 : Nat) : Int)) true := fun b hb => by rw [hb]; exact g
    have step : ∀ (b : Bool), b = decide (a ∈ R.take (i + 1)) → Ev (fun k => if (i : Int) > 0 then (if 0 ≤ (wrap64 ((i : Int) - 1)) then (if (wrap64 ((i : Int) - 1)) < ((ints R).length : Int) then (if (rd (ints R) (i : Int)) ≤ (rd (ints R) (wrap64 ((i : Int) - 1))) then (some false) else (outpostlaw32_GaloisRoots.l0 k (tab m p) (ints P) (a : Int) ((hv p m P a : Nat) : Int) (ints R) b (wrap64 ((i : Int) + 1)))) else (none)) else (none)) else (outpostlaw32_GaloisRoots.l0 k (tab m p) (ints P) (a : Int) ((hv p m P a : Nat) : Int) (ints R) b (wrap64 ((i : Int) + 1)))) true := fun b hb => by
      have ei : wrap64 ((i : Int) + 1) = ((i + 1 : Nat) : Int) := w64s (by omega)
      rw [ei]
      clear ei
      by_cases c : i = 0
      · exact ev_neg (by omega) (nx b hb)
      · have e1 : wrap64 ((i : Int) - 1) = ((i - 1 : Nat) : Int) := by rw [w64 (by omega) (by omega)]; omega
        rw [e1]
        clear e1
        have hu := hup (i - 1) i (by omega) hil
        refine ev_pos (by omega) (ev_pos (by omega) (ev_pos (by rw [ints_length]; omega) (ev_neg (by rw [rd_ints, rd_ints]; omega) (nx b hb))))
    refine Ev.succ ?_
    simp only [outpostlaw32_GaloisRoots.l0]
    refine ev_pos c1 ?_
    by_cases c : a ∈ R.take i
    · rw [decide_eq_true c]
      refine ev_pos rfl ?_
      have h := step true (by rw [ht, decide_eq_true (List.mem_append.2 (.inl c))])
      by_cases c0 : (i : Int) > 0
      · refine ev_pos c0 (ev_pos c2 ?_)
        refine Ev.congr (fun k => ?_) h
        exact (if_pos c0).symm
      · refine ev_neg c0 ?_
        refine Ev.congr (fun k => ?_) h
        exact (if_neg c0).symm
    · rw [decide_eq_false c]
      refine ev_neg (by decide) (ev_pos c2 ?_)
      refine step _ ?_
      rw [ht, rd_ints]
      have e : decide (a ∈ R.take i ++ [R.getD i 0]) = decide (R.getD i 0 = a) := decide_eq_decide.2 ⟨fun h => by
        rcases List.mem_append.1 h with h | h
        · exact absurd h c
        · exact (List.mem_singleton.1 h).symm, fun h => List.mem_append.2 (.inr (List.mem_singleton.2 h.symm))⟩
      rw [e]
      by_cases c3 : R.getD i 0 = a
      · rw [c3]; simp
      · rw [decide_eq_false c3, beq_eq_false_iff_ne]; omega
theorem roots_main : Ev (fun k => (galois_Tables_Eval.f k (tab m p) (ints P) (a : Int)).bind fun bt664 => ((galois_Tables_Divide.f k (tab m p) (ints P) [1, (a : Int)]).bind fun bt669 => ((galois_Tables_Roots.f k (tab m p) (ints P)).bind fun bt676 => ((outpostlaw32_num.f bt664.2).bind fun t680 => (if t680 = 0 then ((outpostlaw32_num.f bt669.2.2).bind fun t681 => (if t681 = 0 then ((outpostlaw32_num.f bt676.2).bind fun t682 => (if t682 = 0 then (if ((bt664.1 == 0) != ((bt669.2.1.length : Int) == 0)) = true then (outpostlaw32_GaloisRoots.j1 k (tab m p) (ints P) (a : Int) bt664.1 bt676.1 true) else (outpostlaw32_GaloisRoots.j1 k (tab m p) (ints P) (a : Int) bt664.1 bt676.1 (decide ((bt676.1.length : Int) ≥ ((ints P).length : Int))))) else (outpostlaw32_GaloisRoots.j1 k (tab m p) (ints P) (a : Int) bt664.1 bt676.1 true))) else (outpostlaw32_GaloisRoots.j1 k (tab m p) (ints P) (a : Int) bt664.1 bt676.1 true))) else (outpostlaw32_GaloisRoots.j1 k (tab m p) (ints P) (a : Int) bt664.1 bt676.1 true)))))) true := by
  have lb : ∀ y ∈ [1, a], y < 2 ^ m := fun y hy => by rcases List.mem_cons.1 hy with rfl | hy; exact F.one_lt; rw [List.mem_singleton.1 hy]; exact ha
  have hbt : trimN [1, a] ≠ [] := by rw [trimN_cons, if_neg (by omega)]; simp
  have hPt : trimN P ≠ [] := by rw [show trimN P = P from tP]; exact h0
  have e1 := Divide_t F P [1, a] lP lb nP (by simp) hbt
  refine Ev.bind (Eval_t F ha P lP nP) (Ev.bind e1 (Ev.bind (Roots_t F P lP nP hPt) ?_))
  simp only [outpostlaw32_num.f, Option.bind_some, if_true]
  have hr := rest_one F ha tP lP
  have hr2 : (divN p m P [1, a]).2.length = 0 ↔ (divN p m P [1, a]).2 = [] := List.length_eq_zero_iff
  have e : (((((hv p m P a : Nat) : Int)) == 0) != (((ints (divN p m P [1, a]).2).length : Int) == 0)) = false := by
    rw [ints_length, nat_beq, nat_beq, bne_eq_false_iff_eq, decide_eq_decide]
    exact ⟨fun h => hr2.2 (hr.2 h), fun h => hr.1 (hr2.1 h)⟩
  rw [e]
  refine ev_neg (by decide) ?_
  have hf := rtN_few F tP lP h0
  rw [decide_eq_false (by rw [ints_length, ints_length]; omega)]
  refine Ev.succ ?_
  simp only [outpostlaw32_GaloisRoots.j1, Bool.false_eq_true, if_false]
  have g := roots_l0 F ha tP lP nP h0 _ 0 (Nat.zero_add _)
  rw [List.take_zero] at g
  exact g
end
theorem GaloisRoots : outpostlaw32_GaloisRoots.Pure := by
  intro M Q l1 x hM hQ ml1 sl1 hl1 hx
  obtain ⟨A, rfl, hA⟩ := bytes_of hl1
  obtain ⟨x, rfl⟩ : ∃ v : Nat, x = (v : Int) := ⟨x.toNat, by have := wf_u8 hx; omega⟩
  have hx2 : x < 256 := by have := wf_u8 hx; omega
  refine Ev.rounds (g := fun k => outpostlaw32_GaloisRoots.f k M Q (ints A) (x : Int)) ?_
  unfold outpostlaw32_GaloisRoots.f
  rcases made_f M Q (wf_i64 hM) (wf_u64 hQ) with h | ⟨m, p, rfl, rfl, F, h⟩
  · refine Ev.bind h ?_
    refine ev_neg (by simp) ?_
    exact Ev.step (f := fun _ => some true) (fun k => by simp only [outpostlaw32_GaloisRoots.j0, if_true]) (Ev.now _)
  · refine Ev.bind h ?_
    refine ev_pos rfl ?_
    have n1 := rowN_length m 1024 A
    have t1 := trimN_length (rowN m 1024 A)
    have l1 : ∀ y ∈ trimN (rowN m 1024 A), y < 2 ^ m := fun y hy => rowN_lt F 1024 A y (trimN_mem hy)
    have la : x % 2 ^ m < 2 ^ m := Nat.mod_lt _ F.zero_lt
    refine Ev.succ ?_
    simp only [outpostlaw32_GaloisRoots.j0, Bool.not_true, Bool.false_eq_true, if_false]
    refine Ev.bind (row_f F 1024 A hA (by omega)) (Ev.bind (refTrim_f _ (by omega)) ?_)
    simp only [in_f F hx2, Option.bind_some]
    by_cases c : trimN (rowN m 1024 A) = []
    · rw [c]
      refine ev_pos rfl (Ev.bind (Roots_0 F [] (by simp) (by simp) rfl) ?_)
      simp only [outpostlaw32_num.f, Option.bind_some]
      exact Ev.now _
    · have hl := List.length_pos_iff.2 c
      exact ev_neg (by rw [ints_length]; omega) (roots_main F la (tr_trim _) l1 (by omega) c)
end Go.Proofs.Ytjdkamhnbheofaa.Pure
