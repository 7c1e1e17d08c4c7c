/- Polynomials over a field: derivative and roots, of the program. -/
import Derived.Test.YtjdkamhnbheofaaGpQGalH
import Derived.Test.YtjdkamhnbheofaaGpQGalF
import Derived.Test.YtjdkamhnbheofaaGpPx13
set_option linter.unusedVariables false
set_option linter.unusedSimpArgs false
namespace Go.Proofs.Ytjdkamhnbheofaa.GalP
open Go.RowKit Go.Proofs.Ytjdkamhnbheofaa.P Go.Proofs.YtjdkamhnbheofaaW.PrintWords Go.Proofs.YtjdkamhnbheofaaW.PrintLast Go.Proofs.YtjdkamhnbheofaaW.PrintMore Go.Proofs.YtjdkamhnbheofaaW.Q
open Go.Proofs.Ytjdkamhnbheofaa.Gal
theorem take_one (l : List Nat) (i : Nat) (h : i < l.length) : l.take (i + 1) = l.take i ++ [l.getD i 0] := by
  rw [List.take_succ_eq_append_getElem h, List.getD_eq_getElem?_getD, List.getElem?_eq_getElem h]
  rfl
theorem par_eq {n i : Nat} (h : i + 1 ≤ n) (hn : n ≤ 9223372036854775806) : Int.tmod (wrap64 ((wrap64 ((n : Int) - 1)) - (i : Int))) 2 = (((n - 1 - i) % 2 : Nat) : Int) := by
  have e1 : wrap64 ((wrap64 ((n : Int) - 1)) - (i : Int)) = ((n - 1 - i : Nat) : Int) := by
    rw [w64 (n := (n : Int) - 1) (by omega) (by omega), w64 (by omega) (by omega)]
    omega
  rw [e1, show (2 : Int) = ((2 : Nat) : Int) from rfl, tmod_nat]
theorem der_l (A : List Nat) (lA : A.length ≤ 100000) (d : Nat) : ∀ i, i + d = A.length - 1 →
    Ev (fun k => gT_Derive.l0 k (ints A) (ints ((derN A).take i ++ List.replicate d 0)) ((A.length - 1 : Nat) : Int) (i : Int)) (ints (trimN (derN A)), 0) := by
  have hL := derN_length A
  induction d with
  | zero =>
    intro i hi
    rw [List.take_of_length_le (by omega), List.replicate_zero, List.append_nil]
    refine Ev.step (f := fun _ => some (ints (trimN (derN A)), 0)) (fun k => ?_) (Ev.now _)
    simp only [gT_Derive.l0]
    rw [if_neg (by omega), trim_f _ (by omega)]
    rfl
  | succ d ih =>
    intro i hi
    have g := ih (i + 1) (by omega)
    have ht := take_one (derN A) i (by omega)
    have hlen : ((derN A).take i).length = i := by rw [List.length_take]; omega
    have hd := derN_getD A i
    have c1 : (i : Int) < ((A.length - 1 : Nat) : Int) := by omega
    have c2 : (0 : Int) ≤ (i : Int) := by omega
    have c3 : (i : Int) < ((ints A).length : Int) := by rw [ints_length]; omega
    have c4 : (i : Int) < ((ints ((derN A).take i ++ List.replicate (d + 1) 0)).length : Int) := by rw [ints_length, List.length_append, hlen, List.length_replicate]; omega
    have ep := par_eq (n := A.length) (i := i) (by omega) (by omega)
    have ei : wrap64 ((i : Int) + 1) = ((i + 1 : Nat) : Int) := w64s (by omega)
    refine Ev.step (fun k => ?_) g
    simp only [gT_Derive.l0]
    rw [if_pos c1, ints_length, ep, ei]
    clear ep ei
    by_cases c : (A.length - 1 - i) % 2 = 1
    · rw [if_pos (by omega), if_pos c2, if_pos (by omega), if_pos c4, rd_ints, set_ints]
      have es : ((derN A).take i ++ List.replicate (d + 1) 0).set i (A.getD i 0) = (derN A).take (i + 1) ++ List.replicate d 0 := by
        have h1 := set_mid ((derN A).take i) 0 (A.getD i 0) (List.replicate d 0)
        rw [hlen] at h1
        rw [List.replicate_succ, h1, ht, hd, if_pos ⟨by omega, c⟩, List.append_assoc]
        rfl
      rw [es]
    · have es : (derN A).take i ++ List.replicate (d + 1) 0 = (derN A).take (i + 1) ++ List.replicate d 0 := by
        rw [ht, hd, if_neg (fun h => c h.2), List.append_assoc, List.replicate_succ]
        rfl
      rw [if_neg (by omega), es]
theorem Derive_go (A : List Nat) (lA : A.length ≤ 100000) (r : List Int × Int) (hr : r = (ints (trimN (derN A)), 0)) :
    Ev (fun k => if 0 ≤ (Go.Proofs.YtjdkamhnbheofaaW.PrintWords.mx 0 (wrap64 (((ints A).length : Int) - 1))) then (if (Go.Proofs.YtjdkamhnbheofaaW.PrintWords.mx 0 (wrap64 (((ints A).length : Int) - 1)) : Int).toNat ≤ 281474976710656 then ((some (List.replicate (Go.Proofs.YtjdkamhnbheofaaW.PrintWords.mx 0 (wrap64 (((ints A).length : Int) - 1)) : Int).toNat 0 : List Int)).bind fun y => gT_Derive.l0 k (ints A) y (y.length : Int) 0) else none) else none) r := by
  have e : Go.Proofs.YtjdkamhnbheofaaW.PrintWords.mx 0 (wrap64 (((ints A).length : Int) - 1)) = ((A.length - 1 : Nat) : Int) := by
    rw [ints_length, w64 (by omega) (by omega)]
    unfold Go.Proofs.YtjdkamhnbheofaaW.PrintWords.mx
    omega
  rw [e, hr]
  refine ev_pos (by omega) (ev_pos (by rw [Int.toNat_natCast]; omega) ?_)
  simp only [Option.bind_some, Int.toNat_natCast]
  have h := der_l A lA (A.length - 1) 0 (by omega)
  rw [List.take_zero, List.nil_append, ints_replicate] at h
  rw [List.length_replicate]
  exact h
theorem rts_l {m p : Nat} (F : Fi m p) (A : List Nat) (hA : ∀ y ∈ A, y < 2 ^ m) (lA : A.length ≤ 100000) (d : Nat) : ∀ i, i + d = 2 ^ m →
    Ev (fun k => gT_Roots.l0 k (tab m p) (ints A) (ints (rtN p m i A)) ((2 ^ m : Nat) : Int) (i : Int)) (ints (rtN p m (2 ^ m) A), 0) := by
  have h256 := F.sz256
  induction d with
  | zero =>
    intro i hi
    have : i = 2 ^ m := by omega
    subst this
    refine Ev.step (f := fun _ => some (ints (rtN p m (2 ^ m) A), 0)) (fun k => ?_) (Ev.now _)
    simp only [gT_Roots.l0]
    rw [if_neg (by omega)]
  | succ d ih =>
    intro i hi
    have hx : i < 2 ^ m := by omega
    have g := ih (i + 1) (by omega)
    rw [rtN_succ] at g
    have em : (i : Int) % 256 = (i : Int) := by omega
    have hl := rtN_length p m i A
    have ei : wrap64 ((i : Int) + 1) = ((i + 1 : Nat) : Int) := w64s (by omega)
    refine Ev.step (f := fun k => (gT_eval.f k (tab m p) (ints A) (i : Int)).bind fun t => if t = 0 then (if (ints (rtN p m i A)).length < 140737488355328 then gT_Roots.l0 k (tab m p) (ints A) (ints (rtN p m i A) ++ [(i : Int)]) ((2 ^ m : Nat) : Int) ((i + 1 : Nat) : Int) else none) else gT_Roots.l0 k (tab m p) (ints A) (ints (rtN p m i A)) ((2 ^ m : Nat) : Int) ((i + 1 : Nat) : Int)) (fun k => ?_) (Ev.bind (eval_f F hx A hA (by omega)) ?_)
    · simp only [gT_Roots.l0]
      rw [if_pos (by clear ei em; omega), em, ei]
    · clear ei em
      by_cases c : hv p m A i = 0
      · rw [if_pos c, ints_append] at g
        exact ev_pos (by omega) (ev_pos (by rw [ints_length]; omega) g)
      · rw [if_neg c] at g
        exact ev_neg (by omega) g
theorem Roots_go {m p : Nat} (F : Fi m p) (A : List Nat) (hA : ∀ y ∈ A, y < 2 ^ m) (lA : A.length ≤ 100000) (h0 : trimN A ≠ []) :
    Ev (fun k => (galois_trim.f (ints A)).bind fun t => if (t.length : Int) = 0 then some (([] : List Int), 20) else (if 0 < (tab m p).size then gT_Roots.l0 k (tab m p) (ints A) [] ((tab m p).size : Int) 0 else none)) (ints (rtN p m (2 ^ m) A), 0) := by
  have hl := List.length_pos_iff.2 h0
  simp only [trim_f A (show A.length ≤ 281474976710656 by omega), Option.bind_some]
  refine ev_neg (by rw [ints_length]; omega) (ev_pos (by rw [tab_size]; have := F.sz8; omega) ?_)
  rw [tab_size]
  exact rts_l F A hA lA (2 ^ m) 0 (by omega)
theorem Roots_go0 (A : List Nat) (T : GTab) (lA : A.length ≤ 100000) (h0 : trimN A = []) :
    Ev (fun k => (galois_trim.f (ints A)).bind fun t => if (t.length : Int) = 0 then some (([] : List Int), 20) else (if 0 < T.size then gT_Roots.l0 k T (ints A) [] (T.size : Int) 0 else none)) ([], 20) := by
  simp only [trim_f A (show A.length ≤ 281474976710656 by omega), Option.bind_some]
  exact ev_pos (by rw [h0]; rfl) (Ev.now _)
end Go.Proofs.Ytjdkamhnbheofaa.GalP
