/- Polynomials over a field: the loops of Through, of the program and of the document. -/
import Derived.Test.YtjdkamhnbheofaaGqQGalW
set_option linter.unusedVariables false
set_option linter.unusedSimpArgs false
namespace Go.Proofs.Ytjdkamhnbheofaa.GalP
open Go.RowKit Go.Proofs.Ytjdkamhnbheofaa.P Go.Proofs.YtjdkamhnbheofaaW.PrintWords Go.Proofs.YtjdkamhnbheofaaW.PrintLast Go.Proofs.YtjdkamhnbheofaaW.PrintMore Go.Proofs.YtjdkamhnbheofaaW.Q
open Go.Proofs.Ytjdkamhnbheofaa.Gal
section
variable {m p : Nat} (F : Fi m p) (X Y : List Nat) (hX : ∀ x ∈ X, x < 2 ^ m) (hY : ∀ x ∈ Y, x < 2 ^ m) (ln : X.length ≤ 1024) (hl : Y.length = X.length)
include F hX hY ln hl
theorem thr_l1 (hn : ∀ j, j < X.length → X.getD j 0 ∉ X.take j) (d : Nat) : ∀ i out way, i + d = X.length → Th m p X i out way →
    Ev (fun k => galois_Tables_Through.l1 k (tab m p) (ints Y) (ints out) (ints way) (ints X) (X.length : Int) (i : Int)) (ints (thrN p m X Y d i out way), 0) := by
  have h256 := F.sz256
  induction d with
  | zero =>
    intro i out way hi ht
    refine Ev.step (f := fun _ => some (ints out, 0)) (fun k => ?_) (Ev.now _)
    simp only [galois_Tables_Through.l1]
    rw [if_neg (by omega)]
  | succ d ih =>
    intro i out way hi ht
    have hil : i < X.length := by omega
    have hx : X.getD i 0 < 2 ^ m := getD_lt' F.zero_lt hX i
    have hy : Y.getD i 0 < 2 ^ m := getD_lt' F.zero_lt hY i
    have g := ih (i + 1) _ _ (by omega) (ht.next F hX hy hil)
    have lw := ht.len
    have lo := ht.olen
    have hv0 : 0 < hv p m way (X.getD i 0) := Nat.pos_of_ne_zero (fun h => hn i hil ((ht.zero _ hx).1 h))
    have hv1 := F.hv_lt hx ht.lt
    have hv2 := F.hv_lt hx ht.olt
    have hk := kN_lt F (way := way) ht.olt hx hy
    have hyx : Y.getD i 0 ^^^ hv p m out (X.getD i 0) < 2 ^ m := Nat.xor_lt_two_pow hy hv2
    have b1 : Y.getD i 0 < 256 := by omega
    have b2 : hv p m out (X.getD i 0) < 256 := by omega
    have hne : way ≠ [] := fun h => by rw [h] at lw; simp at lw
    have e1 := times_f F way [kN p m out way (X.getD i 0) (Y.getD i 0)] ht.lt (fun y hy => by rw [List.mem_singleton.1 hy]; exact hk) (by omega) (by simp) hne (by simp)
    have e2 := times_mx F way ht.lt hx (by omega) ht.head
    have pl := fun y hy => prod_lt (b := [kN p m out way (X.getD i 0) (Y.getD i 0)]) F ht.lt y (trimN_mem hy)
    have e3 := plus_f out (trimN (prod p m way [kN p m out way (X.getD i 0) (Y.getD i 0)])) (fun y hy => by have := ht.olt y hy; omega) (fun y hy => by have := pl y hy; omega) (by omega) (by have h2 := trimN_length (prod p m way [kN p m out way (X.getD i 0) (Y.getD i 0)]); rw [prod_one_length] at h2; omega)
    have c1 : (i : Int) < (X.length : Int) := by omega
    have c2 : (0 : Int) ≤ (i : Int) := by omega
    have c3 : (i : Int) < ((ints X).length : Int) := by rw [ints_length]; omega
    have c4 : 0 < (tab m p).size := by rw [tab_size]; have := F.sz8; omega
    have c5 : (i : Int) < ((ints Y).length : Int) := by rw [ints_length]; omega
    have ei : wrap64 ((i : Int) + 1) = ((i + 1 : Nat) : Int) := w64s (by omega)
    refine Ev.succ ?_
    simp only [galois_Tables_Through.l1]
    simp only [if_pos c1, if_pos c2, if_pos c3, if_pos c4, if_pos c5, rd_ints, ei]
    refine Ev.bind (eval_f F hx out ht.olt (by clear ei; omega)) (Ev.bind (eval_f F hx way ht.lt (by clear ei; omega)) ?_)
    rw [inv_t F hv0 hv1]
    simp only [Option.bind_some]
    rw [bxor8 _ _ b1 b2, mulc_f F hyx (iv_lt F _)]
    simp only [Option.bind_some]
    exact Ev.bind e1 (Ev.bind e3 (Ev.bind e2 g))
theorem thr_l0 (r : List Int × Int) (h1 : (∃ j, j < X.length ∧ X.getD j 0 ∈ X.take j) → r = ([], 3)) (h2 : (∀ j, j < X.length → X.getD j 0 ∉ X.take j) → r = (ints (thrN p m X Y X.length 0 [] [1]), 0)) (d : Nat) : ∀ i, i + d = X.length → (∀ j, j < i → X.getD j 0 ∉ X.take j) →
    Ev (fun k => galois_Tables_Through.l0 k (tab m p) (ints X) (ints Y) (ints X) (X.length : Int) (i : Int)) r := by
  induction d with
  | zero =>
    intro i hi hn
    have hn2 : ∀ j, j < X.length → X.getD j 0 ∉ X.take j := fun j hj => hn j (by omega)
    rw [h2 hn2]
    refine Ev.step (fun k => ?_) (thr_l1 F X Y hX hY ln hl hn2 X.length 0 [] [1] (by omega) (Th.start F X))
    simp only [galois_Tables_Through.l0]
    rw [if_neg (by omega), ints_length]
    rfl
  | succ d ih =>
    intro i hi hn
    have hil : i < X.length := by omega
    have c1 : (i : Int) < (X.length : Int) := by omega
    have c2 : (0 : Int) ≤ (i : Int) := by omega
    have c3 : (i : Int) < ((ints X).length : Int) := by rw [ints_length]; omega
    have c4 : (i : Int) ≤ ((ints X).length : Int) := by rw [ints_length]; omega
    have ei : wrap64 ((i : Int) + 1) = ((i + 1 : Nat) : Int) := w64s (by omega)
    have hc := contains_f (X.take i) (X.getD i 0) (by rw [List.length_take]; omega)
    refine Ev.step (f := fun k => (slices_Contains_byte_byte.f k (ints (X.take i)) ((X.getD i 0 : Nat) : Int)).bind fun t => if t = true then some (([] : List Int), 3) else galois_Tables_Through.l0 k (tab m p) (ints X) (ints Y) (ints X) (X.length : Int) ((i + 1 : Nat) : Int)) (fun k => ?_) (Ev.bind hc ?_)
    · simp only [galois_Tables_Through.l0]
      rw [if_pos c1, if_pos c2, if_pos c3, if_pos c4, rd_ints, Int.toNat_natCast, ints_take, ei]
    · by_cases c : X.getD i 0 ∈ X.take i
      · rw [decide_eq_true c, h1 ⟨i, hil, c⟩]
        exact ev_pos rfl (Ev.now _)
      · rw [decide_eq_false c]
        refine ev_neg (by decide) (ih (i + 1) (by clear ei; omega) (fun j hj => ?_))
        by_cases e : j = i
        · rw [e]; exact c
        · exact hn j (by omega)
end
end Go.Proofs.Ytjdkamhnbheofaa.GalP
