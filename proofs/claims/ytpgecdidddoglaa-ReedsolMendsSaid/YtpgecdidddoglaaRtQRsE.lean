/- Reedsol: the law's elements (data out of any bytes). -/
import Derived.Test.YtpgecdidddoglaaRtPx9
import Derived.Test.YtpgecdidddoglaaRtQRsT
import Derived.Test.YtpgecdidddoglaaRtPx16
set_option linter.unusedVariables false
set_option linter.unusedSimpArgs false
namespace Go.Proofs.Ytpgecdidddoglaa.GalP
open Go.RowKit Go.Proofs.Ytpgecdidddoglaa.P Go.Proofs.YtpgecdidddoglaaW.PrintWords Go.Proofs.YtpgecdidddoglaaW.PrintLast Go.Proofs.YtpgecdidddoglaaW.PrintMore Go.Proofs.YtpgecdidddoglaaW.Q
open Go.Proofs.Ytpgecdidddoglaa.Gal
theorem num_id (x : Int) : l4_num.f x = some x := rfl
def elN (m n : Nat) (W : List Nat) : List Nat := (W.take (2 ^ m - 1 - n)).map (fun x => x % 2 ^ m)
theorem elN_length (m n : Nat) (W : List Nat) : (elN m n W).length = min (2 ^ m - 1 - n) W.length := by
  unfold elN
  rw [List.length_map,List.length_take]
theorem elN_getD (m n : Nat) (W : List Nat) (i : Nat) (h : i < (elN m n W).length) : (elN m n W).getD i 0 = W.getD i 0 % 2 ^ m := by
  rw [elN_length] at h
  unfold elN
  simp only [List.getD_eq_getElem?_getD,List.getElem?_map,List.getElem?_take]
  rw [if_pos (by omega),List.getElem?_eq_getElem (by omega)]
  rfl
theorem elN_lt {m n : Nat} (h0 : 0 < 2 ^ m) (W : List Nat) : ∀ y ∈ elN m n W,y < 2 ^ m := by
  intro y hy
  unfold elN at hy
  obtain ⟨x,_,rfl⟩ := List.mem_map.1 hy
  exact Nat.mod_lt _ h0
theorem el_one {m : Nat} (h8 : 2 ^ m ≤ 256) (h0 : 0 < 2 ^ m) {W : List Nat} (hW : ∀ x ∈ W,x < 256) (i : Nat) : Int.tmod (wrap64 (rd (ints W) (i : Int))) ((2 ^ m : Nat) : Int) % 256 = ((W.getD i 0 % 2 ^ m : Nat) : Int) := by
  have hx : W.getD i 0 < 256 := getD_lt hW i
  have hm : W.getD i 0 % 2 ^ m < 2 ^ m := Nat.mod_lt _ h0
  rw [rd_ints,w64 (by omega) (by omega),tmod_nat]
  generalize W.getD i 0 % 2 ^ m = z at hm ⊢
  omega
theorem el_l {m : Nat} (h8 : 2 ^ m ≤ 256) (h0 : 0 < 2 ^ m) {W : List Nat} (hW : ∀ x ∈ W,x < 256) (n : Nat) (hl : W.length ≤ 9223372036854775806) (d : Nat) : ∀ i : Nat,i + d = (elN m n W).length →
    Ev (fun k => l4_elements.l0 k (ints W) ((2 ^ m : Nat) : Int) (ints ((elN m n W).take i ++ List.replicate ((elN m n W).length - i) 0)) (i : Int)) (ints (elN m n W)) := by
  have le := elN_length m n W
  have lz : ∀ i,i ≤ (elN m n W).length → ((elN m n W).take i ++ List.replicate ((elN m n W).length - i) 0).length = (elN m n W).length := fun i hi => by
    rw [List.length_append,List.length_take,List.length_replicate]; omega
  induction d with
  | zero =>
    intro i hi
    refine Ev.succ ?_
    simp only [l4_elements.l0]
    refine ev_neg (by rw [ints_length,lz i (by omega)]; omega) ?_
    rw [show (elN m n W).length - i = 0 by omega,List.replicate_zero,List.append_nil,List.take_of_length_le (by omega)]
    exact Ev.now _
  | succ d ih =>
    intro i hi
    have c1 : (i : Int) < ((ints ((elN m n W).take i ++ List.replicate ((elN m n W).length - i) 0)).length : Int) := by rw [ints_length,lz i (by omega)]; omega
    have c3 : (i : Int) < ((ints W).length : Int) := by rw [ints_length]; omega
    have c4 : ¬ (((2 ^ m : Nat) : Int) = 0) := by omega
    refine Ev.succ ?_
    simp only [l4_elements.l0]
    refine ev_pos c1 (ev_pos (by omega) (ev_pos c3 (ev_neg c4 ?_)))
    rw [el_one h8 h0 hW,set_ints,← elN_getD m n W i (by omega),fill_set _ _ _ rfl (by omega),w64s (by omega)]
    exact ih (i + 1) (by omega)
theorem mn_nat (a b : Nat) : mn (a : Int) (b : Int) = ((min b a : Nat) : Int) := by
  unfold mn
  split <;> omega
theorem el_f {m p f n : Nat} (C : Cd m p f n) (W : List Nat) (hW : ∀ x ∈ W,x < 256) (hl : W.length ≤ 9223372036854775806) :
    Ev (fun k => l4_elements.f k (m : Int) (p : Int) (f : Int) (n : Int) (ints W)) (ints (elN m n W)) := by
  have h8 := C.F.eight
  have s8 := C.F.sz8
  have s256 := C.F.sz256
  have n2 := C.n2
  have e1 : IntKind.u64.wrap (m : Int) = (m : Int) := wu64 (by omega) (by omega)
  have e2 : wrap64 (wrap64 (shl .i64 1 (m : Int) - 1) - (n : Int)) = ((2 ^ m - 1 - n : Nat) : Int) := by
    have e0 : wrap64 (shl .i64 1 (m : Int) - 1) = ((2 ^ m - 1 : Nat) : Int) := by
      clear e1
      rw [shl1 m h8,w64 (by omega) (by omega)]
      omega
    rw [e0]
    clear e1 e0
    rw [w64 (by omega) (by omega)]
    omega
  have e3 : (min (2 ^ m - 1 - n) W.length : Nat) = (elN m n W).length := (elN_length m n W).symm
  unfold l4_elements.f
  rw [e1,e2,shl1 m h8,ints_length,mn_nat,e3]
  have le : (elN m n W).length ≤ 256 := by rw [← e3]; clear e1 e2; omega
  refine ev_pos (by clear e1 e2; omega) (ev_pos (by clear e1 e2; omega) (ev_pos (by clear e1 e2; omega) ?_))
  have := el_l s256 C.F.zero_lt hW n hl (elN m n W).length 0 (by clear e1 e2; omega)
  rw [List.take_zero,List.nil_append,Nat.sub_zero,ints_replicate] at this
  exact this
end Go.Proofs.Ytpgecdidddoglaa.GalP
