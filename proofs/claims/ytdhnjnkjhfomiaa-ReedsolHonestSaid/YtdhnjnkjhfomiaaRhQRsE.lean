/- Reedsol: the law's elements (data out of any bytes). -/
import Derived.Test.YtdhnjnkjhfomiaaRhQRsT
import Derived.Test.YtdhnjnkjhfomiaaRhPx0
set_option linter.unusedVariables false
set_option linter.unusedSimpArgs false
namespace Go.Proofs.Ytdhnjnkjhfomiaa.GalP
open Go.RowKit P YtdhnjnkjhfomiaaW.PrintWords YtdhnjnkjhfomiaaW.PrintLast YtdhnjnkjhfomiaaW.PrintMore YtdhnjnkjhfomiaaW.Q
open Gal
theorem num_id (x : Int) : l4_num.f x = some x := rfl
def elN (m n : Nat) (W : List Nat) : List Nat := (W.take (2 ^ m - 1 - n)).map (fun x => x % 2 ^ m)
theorem elN_length (m n : Nat) (W : List Nat) : (elN m n W).length = min (2 ^ m - 1 - n) W.length := by
  unfold elN
  rw [List.length_map,List.length_take]
theorem elN_getD (m n : Nat) (W : List Nat) (i : Nat) (h : i < (elN m n W).length) : (elN m n W).getD i 0 = W.getD i 0 % 2 ^ m := by
  rw [elN_length] at h
  unfold elN
  simp only [List.getD_eq_getElem?_getD,List.getElem?_map,List.getElem?_take]
  rw [if_pos (by omega),List.getElem?_eq_getElem (by omega)]
  rfl
theorem elN_lt {m n : Nat} (h0 : 0 < 2 ^ m) (W : List Nat) : ∀ y ∈ elN m n W,y < 2 ^ m := by
  intro y hy
  unfold elN at hy
  obtain ⟨x,_,rfl⟩ := List.mem_map.1 hy
  exact Nat.mod_lt _ h0
theorem el_one {m : Nat} (h8 : 2 ^ m ≤ 256) (h0 : 0 < 2 ^ m) {W : List Nat} (hW : ∀ x ∈ W,x < 256) (i : Nat) : Int.tmod (wrap64 (rd (ints W) (i : Int))) ((2 ^ m : Nat) : Int) % 256 = ((W.getD i 0 % 2 ^ m : Nat) : Int) := by
  have hx : W.getD i 0 < 256 := getD_lt hW i
  have hm : W.getD i 0 % 2 ^ m < 2 ^ m := Nat.mod_lt _ h0
  rw [rd_ints,w64 (by omega) (by omega),tmod_nat]
  generalize W.getD i 0 % 2 ^ m = z at hm ⊢
  omega
theorem mn_nat (a b : Nat) : mn (a : Int) (b : Int) = ((min b a : Nat) : Int) := by
  unfold mn
  split <;> omega
end Go.Proofs.Ytdhnjnkjhfomiaa.GalP
