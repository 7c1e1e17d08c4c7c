/- Polynomials over a field: quotient, rest and Gcd of the program; rows of elements. -/
import Derived.Test.YtjdkamhnbheofaaGqQGalD
import Derived.Test.YtjdkamhnbheofaaGqQGalU
import Derived.Test.YtjdkamhnbheofaaGqPx0
import Derived.Test.YtjdkamhnbheofaaGqPx2
import Derived.Test.YtjdkamhnbheofaaGqPx5
import Derived.Test.YtjdkamhnbheofaaGqPx6
import Derived.Test.YtjdkamhnbheofaaGqPx8
import Derived.Test.YtjdkamhnbheofaaGqPx10
set_option linter.unusedVariables false
set_option linter.unusedSimpArgs false
namespace Go.Proofs.Ytjdkamhnbheofaa.GalP
open Go.RowKit Go.Proofs.Ytjdkamhnbheofaa.P Go.Proofs.YtjdkamhnbheofaaW.PrintWords Go.Proofs.YtjdkamhnbheofaaW.PrintLast Go.Proofs.YtjdkamhnbheofaaW.PrintMore Go.Proofs.YtjdkamhnbheofaaW.Q
open Go.Proofs.Ytjdkamhnbheofaa.Gal
/-- Elements out of any bytes, n at most. -/
def rowN (m n : Nat) (B : List Nat) : List Nat := (B.take n).map (· % 2 ^ m)
theorem rowN_length (m n : Nat) (B : List Nat) : (rowN m n B).length = min n B.length := by unfold rowN; rw [List.length_map, List.length_take]
theorem rowN_lt {m p : Nat} (F : Fi m p) (n : Nat) (B : List Nat) : ∀ y ∈ rowN m n B, y < 2 ^ m := by
  intro y hy
  unfold rowN at hy
  obtain ⟨u, hu, rfl⟩ := List.mem_map.1 hy
  exact Nat.mod_lt _ F.zero_lt
theorem row_l {m p : Nat} (F : Fi m p) (n : Nat) (B : List Nat) (hB : ∀ x ∈ B, x < 256) (hn : n ≤ 100000) (d : Nat) : ∀ i, i + d = min n B.length →
    Ev (fun k => outpostlaw32_row.l0 k (ints B) (n : Int) (ints (rowN m i B)) (i : Int) (m : Int) (p : Int)) (ints (rowN m n B)) := by
  induction d with
  | zero =>
    intro i hi
    have e : rowN m i B = rowN m n B := by
      unfold rowN
      congr 1
      by_cases c : B.length ≤ n
      · rw [List.take_of_length_le (by omega), List.take_of_length_le c]
      · rw [show i = n by omega]
    rw [e]
    refine Ev.step (f := fun _ => some (ints (rowN m n B))) (fun k => ?_) (Ev.now _)
    simp only [outpostlaw32_row.l0]
    by_cases c : (i : Int) < ((ints B).length : Int)
    · rw [if_pos c, if_neg (by rw [ints_length] at c; omega)]
    · rw [if_neg c]
  | succ d ih =>
    intro i hi
    have hil : i < B.length := by omega
    have c1 : (i : Int) < ((ints B).length : Int) := by rw [ints_length]; omega
    have c2 : (i : Int) < (n : Int) := by omega
    have c3 : (0 : Int) ≤ (i : Int) := by omega
    have hl : (ints (rowN m i B)).length < 140737488355328 := by rw [ints_length, rowN_length]; omega
    have et : ints (rowN m i B) ++ [((B.getD i 0 % 2 ^ m : Nat) : Int)] = ints (rowN m (i + 1) B) := by
      have et2 : B.take (i + 1) = B.take i ++ [B.getD i 0] := by
        rw [List.take_succ_eq_append_getElem hil, List.getD_eq_getElem?_getD, List.getElem?_eq_getElem hil]
        rfl
      unfold rowN
      rw [et2, List.map_append, ints_append]
      rfl
    have ei : wrap64 ((i : Int) + 1) = ((i + 1 : Nat) : Int) := w64s (by omega)
    refine Ev.step (fun k => ?_) (ih (i + 1) (by clear ei; omega))
    simp only [outpostlaw32_row.l0]
    rw [if_pos c1, if_pos c2, if_pos c3, rd_ints, in_f F (getD_lt hB i)]
    simp only [Option.bind_some]
    rw [if_pos hl, et, ei]
theorem row_f {m p : Nat} (F : Fi m p) (n : Nat) (B : List Nat) (hB : ∀ x ∈ B, x < 256) (hn : n ≤ 100000) :
    Ev (fun k => outpostlaw32_row.f k (m : Int) (p : Int) (ints B) (n : Int)) (ints (rowN m n B)) := by
  have h := row_l F n B hB hn (min n B.length) 0 (by omega)
  exact h
section
variable {m p : Nat} (F : Fi m p) {B : List Nat} (hB : ∀ y ∈ B, y < 2 ^ m) (lB : B.length ≤ 100000)
include F hB lB
end
theorem mem2 {P : List Nat → Prop} {a b : List Nat} (ha : P a) (hb : P b) : ∀ C ∈ [a, b], P C := fun C hC => by
  rcases List.mem_cons.1 hC with rfl | hC
  · exact ha
  · rw [List.mem_singleton.1 hC]; exact hb
theorem lists2 {m p : Nat} (F : Fi m p) (a b : List Nat) (ha : ∀ y ∈ a, y < 2 ^ m) (hb : ∀ y ∈ b, y < 2 ^ m) (la : a.length ≤ 1024) (lb : b.length ≤ 1024) :
    Ev (fun k => galois_Tables_lists.f k (tab m p) [ints a, ints b]) 0 :=
  lists_ok F [a, b] (by simp) (mem2 (P := fun C => C.length ≤ 1024) la lb) (mem2 (P := fun C => ∀ x ∈ C, x < 2 ^ m) ha hb)
end Go.Proofs.Ytjdkamhnbheofaa.GalP
