/- For every row of bytes and every number: rows of one length woven and unwoven are the rows. The plain law of BitrowWoven; no condition. -/
import Derived.Test.YtgebmeojmenomaaWoPx13
import Derived.Test.YtgebmeojmenomaaWoQWeave
import Derived.Test.YtgebmeojmenomaaWoQShuf
namespace Go.Proofs.Ytgebmeojmenomaa.Pure
open Go.RowKit Go.Proofs.Ytgebmeojmenomaa.P Go.Proofs.YtgebmeojmenomaaW.PrintWords Go.Proofs.YtgebmeojmenomaaW.PrintLast Go.Proofs.YtgebmeojmenomaaW.PrintMore Go.Proofs.YtgebmeojmenomaaW.Q
/-- The first t rows of so many bytes. -/
def rowsT (B : List Nat) (long t : Nat) : List (List Nat) := (List.range t).map fun k => (B.take ((k + 1) * long)).drop (k * long)
theorem rowsT_succ (B : List Nat) (long t : Nat) : rowsT B long (t + 1) = rowsT B long t ++ [(B.take ((t + 1) * long)).drop (t * long)] := by simp [rowsT, List.range_succ]
theorem rowsT_length (B : List Nat) (long t : Nat) : (rowsT B long t).length = t := by simp [rowsT]
theorem rowsT_getD {B : List Nat} {long t j : Nat} (hj : j < t) : (rowsT B long t).getD j [] = (B.take ((j + 1) * long)).drop (j * long) := by
  simp [rowsT, List.getD_eq_getElem?_getD, hj]
theorem row_length {B : List Nat} {long n j : Nat} (hj : j < n) (hl : n * long ≤ B.length) : ((B.take ((j + 1) * long)).drop (j * long)).length = long := by
  have h := Nat.mul_le_mul_right long (show j + 1 ≤ n from hj)
  rw [List.length_drop, List.length_take, Nat.succ_mul] at *
  omega
theorem row_getD {B : List Nat} {long j t : Nat} (ht : t < long) : ((B.take ((j + 1) * long)).drop (j * long)).getD t 0 = B.getD (j * long + t) 0 := by
  rw [List.getD_eq_getElem?_getD, List.getElem?_drop, List.getElem?_take_of_lt (by rw [Nat.succ_mul]; omega), ← List.getD_eq_getElem?_getD]
theorem tail_l1 (B : List Nat) (n long : Nat) (hn : 0 < n) (hn2 : n ≤ 64) (hl : n * long ≤ B.length) (hB : B.length ≤ 140737488351232) (d : Nat) : ∀ i : Nat, i + d = long * n →
    Ev (fun k => outpostlaw01_BitrowWoven.l1 k (ints B) (n : Int) (intss (rowsT B long n)) (long : Int) (ints (weaveL (rowsT B long n) long)) (i : Int)) true := by
  have hR := rowsT_length B long n
  have hm : ∀ j, j < (rowsT B long n).length → ((rowsT B long n).getD j []).length = long := fun j hj => by rw [rowsT_getD (by omega)]; exact row_length (by omega) hl
  have hw : (weaveL (rowsT B long n) long).length = long * n := by rw [weaveL_length, hR]
  have hs : long * n ≤ 140737488351232 := by rw [Nat.mul_comm]; omega
  induction d with
  | zero =>
    intro i hi
    refine Ev.succ ?_
    simp only [outpostlaw01_BitrowWoven.l1]
    rw [ints_length, hw]
    simp only [if_neg (show ¬ ((i : Int) < ((long * n : Nat) : Int)) by omega)]
    have hu := unw_weave hm
    rw [hR] at hu
    rw [Unweave_f _ n long hn hn2 hw (by rw [hw]; omega), hu]
    simp only [Option.bind_some, outpostlaw01_num.f, if_true]
    refine Ev.bind (SameRows_f _ (by rw [intss_length, hR]; omega)) ?_
    simp only [if_true]
    refine Ev.bind knows_f ?_
    exact Ev.now true
  | succ d ih =>
    intro i hi
    refine Ev.succ ?_
    simp only [outpostlaw01_BitrowWoven.l1]
    rw [ints_length, hw]
    have h1 : i % n < n := Nat.mod_lt _ hn
    have h2 : i / n < long := Nat.div_lt_of_lt_mul (by rw [Nat.mul_comm]; omega)
    have h3 := Nat.mul_le_mul_right long (show i % n + 1 ≤ n from h1)
    rw [Nat.succ_mul] at h3
    have g1 : (i : Int) < ((long * n : Nat) : Int) := by omega
    have g2 : (0 : Int) ≤ (i : Int) := by omega
    have g3 : ¬ ((n : Int) = 0) := by omega
    have p1 : i % n * long ≤ 281474976710656 := by omega
    have p2 : i % n * long + i / n ≤ 281474976710656 := by omega
    have p3 : i % n * long + i / n < B.length := by omega
    have p4 : i / n ≤ 281474976710656 := by omega
    have p5 : i ≤ 281474976710656 := by omega
    have ew : (weaveL (rowsT B long n) long).getD i 0 = B.getD (i % n * long + i / n) 0 := by
      rw [weaveL, map_range_getD _ (by rw [hR]; omega), hR, rowsT_getD h1, row_getD h2]
    have nx := ih (i + 1) (by omega)
    have z1 := Int.natCast_nonneg (i % n)
    have z2 := Int.natCast_nonneg (i / n)
    clear hm hw hs h1 h2 h3 ih
    have e1 : wrap64 (wrap64 (Int.tmod (i : Int) (n : Int) * (long : Int)) + wrap64 (Int.tdiv (i : Int) (n : Int))) = ((i % n * long + i / n : Nat) : Int) := by
      rw [tmod_nat, tdiv_nat, ← Int.natCast_mul, wn _ p1, wn _ p4, ← Int.natCast_add, wn _ p2]
    have e2 : wrap64 ((i : Int) + 1) = ((i + 1 : Nat) : Int) := wn1 i p5
    simp only [if_pos g1, if_pos g2, if_neg g3, e1, rd_ints, ew, ints_length, if_pos (show (0 : Int) ≤ ((i % n * long + i / n : Nat) : Int) from Int.natCast_nonneg _), if_pos (show ((i % n * long + i / n : Nat) : Int) < (B.length : Int) from Int.ofNat_lt.2 p3), if_true, e2]
    exact nx
theorem all_l0 (B : List Nat) (n long : Nat) (hn : 0 < n) (hn2 : n ≤ 64) (hl : n * long ≤ B.length) (hB : B.length ≤ 140737488351232) (d : Nat) : ∀ t : Nat, t + d = n →
    Ev (fun k => outpostlaw01_BitrowWoven.l0 k (ints B) (n : Int) (intss (rowsT B long t)) (long : Int) (t : Int)) true := by
  induction d with
  | zero =>
    intro t ht
    have ht2 : t = n := by omega
    subst ht2
    have hR := rowsT_length B long t
    have hm : ∀ j, j < (rowsT B long t).length → ((rowsT B long t).getD j []).length = long := fun j hj => by rw [rowsT_getD (by omega)]; exact row_length (by omega) hl
    have hs : long * t ≤ 140737488351232 := by rw [Nat.mul_comm]; omega
    have hlong : long ≤ 140737488351232 := Nat.le_trans (Nat.le_mul_of_pos_right _ hn) hs
    have hlast := tail_l1 B t long hn hn2 hl hB (long * t) 0 (by omega)
    have hw : (weaveL (rowsT B long t) long).length = long * t := by rw [weaveL_length, hR]
    refine Ev.succ ?_
    simp only [outpostlaw01_BitrowWoven.l0]
    simp only [if_neg (show ¬ ((t : Int) < (t : Int)) by omega)]
    refine Ev.bind (Weave_f _ long hm (by rw [hR]; omega) (by rw [hR]; omega) (by rw [hR]; omega) (by omega)) ?_
    have p1 : t * long ≤ 281474976710656 := by rw [Nat.mul_comm]; omega
    have e1 : wrap64 ((t : Int) * (long : Int)) = ((long * t : Nat) : Int) := by rw [← Int.natCast_mul, wn _ p1, Nat.mul_comm]
    simp only [Option.bind_some, outpostlaw01_num.f, if_true, ints_length, hw, e1, bne_self_eq_false]
    refine Ev.succ ?_
    simp only [outpostlaw01_BitrowWoven.j1, Bool.false_eq_true, if_false]
    exact hlast
  | succ d ih =>
    intro t ht
    have h3 := Nat.mul_le_mul_right long (show t + 1 ≤ n by omega)
    have h4 : t * long ≤ (t + 1) * long := Nat.mul_le_mul_right _ (Nat.le_succ _)
    have nx := ih (t + 1) (by omega)
    rw [rowsT_succ, intss_append] at nx
    have hrl : ((B.take ((t + 1) * long)).drop (t * long)).length = long := row_length (n := n) (by omega) hl
    have hll : long ≤ (t + 1) * long := Nat.le_mul_of_pos_left _ (by omega)
    have g1 : (t : Int) < (n : Int) := by omega
    have g2 : (0 : Int) ≤ ((t * long : Nat) : Int) := Int.natCast_nonneg _
    have g3 : ((t * long : Nat) : Int) ≤ (((t + 1) * long : Nat) : Int) := Int.ofNat_le.2 h4
    have g4 : (((t + 1) * long : Nat) : Int) ≤ (B.length : Int) := Int.ofNat_le.2 (by omega)
    have g5 : long < 140737488355328 := by omega
    have g6 : t < 5864062014805 := by omega
    have p1 : t * long ≤ 281474976710656 := by omega
    have p2 : (t + 1) * long ≤ 281474976710656 := by omega
    have p3 : t ≤ 281474976710656 := by omega
    have hR := rowsT_length B long t
    clear ih h3 h4 hll
    have e2 : wrap64 ((t : Int) + 1) = ((t + 1 : Nat) : Int) := wn1 t p3
    have e1 : wrap64 ((t : Int) * (long : Int)) = ((t * long : Nat) : Int) := by rw [← Int.natCast_mul, wn _ p1]
    have e3 : wrap64 (((t + 1 : Nat) : Int) * (long : Int)) = (((t + 1) * long : Nat) : Int) := by rw [← Int.natCast_mul, wn _ p2]
    refine Ev.succ ?_
    simp only [outpostlaw01_BitrowWoven.l0]
    simp only [if_pos g1, Option.bind_some, e2, e1, e3, if_pos g2, if_pos g3, ints_length, if_pos g4, Int.toNat_natCast, ints_take, ints_drop, List.nil_append, List.length_nil, Nat.zero_add, hrl, if_pos g5, intss_length, hR, if_pos g6]
    exact nx
theorem BitrowWoven : outpostlaw01_BitrowWoven.Pure := by
  intro l0 a1 hm hs hw g1
  have b1 : -9223372036854775808 ≤ a1 ∧ a1 ≤ 9223372036854775807 := by simpa [Lit.wf, IntKind.min, IntKind.max, IntKind.signed, IntKind.bits] using g1
  obtain ⟨B, rfl, hB⟩ := bytes_of hw
  rw [ints_length] at hs
  refine Ev.rounds (g := fun k => outpostlaw01_BitrowWoven.f k (ints B) a1) ?_
  unfold outpostlaw01_BitrowWoven.f
  obtain ⟨n', hr, hr1, hr2⟩ := within_f a1 1 64 b1.1 b1.2 (by omega) (by omega) (by omega)
  obtain ⟨n, rfl⟩ : ∃ r : Nat, n' = (r : Int) := ⟨n'.toNat, by omega⟩
  rw [hr]
  simp only [Option.bind_some]
  simp only [if_neg (show ¬ ((n : Int) = 0) by omega)]
  have hdl : B.length / n ≤ B.length := Nat.div_le_self _ _
  have p1 : B.length / n ≤ 281474976710656 := by omega
  have e : wrap64 (((ints B).length : Int) / (n : Int)) = ((B.length / n : Nat) : Int) := by
    rw [ints_length, ← Int.natCast_ediv, wn _ p1]
  rw [e]
  clear e
  exact all_l0 B n (B.length / n) (by omega) (by omega) (Nat.mul_div_le _ _) (by omega) n 0 (by omega)
end Go.Proofs.Ytgebmeojmenomaa.Pure
