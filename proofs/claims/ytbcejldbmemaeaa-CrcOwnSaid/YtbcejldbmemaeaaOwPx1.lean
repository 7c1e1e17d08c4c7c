-- written by mk.sh, a program of this session, over the kit's print
import Derived.Test.YtbcejldbmemaeaaOwPx0
namespace Go.Proofs.Ytbcejldbmemaeaa.P
open Go.RowKit Go.Proofs.YtbcejldbmemaeaaW.PrintWords Go.Proofs.YtbcejldbmemaeaaW.PrintLast Go.Proofs.YtbcejldbmemaeaaW.PrintMore
attribute [local go_sem] max2_int min2_int max_two min_two max_three min_three max_four min_four   -- for this text's walks alone
set_option linter.unusedVariables false
set_option linter.unusedSimpArgs false

/-! ### outpostlaw03_Good: function 6 -/
def outpostlaw03_Good.f (a0_0 : Int) (a0_1 : Int) (a0_2 : Int) (a0_3 : Int) (a0_4 : Bool) : Option (Int × Int × Int × Int × Bool) := if 0 ≤ (IntKind.u64.wrap (wrap64 (8 * (wrap64 (1 + (Int.tmod (wrap64 ((Int.tmod a0_0 4) + 4)) 4)))))) then (some (wrap64 (8 * (wrap64 (1 + (Int.tmod (wrap64 ((Int.tmod a0_0 4) + 4)) 4)))), Go.bits .or .u32 ((Go.bits .and .u64 (IntKind.u64.wrap (a0_1)) (IntKind.u64.wrap ((shl .u64 1 (IntKind.u64.wrap (wrap64 (8 * (wrap64 (1 + (Int.tmod (wrap64 ((Int.tmod a0_0 4) + 4)) 4))))))) - 1))) % 4294967296) 1, (Go.bits .and .u64 (IntKind.u64.wrap (a0_2)) (IntKind.u64.wrap ((shl .u64 1 (IntKind.u64.wrap (wrap64 (8 * (wrap64 (1 + (Int.tmod (wrap64 ((Int.tmod a0_0 4) + 4)) 4))))))) - 1))) % 4294967296, (Go.bits .and .u64 (IntKind.u64.wrap (a0_3)) (IntKind.u64.wrap ((shl .u64 1 (IntKind.u64.wrap (wrap64 (8 * (wrap64 (1 + (Int.tmod (wrap64 ((Int.tmod a0_0 4) + 4)) 4))))))) - 1))) % 4294967296, a0_4)) else (none)
set_option maxHeartbeats 8000000 in
set_option maxRecDepth 100000 in
theorem outpostlaw03_Good.calls (a0_0 : Int) (a0_1 : Int) (a0_2 : Int) (a0_3 : Int) (a0_4 : Bool) (r1 : Int) (r2 : Int) (r3 : Int) (r4 : Int) (r5 : Bool) (w : World) (h : outpostlaw03_Good.f a0_0 a0_1 a0_2 a0_3 a0_4 = some (r1, r2, r3, r4, r5)) :
  Calls Try.prog 6 #[.agg #[.int .i64 a0_0, .int .u32 a0_1, .int .u32 a0_2, .int .u32 a0_3, .bool a0_4]] w fun e w' => e = .returned (.agg #[.int .i64 r1, .int .u32 r2, .int .u32 r3, .int .u32 r4, .bool r5]) ∧ Below w.heap.size w w' := by
 have hu24 := Try.underlying24
 have HB := Aside0.mk (Below.refl w.heap.size w)
 have H : (if 0 ≤ (IntKind.u64.wrap (wrap64 (8 * (wrap64 (1 + (Int.tmod (wrap64 ((Int.tmod a0_0 4) + 4)) 4)))))) then (some (wrap64 (8 * (wrap64 (1 + (Int.tmod (wrap64 ((Int.tmod a0_0 4) + 4)) 4)))), Go.bits .or .u32 ((Go.bits .and .u64 (IntKind.u64.wrap (a0_1)) (IntKind.u64.wrap ((shl .u64 1 (IntKind.u64.wrap (wrap64 (8 * (wrap64 (1 + (Int.tmod (wrap64 ((Int.tmod a0_0 4) + 4)) 4))))))) - 1))) % 4294967296) 1, (Go.bits .and .u64 (IntKind.u64.wrap (a0_2)) (IntKind.u64.wrap ((shl .u64 1 (IntKind.u64.wrap (wrap64 (8 * (wrap64 (1 + (Int.tmod (wrap64 ((Int.tmod a0_0 4) + 4)) 4))))))) - 1))) % 4294967296, (Go.bits .and .u64 (IntKind.u64.wrap (a0_3)) (IntKind.u64.wrap ((shl .u64 1 (IntKind.u64.wrap (wrap64 (8 * (wrap64 (1 + (Int.tmod (wrap64 ((Int.tmod a0_0 4) + 4)) 4))))))) - 1))) % 4294967296, a0_4)) else (none)) = some (r1, r2, r3, r4, r5) := h
 clear h
 obtain ⟨ji2, hji2⟩ : ∃ j_ : Int, (IntKind.u64.wrap (wrap64 (8 * (wrap64 (1 + (Int.tmod (wrap64 ((Int.tmod a0_0 4) + 4)) 4)))))) = j_ := ⟨_, rfl⟩
 replace H : (if 0 ≤ (ji2) then (some (wrap64 (8 * (wrap64 (1 + (Int.tmod (wrap64 ((Int.tmod a0_0 4) + 4)) 4)))), Go.bits .or .u32 ((Go.bits .and .u64 (IntKind.u64.wrap (a0_1)) (IntKind.u64.wrap ((shl .u64 1 (ji2)) - 1))) % 4294967296) 1, (Go.bits .and .u64 (IntKind.u64.wrap (a0_2)) (IntKind.u64.wrap ((shl .u64 1 (ji2)) - 1))) % 4294967296, (Go.bits .and .u64 (IntKind.u64.wrap (a0_3)) (IntKind.u64.wrap ((shl .u64 1 (ji2)) - 1))) % 4294967296, a0_4)) else (none)) = some (r1, r2, r3, r4, r5) := by first | (rw [hji2] at H; exact H) | (simp only [hji2] at H ⊢; exact H)
 by_cases c3 : 0 ≤ (ji2)
 ·rw [if_pos c3] at H
  have c3b0 := eq_true c3
  have c3b1 : decide (0 ≤ (ji2)) = true := decide_eq_true c3
  clear c3
  obtain ⟨ji4, hji4⟩ : ∃ j_ : Int, (shl .u64 1 (ji2)) = j_ := ⟨_, rfl⟩
  replace H : (some (wrap64 (8 * (wrap64 (1 + (Int.tmod (wrap64 ((Int.tmod a0_0 4) + 4)) 4)))), Go.bits .or .u32 ((Go.bits .and .u64 (IntKind.u64.wrap (a0_1)) (IntKind.u64.wrap ((ji4) - 1))) % 4294967296) 1, (Go.bits .and .u64 (IntKind.u64.wrap (a0_2)) (IntKind.u64.wrap ((ji4) - 1))) % 4294967296, (Go.bits .and .u64 (IntKind.u64.wrap (a0_3)) (IntKind.u64.wrap ((ji4) - 1))) % 4294967296, a0_4)) = some (r1, r2, r3, r4, r5) := by first | (rw [hji4] at H; exact H) | (simp only [hji4] at H ⊢; exact H)
  have hji4_ : (IntKind.u64.wrap (1 * 2 ^ min (ji2).toNat 64)) = ji4 := hji4
  have hji4z : (ji2) ≤ 64 → (IntKind.u64.wrap (1 * 2 ^ (ji2).toNat)) = ji4 := shl_small hji4
  have hji4u : (IntKind.u64.wrap (2 ^ min (ji2).toNat 64)) = ji4 := by have h_ := hji4_; rw [Int.one_mul] at h_; exact h_
  have hji4v : (ji2) ≤ 64 → (IntKind.u64.wrap (2 ^ (ji2).toNat)) = ji4 := fun hle_ => by have h_ := hji4z hle_; rw [Int.one_mul] at h_; exact h_
  simp only [Option.some.injEq, Prod.mk.injEq] at H
  obtain ⟨rfl, rfl, rfl, rfl, rfl⟩ := H
  go_enter Try.func6, Try.ntmps6
  go_wp2_with (first | ((with_reducible refine gate_dst (N := 1) rfl ?_); refine box_event ?hg (N := 1) ?hd (cs := #[.int .i64 a0_0, .int .u32 a0_1, .int .u32 a0_2, .int .u32 a0_3, .bool a0_4]) (t := 24) ?hr ?_; (case hd => rfl); (case hg => rfl); (case hr => first | (go_simp; done) | (go_simp; rfl)); intro gb101 hg w5 hbox hb; have n0_ := Aside0.mk (below_step (by repeat (first | (with_reducible first | exact HB.out | apply below_alloc | apply pw_below_drewN | apply below_drew1) | exact HB.out)) hb); have n1_ := Aside0.mk (hbox); have n2_ := Aside0.mk ((by rw [hg]; exact (below_size (by repeat (first | (with_reducible first | exact HB.out | apply below_alloc | apply pw_below_drewN | apply below_drew1) | exact HB.out))) : w.heap.size ≤ gb101)); have n3_ := Aside0.mk ((by rw [hg]; exact (below_size (by repeat (first | (with_reducible first | exact HB.out | apply below_alloc | apply pw_below_drewN | apply below_drew1) | exact HB.out))) : w.heap.size ≤ gb101)); clear HB; have HB := n0_; have BK101 := n1_; have GW101 := n2_; have GE101 := n3_; clear n0_ n1_ n2_ n3_; clear hb hbox hg) | ((with_reducible refine gate_dst (N := 2) rfl ?_); refine box_event ?hg (N := 2) ?hd (cs := #[.int .i64 0, .int .u32 0, .int .u32 0, .int .u32 0, .bool false]) (t := 24) ?hr ?_; (case hd => rfl); (case hg => rfl); (case hr => first | (go_simp; done) | (go_simp; rfl)); intro gb102 hg w6 hbox hb; have n0_ := Aside0.mk (blk_below (g := gb101) (o := .cells #[.int .i64 a0_0, .int .u32 a0_1, .int .u32 a0_2, .int .u32 a0_3, .bool a0_4] 24 (0, 0)) (by (with_reducible repeat (first | refine blk_drewN ?_ _ | refine blk_drew ?_ | refine blk_alloc ?_ _)); exact BK101.out) hb); have n1_ := Aside0.mk (below_step (by repeat (first | (with_reducible first | exact HB.out | apply below_alloc | apply pw_below_drewN | apply below_drew1 | refine below_set ?_ GE101.out) | exact HB.out)) hb); have n2_ := Aside0.mk (hbox); have n3_ := Aside0.mk ((by rw [hg]; exact (below_size (by repeat (first | (with_reducible first | exact HB.out | apply below_alloc | apply pw_below_drewN | apply below_drew1 | refine below_set ?_ GE101.out) | exact HB.out))) : w.heap.size ≤ gb102)); have n4_ := Aside0.mk ((by rw [hg]; exact (below_size (by repeat (first | (with_reducible first | exact HB.out | apply below_alloc | apply pw_below_drewN | apply below_drew1 | refine below_set ?_ GE101.out) | exact HB.out))) : w.heap.size ≤ gb102)); have n5_ := Aside0.mk ((by rw [hg]; exact Nat.ne_of_lt (blk_lt (g := gb101) (o := .cells #[.int .i64 a0_0, .int .u32 a0_1, .int .u32 a0_2, .int .u32 a0_3, .bool a0_4] 24 (0, 0)) (by (with_reducible repeat (first | refine blk_drewN ?_ _ | refine blk_drew ?_ | refine blk_alloc ?_ _)); exact BK101.out)) : gb101 ≠ gb102)); have n6_ := Aside0.mk ((by rw [hg]; exact Nat.ne_of_gt (blk_lt (g := gb101) (o := .cells #[.int .i64 a0_0, .int .u32 a0_1, .int .u32 a0_2, .int .u32 a0_3, .bool a0_4] 24 (0, 0)) (by (with_reducible repeat (first | refine blk_drewN ?_ _ | refine blk_drew ?_ | refine blk_alloc ?_ _)); exact BK101.out)) : gb102 ≠ gb101)); clear BK101; clear HB; have BK101 := n0_; have HB := n1_; have BK102 := n2_; have GW102 := n3_; have GE102 := n4_; have NB101_102 := n5_; have NB102_101 := n6_; clear n0_ n1_ n2_ n3_ n4_ n5_ n6_; clear hb hbox hg; have hnb7 := NB101_102.out; have hnc7 := NB102_101.out; have hcz8_0 : w6.cell? ⟨gb101, 0, none⟩ = some (.int .i64 a0_0) := (blk_cell BK101.out 0).trans rfl; have hcz8_1 : w6.cell? ⟨gb101, 1, none⟩ = some (.int .u32 a0_1) := (blk_cell BK101.out 1).trans rfl; have hcz8_2 : w6.cell? ⟨gb101, 2, none⟩ = some (.int .u32 a0_2) := (blk_cell BK101.out 2).trans rfl; have hcz8_3 : w6.cell? ⟨gb101, 3, none⟩ = some (.int .u32 a0_3) := (blk_cell BK101.out 3).trans rfl; have hcz8_4 : w6.cell? ⟨gb101, 4, none⟩ = some (.bool a0_4) := (blk_cell BK101.out 4).trans rfl; have hfz8_0 := blk_frozen BK101.out 0; have hfz8_1 := blk_frozen BK101.out 1; have hfz8_2 := blk_frozen BK101.out 2; have hfz8_3 := blk_frozen BK101.out 3; have hfz8_4 := blk_frozen BK101.out 4; have hcz9_0 : w6.cell? ⟨gb102, 0, none⟩ = some (.int .i64 0) := (blk_cell BK102.out 0).trans rfl; have hcz9_1 : w6.cell? ⟨gb102, 1, none⟩ = some (.int .u32 0) := (blk_cell BK102.out 1).trans rfl; have hcz9_2 : w6.cell? ⟨gb102, 2, none⟩ = some (.int .u32 0) := (blk_cell BK102.out 2).trans rfl; have hcz9_3 : w6.cell? ⟨gb102, 3, none⟩ = some (.int .u32 0) := (blk_cell BK102.out 3).trans rfl; have hcz9_4 : w6.cell? ⟨gb102, 4, none⟩ = some (.bool false) := (blk_cell BK102.out 4).trans rfl; have hfz9_0 := blk_frozen BK102.out 0; have hfz9_1 := blk_frozen BK102.out 1; have hfz9_2 := blk_frozen BK102.out 2; have hfz9_3 := blk_frozen BK102.out 3; have hfz9_4 := blk_frozen BK102.out 4))
  refine bodyPost_ret (results_cell_row rfl _ _ gb102 24 #[.int .i64 (wrap64 (8 * (wrap64 (1 + (Int.tmod (wrap64 ((Int.tmod a0_0 4) + 4)) 4))))), .int .u32 (Go.bits .or .u32 ((Go.bits .and .u64 (IntKind.u64.wrap (a0_1)) (IntKind.u64.wrap ((ji4) - 1))) % 4294967296) 1), .int .u32 ((Go.bits .and .u64 (IntKind.u64.wrap (a0_2)) (IntKind.u64.wrap ((ji4) - 1))) % 4294967296), .int .u32 ((Go.bits .and .u64 (IntKind.u64.wrap (a0_3)) (IntKind.u64.wrap ((ji4) - 1))) % 4294967296), .bool a0_4] (0, 0) _ rfl (by (with_reducible repeat (first | refine blk_drewN ?_ _ | refine blk_drew ?_ | refine blk_alloc ?_ _)); refine blk_put (cs := #[.int .i64 (wrap64 (8 * (wrap64 (1 + (Int.tmod (wrap64 ((Int.tmod a0_0 4) + 4)) 4))))), .int .u32 (Go.bits .or .u32 ((Go.bits .and .u64 (IntKind.u64.wrap (a0_1)) (IntKind.u64.wrap ((ji4) - 1))) % 4294967296) 1), .int .u32 ((Go.bits .and .u64 (IntKind.u64.wrap (a0_2)) (IntKind.u64.wrap ((ji4) - 1))) % 4294967296), .int .u32 ((Go.bits .and .u64 (IntKind.u64.wrap (a0_3)) (IntKind.u64.wrap ((ji4) - 1))) % 4294967296), .bool false]) ?_ 4 _ rfl; (with_reducible repeat (first | refine blk_drewN ?_ _ | refine blk_drew ?_ | refine blk_alloc ?_ _)); refine blk_put (cs := #[.int .i64 (wrap64 (8 * (wrap64 (1 + (Int.tmod (wrap64 ((Int.tmod a0_0 4) + 4)) 4))))), .int .u32 (Go.bits .or .u32 ((Go.bits .and .u64 (IntKind.u64.wrap (a0_1)) (IntKind.u64.wrap ((ji4) - 1))) % 4294967296) 1), .int .u32 ((Go.bits .and .u64 (IntKind.u64.wrap (a0_2)) (IntKind.u64.wrap ((ji4) - 1))) % 4294967296), .int .u32 0, .bool false]) ?_ 3 _ rfl; (with_reducible repeat (first | refine blk_drewN ?_ _ | refine blk_drew ?_ | refine blk_alloc ?_ _)); refine blk_put (cs := #[.int .i64 (wrap64 (8 * (wrap64 (1 + (Int.tmod (wrap64 ((Int.tmod a0_0 4) + 4)) 4))))), .int .u32 (Go.bits .or .u32 ((Go.bits .and .u64 (IntKind.u64.wrap (a0_1)) (IntKind.u64.wrap ((ji4) - 1))) % 4294967296) 1), .int .u32 0, .int .u32 0, .bool false]) ?_ 2 _ rfl; (with_reducible repeat (first | refine blk_drewN ?_ _ | refine blk_drew ?_ | refine blk_alloc ?_ _)); refine blk_put (cs := #[.int .i64 (wrap64 (8 * (wrap64 (1 + (Int.tmod (wrap64 ((Int.tmod a0_0 4) + 4)) 4))))), .int .u32 0, .int .u32 0, .int .u32 0, .bool false]) ?_ 1 _ rfl; (with_reducible repeat (first | refine blk_drewN ?_ _ | refine blk_drew ?_ | refine blk_alloc ?_ _)); refine blk_put (cs := #[.int .i64 0, .int .u32 0, .int .u32 0, .int .u32 0, .bool false]) ?_ 0 _ rfl; (with_reducible repeat (first | refine blk_drewN ?_ _ | refine blk_drew ?_ | refine blk_alloc ?_ _)); refine blk_far ?_ NB102_101.out _; (with_reducible repeat (first | refine blk_drewN ?_ _ | refine blk_drew ?_ | refine blk_alloc ?_ _)); refine blk_far ?_ NB102_101.out _; (with_reducible repeat (first | refine blk_drewN ?_ _ | refine blk_drew ?_ | refine blk_alloc ?_ _)); refine blk_far ?_ NB102_101.out _; (with_reducible repeat (first | refine blk_drewN ?_ _ | refine blk_drew ?_ | refine blk_alloc ?_ _)); refine blk_far ?_ NB102_101.out _; (with_reducible repeat (first | refine blk_drewN ?_ _ | refine blk_drew ?_ | refine blk_alloc ?_ _)); exact BK102.out) Try.underlying24 rfl (by kernel_rfl)) rfl ?_
  exact ⟨by first | rfl | (simp [errW_none, errW_some] <;> rfl) | (simp only [← hji2, ← hji4]; first | rfl | (simp [errW_none, errW_some] <;> rfl)) | (simp [*, errW_none, errW_some] <;> rfl), by repeat (first | (with_reducible first | exact HB.out | apply below_alloc | apply pw_below_drewN | apply below_drew1 | refine below_set ?_ GE101.out | refine below_set ?_ GE102.out) | exact HB.out)⟩
 ·rw [if_neg c3] at H
  exact absurd H (by simp)

/-! ### bits_Reverse8: function 44, given -/
def bits_rtab : ByteArray := { data := (([0, 128, 64, 192, 32, 160, 96, 224, 16, 144, 80, 208, 48, 176, 112, 240, 8, 136, 72, 200, 40, 168, 104, 232, 24, 152, 88, 216, 56, 184, 120, 248, 4, 132, 68, 196, 36, 164, 100, 228, 20, 148, 84, 212, 52, 180, 116, 244, 12, 140, 76, 204, 44, 172, 108, 236, 28, 156, 92, 220, 60, 188, 124, 252].append
  [2, 130, 66, 194, 34, 162, 98, 226, 18, 146, 82, 210, 50, 178, 114, 242, 10, 138, 74, 202, 42, 170, 106, 234, 26, 154, 90, 218, 58, 186, 122, 250, 6, 134, 70, 198, 38, 166, 102, 230, 22, 150, 86, 214, 54, 182, 118, 246, 14, 142, 78, 206, 46, 174, 110, 238, 30, 158, 94, 222, 62, 190, 126, 254]).append
 ([1, 129, 65, 193, 33, 161, 97, 225, 17, 145, 81, 209, 49, 177, 113, 241, 9, 137, 73, 201, 41, 169, 105, 233, 25, 153, 89, 217, 57, 185, 121, 249, 5, 133, 69, 197, 37, 165, 101, 229, 21, 149, 85, 213, 53, 181, 117, 245, 13, 141, 77, 205, 45, 173, 109, 237, 29, 157, 93, 221, 61, 189, 125, 253].append
  [3, 131, 67, 195, 35, 163, 99, 227, 19, 147, 83, 211, 51, 179, 115, 243, 11, 139, 75, 203, 43, 171, 107, 235, 27, 155, 91, 219, 59, 187, 123, 251, 7, 135, 71, 199, 39, 167, 103, 231, 23, 151, 87, 215, 55, 183, 119, 247, 15, 143, 79, 207, 47, 175, 111, 239, 31, 159, 95, 223, 63, 191, 127, 255])).toArray }
theorem bits_rtab_size : bits_rtab.size = 256 := by decide +kernel
theorem bits_rtab_all : (List.range 256).all (fun x => decide (bt bits_rtab (x : Int) = (Crc.rev x 8 : Nat))) = true := by decide +kernel
theorem bits_rtab_at (x : Nat) (hx : x < 256) : bt bits_rtab (x : Int) = (Crc.rev x 8 : Nat) := by
 have h := List.all_eq_true.1 bits_rtab_all x (List.mem_range.2 hx)
 exact of_decide_eq_true h
def bits_Reverse8.f (a0 : Int) : Option (Int) := if 0 ≤ a0 ∧ a0 < 256 then some (Crc.rev a0.toNat 8 : Nat) else none
set_option maxHeartbeats 8000000 in
set_option maxRecDepth 100000 in
theorem bits_Reverse8.calls (a0 : Int) (r : Int) (w : World) (h : bits_Reverse8.f a0 = some r) :
  Calls Try.prog 44 #[.int .u8 a0] w fun e w' => e = .returned (.int .u8 r) ∧ Drawn0 w w' := by
 unfold bits_Reverse8.f at h
 by_cases c : 0 ≤ a0 ∧ a0 < 256
 ·rw [if_pos c] at h
  obtain rfl := Option.some.inj h
  obtain ⟨c1, c2⟩ := c
  have ht := bits_rtab_at a0.toNat (by omega)
  rw [Int.toNat_of_nonneg c1] at ht
  have HT := Aside0.mk ht
  clear h ht
  have hsz := bits_rtab_size
  have p4 : (0 ≤ a0) = True := eq_true c1
  have q4 : (a0 < 256) = True := eq_true c2
  have p5 : decide (0 ≤ a0) = true := decide_eq_true c1
  have q5 : decide (a0 < 256) = true := decide_eq_true c2
  clear c1 c2
  go_enter Try.func44, Try.ntmps44
  rw [show ({ data := _ } : ByteArray) = bits_rtab from rfl]
  go_wp2
  go_ret
  exact ⟨congrArg (fun z => Ending.returned (Value.int .u8 z)) ((bt_at bits_rtab a0 (by have := of_decide_eq_true p5; have := of_decide_eq_true q5; rw [bits_rtab_size]; omega)).trans HT.out), Drawn0.refl _⟩
 ·rw [if_neg c] at h
  exact absurd h (by simp)

/-! ### crc_fit: function 26, given -/
theorem crc_fit1_calls (a0 : Int) (w : World) : Calls Try.prog 41 #[.int .u8 a0] w fun e w' => e = .returned (.int .u8 a0) ∧ w = w' := by
 go_enter Try.func41, Try.ntmps41
 go_wp2
 go_ret
 exact ⟨rfl, rfl⟩
theorem crc_fit2_calls (a0 : Int) (w : World) : Calls Try.prog 42 #[.int .u32 a0] w fun e w' => e = .returned (.int .u32 a0) ∧ w = w' := by
 go_enter Try.func42, Try.ntmps42
 go_wp2
 go_ret
 exact ⟨rfl, rfl⟩
set_option maxHeartbeats 8000000 in
theorem bits_ReverseBytes32_calls (x : Nat) (w : World) (hx : x < 4294967296) : Calls Try.prog 55 #[.int .u32 (x : Int)] w fun e w' => e = .returned (.int .u32 ((Crc.rbs x : Nat) : Int)) ∧ w = w' := by
 have HX := Aside0.mk (Crc.rbs_int x hx)
 clear hx
 go_enter Try.func55, Try.ntmps55
 go_wp2
 go_ret
 exact ⟨congrArg (fun z => Ending.returned (Value.int .u32 z)) HX.out, rfl⟩
set_option maxHeartbeats 8000000 in
theorem bits_Reverse32_calls (x : Nat) (w : World) (hx : x < 4294967296) : Calls Try.prog 46 #[.int .u32 (x : Int)] w fun e w' => e = .returned (.int .u32 ((Crc.rev x 32 : Nat) : Int)) ∧ w = w' := by
 have H1 := Crc.swp_int 1431655765 1 2 x rfl (by omega) hx
 have L1 := Crc.swp_lt 1431655765 1 x (by omega)
 have H2 := Crc.swp_int 858993459 2 4 (Crc.swp 1431655765 1 x) rfl (by omega) L1
 have L2 := Crc.swp_lt 858993459 2 (Crc.swp 1431655765 1 x) (by omega)
 have H3 := Crc.swp_int 252645135 4 16 (Crc.swp 858993459 2 (Crc.swp 1431655765 1 x)) rfl (by omega) L2
 have L3 := Aside0.mk (Crc.swp_lt 252645135 4 (Crc.swp 858993459 2 (Crc.swp 1431655765 1 x)) (by omega))
 have R := Aside0.mk (Crc.rev32 x hx)
 simp only [show ((2 : Nat) : Int) = 2 from rfl, show ((4 : Nat) : Int) = 4 from rfl, show ((16 : Nat) : Int) = 16 from rfl, show ((1431655765 : Nat) : Int) = 1431655765 from rfl, show ((858993459 : Nat) : Int) = 858993459 from rfl, show ((252645135 : Nat) : Int) = 252645135 from rfl] at H1 H2 H3
 clear L1 L2 hx
 go_enter Try.func46, Try.ntmps46
 go_wp2_with (first | (go_at_call 55; refine (bits_ReverseBytes32_calls _ _ L3.out).mono ?_; rintro e w' ⟨rfl, rfl⟩))
 go_ret
 exact ⟨congrArg (fun z => Ending.returned (Value.int .u32 z)) (congrArg (fun n : Nat => (n : Int)) R.out), rfl⟩
set_option maxHeartbeats 8000000 in
theorem crc_fit4_calls (p W K x : Nat) (P I O : Int) (R : Bool) (w : World) (hx : x < 4294967296) (hK : W + K = 32) (hb : w.heap[p]? = some (.cells #[.int .i64 (W : Int), .int .u32 P, .int .u32 I, .int .u32 O, .bool R] 24 (0, 0))) :
  Calls Try.prog 45 #[.int .u32 (x : Int), .pointer (some ⟨p, 0, none⟩)] w fun e w' => e = .returned (.int .u32 ((Crc.rev x 32 / 2 ^ K : Nat) : Int)) ∧ ∃ m, w' = w.drewN m := by
 have c0 : w.cell? ⟨p, 0, none⟩ = some (.int .i64 (W : Int)) := (blk_cell hb 0).trans rfl
 have HX := Aside0.mk hx
 have HK := Aside0.mk hK
 have k1 : (0 : Int) ≤ 32 - (W : Int) := by omega
 have k3 : IntKind.i64.wrap (32 - (W : Int)) = 32 - (W : Int) := IntWalk.i64_in _ (by omega)
 clear hx hK hb
 go_enter Try.func45, Try.ntmps45
 go_wp2
 go_quiet ((go_at_call 46; exact Calls.quiet_of_same ((bits_Reverse32_calls _ _ HX.out).mono fun e w' h => ⟨h.1, h.2.symm⟩)))
 go_wp2
 go_ret
 exact ⟨congrArg (fun z => Ending.returned (Value.int .u32 z)) (by rw [show 32 - W = K by have := HK.out; omega]; simp), ⟨_, rfl⟩⟩
set_option maxHeartbeats 8000000 in
set_option maxRecDepth 100000 in
theorem crc_high_calls (W K c n1 n2 n3 : Nat) (P I O : Int) (R : Bool) (cp1 cp2 cp3 : Array Value) (w : World) (hK : W + K = 32) (hc : c < 4294967296) :
  Calls Try.prog 32 #[.agg #[.int .i64 (W : Int), .int .u32 P, .int .u32 I, .int .u32 O, .bool R, .func (.func n1) #[] cp1, .func (.func n2) #[] cp2, .func (.func n3) #[] cp3], .int .u32 (c : Int)] w fun e w' => e = .returned (.int .u32 ((c * 2 ^ K % 4294967296 : Nat) : Int)) ∧ Below w.heap.size w w' := by
 have hu24 := Try.underlying24
 have hu55 := Try.underlying65
 have HB := Aside0.mk (Below.refl w.heap.size w)
 have HK := Aside0.mk hK
 have HC := Aside0.mk hc
 have k1 : (0 : Int) ≤ 32 - (W : Int) := by omega
 have k3 : IntKind.i64.wrap (32 - (W : Int)) = 32 - (W : Int) := IntWalk.i64_in _ (by omega)
 clear hK hc
 go_enter Try.func32, Try.ntmps32
 go_wp2_with (first | ((with_reducible refine gate_dst (N := 2) rfl ?_); refine box_event ?hg (N := 2) ?hd (cs := #[.int .i64 (W : Int), .int .u32 P, .int .u32 I, .int .u32 O, .bool R, .func (.func n1) #[] cp1, .func (.func n2) #[] cp2, .func (.func n3) #[] cp3]) (t := 65) ?hr ?_; (case hd => rfl); (case hg => rfl); (case hr => first | (go_simp; done) | (go_simp; rfl)); intro g hg_ wg hbox_ hb_; have n0_ := Aside0.mk (below_step HB.out hb_); have n1_ := Aside0.mk hbox_; have n2_ := Aside0.mk ((by rw [hg_]; exact below_size HB.out) : w.heap.size ≤ g); clear HB; have HB := n0_; have BKg := n1_; have GEg := n2_; clear n0_ n1_ n2_; clear hb_ hbox_ hg_; have hcg_0 : wg.cell? ⟨g, 0, none⟩ = some (.int .i64 (W : Int)) := (blk_cell BKg.out 0).trans rfl; have hfg_0 := blk_frozen BKg.out 0; have hcg_1 : wg.cell? ⟨g, 1, none⟩ = some (.int .u32 P) := (blk_cell BKg.out 1).trans rfl; have hfg_1 := blk_frozen BKg.out 1; have hcg_2 : wg.cell? ⟨g, 2, none⟩ = some (.int .u32 I) := (blk_cell BKg.out 2).trans rfl; have hfg_2 := blk_frozen BKg.out 2; have hcg_3 : wg.cell? ⟨g, 3, none⟩ = some (.int .u32 O) := (blk_cell BKg.out 3).trans rfl; have hfg_3 := blk_frozen BKg.out 3; have hcg_4 : wg.cell? ⟨g, 4, none⟩ = some (.bool R) := (blk_cell BKg.out 4).trans rfl; have hfg_4 := blk_frozen BKg.out 4; have hcg_5 : wg.cell? ⟨g, 5, none⟩ = some (.func (.func n1) #[] cp1) := (blk_cell BKg.out 5).trans rfl; have hfg_5 := blk_frozen BKg.out 5; have hcg_6 : wg.cell? ⟨g, 6, none⟩ = some (.func (.func n2) #[] cp2) := (blk_cell BKg.out 6).trans rfl; have hfg_6 := blk_frozen BKg.out 6; have hcg_7 : wg.cell? ⟨g, 7, none⟩ = some (.func (.func n3) #[] cp3) := (blk_cell BKg.out 7).trans rfl; have hfg_7 := blk_frozen BKg.out 7))
 go_ret
 exact ⟨congrArg (fun z => Ending.returned (Value.int .u32 z)) (by rw [show 32 - W = K by have := HK.out; omega]; simp), HB.out⟩
set_option maxHeartbeats 8000000 in
set_option maxRecDepth 100000 in
theorem crc_step_calls (W K P c n1 n2 n3 : Nat) (I O : Int) (R : Bool) (cp1 cp2 cp3 : Array Value) (w : World) (hK : W + K = 32) (hP : P < 2 ^ W) (hc : c < 4294967296) :
  Calls Try.prog 38 #[.agg #[.int .i64 (W : Int), .int .u32 P, .int .u32 I, .int .u32 O, .bool R, .func (.func n1) #[] cp1, .func (.func n2) #[] cp2, .func (.func n3) #[] cp3], .int .u32 (c : Int)] w fun e w' => e = .returned (.int .u32 ((Crc.stpN 32 (P * 2 ^ K) 8 c : Nat) : Int)) ∧ Below w.heap.size w w' := by
 have hu24 := Try.underlying24
 have hu55 := Try.underlying65
 have HB := Aside0.mk (Below.refl w.heap.size w)
 have HK := Aside0.mk hK
 have HC := Aside0.mk hc
 have hPK : P * 2 ^ K < 4294967296 := by
  have : P * 2 ^ K < 2 ^ W * 2 ^ K := Nat.mul_lt_mul_of_pos_right hP (Nat.pow_pos (by omega))
  rwa [← Nat.pow_add, hK] at this
 have hP32 : P < 4294967296 := Nat.lt_of_lt_of_le hP (show 2 ^ W ≤ 2 ^ 32 from Nat.pow_le_pow_right (by omega) (by omega))
 have hmod : P * 2 ^ K % 4294967296 = P * 2 ^ K := Nat.mod_eq_of_lt hPK
 obtain ⟨Q, hQ⟩ : ∃ Q, Q = P * 2 ^ K := ⟨_, rfl⟩
 rw [← hQ] at hPK hmod ⊢
 have HQ := Aside0.mk hQ
 have HPK := Aside0.mk hPK
 have HP := Aside0.mk hP32
 have HM := Aside0.mk hmod
 obtain ⟨r, hr⟩ : ∃ r, r = Crc.stpN 32 Q 8 c := ⟨_, rfl⟩
 rw [← hr]
 have HR := Aside0.mk hr
 clear hK hc hP hPK hP32 hmod hQ hr
 go_enter Try.func38, Try.ntmps38
 go_wp2_with (first | ((with_reducible refine gate_dst (N := 2) rfl ?_); refine box_event ?hg (N := 2) ?hd (cs := #[.int .i64 (W : Int), .int .u32 P, .int .u32 I, .int .u32 O, .bool R, .func (.func n1) #[] cp1, .func (.func n2) #[] cp2, .func (.func n3) #[] cp3]) (t := 65) ?hr ?_; (case hd => rfl); (case hg => rfl); (case hr => first | (go_simp; done) | (go_simp; rfl)); intro g hg_ wg hbox_ hb_; have n0_ := Aside0.mk (below_step HB.out hb_); have n1_ := Aside0.mk hbox_; have n2_ := Aside0.mk ((by rw [hg_]; exact below_size HB.out) : w.heap.size ≤ g); clear HB; have HB := n0_; have BKg := n1_; have GEg := n2_; clear n0_ n1_ n2_; clear hb_ hbox_ hg_; have hcg_0 : wg.cell? ⟨g, 0, none⟩ = some (.int .i64 (W : Int)) := (blk_cell BKg.out 0).trans rfl; have hfg_0 := blk_frozen BKg.out 0; have hcg_1 : wg.cell? ⟨g, 1, none⟩ = some (.int .u32 P) := (blk_cell BKg.out 1).trans rfl; have hfg_1 := blk_frozen BKg.out 1; have hcg_2 : wg.cell? ⟨g, 2, none⟩ = some (.int .u32 I) := (blk_cell BKg.out 2).trans rfl; have hfg_2 := blk_frozen BKg.out 2; have hcg_3 : wg.cell? ⟨g, 3, none⟩ = some (.int .u32 O) := (blk_cell BKg.out 3).trans rfl; have hfg_3 := blk_frozen BKg.out 3; have hcg_4 : wg.cell? ⟨g, 4, none⟩ = some (.bool R) := (blk_cell BKg.out 4).trans rfl; have hfg_4 := blk_frozen BKg.out 4; have hcg_5 : wg.cell? ⟨g, 5, none⟩ = some (.func (.func n1) #[] cp1) := (blk_cell BKg.out 5).trans rfl; have hfg_5 := blk_frozen BKg.out 5; have hcg_6 : wg.cell? ⟨g, 6, none⟩ = some (.func (.func n2) #[] cp2) := (blk_cell BKg.out 6).trans rfl; have hfg_6 := blk_frozen BKg.out 6; have hcg_7 : wg.cell? ⟨g, 7, none⟩ = some (.func (.func n3) #[] cp3) := (blk_cell BKg.out 7).trans rfl; have hfg_7 := blk_frozen BKg.out 7) | (go_at_call 32; refine (crc_high_calls W K P n1 n2 n3 _ _ _ _ _ _ _ _ HK.out HP.out).mono ?_; rintro e w1 ⟨rfl, hb⟩; rw [← HQ.out, HM.out]; have n0_ := Aside0.mk (below_step HB.out hb); clear HB; have HB := n0_; clear n0_ hb))
 go_loopg [1, 11] 8 (fun kq v1 v11 w' => ∃ (x : Nat), v1 = .int .u32 (x : Int) ∧ v11 = .int .i64 ((8 - kq : Nat) : Int) ∧ Aside0 (kq ≤ 8) ∧ Aside0 (x < 4294967296) ∧ Aside0 (r = Crc.stpN 32 Q kq x) ∧ Aside0 (Below w.heap.size w w'))
 case atStart => exact ⟨c, rfl, rfl, ⟨by omega⟩, HC, HR, HB⟩
 case round =>
  clear HC HR HB
  obtain ⟨x, rfl, rfl, HL, HC, HR, HB⟩ := hrel
  cases gk with
  | zero =>
   have hj : decide (((8 - 0 : Nat) : Int) < 8) = false := by decide
   have e := HR.out
   simp only [Crc.stpN] at e
   subst e
   go_wp2
   go_ret
   exact ⟨rfl, HB.out⟩
  | succ k1 =>
   have hj : decide (((8 - (k1 + 1) : Nat) : Int) < 8) = true := decide_eq_true (by omega)
   have hj2 : ((8 - (k1 + 1) : Nat) : Int) ≤ 8 := by omega
   have hj3 : (0 : Int) ≤ ((8 - (k1 + 1) : Nat) : Int) := by omega
   have e1 : (x : Int) * 2 % 4294967296 = ((2 * x % 2 ^ 32 : Nat) : Int) := by
    rw [Nat.mul_comm]; simp
   have e2 : (x : Int) / 2147483648 = ((x / 2147483648 : Nat) : Int) := by simp
   have hx2 : x / 2147483648 < 2 := by have := HC.out; omega
   have hlt : 2 * x % 2 ^ 32 < 4294967296 := Nat.mod_lt _ (by omega)
   have E1 := Aside0.mk e1
   have HLT := Aside0.mk hlt
   by_cases hb : x / 2147483648 = 1
   ·have ht : ((x : Int) / 2147483648 == 1) = true := by rw [e2, hb]; rfl
    have hs : Crc.stp 32 Q x = (2 * x % 2 ^ 32) ^^^ Q := by
     unfold Crc.stp
     rw [if_pos]
     rw [Nat.testBit_eq_decide_div_mod_eq, show 2 ^ (32 - 1) = 2147483648 from rfl, hb]
     rfl
    have HS := Aside0.mk hs
    clear e1 e2 hx2 hlt hb hs
    go_wp2
    go_roundg k1
    case measure => omega
    case rel => exact ⟨Crc.stp 32 Q x, congrArg (Value.int .u32) (by rw [E1.out, Crc.bxor32 _ _ HLT.out HPK.out, HS.out]), congrArg (Value.int .i64) (by have := HL.out; first | omega | (unfold wrap64; omega)), ⟨by have := HL.out; omega⟩, ⟨by rw [HS.out]; exact Nat.xor_lt_two_pow (n := 32) HLT.out HPK.out⟩, ⟨HR.out⟩, HB⟩
   ·have ht : ((x : Int) / 2147483648 == 1) = false := by rw [e2]; exact beq_eq_false_iff_ne.2 (by omega)
    have hs : Crc.stp 32 Q x = 2 * x % 2 ^ 32 := by
     unfold Crc.stp
     rw [if_neg]
     rw [Nat.testBit_eq_decide_div_mod_eq, show 2 ^ (32 - 1) = 2147483648 from rfl, show x / 2147483648 = 0 by omega]
     decide
    have HS := Aside0.mk hs
    clear e1 e2 hx2 hlt hb hs
    go_wp2
    go_roundg k1
    case measure => omega
    case rel => exact ⟨Crc.stp 32 Q x, congrArg (Value.int .u32) (by rw [E1.out, HS.out]), congrArg (Value.int .i64) (by have := HL.out; first | omega | (unfold wrap64; omega)), ⟨by have := HL.out; omega⟩, ⟨by rw [HS.out]; exact HLT.out⟩, ⟨HR.out⟩, HB⟩
set_option maxHeartbeats 8000000 in
set_option maxRecDepth 100000 in
theorem crc_lay3_calls (q m x : Nat) (w : World) (hx : x < 4294967296) (hm : m ≤ 4) (hq : w.heap[q]? = some (.cells #[.int .i64 (m : Int)] 3 (0, 0))) :
  Calls Try.prog 43 #[.int .u32 (x : Int), .pointer (some ⟨q, 0, none⟩)] w fun e w' => ∃ v0_ : Value, e = .returned v0_ ∧ Kd.R (Kd.int .u8) 5 w' w.heap.size (fun _ => True) v0_ ((Crc.layl false m x).map (fun n : Nat => (n : Int))) ∧ Below w.heap.size w w' := by
 have hc : w.cell? ⟨q, 0, none⟩ = some (.int .i64 (m : Int)) := (blk_cell hq 0).trans rfl
 have HC := Aside0.mk hc
 have HX := Aside0.mk hx
 have HM := Aside0.mk hm
 have hl0 : (0 : Int) ≤ (m : Int) := by omega
 clear hx hm hq
 go_enter Try.func43, Try.ntmps43
 go_wp2_with (first | ((with_reducible refine gate_dst (N := 7) rfl ?_); refine Kd.R_make (Kd.int .u8) _ 5 rfl (N := 7) rfl 25 _ _ rfl (m : Int) rfl rfl Try.underlying25 (.int .u8 0) 1 info5 rfl (by decide) (by omega) 0 (ok := fun _ => True) (okp := fun _ => True) rfl (fun _ hk => hk) trivial hl0 (by have := HM.out; omega) (Below.refl _ _) (Nat.le_refl _) ?_; intro v220 w7 ho8 hb hg_ hnew_; clear hg_ hnew_; rw [Int.toNat_natCast] at ho8; have HO := Aside0.mk ho8; have HB := Aside0.mk hb; have hc7 := (hb.cell (World.block_lt_of_cell? w _ HC.out)).trans HC.out; clear hb ho8; obtain ⟨Ao9, co9, eo9⟩ := Kd.R_slice HO.out; subst eo9; have hlr : (List.replicate m (0 : Int)).length = m := List.length_replicate; rw [hlr] at HO))
 go_loopg [9] m (fun kq v9 w' => ∃ (out : List Int) (i : Nat), v9 = .int .i64 (i : Int) ∧ Aside0 (i + kq = m) ∧ Aside0 (out.length = m) ∧ Aside0 (∀ j, j < i → out.getD j 0 = (Crc.layc false m x j : Nat)) ∧ Aside0 (Kd.R (Kd.int .u8) 5 w' w.heap.size (fun _ => True) (.slice Ao9 m co9) out) ∧ Aside0 (Below w.heap.size w w'))
 case atStart => exact ⟨List.replicate m 0, 0, rfl, ⟨by omega⟩, ⟨hlr⟩, ⟨fun j hj => by omega⟩, HO, HB⟩
 case round =>
  clear HO HB
  obtain ⟨out, i, rfl, HI, HN, HS, HO, HB⟩ := hrel
  cases gk with
  | zero =>
   have hj : decide (i < m) = false := decide_eq_false (by have := HI.out; omega)
   have e : out = (Crc.layl false m x).map (fun n : Nat => (n : Int)) := Crc.lay_done HN.out (fun j hj => HS.out j (by have := HI.out; omega))
   subst e
   go_wp2
   go_ret
   exact ⟨_, rfl, HO.out, HB.out⟩
  | succ k1 =>
   have hj : decide (i < m) = true := decide_eq_true (by have := HI.out; omega)
   have ti : (i < m) = True := eq_true (of_decide_eq_true hj)
   have hc2 := (HB.out.cell (World.block_lt_of_cell? w _ HC.out)).trans HC.out
   have HIM := Aside0.mk (of_decide_eq_true hj)
   have k1_ : (i : Int) + 1 ≤ (m : Int) := by have := HIM.out; omega
   have k2_ : (m : Int) ≤ 4 := by have := HM.out; omega
   have HON := HO.out
   rw [← HN.out] at HON
   obtain ⟨go, co, eo, gb, gb2, cl, hgb⟩ := Kd.R_form HON (by have := HN.out; have := HIM.out; omega)
   injection eo with ea en ec
   subst ea ec
   clear hgb gb2 gb HON en cl
   obtain ⟨hc9, hf9⟩ := Kd.R_celln 0 HO.out (i : Int) (by omega) (by have := HN.out; have := HIM.out; omega)
   rw [Int.toNat_natCast] at hc9 hf9
   go_wp2
   go_roundg k1
   case measure => omega
   case rel =>
    have HON := HO.out
    rw [← HN.out] at HON
    obtain ⟨go', co', eo', gb', _, cl', hgb⟩ := Kd.R_form HON (by have := HN.out; have := HIM.out; omega)
    injection eo' with ea' _ _
    injection ea' with ea'
    injection ea' with ea'
    subst ea'
    have hp := Kd.R_putn HO.out (i : Int) ((Crc.layc false m x i : Nat) : Int)
    rw [Int.toNat_natCast] at hp
    have ev : (x : Int) / 2 ^ (8 * (m - 1 - i)) % 256 = ((Crc.layc false m x i : Nat) : Int) := by simp [Crc.layc]
    refine ⟨out.set i ((Crc.layc false m x i : Nat) : Int), i + 1, congrArg (Value.int .i64) (by first | omega | (unfold wrap64; omega)), ⟨by have := HI.out; omega⟩, ⟨by rw [List.length_set]; exact HN.out⟩, ⟨Crc.lay_step (by have := HN.out; have := HIM.out; omega) HS.out⟩, ⟨?_⟩, ⟨HB.out.setCell gb' _⟩⟩
    rw [← ev] at hp ⊢
    exact hp
set_option maxHeartbeats 8000000 in
set_option maxRecDepth 100000 in
theorem crc_lay5_calls (q m x : Nat) (w : World) (hx : x < 4294967296) (hm : m ≤ 4) (hq : w.heap[q]? = some (.cells #[.int .i64 (m : Int)] 3 (0, 0))) :
  Calls Try.prog 47 #[.int .u32 (x : Int), .pointer (some ⟨q, 0, none⟩)] w fun e w' => ∃ v0_ : Value, e = .returned v0_ ∧ Kd.R (Kd.int .u8) 5 w' w.heap.size (fun _ => True) v0_ ((Crc.layl true m x).map (fun n : Nat => (n : Int))) ∧ Below w.heap.size w w' := by
 have hc : w.cell? ⟨q, 0, none⟩ = some (.int .i64 (m : Int)) := (blk_cell hq 0).trans rfl
 have HC := Aside0.mk hc
 have HX := Aside0.mk hx
 have HM := Aside0.mk hm
 have hl0 : (0 : Int) ≤ (m : Int) := by omega
 clear hx hm hq
 go_enter Try.func47, Try.ntmps47
 go_wp2_with (first | ((with_reducible refine gate_dst (N := 7) rfl ?_); refine Kd.R_make (Kd.int .u8) _ 5 rfl (N := 7) rfl 25 _ _ rfl (m : Int) rfl rfl Try.underlying25 (.int .u8 0) 1 info5 rfl (by decide) (by omega) 0 (ok := fun _ => True) (okp := fun _ => True) rfl (fun _ hk => hk) trivial hl0 (by have := HM.out; omega) (Below.refl _ _) (Nat.le_refl _) ?_; intro v220 w7 ho8 hb hg_ hnew_; clear hg_ hnew_; rw [Int.toNat_natCast] at ho8; have HO := Aside0.mk ho8; have HB := Aside0.mk hb; have hc7 := (hb.cell (World.block_lt_of_cell? w _ HC.out)).trans HC.out; clear hb ho8; obtain ⟨Ao9, co9, eo9⟩ := Kd.R_slice HO.out; subst eo9; have hlr : (List.replicate m (0 : Int)).length = m := List.length_replicate; rw [hlr] at HO))
 go_loopg [9] m (fun kq v9 w' => ∃ (out : List Int) (i : Nat), v9 = .int .i64 (i : Int) ∧ Aside0 (i + kq = m) ∧ Aside0 (out.length = m) ∧ Aside0 (∀ j, j < i → out.getD j 0 = (Crc.layc true m x j : Nat)) ∧ Aside0 (Kd.R (Kd.int .u8) 5 w' w.heap.size (fun _ => True) (.slice Ao9 m co9) out) ∧ Aside0 (Below w.heap.size w w'))
 case atStart => exact ⟨List.replicate m 0, 0, rfl, ⟨by omega⟩, ⟨hlr⟩, ⟨fun j hj => by omega⟩, HO, HB⟩
 case round =>
  clear HO HB
  obtain ⟨out, i, rfl, HI, HN, HS, HO, HB⟩ := hrel
  cases gk with
  | zero =>
   have hj : decide (i < m) = false := decide_eq_false (by have := HI.out; omega)
   have e : out = (Crc.layl true m x).map (fun n : Nat => (n : Int)) := Crc.lay_done HN.out (fun j hj => HS.out j (by have := HI.out; omega))
   subst e
   go_wp2
   go_ret
   exact ⟨_, rfl, HO.out, HB.out⟩
  | succ k1 =>
   have hj : decide (i < m) = true := decide_eq_true (by have := HI.out; omega)
   have ti : (i < m) = True := eq_true (of_decide_eq_true hj)
   have hc2 := (HB.out.cell (World.block_lt_of_cell? w _ HC.out)).trans HC.out
   have HIM := Aside0.mk (of_decide_eq_true hj)
   have k1_ : (i : Int) + 1 ≤ (m : Int) := by have := HIM.out; omega
   have k2_ : (m : Int) ≤ 4 := by have := HM.out; omega
   have HON := HO.out
   rw [← HN.out] at HON
   obtain ⟨go, co, eo, gb, gb2, cl, hgb⟩ := Kd.R_form HON (by have := HN.out; have := HIM.out; omega)
   injection eo with ea en ec
   subst ea ec
   clear hgb gb2 gb HON en cl
   obtain ⟨hc9, hf9⟩ := Kd.R_celln 0 HO.out (i : Int) (by omega) (by have := HN.out; have := HIM.out; omega)
   rw [Int.toNat_natCast] at hc9 hf9
   go_wp2
   go_roundg k1
   case measure => omega
   case rel =>
    have HON := HO.out
    rw [← HN.out] at HON
    obtain ⟨go', co', eo', gb', _, cl', hgb⟩ := Kd.R_form HON (by have := HN.out; have := HIM.out; omega)
    injection eo' with ea' _ _
    injection ea' with ea'
    injection ea' with ea'
    subst ea'
    have hp := Kd.R_putn HO.out (i : Int) ((Crc.layc true m x i : Nat) : Int)
    rw [Int.toNat_natCast] at hp
    have ev : (x : Int) / 2 ^ (8 * i) % 256 = ((Crc.layc true m x i : Nat) : Int) := by simp [Crc.layc]
    refine ⟨out.set i ((Crc.layc true m x i : Nat) : Int), i + 1, congrArg (Value.int .i64) (by first | omega | (unfold wrap64; omega)), ⟨by have := HI.out; omega⟩, ⟨by rw [List.length_set]; exact HN.out⟩, ⟨Crc.lay_step (by have := HN.out; have := HIM.out; omega) HS.out⟩, ⟨?_⟩, ⟨HB.out.setCell gb' _⟩⟩
    rw [← ev] at hp ⊢
    exact hp
theorem crc_store_nilFunc {P : Program} {w : World} {a : Addr} {m : Mode} : (store a .nilFunc m).run P w = stored P w a .nilFunc m := run_store P w a _ m rfl
theorem crc_store_func {P : Program} {w : World} {a : Addr} {m : Mode} (fn : Fn) (first captured : Array Value) : (store a (.func fn first captured) m).run P w = stored P w a (.func fn first captured) m := run_store P w a _ m rfl
attribute [local go_sem] crc_store_nilFunc crc_store_func
/-- The ways of a spec, as the functions have them: p: where the spec lies that one of them holds; q: where the number of the sum's bytes lies. -/
def crc_wv (W P I O : Int) (R : Bool) (p q : Nat) : Array Value :=
 if R then #[.int .i64 W, .int .u32 P, .int .u32 I, .int .u32 O, .bool true, .func (.func 44) #[] #[], .func (.func 45) #[] #[.pointer (some ⟨p, 0, none⟩)], .func (.func 47) #[] #[.pointer (some ⟨q, 0, none⟩)]]
 else #[.int .i64 W, .int .u32 P, .int .u32 I, .int .u32 O, .bool false, .func (.func 41) #[] #[], .func (.func 42) #[] #[], .func (.func 43) #[] #[.pointer (some ⟨q, 0, none⟩)]]
def crc_Held (W : Nat) (P I O : Int) (R : Bool) (p q : Nat) (w : World) : Prop :=
 w.heap[p]? = some (.cells #[.int .i64 (W : Int), .int .u32 P, .int .u32 I, .int .u32 O, .bool R] 24 (0, 0)) ∧ w.heap[q]? = some (.cells #[.int .i64 ((W / 8 : Nat) : Int)] 3 (0, 0))
theorem crc_Held.later {W : Nat} {P I O : Int} {R : Bool} {p q : Nat} {w w' : World} (h : crc_Held W P I O R p q w) (hb : Below w.heap.size w w') : crc_Held W P I O R p q w' := ⟨blk_below h.1 hb, blk_below h.2 hb⟩
def crc_Fit (W : Nat) (P I O : Int) (R : Bool) (w : World) (e : Ending) (w' : World) : Prop :=
 ∃ p q, e = .returned (.agg (crc_wv W P I O R p q)) ∧ crc_Held W P I O R p q w' ∧ Below w.heap.size w w'
theorem crc_new_at {w : World} {o o' : Obj} {n : Nat} (h : n = w.heap.size) (e : o = o') : (w.alloc o).heap[n]? = some o' := by subst h e; exact blk_new w o
set_option maxHeartbeats 8000000 in
set_option maxRecDepth 100000 in
theorem crc_fit_plain (W : Nat) (P I O : Int) (w : World) (hW : W ≤ 32) :
  Calls Try.prog 26 #[.agg #[.int .i64 (W : Int), .int .u32 P, .int .u32 I, .int .u32 O, .bool false]] w (crc_Fit W P I O false w) := by
 have hu24 := Try.underlying24
 have hu55 := Try.underlying65
 have hw1 : (W : Int) ≤ 32 := by omega
 have hmf : ∀ (fn : Fn) (first cap : Array Value) (w : World), (Instr.makeFunc fn first cap).run Try.prog w = .ok (.func fn first cap) w := fun _ _ _ _ => rfl
 clear hW
 go_enter Try.func26, Try.ntmps26
 go_wp2
 refine bodyPost_ret (v := .agg (crc_wv W P I O false w.heap.size (w.heap.size + 3))) (by simp [results, Try.results26, go_sem, crc_wv]) rfl ?_
 refine ⟨w.heap.size, w.heap.size + 3, rfl, ⟨blk_alloc (blk_alloc (blk_alloc (blk_new w _) _) _) _, ?_⟩, ?_⟩
 ·refine crc_new_at ?_ rfl
  show w.heap.size + 3 = (((w.heap.push _).push _).push _).size
  simp only [Array.size_push]
 ·repeat (first | exact Below.refl _ _ | apply below_alloc)
set_option maxHeartbeats 8000000 in
set_option maxRecDepth 100000 in
theorem crc_fit_refl (W : Nat) (P I O : Int) (w : World) (hW : W ≤ 32) :
  Calls Try.prog 26 #[.agg #[.int .i64 (W : Int), .int .u32 P, .int .u32 I, .int .u32 O, .bool true]] w (crc_Fit W P I O true w) := by
 have hu24 := Try.underlying24
 have hu55 := Try.underlying65
 have hw1 : (W : Int) ≤ 32 := by omega
 have hmf : ∀ (fn : Fn) (first cap : Array Value) (w : World), (Instr.makeFunc fn first cap).run Try.prog w = .ok (.func fn first cap) w := fun _ _ _ _ => rfl
 clear hW
 go_enter Try.func26, Try.ntmps26
 go_wp2
 refine bodyPost_ret (v := .agg (crc_wv W P I O true w.heap.size (w.heap.size + 3))) (by simp [results, Try.results26, go_sem, crc_wv]) rfl ?_
 refine ⟨w.heap.size, w.heap.size + 3, rfl, ⟨blk_alloc (blk_alloc (blk_alloc (blk_new w _) _) _) _, ?_⟩, ?_⟩
 ·refine crc_new_at ?_ rfl
  show w.heap.size + 3 = (((w.heap.push _).push _).push _).size
  simp only [Array.size_push]
 ·repeat (first | exact Below.refl _ _ | apply below_alloc)
set_option maxHeartbeats 8000000 in
set_option maxRecDepth 100000 in
theorem crc_told_plain (W K x O p q : Nat) (P I : Int) (w : World) (hK : W + K = 32) (hx : x < 2 ^ W) (hO : O < 4294967296) (hh : crc_Held W P I (O : Int) false p q w) :
  Calls Try.prog 37 #[.agg (crc_wv W P I (O : Int) false p q), .int .u32 ((x * 2 ^ K : Nat) : Int)] w fun e w' => e = .returned (.int .u32 ((Crc.turn false W x ^^^ O : Nat) : Int)) ∧ Below w.heap.size w w' := by
 have hu24 := Try.underlying24
 have hu55 := Try.underlying65
 have HB := Aside0.mk (Below.refl w.heap.size w)
 have HH := Aside0.mk hh
 have HK := Aside0.mk hK
 have hx32 : x < 4294967296 := Nat.lt_of_lt_of_le hx (show 2 ^ W ≤ 2 ^ 32 from Nat.pow_le_pow_right (by omega) (by omega))
 have hdiv : x * 2 ^ K / 2 ^ (32 - W) = x := by rw [show 32 - W = K by omega]; exact Nat.mul_div_cancel _ (Nat.pow_pos (by omega))
 have HX := Aside0.mk hx32
 have HO := Aside0.mk hO
 have HT := Aside0.mk (Nat.lt_of_lt_of_le (Crc.turn_lt (R := false) hx) (show 2 ^ W ≤ 2 ^ 32 from Nat.pow_le_pow_right (by omega) (by omega)))
 have k1 : (0 : Int) ≤ 32 - (W : Int) := by omega
 have k3 : IntKind.i64.wrap (32 - (W : Int)) = 32 - (W : Int) := IntWalk.i64_in _ (by omega)
 obtain ⟨c, hc⟩ : ∃ c, c = x * 2 ^ K := ⟨_, rfl⟩
 rw [← hc] at hdiv ⊢
 have hd : (c : Int) / 2 ^ (32 - W) = (x : Int) := by
  have e : ((c / 2 ^ (32 - W) : Nat) : Int) = (x : Int) := by rw [hdiv]
  rw [← e]
  simp
 clear hK hx hO hh hx32 hdiv hc
 simp only [crc_wv, if_true, if_false, Bool.false_eq_true]
 go_enter Try.func37, Try.ntmps37
 go_wp2_with (first | ((with_reducible refine gate_dst (N := 2) rfl ?_); refine box_event ?hg (N := 2) ?hd (cs := #[.int .i64 (W : Int), .int .u32 P, .int .u32 I, .int .u32 (O : Int), .bool false, .func (.func 41) #[] #[], .func (.func 42) #[] #[], .func (.func 43) #[] #[.pointer (some ⟨q, 0, none⟩)]]) (t := 65) ?hr ?_; (case hd => rfl); (case hg => rfl); (case hr => first | (go_simp; done) | (go_simp; rfl)); intro g hg_ wg hbox_ hb_; have n0_ := Aside0.mk (below_step HB.out hb_); have n1_ := Aside0.mk hbox_; have n2_ := Aside0.mk ((by rw [hg_]; exact below_size HB.out) : w.heap.size ≤ g); clear HB; have HB := n0_; have BKg := n1_; have GEg := n2_; clear n0_ n1_ n2_; clear hb_ hbox_ hg_; have hcg_0 : wg.cell? ⟨g, 0, none⟩ = some (.int .i64 (W : Int)) := (blk_cell BKg.out 0).trans rfl; have hfg_0 := blk_frozen BKg.out 0; have hcg_1 : wg.cell? ⟨g, 1, none⟩ = some (.int .u32 P) := (blk_cell BKg.out 1).trans rfl; have hfg_1 := blk_frozen BKg.out 1; have hcg_2 : wg.cell? ⟨g, 2, none⟩ = some (.int .u32 I) := (blk_cell BKg.out 2).trans rfl; have hfg_2 := blk_frozen BKg.out 2; have hcg_3 : wg.cell? ⟨g, 3, none⟩ = some (.int .u32 (O : Int)) := (blk_cell BKg.out 3).trans rfl; have hfg_3 := blk_frozen BKg.out 3; have hcg_4 : wg.cell? ⟨g, 4, none⟩ = some (.bool false) := (blk_cell BKg.out 4).trans rfl; have hfg_4 := blk_frozen BKg.out 4; have hcg_5 : wg.cell? ⟨g, 5, none⟩ = some (.func (.func 41) #[] #[]) := (blk_cell BKg.out 5).trans rfl; have hfg_5 := blk_frozen BKg.out 5; have hcg_6 : wg.cell? ⟨g, 6, none⟩ = some (.func (.func 42) #[] #[]) := (blk_cell BKg.out 6).trans rfl; have hfg_6 := blk_frozen BKg.out 6; have hcg_7 : wg.cell? ⟨g, 7, none⟩ = some (.func (.func 43) #[] #[.pointer (some ⟨q, 0, none⟩)]) := (blk_cell BKg.out 7).trans rfl; have hfg_7 := blk_frozen BKg.out 7))
 go_quiet ((go_at_call 42; exact Calls.quiet_of_same ((crc_fit2_calls _ _).mono fun e w' h => ⟨h.1, h.2.symm⟩)))
 go_wp2
 go_ret
 exact ⟨congrArg (fun z => Ending.returned (Value.int .u32 z)) (by (try rw [hd]); exact Crc.bxor32 _ _ HT.out HO.out), by repeat (first | exact HB.out | apply pw_below_drewN)⟩
set_option maxHeartbeats 8000000 in
set_option maxRecDepth 100000 in
theorem crc_told_refl (W K x O p q : Nat) (P I : Int) (w : World) (hK : W + K = 32) (hx : x < 2 ^ W) (hO : O < 4294967296) (hh : crc_Held W P I (O : Int) true p q w) :
  Calls Try.prog 37 #[.agg (crc_wv W P I (O : Int) true p q), .int .u32 ((x * 2 ^ K : Nat) : Int)] w fun e w' => e = .returned (.int .u32 ((Crc.turn true W x ^^^ O : Nat) : Int)) ∧ Below w.heap.size w w' := by
 have hu24 := Try.underlying24
 have hu55 := Try.underlying65
 have HB := Aside0.mk (Below.refl w.heap.size w)
 have HH := Aside0.mk hh
 have HK := Aside0.mk hK
 have hx32 : x < 4294967296 := Nat.lt_of_lt_of_le hx (show 2 ^ W ≤ 2 ^ 32 from Nat.pow_le_pow_right (by omega) (by omega))
 have hdiv : x * 2 ^ K / 2 ^ (32 - W) = x := by rw [show 32 - W = K by omega]; exact Nat.mul_div_cancel _ (Nat.pow_pos (by omega))
 have HX := Aside0.mk hx32
 have HO := Aside0.mk hO
 have HT := Aside0.mk (Nat.lt_of_lt_of_le (Crc.turn_lt (R := true) hx) (show 2 ^ W ≤ 2 ^ 32 from Nat.pow_le_pow_right (by omega) (by omega)))
 have k1 : (0 : Int) ≤ 32 - (W : Int) := by omega
 have k3 : IntKind.i64.wrap (32 - (W : Int)) = 32 - (W : Int) := IntWalk.i64_in _ (by omega)
 obtain ⟨c, hc⟩ : ∃ c, c = x * 2 ^ K := ⟨_, rfl⟩
 rw [← hc] at hdiv ⊢
 have hd : (c : Int) / 2 ^ (32 - W) = (x : Int) := by
  have e : ((c / 2 ^ (32 - W) : Nat) : Int) = (x : Int) := by rw [hdiv]
  rw [← e]
  simp
 clear hK hx hO hh hx32 hdiv hc
 simp only [crc_wv, if_true, if_false, Bool.false_eq_true]
 go_enter Try.func37, Try.ntmps37
 go_wp2_with (first | ((with_reducible refine gate_dst (N := 2) rfl ?_); refine box_event ?hg (N := 2) ?hd (cs := #[.int .i64 (W : Int), .int .u32 P, .int .u32 I, .int .u32 (O : Int), .bool true, .func (.func 44) #[] #[], .func (.func 45) #[] #[.pointer (some ⟨p, 0, none⟩)], .func (.func 47) #[] #[.pointer (some ⟨q, 0, none⟩)]]) (t := 65) ?hr ?_; (case hd => rfl); (case hg => rfl); (case hr => first | (go_simp; done) | (go_simp; rfl)); intro g hg_ wg hbox_ hb_; have n0_ := Aside0.mk (below_step HB.out hb_); have n1_ := Aside0.mk hbox_; have n2_ := Aside0.mk ((by rw [hg_]; exact below_size HB.out) : w.heap.size ≤ g); clear HB; have HB := n0_; have BKg := n1_; have GEg := n2_; clear n0_ n1_ n2_; clear hb_ hbox_ hg_; have hcg_0 : wg.cell? ⟨g, 0, none⟩ = some (.int .i64 (W : Int)) := (blk_cell BKg.out 0).trans rfl; have hfg_0 := blk_frozen BKg.out 0; have hcg_1 : wg.cell? ⟨g, 1, none⟩ = some (.int .u32 P) := (blk_cell BKg.out 1).trans rfl; have hfg_1 := blk_frozen BKg.out 1; have hcg_2 : wg.cell? ⟨g, 2, none⟩ = some (.int .u32 I) := (blk_cell BKg.out 2).trans rfl; have hfg_2 := blk_frozen BKg.out 2; have hcg_3 : wg.cell? ⟨g, 3, none⟩ = some (.int .u32 (O : Int)) := (blk_cell BKg.out 3).trans rfl; have hfg_3 := blk_frozen BKg.out 3; have hcg_4 : wg.cell? ⟨g, 4, none⟩ = some (.bool true) := (blk_cell BKg.out 4).trans rfl; have hfg_4 := blk_frozen BKg.out 4; have hcg_5 : wg.cell? ⟨g, 5, none⟩ = some (.func (.func 44) #[] #[]) := (blk_cell BKg.out 5).trans rfl; have hfg_5 := blk_frozen BKg.out 5; have hcg_6 : wg.cell? ⟨g, 6, none⟩ = some (.func (.func 45) #[] #[.pointer (some ⟨p, 0, none⟩)]) := (blk_cell BKg.out 6).trans rfl; have hfg_6 := blk_frozen BKg.out 6; have hcg_7 : wg.cell? ⟨g, 7, none⟩ = some (.func (.func 47) #[] #[.pointer (some ⟨q, 0, none⟩)]) := (blk_cell BKg.out 7).trans rfl; have hfg_7 := blk_frozen BKg.out 7))
 have HL := Aside0.mk (HH.out.later HB.out)
 go_quiet ((go_at_call 45; (try rw [hd]); exact Calls.quiet_of (crc_fit4_calls p W K x P I (O : Int) true _ HX.out HK.out (blk_drewN HL.out.1 _))))
 go_wp2
 go_ret
 exact ⟨congrArg (fun z => Ending.returned (Value.int .u32 z)) (by rw [show ((Crc.rev x 32 : Nat) : Int) / 2 ^ K = ((Crc.rev x W : Nat) : Int) by rw [← Crc.rev_up x W K 32 HK.out]; simp]; exact Crc.bxor32 _ _ HT.out HO.out), by repeat (first | exact HB.out | apply pw_below_drewN)⟩

/-! ### crc_Check: function 27 -/
def crc_Check.j0 : Nat → Bool → Int → Int → Int → Int → Bool → Option (Int)
 | 0, _, _, _, _, _, _ => none
 | k + 1, x6, x104000, x104001, x104002, x104003, x104004 => if x6 = true then (if 0 ≤ (wrap64 (32 - x104000)) then (if x104001 > (shr .u32 4294967295 (wrap64 (32 - x104000))) then (some 30) else (if x104002 > (shr .u32 4294967295 (wrap64 (32 - x104000))) then (some 30) else (if x104003 > (shr .u32 4294967295 (wrap64 (32 - x104000))) then (some 30) else (if (Int.tmod x104001 2) = 0 then (some 30) else (some 0))))) else (none)) else (some 30)
def crc_Check.f (k : Nat) (a0_0 : Int) (a0_1 : Int) (a0_2 : Int) (a0_3 : Int) (a0_4 : Bool) : Option (Int) := if a0_0 = 8 then (crc_Check.j0 k (a0_0 == 8) a0_0 a0_1 a0_2 a0_3 a0_4) else (if a0_0 = 16 then (crc_Check.j0 k (a0_0 == 16) a0_0 a0_1 a0_2 a0_3 a0_4) else (if a0_0 = 24 then (crc_Check.j0 k (a0_0 == 24) a0_0 a0_1 a0_2 a0_3 a0_4) else (crc_Check.j0 k (a0_0 == 32) a0_0 a0_1 a0_2 a0_3 a0_4)))
theorem crc_Check.mono_l : ∀ k, (∀ y0 y1 y2 y3 y4 y5, LeO (crc_Check.j0 k y0 y1 y2 y3 y4 y5) (crc_Check.j0 (k + 1) y0 y1 y2 y3 y4 y5))
 | 0 => fun _ _ _ _ _ _ r h => by simp [crc_Check.j0] at h
 | k + 1 => by
  have ih0 := crc_Check.mono_l k
  ·intro y0 y1 y2 y3 y4 y5
   unfold crc_Check.j0
   repeat' first
   | (with_reducible exact ih0 _ _ _ _ _ _)
   | (with_reducible exact LeO.refl _)
   | (with_reducible exact LeO.none _)
   | (with_reducible refine LeO.ite ?_ ?_)
   | (with_reducible refine LeO.bind ?_ (fun _ => ?_))
   | exact ih0 _ _ _ _ _ _
   | exact LeO.none _
   | refine LeO.ite ?_ ?_
   | refine LeO.bind ?_ (fun _ => ?_)
theorem crc_Check.mono : ∀ a0 a1 a2 a3 a4 k, LeO (crc_Check.f k a0 a1 a2 a3 a4) (crc_Check.f (k + 1) a0 a1 a2 a3 a4) := by
 intro a0 a1 a2 a3 a4 k
 have ih0 := crc_Check.mono_l k
 unfold crc_Check.f
 repeat' first
   | (with_reducible exact ih0 _ _ _ _ _ _)
   | (with_reducible exact LeO.refl _)
   | (with_reducible exact LeO.none _)
   | (with_reducible refine LeO.ite ?_ ?_)
   | (with_reducible refine LeO.bind ?_ (fun _ => ?_))
   | exact ih0 _ _ _ _ _ _
   | exact LeO.none _
   | refine LeO.ite ?_ ?_
   | refine LeO.bind ?_ (fun _ => ?_)
set_option maxHeartbeats 8000000 in
set_option maxRecDepth 100000 in
theorem crc_Check.calls (k : Nat) (a0_0 : Int) (a0_1 : Int) (a0_2 : Int) (a0_3 : Int) (a0_4 : Bool) (r : Int) (w : World) (h : crc_Check.f k a0_0 a0_1 a0_2 a0_3 a0_4 = some r) :
  Calls Try.prog 27 #[.agg #[.int .i64 a0_0, .int .u32 a0_1, .int .u32 a0_2, .int .u32 a0_3, .bool a0_4]] w fun e w' => e = .returned (.int .i64 r) ∧ Below w.heap.size w w' := by
 have hu24 := Try.underlying24
 have HB := Aside0.mk (Below.refl w.heap.size w)
 have H : (if a0_0 = 8 then (crc_Check.j0 k (a0_0 == 8) a0_0 a0_1 a0_2 a0_3 a0_4) else (if a0_0 = 16 then (crc_Check.j0 k (a0_0 == 16) a0_0 a0_1 a0_2 a0_3 a0_4) else (if a0_0 = 24 then (crc_Check.j0 k (a0_0 == 24) a0_0 a0_1 a0_2 a0_3 a0_4) else (crc_Check.j0 k (a0_0 == 32) a0_0 a0_1 a0_2 a0_3 a0_4)))) = some r := h
 clear h
 have HC2 := Aside0.mk H
 clear H
 go_enter Try.func27, Try.ntmps27
 go_upto_if 6 with (first | ((with_reducible refine gate_dst (N := 1) rfl ?_); refine box_event ?hg (N := 1) ?hd (cs := #[.int .i64 a0_0, .int .u32 a0_1, .int .u32 a0_2, .int .u32 a0_3, .bool a0_4]) (t := 24) ?hr ?_; (case hd => rfl); (case hg => rfl); (case hr => first | (go_simp; done) | (go_simp; rfl)); intro gb103 hg w3 hbox hb; have n0_ := Aside0.mk (below_step (by repeat (first | (with_reducible first | exact HB.out | apply below_alloc | apply pw_below_drewN | apply below_drew1) | exact HB.out)) hb); have n1_ := Aside0.mk (hbox); have n2_ := Aside0.mk ((by rw [hg]; exact (below_size (by repeat (first | (with_reducible first | exact HB.out | apply below_alloc | apply pw_below_drewN | apply below_drew1) | exact HB.out))) : w.heap.size ≤ gb103)); have n3_ := Aside0.mk ((by rw [hg]; exact (below_size (by repeat (first | (with_reducible first | exact HB.out | apply below_alloc | apply pw_below_drewN | apply below_drew1) | exact HB.out))) : w.heap.size ≤ gb103)); clear HB; have HB := n0_; have BK103 := n1_; have GW103 := n2_; have GE103 := n3_; clear n0_ n1_ n2_ n3_; clear hb hbox hg; have hcz4_0 : w3.cell? ⟨gb103, 0, none⟩ = some (.int .i64 a0_0) := (blk_cell BK103.out 0).trans rfl; have hcz4_1 : w3.cell? ⟨gb103, 1, none⟩ = some (.int .u32 a0_1) := (blk_cell BK103.out 1).trans rfl; have hcz4_2 : w3.cell? ⟨gb103, 2, none⟩ = some (.int .u32 a0_2) := (blk_cell BK103.out 2).trans rfl; have hcz4_3 : w3.cell? ⟨gb103, 3, none⟩ = some (.int .u32 a0_3) := (blk_cell BK103.out 3).trans rfl; have hcz4_4 : w3.cell? ⟨gb103, 4, none⟩ = some (.bool a0_4) := (blk_cell BK103.out 4).trans rfl; have hfz4_0 := blk_frozen BK103.out 0; have hfz4_1 := blk_frozen BK103.out 1; have hfz4_2 := blk_frozen BK103.out 2; have hfz4_3 := blk_frozen BK103.out 3; have hfz4_4 := blk_frozen BK103.out 4))
 (try simp only [Act.put, List.setIfInBounds_toArray, List.set_cons_zero, List.set_cons_succ])
 go_cut [6] (fun v6 wc => ∃ (kq : Nat) (x6_1 : Bool), v6 = .bool x6_1 ∧ Aside0 (crc_Check.j0 kq x6_1 a0_0 a0_1 a0_2 a0_3 a0_4 = some r) ∧ Aside0 (kq ≤ k) ∧ Aside0 (wc.heap[gb103]? = some (.cells #[.int .i64 a0_0, .int .u32 a0_1, .int .u32 a0_2, .int .u32 a0_3, .bool a0_4] 24 (0, 0))) ∧ Aside0 (Below w.heap.size w wc))
 case first =>
  have H := HC2.out
  clear HC2
  by_cases c5 : a0_0 = 8
  ·rw [if_pos c5] at H
   have c5b0 : (a0_0 == 8) = true := beq_iff_eq.mpr c5
   have c5b1 : (a0_0 != 8) = false := bne_eq_false_iff_eq.mpr c5
   clear c5
   (first | rw [c5b0] | (simp only [i64_w, i32_w]; rw [c5b0]) | rw [c5b1] | skip)
   have H' := Aside0.mk H
   clear H
   go_wp2
   go_meet
   case rel => exact ⟨_, ((a0_0 == 8)), (by first | rfl | (simp; done) | (simp [*]; done) | (simp [wrap64]; done)), H', ⟨by first | omega | exact Nat.le_refl _⟩, ⟨by (with_reducible repeat (first | refine blk_drewN ?_ _ | refine blk_drew ?_ | refine blk_alloc ?_ _)); exact BK103.out⟩, ⟨by repeat (first | (with_reducible first | exact HB.out | apply below_alloc | apply pw_below_drewN | apply below_drew1 | refine below_set ?_ GE103.out) | exact HB.out)⟩⟩
  ·rw [if_neg c5] at H
   have c5b0 : (a0_0 == 8) = false := beq_eq_false_iff_ne.mpr c5
   have c5b1 : (a0_0 != 8) = true := bne_iff_ne.mpr c5
   (first | rw [c5b0] | (simp only [i64_w, i32_w]; rw [c5b0]) | rw [c5b1] | skip)
   by_cases c6 : a0_0 = 16
   ·rw [if_pos c6] at H
    have c6b0 : (a0_0 == 16) = true := beq_iff_eq.mpr c6
    have c6b1 : (a0_0 != 16) = false := bne_eq_false_iff_eq.mpr c6
    clear c6
    have H' := Aside0.mk H
    clear H
    go_wp2
    go_meet
    case rel => exact ⟨_, ((a0_0 == 16)), (by first | rfl | (simp; done) | (simp [*]; done) | (simp [wrap64]; done)), H', ⟨by first | omega | exact Nat.le_refl _⟩, ⟨by (with_reducible repeat (first | refine blk_drewN ?_ _ | refine blk_drew ?_ | refine blk_alloc ?_ _)); exact BK103.out⟩, ⟨by repeat (first | (with_reducible first | exact HB.out | apply below_alloc | apply pw_below_drewN | apply below_drew1 | refine below_set ?_ GE103.out) | exact HB.out)⟩⟩
   ·rw [if_neg c6] at H
    have c6b0 : (a0_0 == 16) = false := beq_eq_false_iff_ne.mpr c6
    have c6b1 : (a0_0 != 16) = true := bne_iff_ne.mpr c6
    by_cases c7 : a0_0 = 24
    ·rw [if_pos c7] at H
     have c7b0 : (a0_0 == 24) = true := beq_iff_eq.mpr c7
     have c7b1 : (a0_0 != 24) = false := bne_eq_false_iff_eq.mpr c7
     clear c7
     have H' := Aside0.mk H
     clear H
     go_wp2
     go_meet
     case rel => exact ⟨_, ((a0_0 == 24)), (by first | rfl | (simp; done) | (simp [*]; done) | (simp [wrap64]; done)), H', ⟨by first | omega | exact Nat.le_refl _⟩, ⟨by (with_reducible repeat (first | refine blk_drewN ?_ _ | refine blk_drew ?_ | refine blk_alloc ?_ _)); exact BK103.out⟩, ⟨by repeat (first | (with_reducible first | exact HB.out | apply below_alloc | apply pw_below_drewN | apply below_drew1 | refine below_set ?_ GE103.out) | exact HB.out)⟩⟩
    ·rw [if_neg c7] at H
     have c7b0 : (a0_0 == 24) = false := beq_eq_false_iff_ne.mpr c7
     have c7b1 : (a0_0 != 24) = true := bne_iff_ne.mpr c7
     have H' := Aside0.mk H
     clear H
     go_wp2
     go_meet
     case rel => exact ⟨_, ((a0_0 == 32)), (by first | rfl | (simp; done) | (simp [*]; done) | (simp [wrap64]; done)), H', ⟨by first | omega | exact Nat.le_refl _⟩, ⟨by (with_reducible repeat (first | refine blk_drewN ?_ _ | refine blk_drew ?_ | refine blk_alloc ?_ _)); exact BK103.out⟩, ⟨by repeat (first | (with_reducible first | exact HB.out | apply below_alloc | apply pw_below_drewN | apply below_drew1 | refine below_set ?_ GE103.out) | exact HB.out)⟩⟩
 case rest =>
  clear HC2
  (try clear c2); (try clear p2); (try clear c5); (try clear c5b0); (try clear c5b1); (try clear c6); (try clear c6b0); (try clear c6b1); (try clear p6); (try clear c7); (try clear c7b0); (try clear c7b1); (try clear hcz4_0); (try clear hcz4_1); (try clear hcz4_2); (try clear hcz4_3); (try clear hcz4_4)
  (try clear hfz4_0); (try clear hfz4_1); (try clear hfz4_2); (try clear hfz4_3); (try clear hfz4_4)
  obtain ⟨kq, x6_1, rfl, HA, HJ1, BK103, HB⟩ := hcut
  cases kq with
  | zero => exact absurd HA.out (by simp [crc_Check.j0])
  | succ kj1 =>
   have H := HA.out
   clear HA
   simp only [crc_Check.j0] at H
   by_cases c8 : x6_1 = true
   ·subst c8
    have H1 : (if 0 ≤ (wrap64 (32 - a0_0)) then (if a0_1 > (shr .u32 4294967295 (wrap64 (32 - a0_0))) then (some 30) else (if a0_2 > (shr .u32 4294967295 (wrap64 (32 - a0_0))) then (some 30) else (if a0_3 > (shr .u32 4294967295 (wrap64 (32 - a0_0))) then (some 30) else (if (Int.tmod a0_1 2) = 0 then (some 30) else (some 0))))) else (none)) = some r := by rw [if_pos rfl] at H; exact H
    clear H
    have H := H1
    clear H1
    obtain ⟨ji9, hji9⟩ : ∃ j_ : Int, (wrap64 (32 - a0_0)) = j_ := ⟨_, rfl⟩
    replace H : (if 0 ≤ (ji9) then (if a0_1 > (shr .u32 4294967295 (ji9)) then (some 30) else (if a0_2 > (shr .u32 4294967295 (ji9)) then (some 30) else (if a0_3 > (shr .u32 4294967295 (ji9)) then (some 30) else (if (Int.tmod a0_1 2) = 0 then (some 30) else (some 0))))) else (none)) = some r := by first | (rw [hji9] at H; exact H) | (simp only [hji9] at H ⊢; exact H)
    have hji9w : (IntKind.i64.wrap (32 - a0_0)) = ji9 := (i64_w _).trans hji9
    by_cases c10 : 0 ≤ (ji9)
    ·rw [if_pos c10] at H
     have c10b0 := eq_true c10
     have c10b1 : decide (0 ≤ (ji9)) = true := decide_eq_true c10
     clear c10
     obtain ⟨ji11, hji11⟩ : ∃ j_ : Int, (shr .u32 4294967295 (ji9)) = j_ := ⟨_, rfl⟩
     replace H : (if a0_1 > (ji11) then (some 30) else (if a0_2 > (ji11) then (some 30) else (if a0_3 > (ji11) then (some 30) else (if (Int.tmod a0_1 2) = 0 then (some 30) else (some 0))))) = some r := by first | (rw [hji11] at H; exact H) | (simp only [hji11] at H ⊢; exact H)
     have hji11_ : (4294967295 / 2 ^ min (ji9).toNat 32) = ji11 := hji11
     have hji11z : (ji9) ≤ 32 → (4294967295 / 2 ^ (ji9).toNat) = ji11 := shr_small hji11
     by_cases c12 : a0_1 > (ji11)
     ·rw [if_pos c12] at H
      have c12b0 : decide ((ji11) < a0_1) = true := decide_eq_true c12
      clear c12
      obtain rfl := Option.some.inj H
      have hcz13_0 : wc.cell? ⟨gb103, 0, none⟩ = some (.int .i64 a0_0) := (blk_cell BK103.out 0).trans rfl
      have hcz13_1 : wc.cell? ⟨gb103, 1, none⟩ = some (.int .u32 a0_1) := (blk_cell BK103.out 1).trans rfl
      have hcz13_2 : wc.cell? ⟨gb103, 2, none⟩ = some (.int .u32 a0_2) := (blk_cell BK103.out 2).trans rfl
      have hcz13_3 : wc.cell? ⟨gb103, 3, none⟩ = some (.int .u32 a0_3) := (blk_cell BK103.out 3).trans rfl
      have hcz13_4 : wc.cell? ⟨gb103, 4, none⟩ = some (.bool a0_4) := (blk_cell BK103.out 4).trans rfl
      have hfz13_0 := blk_frozen BK103.out 0
      have hfz13_1 := blk_frozen BK103.out 1
      have hfz13_2 := blk_frozen BK103.out 2
      have hfz13_3 := blk_frozen BK103.out 3
      have hfz13_4 := blk_frozen BK103.out 4
      go_wp2
      go_ret
      exact ⟨by first | rfl | (simp [errW_none, errW_some] <;> rfl) | (simp only [← hji9, ← hji11]; first | rfl | (simp [errW_none, errW_some] <;> rfl)) | (simp [*, errW_none, errW_some] <;> rfl), by repeat (first | (with_reducible first | exact HB.out | apply below_alloc | apply pw_below_drewN | apply below_drew1 | refine below_set ?_ GE103.out) | exact HB.out)⟩
     ·rw [if_neg c12] at H
      have c12b0 : decide ((ji11) < a0_1) = false := decide_eq_false c12
      clear c12
      by_cases c14 : a0_2 > (ji11)
      ·rw [if_pos c14] at H
       have c14b0 : decide ((ji11) < a0_2) = true := decide_eq_true c14
       clear c14
       obtain rfl := Option.some.inj H
       have hcz15_0 : wc.cell? ⟨gb103, 0, none⟩ = some (.int .i64 a0_0) := (blk_cell BK103.out 0).trans rfl
       have hcz15_1 : wc.cell? ⟨gb103, 1, none⟩ = some (.int .u32 a0_1) := (blk_cell BK103.out 1).trans rfl
       have hcz15_2 : wc.cell? ⟨gb103, 2, none⟩ = some (.int .u32 a0_2) := (blk_cell BK103.out 2).trans rfl
       have hcz15_3 : wc.cell? ⟨gb103, 3, none⟩ = some (.int .u32 a0_3) := (blk_cell BK103.out 3).trans rfl
       have hcz15_4 : wc.cell? ⟨gb103, 4, none⟩ = some (.bool a0_4) := (blk_cell BK103.out 4).trans rfl
       have hfz15_0 := blk_frozen BK103.out 0
       have hfz15_1 := blk_frozen BK103.out 1
       have hfz15_2 := blk_frozen BK103.out 2
       have hfz15_3 := blk_frozen BK103.out 3
       have hfz15_4 := blk_frozen BK103.out 4
       go_wp2
       go_ret
       exact ⟨by first | rfl | (simp [errW_none, errW_some] <;> rfl) | (simp only [← hji9, ← hji11]; first | rfl | (simp [errW_none, errW_some] <;> rfl)) | (simp [*, errW_none, errW_some] <;> rfl), by repeat (first | (with_reducible first | exact HB.out | apply below_alloc | apply pw_below_drewN | apply below_drew1 | refine below_set ?_ GE103.out) | exact HB.out)⟩
      ·rw [if_neg c14] at H
       have c14b0 : decide ((ji11) < a0_2) = false := decide_eq_false c14
       clear c14
       by_cases c16 : a0_3 > (ji11)
       ·rw [if_pos c16] at H
        have c16b0 : decide ((ji11) < a0_3) = true := decide_eq_true c16
        clear c16
        obtain rfl := Option.some.inj H
        have hcz17_0 : wc.cell? ⟨gb103, 0, none⟩ = some (.int .i64 a0_0) := (blk_cell BK103.out 0).trans rfl
        have hcz17_1 : wc.cell? ⟨gb103, 1, none⟩ = some (.int .u32 a0_1) := (blk_cell BK103.out 1).trans rfl
        have hcz17_2 : wc.cell? ⟨gb103, 2, none⟩ = some (.int .u32 a0_2) := (blk_cell BK103.out 2).trans rfl
        have hcz17_3 : wc.cell? ⟨gb103, 3, none⟩ = some (.int .u32 a0_3) := (blk_cell BK103.out 3).trans rfl
        have hcz17_4 : wc.cell? ⟨gb103, 4, none⟩ = some (.bool a0_4) := (blk_cell BK103.out 4).trans rfl
        have hfz17_0 := blk_frozen BK103.out 0
        have hfz17_1 := blk_frozen BK103.out 1
        have hfz17_2 := blk_frozen BK103.out 2
        have hfz17_3 := blk_frozen BK103.out 3
        have hfz17_4 := blk_frozen BK103.out 4
        go_wp2
        go_ret
        exact ⟨by first | rfl | (simp [errW_none, errW_some] <;> rfl) | (simp only [← hji9, ← hji11]; first | rfl | (simp [errW_none, errW_some] <;> rfl)) | (simp [*, errW_none, errW_some] <;> rfl), by repeat (first | (with_reducible first | exact HB.out | apply below_alloc | apply pw_below_drewN | apply below_drew1 | refine below_set ?_ GE103.out) | exact HB.out)⟩
       ·rw [if_neg c16] at H
        have c16b0 : decide ((ji11) < a0_3) = false := decide_eq_false c16
        clear c16
        by_cases c18 : (Int.tmod a0_1 2) = 0
        ·rw [if_pos c18] at H
         have c18b0 : ((Int.tmod a0_1 2) == 0) = true := beq_iff_eq.mpr c18
         have c18b1 : ((Int.tmod a0_1 2) != 0) = false := bne_eq_false_iff_eq.mpr c18
         clear c18
         obtain rfl := Option.some.inj H
         have hcz19_0 : wc.cell? ⟨gb103, 0, none⟩ = some (.int .i64 a0_0) := (blk_cell BK103.out 0).trans rfl
         have hcz19_1 : wc.cell? ⟨gb103, 1, none⟩ = some (.int .u32 a0_1) := (blk_cell BK103.out 1).trans rfl
         have hcz19_2 : wc.cell? ⟨gb103, 2, none⟩ = some (.int .u32 a0_2) := (blk_cell BK103.out 2).trans rfl
         have hcz19_3 : wc.cell? ⟨gb103, 3, none⟩ = some (.int .u32 a0_3) := (blk_cell BK103.out 3).trans rfl
         have hcz19_4 : wc.cell? ⟨gb103, 4, none⟩ = some (.bool a0_4) := (blk_cell BK103.out 4).trans rfl
         have hfz19_0 := blk_frozen BK103.out 0
         have hfz19_1 := blk_frozen BK103.out 1
         have hfz19_2 := blk_frozen BK103.out 2
         have hfz19_3 := blk_frozen BK103.out 3
         have hfz19_4 := blk_frozen BK103.out 4
         go_wp2
         go_ret
         exact ⟨by first | rfl | (simp [errW_none, errW_some] <;> rfl) | (simp only [← hji9, ← hji11]; first | rfl | (simp [errW_none, errW_some] <;> rfl)) | (simp [*, errW_none, errW_some] <;> rfl), by repeat (first | (with_reducible first | exact HB.out | apply below_alloc | apply pw_below_drewN | apply below_drew1 | refine below_set ?_ GE103.out) | exact HB.out)⟩
        ·rw [if_neg c18] at H
         have c18b0 : ((Int.tmod a0_1 2) == 0) = false := beq_eq_false_iff_ne.mpr c18
         have c18b1 : ((Int.tmod a0_1 2) != 0) = true := bne_iff_ne.mpr c18
         obtain rfl := Option.some.inj H
         have hcz20_0 : wc.cell? ⟨gb103, 0, none⟩ = some (.int .i64 a0_0) := (blk_cell BK103.out 0).trans rfl
         have hcz20_1 : wc.cell? ⟨gb103, 1, none⟩ = some (.int .u32 a0_1) := (blk_cell BK103.out 1).trans rfl
         have hcz20_2 : wc.cell? ⟨gb103, 2, none⟩ = some (.int .u32 a0_2) := (blk_cell BK103.out 2).trans rfl
         have hcz20_3 : wc.cell? ⟨gb103, 3, none⟩ = some (.int .u32 a0_3) := (blk_cell BK103.out 3).trans rfl
         have hcz20_4 : wc.cell? ⟨gb103, 4, none⟩ = some (.bool a0_4) := (blk_cell BK103.out 4).trans rfl
         have hfz20_0 := blk_frozen BK103.out 0
         have hfz20_1 := blk_frozen BK103.out 1
         have hfz20_2 := blk_frozen BK103.out 2
         have hfz20_3 := blk_frozen BK103.out 3
         have hfz20_4 := blk_frozen BK103.out 4
         go_wp2
         go_ret
         exact ⟨by first | rfl | (simp [errW_none, errW_some] <;> rfl) | (simp only [← hji9, ← hji11]; first | rfl | (simp [errW_none, errW_some] <;> rfl)) | (simp [*, errW_none, errW_some] <;> rfl), by repeat (first | (with_reducible first | exact HB.out | apply below_alloc | apply pw_below_drewN | apply below_drew1 | refine below_set ?_ GE103.out) | exact HB.out)⟩
    ·rw [if_neg c10] at H
     exact absurd H (by simp)
   ·replace c8 := Bool.eq_false_iff.mpr c8
    subst c8
    have H1 : (some 30) = some r := by rw [if_neg (show ¬ (false = true) by decide)] at H; exact H
    clear H
    have H := H1
    clear H1
    obtain rfl := Option.some.inj H
    go_wp2
    go_ret
    exact ⟨by first | rfl | (simp [errW_none, errW_some] <;> rfl) | (simp [*, errW_none, errW_some] <;> rfl), by repeat (first | (with_reducible first | exact HB.out | apply below_alloc | apply pw_below_drewN | apply below_drew1 | refine below_set ?_ GE103.out) | exact HB.out)⟩


end Go.Proofs.Ytbcejldbmemaeaa.P

-- squeezed
