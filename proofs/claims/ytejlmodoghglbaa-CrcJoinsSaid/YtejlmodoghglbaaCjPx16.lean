-- written by mk.sh, a program of this session, over the kit's print
import Derived.Test.YtejlmodoghglbaaCjPx0
import Derived.Test.YtejlmodoghglbaaCjPx3
import Derived.Test.YtejlmodoghglbaaCjPx15
namespace Go.Proofs.Ytejlmodoghglbaa.P
open Go.RowKit Go.Proofs.YtejlmodoghglbaaW.PrintWords Go.Proofs.YtejlmodoghglbaaW.PrintLast Go.Proofs.YtejlmodoghglbaaW.PrintMore
attribute [local go_sem] max2_int min2_int max_two min_two max_three min_three max_four min_four   -- for this text's walks alone
set_option linter.unusedVariables false
set_option linter.unusedSimpArgs false

/-! ### crc_Join: function 37, given -/
attribute [local go_sem] crc_store_nilFunc crc_store_func
set_option maxHeartbeats 16000000 in
set_option maxRecDepth 100000 in
theorem crc_Join_plain (k : Nat) (W P I O a b z : Nat) (n x1 x2 y1 y2 z2 : Int) (w : World) (hs : Crc.okN W P I O) (ha : a < 2 ^ W) (hb : b < 2 ^ W) (hz : z < 2 ^ W) (hn : 0 ≤ n) (hn2 : n < 9223372036854775808)
    (h1 : poly_PowMod.f k 2 8 ((2 ^ W + P : Nat) : Int) = some (x1, x2)) (h2 : poly_PowMod.f k x1 n ((2 ^ W + P : Nat) : Int) = some (y1, y2)) (h3 : poly_MulMod.f k (((a ^^^ O) ^^^ I : Nat) : Int) y1 ((2 ^ W + P : Nat) : Int) = some ((z : Int), z2)) :
    Calls Try.prog 37 #[.agg #[.int .i64 (W : Int), .int .u32 (P : Int), .int .u32 (I : Int), .int .u32 (O : Int), .bool false], .int .u32 (a : Int), .int .u32 (b : Int), .int .i64 n] w fun e w' => e = .returned (.tuple #[.int .u32 (((z ^^^ (b ^^^ O)) ^^^ O : Nat) : Int), .int .i64 0]) ∧ Below w.heap.size w w' := by
  have hu24 := Try.underlying24
  have hu55 := Try.underlying55
  have HB := Aside0.mk (Below.refl w.heap.size w)
  have hW32 : W ≤ 32 := by have := hs.1; omega
  have hW8 : 8 ≤ W := by have := hs.1; omega
  have HS := Aside0.mk hs
  have HW2 := Aside0.mk hW32
  have A1 := Aside0.mk h1
  have A2 := Aside0.mk h2
  have A3 := Aside0.mk h3
  have h32 : 2 ^ W ≤ 2 ^ 32 := Nat.pow_le_pow_right (by omega) hW32
  have HA := Aside0.mk (Nat.lt_of_lt_of_le ha h32)
  have HBB := Aside0.mk (Nat.lt_of_lt_of_le hb h32)
  have HZ := Aside0.mk (Nat.lt_of_lt_of_le hz h32)
  have HP := Aside0.mk (Nat.lt_of_lt_of_le hs.2.1 h32)
  have HI := Aside0.mk (Nat.lt_of_lt_of_le hs.2.2.1 h32)
  have HO := Aside0.mk (Nat.lt_of_lt_of_le hs.2.2.2.1 h32)
  have k0 : (0 : Int) ≤ (W : Int) := by omega
  have k1 : (0 : Int) ≤ 32 - (W : Int) := by omega
  have k2 : (W : Int) ≤ 32 := by omega
  have k3 : IntKind.i64.wrap (32 - (W : Int)) = 32 - (W : Int) := IntWalk.i64_in _ (by omega)
  have t1 : decide (n < 0) = false := decide_eq_false (by omega)
  have top : (4294967295 : Int) / 2 ^ (32 - W) = ((2 ^ W - 1 : Nat) : Int) := by
    have e1 : 2 ^ 32 = 2 ^ (32 - W) * 2 ^ W := by rw [← Nat.pow_add]; congr 1; omega
    have hp := Nat.pow_pos (n := 32 - W) (show 0 < 2 by omega)
    have hq := Nat.pow_pos (n := W) (show 0 < 2 by omega)
    have e2 : 4294967295 / 2 ^ (32 - W) = 2 ^ W - 1 := by
      refine Nat.div_eq_of_lt_le ?_ ?_
      · rw [Nat.mul_comm, Nat.mul_sub, ← e1, Nat.mul_one]; omega
      · rw [Nat.sub_add_cancel hq, Nat.mul_comm, ← e1]; decide
    have e3 : ((4294967295 / 2 ^ (32 - W) : Nat) : Int) = ((2 ^ W - 1 : Nat) : Int) := by rw [e2]
    rw [← e3]
    simp
  have u1 : decide ((4294967295 : Int) / 2 ^ (32 - W) < (a : Int)) = false := decide_eq_false (by rw [top]; omega)
  have u2 : decide ((4294967295 : Int) / 2 ^ (32 - W) < (b : Int)) = false := decide_eq_false (by rw [top]; omega)
  clear top
  obtain ⟨ra, hra⟩ : ∃ ra, ra = a ^^^ O := ⟨_, rfl⟩
  obtain ⟨rb, hrb⟩ : ∃ rb, rb = b ^^^ O := ⟨_, rfl⟩
  obtain ⟨ri, hri⟩ : ∃ ri, ri = ra ^^^ I := ⟨_, rfl⟩
  obtain ⟨zr, hzr⟩ : ∃ zr, zr = z ^^^ rb := ⟨_, rfl⟩
  obtain ⟨vo, hvo⟩ : ∃ vo, vo = zr ^^^ O := ⟨_, rfl⟩
  obtain ⟨M, hM⟩ : ∃ M, M = 2 ^ W + P := ⟨_, rfl⟩
  have l1 : ra < 4294967296 := by rw [hra]; exact Nat.xor_lt_two_pow (n := 32) HA.out HO.out
  have l2 : rb < 4294967296 := by rw [hrb]; exact Nat.xor_lt_two_pow (n := 32) HBB.out HO.out
  have l3 : ri < 4294967296 := by rw [hri]; exact Nat.xor_lt_two_pow (n := 32) l1 HI.out
  have l4 : zr < 4294967296 := by rw [hzr]; exact Nat.xor_lt_two_pow (n := 32) HZ.out l2
  have e1 : Go.bits .xor .u32 (a : Int) (O : Int) = (ra : Int) := by rw [hra]; exact Crc.bxor32 _ _ HA.out HO.out
  have e2 : Go.bits .xor .u32 (b : Int) (O : Int) = (rb : Int) := by rw [hrb]; exact Crc.bxor32 _ _ HBB.out HO.out
  have e3 : Go.bits .xor .u32 (ra : Int) (I : Int) = (ri : Int) := by rw [hri]; exact Crc.bxor32 _ _ l1 HI.out
  have e4 : Go.bits .xor .u32 (z : Int) (rb : Int) = (zr : Int) := by rw [hzr]; exact Crc.bxor32 _ _ HZ.out l2
  have e5 : Go.bits .xor .u32 (zr : Int) (O : Int) = (vo : Int) := by rw [hvo]; exact Crc.bxor32 _ _ l4 HO.out
  have e6 : Go.bits .or .u64 (IntKind.u64.wrap (2 ^ W)) (P : Int) = (M : Int) := by
    have q1 : (2 : Int) ^ W = ((2 ^ W : Nat) : Int) := by simp
    have q2 : IntKind.u64.wrap ((2 ^ W : Nat) : Int) = ((2 ^ W : Nat) : Int) := by clear e1 e2 e3 e4 e5; rw [IntKind.wrap_u64]; omega
    have q3 := Nat.two_pow_add_eq_or_of_lt (i := W) (b := P) hs.2.1 1
    rw [Nat.mul_one] at q3
    have q4 : 2 ^ W < 18446744073709551616 := by clear e1 e2 e3 e4 e5 q2; omega
    have q5 : P < 18446744073709551616 := by clear e1 e2 e3 e4 e5 q2; have := HP.out; omega
    rw [q1, q2, u64_or_nat _ _ q4 q5, hM, q3]
  rw [← hra, ← hri, ← hM] at A3
  rw [← hM] at A1 A2
  rw [← hrb, ← hzr, ← hvo]
  have m1 : (ri : Int) % 18446744073709551616 = (ri : Int) := by clear e1 e2 e3 e4 e5; omega
  have m2 : (z : Int) % 4294967296 = (z : Int) := by clear e1 e2 e3 e4 e5; have := HZ.out; omega
  have m5 : z % 4294967296 = z := Nat.mod_eq_of_lt HZ.out
  have m6 : IntKind.u32.wrap (z : Int) = (z : Int) := by clear e1 e2 e3 e4 e5; rw [IntKind.wrap_u32]; exact m2
  have m3 : n % 18446744073709551616 = n := by clear e1 e2 e3 e4 e5; omega
  have m4 : (P : Int) % 18446744073709551616 = (P : Int) := by clear e1 e2 e3 e4 e5; have := HP.out; omega
  clear hra hrb hri hzr hvo l1 l2 l3 l4 hM
  clear hs ha hb hz h1 h2 h3 h32 hW8
  go_enter Try.func37, Try.ntmps37
  go_wp2_with (first
    | ((with_reducible refine gate_dst (N := 4) rfl ?_); refine box_event ?hg (N := 4) ?hd (cs := #[.int .i64 (W : Int), .int .u32 (P : Int), .int .u32 (I : Int), .int .u32 (O : Int), .bool false]) (t := 24) ?hr ?_; (case hd => rfl); (case hg => rfl); (case hr => first | (go_simp; done) | (go_simp; rfl)); intro g hg_ wg hbox_ hb_; have n0_ := Aside0.mk (below_step HB.out hb_); have n1_ := Aside0.mk hbox_; clear HB; have HB := n0_; have BKg := n1_; clear n0_ n1_; clear hb_ hbox_ hg_; have hcg_wg_0 : wg.cell? ⟨g, 0, none⟩ = some (.int .i64 (W : Int)) := (blk_cell BKg.out 0).trans rfl; have hfg_wg_0 := blk_frozen BKg.out 0; have hcg_wg_1 : wg.cell? ⟨g, 1, none⟩ = some (.int .u32 (P : Int)) := (blk_cell BKg.out 1).trans rfl; have hfg_wg_1 := blk_frozen BKg.out 1; have hcg_wg_2 : wg.cell? ⟨g, 2, none⟩ = some (.int .u32 (I : Int)) := (blk_cell BKg.out 2).trans rfl; have hfg_wg_2 := blk_frozen BKg.out 2; have hcg_wg_3 : wg.cell? ⟨g, 3, none⟩ = some (.int .u32 (O : Int)) := (blk_cell BKg.out 3).trans rfl; have hfg_wg_3 := blk_frozen BKg.out 3; have hcg_wg_4 : wg.cell? ⟨g, 4, none⟩ = some (.bool false) := (blk_cell BKg.out 4).trans rfl; have hfg_wg_4 := blk_frozen BKg.out 4)
    | (go_at_call 16; refine (crc_Check_ok W P I O false _ HS.out).mono ?_; rintro e w1 ⟨rfl, hb⟩; have n0_ := Aside0.mk (below_step HB.out hb); clear HB; have HB := n0_; clear n0_; have n0_ := Aside0.mk (blk_below BKg.out hb); clear BKg; have BKg := n0_; clear n0_; have hcg_w1_0 : w1.cell? ⟨g, 0, none⟩ = some (.int .i64 (W : Int)) := (blk_cell BKg.out 0).trans rfl; have hfg_w1_0 := blk_frozen BKg.out 0; have hcg_w1_1 : w1.cell? ⟨g, 1, none⟩ = some (.int .u32 (P : Int)) := (blk_cell BKg.out 1).trans rfl; have hfg_w1_1 := blk_frozen BKg.out 1; have hcg_w1_2 : w1.cell? ⟨g, 2, none⟩ = some (.int .u32 (I : Int)) := (blk_cell BKg.out 2).trans rfl; have hfg_w1_2 := blk_frozen BKg.out 2; have hcg_w1_3 : w1.cell? ⟨g, 3, none⟩ = some (.int .u32 (O : Int)) := (blk_cell BKg.out 3).trans rfl; have hfg_w1_3 := blk_frozen BKg.out 3; have hcg_w1_4 : w1.cell? ⟨g, 4, none⟩ = some (.bool false) := (blk_cell BKg.out 4).trans rfl; have hfg_w1_4 := blk_frozen BKg.out 4; clear hb)
    | (go_at_call 40; refine (crc_fit_plain W P I O _ HW2.out).mono ?_; rintro e w2 ⟨p, q, rfl, hh, hb⟩; simp only [crc_wv, if_true, if_false, Bool.false_eq_true]; have n0_ := Aside0.mk (below_step HB.out hb); clear HB; have HB := n0_; clear n0_; have n0_ := Aside0.mk (blk_below BKg.out hb); clear BKg; have BKg := n0_; clear n0_; have hcg_w2_0 : w2.cell? ⟨g, 0, none⟩ = some (.int .i64 (W : Int)) := (blk_cell BKg.out 0).trans rfl; have hfg_w2_0 := blk_frozen BKg.out 0; have hcg_w2_1 : w2.cell? ⟨g, 1, none⟩ = some (.int .u32 (P : Int)) := (blk_cell BKg.out 1).trans rfl; have hfg_w2_1 := blk_frozen BKg.out 1; have hcg_w2_2 : w2.cell? ⟨g, 2, none⟩ = some (.int .u32 (I : Int)) := (blk_cell BKg.out 2).trans rfl; have hfg_w2_2 := blk_frozen BKg.out 2; have hcg_w2_3 : w2.cell? ⟨g, 3, none⟩ = some (.int .u32 (O : Int)) := (blk_cell BKg.out 3).trans rfl; have hfg_w2_3 := blk_frozen BKg.out 3; have hcg_w2_4 : w2.cell? ⟨g, 4, none⟩ = some (.bool false) := (blk_cell BKg.out 4).trans rfl; have hfg_w2_4 := blk_frozen BKg.out 4; have HH := Aside0.mk hh; have hlt := blk_lt BKg.out; clear hb hh))
  go_quiet ((go_at_call 58; exact Calls.quiet_of_same ((crc_fit2_calls _ _).mono fun e w' h => ⟨h.1, h.2.symm⟩)))
  go_wp2
  go_quiet (fail)
  go_wp2_with (first
    | (go_at_call 52; (with_reducible refine (poly_PowMod.calls k 2 8 (M : Int) x1 x2 _ A1.out).mono ?_); rintro e w3 ⟨rfl, hb⟩; have n0_ := Aside0.mk (below_step (by repeat (first | (with_reducible first | exact HB.out | apply below_alloc | apply pw_below_drewN | apply below_drew1) | exact HB.out)) hb); have n1_ := Aside0.mk (blk_below (g := g) (o := .cells #[.int .i64 (W : Int), .int .u32 (P : Int), .int .u32 (I : Int), .int .u32 (O : Int), .bool false] 24 (0, 0)) (by repeat (first | exact BKg.out | refine blk_drewN ?_ _ | refine blk_alloc ?_ _)) hb); have n2_ := Aside0.mk (blk_below (g := w2.heap.size) (o := .cells #[.int .i64 (W : Int), .int .u32 (P : Int), .int .u32 (I : Int), .int .u32 (O : Int), .bool false, .func (.func 57) #[] #[], .func (.func 58) #[] #[], .func (.func 59) #[] #[.pointer (some ⟨q, 0, none⟩)]] 55 (0, 0)) (by repeat (first | exact blk_new _ _ | refine blk_drewN ?_ _)) hb); clear HB BKg; have HB := n0_; have BKg := n1_; have BKh := n2_; clear n0_ n1_ n2_ hb; have hcg_w3_0 : w3.cell? ⟨g, 0, none⟩ = some (.int .i64 (W : Int)) := (blk_cell BKg.out 0).trans rfl; have hfg_w3_0 := blk_frozen BKg.out 0; have hcg_w3_1 : w3.cell? ⟨g, 1, none⟩ = some (.int .u32 (P : Int)) := (blk_cell BKg.out 1).trans rfl; have hfg_w3_1 := blk_frozen BKg.out 1; have hcg_w3_2 : w3.cell? ⟨g, 2, none⟩ = some (.int .u32 (I : Int)) := (blk_cell BKg.out 2).trans rfl; have hfg_w3_2 := blk_frozen BKg.out 2; have hcg_w3_3 : w3.cell? ⟨g, 3, none⟩ = some (.int .u32 (O : Int)) := (blk_cell BKg.out 3).trans rfl; have hfg_w3_3 := blk_frozen BKg.out 3; have hcg_w3_4 : w3.cell? ⟨g, 4, none⟩ = some (.bool false) := (blk_cell BKg.out 4).trans rfl; have hfg_w3_4 := blk_frozen BKg.out 4; have hch_w3 : w3.cell? ⟨w2.heap.size, 6, none⟩ = some (.func (.func 58) #[] #[]) := (blk_cell BKh.out 6).trans rfl; have hfh_w3 := blk_frozen BKh.out 6; clear A1)
    | (go_at_call 52; (with_reducible refine (poly_PowMod.calls k x1 n (M : Int) y1 y2 _ A2.out).mono ?_); rintro e w4 ⟨rfl, hb⟩; have n0_ := Aside0.mk (below_step (by repeat (first | (with_reducible first | exact HB.out | apply below_alloc | apply pw_below_drewN | apply below_drew1) | exact HB.out)) hb); have n1_ := Aside0.mk (blk_below (g := g) (o := .cells #[.int .i64 (W : Int), .int .u32 (P : Int), .int .u32 (I : Int), .int .u32 (O : Int), .bool false] 24 (0, 0)) (by repeat (first | exact BKg.out | refine blk_drewN ?_ _ | refine blk_alloc ?_ _)) hb); have n2_ := Aside0.mk (blk_below (g := w2.heap.size) (o := .cells #[.int .i64 (W : Int), .int .u32 (P : Int), .int .u32 (I : Int), .int .u32 (O : Int), .bool false, .func (.func 57) #[] #[], .func (.func 58) #[] #[], .func (.func 59) #[] #[.pointer (some ⟨q, 0, none⟩)]] 55 (0, 0)) (by repeat (first | exact BKh.out | refine blk_drewN ?_ _)) hb); clear HB BKg BKh; have HB := n0_; have BKg := n1_; have BKh := n2_; clear n0_ n1_ n2_ hb; have hcg_w4_0 : w4.cell? ⟨g, 0, none⟩ = some (.int .i64 (W : Int)) := (blk_cell BKg.out 0).trans rfl; have hfg_w4_0 := blk_frozen BKg.out 0; have hcg_w4_1 : w4.cell? ⟨g, 1, none⟩ = some (.int .u32 (P : Int)) := (blk_cell BKg.out 1).trans rfl; have hfg_w4_1 := blk_frozen BKg.out 1; have hcg_w4_2 : w4.cell? ⟨g, 2, none⟩ = some (.int .u32 (I : Int)) := (blk_cell BKg.out 2).trans rfl; have hfg_w4_2 := blk_frozen BKg.out 2; have hcg_w4_3 : w4.cell? ⟨g, 3, none⟩ = some (.int .u32 (O : Int)) := (blk_cell BKg.out 3).trans rfl; have hfg_w4_3 := blk_frozen BKg.out 3; have hcg_w4_4 : w4.cell? ⟨g, 4, none⟩ = some (.bool false) := (blk_cell BKg.out 4).trans rfl; have hfg_w4_4 := blk_frozen BKg.out 4; have hch_w4 : w4.cell? ⟨w2.heap.size, 6, none⟩ = some (.func (.func 58) #[] #[]) := (blk_cell BKh.out 6).trans rfl; have hfh_w4 := blk_frozen BKh.out 6; clear A2)
    | (go_at_call 53; (with_reducible refine (poly_MulMod.calls k (ri : Int) y1 (M : Int) (z : Int) z2 _ A3.out).mono ?_); rintro e w5 ⟨rfl, hd⟩; have hb := hd.below; clear hd; have n0_ := Aside0.mk (below_step (by repeat (first | (with_reducible first | exact HB.out | apply below_alloc | apply pw_below_drewN | apply below_drew1) | exact HB.out)) hb); have n1_ := Aside0.mk (blk_below (g := g) (o := .cells #[.int .i64 (W : Int), .int .u32 (P : Int), .int .u32 (I : Int), .int .u32 (O : Int), .bool false] 24 (0, 0)) (by repeat (first | exact BKg.out | refine blk_drewN ?_ _ | refine blk_alloc ?_ _)) hb); have n2_ := Aside0.mk (blk_below (g := w2.heap.size) (o := .cells #[.int .i64 (W : Int), .int .u32 (P : Int), .int .u32 (I : Int), .int .u32 (O : Int), .bool false, .func (.func 57) #[] #[], .func (.func 58) #[] #[], .func (.func 59) #[] #[.pointer (some ⟨q, 0, none⟩)]] 55 (0, 0)) (by repeat (first | exact BKh.out | refine blk_drewN ?_ _)) hb); clear HB BKg BKh; have HB := n0_; have BKg := n1_; have BKh := n2_; clear n0_ n1_ n2_ hb; have hcg_w5_0 : w5.cell? ⟨g, 0, none⟩ = some (.int .i64 (W : Int)) := (blk_cell BKg.out 0).trans rfl; have hfg_w5_0 := blk_frozen BKg.out 0; have hcg_w5_1 : w5.cell? ⟨g, 1, none⟩ = some (.int .u32 (P : Int)) := (blk_cell BKg.out 1).trans rfl; have hfg_w5_1 := blk_frozen BKg.out 1; have hcg_w5_2 : w5.cell? ⟨g, 2, none⟩ = some (.int .u32 (I : Int)) := (blk_cell BKg.out 2).trans rfl; have hfg_w5_2 := blk_frozen BKg.out 2; have hcg_w5_3 : w5.cell? ⟨g, 3, none⟩ = some (.int .u32 (O : Int)) := (blk_cell BKg.out 3).trans rfl; have hfg_w5_3 := blk_frozen BKg.out 3; have hcg_w5_4 : w5.cell? ⟨g, 4, none⟩ = some (.bool false) := (blk_cell BKg.out 4).trans rfl; have hfg_w5_4 := blk_frozen BKg.out 4; have hch_w5 : w5.cell? ⟨w2.heap.size, 6, none⟩ = some (.func (.func 58) #[] #[]) := (blk_cell BKh.out 6).trans rfl; have hfh_w5 := blk_frozen BKh.out 6; clear A3))
  go_quiet ((go_at_call 58; exact Calls.quiet_of_same ((crc_fit2_calls _ _).mono fun e w' h => ⟨h.1, h.2.symm⟩)))
  go_wp2
  go_ret2
  exact ⟨rfl, by repeat (first | (with_reducible first | exact HB.out | apply below_alloc | apply pw_below_drewN | apply below_drew1) | exact HB.out)⟩
set_option maxHeartbeats 16000000 in
set_option maxRecDepth 100000 in
theorem crc_Join_refl (k : Nat) (W P I O a b z : Nat) (n x1 x2 y1 y2 z2 : Int) (w : World) (hs : Crc.okN W P I O) (ha : a < 2 ^ W) (hb : b < 2 ^ W) (hz : z < 2 ^ W) (hn : 0 ≤ n) (hn2 : n < 9223372036854775808)
    (h1 : poly_PowMod.f k 2 8 ((2 ^ W + P : Nat) : Int) = some (x1, x2)) (h2 : poly_PowMod.f k x1 n ((2 ^ W + P : Nat) : Int) = some (y1, y2)) (h3 : poly_MulMod.f k ((Crc.rev (a ^^^ O) W ^^^ I : Nat) : Int) y1 ((2 ^ W + P : Nat) : Int) = some ((z : Int), z2)) :
    Calls Try.prog 37 #[.agg #[.int .i64 (W : Int), .int .u32 (P : Int), .int .u32 (I : Int), .int .u32 (O : Int), .bool true], .int .u32 (a : Int), .int .u32 (b : Int), .int .i64 n] w fun e w' => e = .returned (.tuple #[.int .u32 ((Crc.rev (z ^^^ Crc.rev (b ^^^ O) W) W ^^^ O : Nat) : Int), .int .i64 0]) ∧ Below w.heap.size w w' := by
  have hu24 := Try.underlying24
  have hu55 := Try.underlying55
  have HB := Aside0.mk (Below.refl w.heap.size w)
  have hW32 : W ≤ 32 := by have := hs.1; omega
  have hW8 : 8 ≤ W := by have := hs.1; omega
  have HS := Aside0.mk hs
  have HW2 := Aside0.mk hW32
  have A1 := Aside0.mk h1
  have A2 := Aside0.mk h2
  have A3 := Aside0.mk h3
  have h32 : 2 ^ W ≤ 2 ^ 32 := Nat.pow_le_pow_right (by omega) hW32
  have HA := Aside0.mk (Nat.lt_of_lt_of_le ha h32)
  have HBB := Aside0.mk (Nat.lt_of_lt_of_le hb h32)
  have HZ := Aside0.mk (Nat.lt_of_lt_of_le hz h32)
  have HP := Aside0.mk (Nat.lt_of_lt_of_le hs.2.1 h32)
  have HI := Aside0.mk (Nat.lt_of_lt_of_le hs.2.2.1 h32)
  have HO := Aside0.mk (Nat.lt_of_lt_of_le hs.2.2.2.1 h32)
  have k0 : (0 : Int) ≤ (W : Int) := by omega
  have k1 : (0 : Int) ≤ 32 - (W : Int) := by omega
  have k2 : (W : Int) ≤ 32 := by omega
  have k3 : IntKind.i64.wrap (32 - (W : Int)) = 32 - (W : Int) := IntWalk.i64_in _ (by omega)
  have t1 : decide (n < 0) = false := decide_eq_false (by omega)
  have top : (4294967295 : Int) / 2 ^ (32 - W) = ((2 ^ W - 1 : Nat) : Int) := by
    have e1 : 2 ^ 32 = 2 ^ (32 - W) * 2 ^ W := by rw [← Nat.pow_add]; congr 1; omega
    have hp := Nat.pow_pos (n := 32 - W) (show 0 < 2 by omega)
    have hq := Nat.pow_pos (n := W) (show 0 < 2 by omega)
    have e2 : 4294967295 / 2 ^ (32 - W) = 2 ^ W - 1 := by
      refine Nat.div_eq_of_lt_le ?_ ?_
      · rw [Nat.mul_comm, Nat.mul_sub, ← e1, Nat.mul_one]; omega
      · rw [Nat.sub_add_cancel hq, Nat.mul_comm, ← e1]; decide
    have e3 : ((4294967295 / 2 ^ (32 - W) : Nat) : Int) = ((2 ^ W - 1 : Nat) : Int) := by rw [e2]
    rw [← e3]
    simp
  have u1 : decide ((4294967295 : Int) / 2 ^ (32 - W) < (a : Int)) = false := decide_eq_false (by rw [top]; omega)
  have u2 : decide ((4294967295 : Int) / 2 ^ (32 - W) < (b : Int)) = false := decide_eq_false (by rw [top]; omega)
  clear top
  obtain ⟨K, hK⟩ : ∃ K, W + K = 32 := ⟨32 - W, by omega⟩
  have HK := Aside0.mk hK
  obtain ⟨xa, hxa⟩ : ∃ xa, xa = a ^^^ O := ⟨_, rfl⟩
  obtain ⟨xb, hxb⟩ : ∃ xb, xb = b ^^^ O := ⟨_, rfl⟩
  obtain ⟨ra, hra⟩ : ∃ ra, ra = Crc.rev xa W := ⟨_, rfl⟩
  obtain ⟨rb, hrb⟩ : ∃ rb, rb = Crc.rev xb W := ⟨_, rfl⟩
  obtain ⟨ri, hri⟩ : ∃ ri, ri = ra ^^^ I := ⟨_, rfl⟩
  obtain ⟨zr, hzr⟩ : ∃ zr, zr = z ^^^ rb := ⟨_, rfl⟩
  obtain ⟨rz, hrz⟩ : ∃ rz, rz = Crc.rev zr W := ⟨_, rfl⟩
  obtain ⟨vo, hvo⟩ : ∃ vo, vo = rz ^^^ O := ⟨_, rfl⟩
  have lxa : xa < 4294967296 := by rw [hxa]; exact Nat.xor_lt_two_pow (n := 32) HA.out HO.out
  have lxb : xb < 4294967296 := by rw [hxb]; exact Nat.xor_lt_two_pow (n := 32) HBB.out HO.out
  have hw32 : 2 ^ W ≤ 4294967296 := h32
  obtain ⟨M, hM⟩ : ∃ M, M = 2 ^ W + P := ⟨_, rfl⟩
  have l1 : ra < 4294967296 := by rw [hra]; exact Nat.lt_of_lt_of_le (Crc.rev_lt xa W) hw32
  have l2 : rb < 4294967296 := by rw [hrb]; exact Nat.lt_of_lt_of_le (Crc.rev_lt xb W) hw32
  have l3 : ri < 4294967296 := by rw [hri]; exact Nat.xor_lt_two_pow (n := 32) l1 HI.out
  have l4 : zr < 4294967296 := by rw [hzr]; exact Nat.xor_lt_two_pow (n := 32) HZ.out l2
  have l5 : rz < 4294967296 := by rw [hrz]; exact Nat.lt_of_lt_of_le (Crc.rev_lt zr W) hw32
  have HXA := Aside0.mk lxa
  have HXB := Aside0.mk lxb
  have HZR := Aside0.mk l4
  have r1 : ((Crc.rev xa 32 : Nat) : Int) / 2 ^ K = (ra : Int) := by rw [hra, ← Crc.rev_up xa W K 32 hK]; simp
  have r2 : ((Crc.rev xb 32 : Nat) : Int) / 2 ^ K = (rb : Int) := by rw [hrb, ← Crc.rev_up xb W K 32 hK]; simp
  have r3 : ((Crc.rev zr 32 : Nat) : Int) / 2 ^ K = (rz : Int) := by rw [hrz, ← Crc.rev_up zr W K 32 hK]; simp
  have e1 : Go.bits .xor .u32 (a : Int) (O : Int) = (xa : Int) := by rw [hxa]; exact Crc.bxor32 _ _ HA.out HO.out
  have e2 : Go.bits .xor .u32 (b : Int) (O : Int) = (xb : Int) := by rw [hxb]; exact Crc.bxor32 _ _ HBB.out HO.out
  have e3 : Go.bits .xor .u32 (ra : Int) (I : Int) = (ri : Int) := by rw [hri]; exact Crc.bxor32 _ _ l1 HI.out
  have e4 : Go.bits .xor .u32 (z : Int) (rb : Int) = (zr : Int) := by rw [hzr]; exact Crc.bxor32 _ _ HZ.out l2
  have e5 : Go.bits .xor .u32 (rz : Int) (O : Int) = (vo : Int) := by rw [hvo]; exact Crc.bxor32 _ _ l5 HO.out
  have e6 : Go.bits .or .u64 (IntKind.u64.wrap (2 ^ W)) (P : Int) = (M : Int) := by
    have q1 : (2 : Int) ^ W = ((2 ^ W : Nat) : Int) := by simp
    have q2 : IntKind.u64.wrap ((2 ^ W : Nat) : Int) = ((2 ^ W : Nat) : Int) := by clear e1 e2 e3 e4 e5 r1 r2 r3; rw [IntKind.wrap_u64]; omega
    have q3 := Nat.two_pow_add_eq_or_of_lt (i := W) (b := P) hs.2.1 1
    rw [Nat.mul_one] at q3
    have q4 : 2 ^ W < 18446744073709551616 := by clear e1 e2 e3 e4 e5 r1 r2 r3 q2; omega
    have q5 : P < 18446744073709551616 := by clear e1 e2 e3 e4 e5 r1 r2 r3 q2; have := HP.out; omega
    rw [q1, q2, u64_or_nat _ _ q4 q5, hM, q3]
  rw [← hxa, ← hra, ← hri, ← hM] at A3
  rw [← hM] at A1 A2
  rw [← hxb, ← hrb, ← hzr, ← hrz, ← hvo]
  have m1 : (ri : Int) % 18446744073709551616 = (ri : Int) := by clear e1 e2 e3 e4 e5 r1 r2 r3; omega
  have m2 : (z : Int) % 4294967296 = (z : Int) := by clear e1 e2 e3 e4 e5 r1 r2 r3; have := HZ.out; omega
  have m5 : z % 4294967296 = z := Nat.mod_eq_of_lt HZ.out
  have m6 : IntKind.u32.wrap (z : Int) = (z : Int) := by clear e1 e2 e3 e4 e5 r1 r2 r3; rw [IntKind.wrap_u32]; exact m2
  have m3 : n % 18446744073709551616 = n := by clear e1 e2 e3 e4 e5 r1 r2 r3; omega
  have m4 : (P : Int) % 18446744073709551616 = (P : Int) := by clear e1 e2 e3 e4 e5 r1 r2 r3; have := HP.out; omega
  clear hxa hxb hra hrb hri hzr hrz hvo l1 l2 l3 l4 l5 lxa lxb hw32 hM hK
  clear hs ha hb hz h1 h2 h3 h32 hW8
  go_enter Try.func37, Try.ntmps37
  go_wp2_with (first
    | ((with_reducible refine gate_dst (N := 4) rfl ?_); refine box_event ?hg (N := 4) ?hd (cs := #[.int .i64 (W : Int), .int .u32 (P : Int), .int .u32 (I : Int), .int .u32 (O : Int), .bool true]) (t := 24) ?hr ?_; (case hd => rfl); (case hg => rfl); (case hr => first | (go_simp; done) | (go_simp; rfl)); intro g hg_ wg hbox_ hb_; have n0_ := Aside0.mk (below_step HB.out hb_); have n1_ := Aside0.mk hbox_; clear HB; have HB := n0_; have BKg := n1_; clear n0_ n1_; clear hb_ hbox_ hg_; have hcg_wg_0 : wg.cell? ⟨g, 0, none⟩ = some (.int .i64 (W : Int)) := (blk_cell BKg.out 0).trans rfl; have hfg_wg_0 := blk_frozen BKg.out 0; have hcg_wg_1 : wg.cell? ⟨g, 1, none⟩ = some (.int .u32 (P : Int)) := (blk_cell BKg.out 1).trans rfl; have hfg_wg_1 := blk_frozen BKg.out 1; have hcg_wg_2 : wg.cell? ⟨g, 2, none⟩ = some (.int .u32 (I : Int)) := (blk_cell BKg.out 2).trans rfl; have hfg_wg_2 := blk_frozen BKg.out 2; have hcg_wg_3 : wg.cell? ⟨g, 3, none⟩ = some (.int .u32 (O : Int)) := (blk_cell BKg.out 3).trans rfl; have hfg_wg_3 := blk_frozen BKg.out 3; have hcg_wg_4 : wg.cell? ⟨g, 4, none⟩ = some (.bool true) := (blk_cell BKg.out 4).trans rfl; have hfg_wg_4 := blk_frozen BKg.out 4)
    | (go_at_call 16; refine (crc_Check_ok W P I O true _ HS.out).mono ?_; rintro e w1 ⟨rfl, hb⟩; have n0_ := Aside0.mk (below_step HB.out hb); clear HB; have HB := n0_; clear n0_; have n0_ := Aside0.mk (blk_below BKg.out hb); clear BKg; have BKg := n0_; clear n0_; have hcg_w1_0 : w1.cell? ⟨g, 0, none⟩ = some (.int .i64 (W : Int)) := (blk_cell BKg.out 0).trans rfl; have hfg_w1_0 := blk_frozen BKg.out 0; have hcg_w1_1 : w1.cell? ⟨g, 1, none⟩ = some (.int .u32 (P : Int)) := (blk_cell BKg.out 1).trans rfl; have hfg_w1_1 := blk_frozen BKg.out 1; have hcg_w1_2 : w1.cell? ⟨g, 2, none⟩ = some (.int .u32 (I : Int)) := (blk_cell BKg.out 2).trans rfl; have hfg_w1_2 := blk_frozen BKg.out 2; have hcg_w1_3 : w1.cell? ⟨g, 3, none⟩ = some (.int .u32 (O : Int)) := (blk_cell BKg.out 3).trans rfl; have hfg_w1_3 := blk_frozen BKg.out 3; have hcg_w1_4 : w1.cell? ⟨g, 4, none⟩ = some (.bool true) := (blk_cell BKg.out 4).trans rfl; have hfg_w1_4 := blk_frozen BKg.out 4; clear hb)
    | (go_at_call 40; refine (crc_fit_refl W P I O _ HW2.out).mono ?_; rintro e w2 ⟨p, q, rfl, hh, hb⟩; simp only [crc_wv, if_true, if_false, Bool.false_eq_true]; have n0_ := Aside0.mk (below_step HB.out hb); clear HB; have HB := n0_; clear n0_; have n0_ := Aside0.mk (blk_below BKg.out hb); clear BKg; have BKg := n0_; clear n0_; have hcg_w2_0 : w2.cell? ⟨g, 0, none⟩ = some (.int .i64 (W : Int)) := (blk_cell BKg.out 0).trans rfl; have hfg_w2_0 := blk_frozen BKg.out 0; have hcg_w2_1 : w2.cell? ⟨g, 1, none⟩ = some (.int .u32 (P : Int)) := (blk_cell BKg.out 1).trans rfl; have hfg_w2_1 := blk_frozen BKg.out 1; have hcg_w2_2 : w2.cell? ⟨g, 2, none⟩ = some (.int .u32 (I : Int)) := (blk_cell BKg.out 2).trans rfl; have hfg_w2_2 := blk_frozen BKg.out 2; have hcg_w2_3 : w2.cell? ⟨g, 3, none⟩ = some (.int .u32 (O : Int)) := (blk_cell BKg.out 3).trans rfl; have hfg_w2_3 := blk_frozen BKg.out 3; have hcg_w2_4 : w2.cell? ⟨g, 4, none⟩ = some (.bool true) := (blk_cell BKg.out 4).trans rfl; have hfg_w2_4 := blk_frozen BKg.out 4; have HH := Aside0.mk hh; have hlt := blk_lt BKg.out; clear hb hh))
  go_quiet (first | (go_at_call 61; exact Calls.quiet_of (crc_fit4_calls p W K xa P I O true _ HXA.out HK.out (by repeat (first | exact HH.out.1 | refine blk_drewN ?_ _ | refine blk_alloc ?_ _)))) | (go_at_call 61; exact Calls.quiet_of (crc_fit4_calls p W K xb P I O true _ HXB.out HK.out (by repeat (first | exact HH.out.1 | refine blk_drewN ?_ _ | refine blk_alloc ?_ _)))))
  go_wp2
  go_quiet (fail)
  go_wp2_with (first
    | (go_at_call 52; (with_reducible refine (poly_PowMod.calls k 2 8 (M : Int) x1 x2 _ A1.out).mono ?_); rintro e w3 ⟨rfl, hb⟩; have n0_ := Aside0.mk (below_step (by repeat (first | (with_reducible first | exact HB.out | apply below_alloc | apply pw_below_drewN | apply below_drew1) | exact HB.out)) hb); have n1_ := Aside0.mk (blk_below (g := g) (o := .cells #[.int .i64 (W : Int), .int .u32 (P : Int), .int .u32 (I : Int), .int .u32 (O : Int), .bool true] 24 (0, 0)) (by repeat (first | exact BKg.out | refine blk_drewN ?_ _ | refine blk_alloc ?_ _)) hb); have n2_ := Aside0.mk (blk_below (g := w2.heap.size) (o := .cells #[.int .i64 (W : Int), .int .u32 (P : Int), .int .u32 (I : Int), .int .u32 (O : Int), .bool true, .func (.func 60) #[] #[], .func (.func 61) #[] #[.pointer (some ⟨p, 0, none⟩)], .func (.func 63) #[] #[.pointer (some ⟨q, 0, none⟩)]] 55 (0, 0)) (by repeat (first | exact blk_new _ _ | refine blk_drewN ?_ _)) hb); have n3_ := Aside0.mk (crc_Held.later (w := _) ⟨by repeat (first | exact HH.out.1 | refine blk_drewN ?_ _ | refine blk_alloc ?_ _), by repeat (first | exact HH.out.2 | refine blk_drewN ?_ _ | refine blk_alloc ?_ _)⟩ hb : crc_Held W P I O true p q _); clear HB BKg HH; have HB := n0_; have BKg := n1_; have BKh := n2_; have HH := n3_; clear n0_ n1_ n2_ n3_ hb; have hcg_w3_0 : w3.cell? ⟨g, 0, none⟩ = some (.int .i64 (W : Int)) := (blk_cell BKg.out 0).trans rfl; have hfg_w3_0 := blk_frozen BKg.out 0; have hcg_w3_1 : w3.cell? ⟨g, 1, none⟩ = some (.int .u32 (P : Int)) := (blk_cell BKg.out 1).trans rfl; have hfg_w3_1 := blk_frozen BKg.out 1; have hcg_w3_2 : w3.cell? ⟨g, 2, none⟩ = some (.int .u32 (I : Int)) := (blk_cell BKg.out 2).trans rfl; have hfg_w3_2 := blk_frozen BKg.out 2; have hcg_w3_3 : w3.cell? ⟨g, 3, none⟩ = some (.int .u32 (O : Int)) := (blk_cell BKg.out 3).trans rfl; have hfg_w3_3 := blk_frozen BKg.out 3; have hcg_w3_4 : w3.cell? ⟨g, 4, none⟩ = some (.bool true) := (blk_cell BKg.out 4).trans rfl; have hfg_w3_4 := blk_frozen BKg.out 4; have hch_w3 : w3.cell? ⟨w2.heap.size, 6, none⟩ = some (.func (.func 61) #[] #[.pointer (some ⟨p, 0, none⟩)]) := (blk_cell BKh.out 6).trans rfl; have hfh_w3 := blk_frozen BKh.out 6; clear A1)
    | (go_at_call 52; (with_reducible refine (poly_PowMod.calls k x1 n (M : Int) y1 y2 _ A2.out).mono ?_); rintro e w4 ⟨rfl, hb⟩; have n0_ := Aside0.mk (below_step (by repeat (first | (with_reducible first | exact HB.out | apply below_alloc | apply pw_below_drewN | apply below_drew1) | exact HB.out)) hb); have n1_ := Aside0.mk (blk_below (g := g) (o := .cells #[.int .i64 (W : Int), .int .u32 (P : Int), .int .u32 (I : Int), .int .u32 (O : Int), .bool true] 24 (0, 0)) (by repeat (first | exact BKg.out | refine blk_drewN ?_ _ | refine blk_alloc ?_ _)) hb); have n2_ := Aside0.mk (blk_below (g := w2.heap.size) (o := .cells #[.int .i64 (W : Int), .int .u32 (P : Int), .int .u32 (I : Int), .int .u32 (O : Int), .bool true, .func (.func 60) #[] #[], .func (.func 61) #[] #[.pointer (some ⟨p, 0, none⟩)], .func (.func 63) #[] #[.pointer (some ⟨q, 0, none⟩)]] 55 (0, 0)) (by repeat (first | exact BKh.out | refine blk_drewN ?_ _)) hb); have n3_ := Aside0.mk (crc_Held.later (w := _) ⟨by repeat (first | exact HH.out.1 | refine blk_drewN ?_ _ | refine blk_alloc ?_ _), by repeat (first | exact HH.out.2 | refine blk_drewN ?_ _ | refine blk_alloc ?_ _)⟩ hb : crc_Held W P I O true p q _); clear HB BKg BKh HH; have HB := n0_; have BKg := n1_; have BKh := n2_; have HH := n3_; clear n0_ n1_ n2_ n3_ hb; have hcg_w4_0 : w4.cell? ⟨g, 0, none⟩ = some (.int .i64 (W : Int)) := (blk_cell BKg.out 0).trans rfl; have hfg_w4_0 := blk_frozen BKg.out 0; have hcg_w4_1 : w4.cell? ⟨g, 1, none⟩ = some (.int .u32 (P : Int)) := (blk_cell BKg.out 1).trans rfl; have hfg_w4_1 := blk_frozen BKg.out 1; have hcg_w4_2 : w4.cell? ⟨g, 2, none⟩ = some (.int .u32 (I : Int)) := (blk_cell BKg.out 2).trans rfl; have hfg_w4_2 := blk_frozen BKg.out 2; have hcg_w4_3 : w4.cell? ⟨g, 3, none⟩ = some (.int .u32 (O : Int)) := (blk_cell BKg.out 3).trans rfl; have hfg_w4_3 := blk_frozen BKg.out 3; have hcg_w4_4 : w4.cell? ⟨g, 4, none⟩ = some (.bool true) := (blk_cell BKg.out 4).trans rfl; have hfg_w4_4 := blk_frozen BKg.out 4; have hch_w4 : w4.cell? ⟨w2.heap.size, 6, none⟩ = some (.func (.func 61) #[] #[.pointer (some ⟨p, 0, none⟩)]) := (blk_cell BKh.out 6).trans rfl; have hfh_w4 := blk_frozen BKh.out 6; clear A2)
    | (go_at_call 53; (with_reducible refine (poly_MulMod.calls k (ri : Int) y1 (M : Int) (z : Int) z2 _ A3.out).mono ?_); rintro e w5 ⟨rfl, hd⟩; have hb := hd.below; clear hd; have n0_ := Aside0.mk (below_step (by repeat (first | (with_reducible first | exact HB.out | apply below_alloc | apply pw_below_drewN | apply below_drew1) | exact HB.out)) hb); have n1_ := Aside0.mk (blk_below (g := g) (o := .cells #[.int .i64 (W : Int), .int .u32 (P : Int), .int .u32 (I : Int), .int .u32 (O : Int), .bool true] 24 (0, 0)) (by repeat (first | exact BKg.out | refine blk_drewN ?_ _ | refine blk_alloc ?_ _)) hb); have n2_ := Aside0.mk (blk_below (g := w2.heap.size) (o := .cells #[.int .i64 (W : Int), .int .u32 (P : Int), .int .u32 (I : Int), .int .u32 (O : Int), .bool true, .func (.func 60) #[] #[], .func (.func 61) #[] #[.pointer (some ⟨p, 0, none⟩)], .func (.func 63) #[] #[.pointer (some ⟨q, 0, none⟩)]] 55 (0, 0)) (by repeat (first | exact BKh.out | refine blk_drewN ?_ _)) hb); have n3_ := Aside0.mk (crc_Held.later (w := _) ⟨by repeat (first | exact HH.out.1 | refine blk_drewN ?_ _ | refine blk_alloc ?_ _), by repeat (first | exact HH.out.2 | refine blk_drewN ?_ _ | refine blk_alloc ?_ _)⟩ hb : crc_Held W P I O true p q _); clear HB BKg BKh HH; have HB := n0_; have BKg := n1_; have BKh := n2_; have HH := n3_; clear n0_ n1_ n2_ n3_ hb; have hcg_w5_0 : w5.cell? ⟨g, 0, none⟩ = some (.int .i64 (W : Int)) := (blk_cell BKg.out 0).trans rfl; have hfg_w5_0 := blk_frozen BKg.out 0; have hcg_w5_1 : w5.cell? ⟨g, 1, none⟩ = some (.int .u32 (P : Int)) := (blk_cell BKg.out 1).trans rfl; have hfg_w5_1 := blk_frozen BKg.out 1; have hcg_w5_2 : w5.cell? ⟨g, 2, none⟩ = some (.int .u32 (I : Int)) := (blk_cell BKg.out 2).trans rfl; have hfg_w5_2 := blk_frozen BKg.out 2; have hcg_w5_3 : w5.cell? ⟨g, 3, none⟩ = some (.int .u32 (O : Int)) := (blk_cell BKg.out 3).trans rfl; have hfg_w5_3 := blk_frozen BKg.out 3; have hcg_w5_4 : w5.cell? ⟨g, 4, none⟩ = some (.bool true) := (blk_cell BKg.out 4).trans rfl; have hfg_w5_4 := blk_frozen BKg.out 4; have hch_w5 : w5.cell? ⟨w2.heap.size, 6, none⟩ = some (.func (.func 61) #[] #[.pointer (some ⟨p, 0, none⟩)]) := (blk_cell BKh.out 6).trans rfl; have hfh_w5 := blk_frozen BKh.out 6; clear A3))
  go_quiet (first | (go_at_call 61; exact Calls.quiet_of (crc_fit4_calls p W K zr P I O true _ HZR.out HK.out (by repeat (first | exact HH.out.1 | refine blk_drewN ?_ _ | refine blk_alloc ?_ _)))))
  go_wp2
  go_ret2
  exact ⟨rfl, by repeat (first | (with_reducible first | exact HB.out | apply below_alloc | apply pw_below_drewN | apply below_drew1) | exact HB.out)⟩
set_option maxHeartbeats 16000000 in
set_option maxRecDepth 100000 in
theorem crc_Join_bad (W P I O a b n : Int) (R : Bool) (w : World) (h : Crc.okI W P I O = false) : Calls Try.prog 37 #[.agg #[.int .i64 W, .int .u32 P, .int .u32 I, .int .u32 O, .bool R], .int .u32 a, .int .u32 b, .int .i64 n] w fun e w' => e = .returned (.tuple #[.int .u32 0, .int .i64 30]) ∧ Below w.heap.size w w' := by
  have hu24 := Try.underlying24
  have hu55 := Try.underlying55
  have HB := Aside0.mk (Below.refl w.heap.size w)
  have HS := Aside0.mk h
  clear h
  go_enter Try.func37, Try.ntmps37
  go_wp2_with (first | ((with_reducible refine gate_dst (N := 4) rfl ?_); refine box_event ?hg (N := 4) ?hd (cs := #[.int .i64 W, .int .u32 P, .int .u32 I, .int .u32 O, .bool R]) (t := 24) ?hr ?_; (case hd => rfl); (case hg => rfl); (case hr => first | (go_simp; done) | (go_simp; rfl)); intro g hg_ wg hbox_ hb_; have n0_ := Aside0.mk (below_step HB.out hb_); have n1_ := Aside0.mk hbox_; clear HB; have HB := n0_; have BKg := n1_; clear n0_ n1_; clear hb_ hbox_ hg_; have hcg_wg_0 : wg.cell? ⟨g, 0, none⟩ = some (.int .i64 W) := (blk_cell BKg.out 0).trans rfl; have hfg_wg_0 := blk_frozen BKg.out 0; have hcg_wg_1 : wg.cell? ⟨g, 1, none⟩ = some (.int .u32 P) := (blk_cell BKg.out 1).trans rfl; have hfg_wg_1 := blk_frozen BKg.out 1; have hcg_wg_2 : wg.cell? ⟨g, 2, none⟩ = some (.int .u32 I) := (blk_cell BKg.out 2).trans rfl; have hfg_wg_2 := blk_frozen BKg.out 2; have hcg_wg_3 : wg.cell? ⟨g, 3, none⟩ = some (.int .u32 O) := (blk_cell BKg.out 3).trans rfl; have hfg_wg_3 := blk_frozen BKg.out 3; have hcg_wg_4 : wg.cell? ⟨g, 4, none⟩ = some (.bool R) := (blk_cell BKg.out 4).trans rfl; have hfg_wg_4 := blk_frozen BKg.out 4) | (go_at_call 16; refine (crc_Check_bad W P I O R _ HS.out).mono ?_; rintro e w1 ⟨rfl, hb⟩; have n0_ := Aside0.mk (below_step HB.out hb); clear HB; have HB := n0_; clear n0_; have n0_ := Aside0.mk (blk_below BKg.out hb); clear BKg; have BKg := n0_; clear n0_; have hcg_w1_0 : w1.cell? ⟨g, 0, none⟩ = some (.int .i64 W) := (blk_cell BKg.out 0).trans rfl; have hfg_w1_0 := blk_frozen BKg.out 0; have hcg_w1_1 : w1.cell? ⟨g, 1, none⟩ = some (.int .u32 P) := (blk_cell BKg.out 1).trans rfl; have hfg_w1_1 := blk_frozen BKg.out 1; have hcg_w1_2 : w1.cell? ⟨g, 2, none⟩ = some (.int .u32 I) := (blk_cell BKg.out 2).trans rfl; have hfg_w1_2 := blk_frozen BKg.out 2; have hcg_w1_3 : w1.cell? ⟨g, 3, none⟩ = some (.int .u32 O) := (blk_cell BKg.out 3).trans rfl; have hfg_w1_3 := blk_frozen BKg.out 3; have hcg_w1_4 : w1.cell? ⟨g, 4, none⟩ = some (.bool R) := (blk_cell BKg.out 4).trans rfl; have hfg_w1_4 := blk_frozen BKg.out 4; clear hb))
  go_ret2
  exact ⟨rfl, by repeat (first | (with_reducible first | exact HB.out | apply below_alloc | apply pw_below_drewN | apply below_drew1) | exact HB.out)⟩
set_option maxHeartbeats 16000000 in
set_option maxRecDepth 100000 in
theorem crc_Join_neg (W P I O : Nat) (a b n : Int) (R : Bool) (w : World) (h : Crc.okN W P I O) (hn : n < 0) : Calls Try.prog 37 #[.agg #[.int .i64 (W : Int), .int .u32 (P : Int), .int .u32 (I : Int), .int .u32 (O : Int), .bool R], .int .u32 a, .int .u32 b, .int .i64 n] w fun e w' => e = .returned (.tuple #[.int .u32 0, .int .i64 1]) ∧ Below w.heap.size w w' := by
  have hu24 := Try.underlying24
  have hu55 := Try.underlying55
  have HB := Aside0.mk (Below.refl w.heap.size w)
  have HS := Aside0.mk h
  have t1 : decide (n < 0) = true := decide_eq_true hn
  clear h
  go_enter Try.func37, Try.ntmps37
  go_wp2_with (first | ((with_reducible refine gate_dst (N := 4) rfl ?_); refine box_event ?hg (N := 4) ?hd (cs := #[.int .i64 (W : Int), .int .u32 (P : Int), .int .u32 (I : Int), .int .u32 (O : Int), .bool R]) (t := 24) ?hr ?_; (case hd => rfl); (case hg => rfl); (case hr => first | (go_simp; done) | (go_simp; rfl)); intro g hg_ wg hbox_ hb_; have n0_ := Aside0.mk (below_step HB.out hb_); have n1_ := Aside0.mk hbox_; clear HB; have HB := n0_; have BKg := n1_; clear n0_ n1_; clear hb_ hbox_ hg_; have hcg_wg_0 : wg.cell? ⟨g, 0, none⟩ = some (.int .i64 (W : Int)) := (blk_cell BKg.out 0).trans rfl; have hfg_wg_0 := blk_frozen BKg.out 0; have hcg_wg_1 : wg.cell? ⟨g, 1, none⟩ = some (.int .u32 (P : Int)) := (blk_cell BKg.out 1).trans rfl; have hfg_wg_1 := blk_frozen BKg.out 1; have hcg_wg_2 : wg.cell? ⟨g, 2, none⟩ = some (.int .u32 (I : Int)) := (blk_cell BKg.out 2).trans rfl; have hfg_wg_2 := blk_frozen BKg.out 2; have hcg_wg_3 : wg.cell? ⟨g, 3, none⟩ = some (.int .u32 (O : Int)) := (blk_cell BKg.out 3).trans rfl; have hfg_wg_3 := blk_frozen BKg.out 3; have hcg_wg_4 : wg.cell? ⟨g, 4, none⟩ = some (.bool R) := (blk_cell BKg.out 4).trans rfl; have hfg_wg_4 := blk_frozen BKg.out 4) | (go_at_call 16; refine (crc_Check_ok W P I O R _ HS.out).mono ?_; rintro e w1 ⟨rfl, hb⟩; have n0_ := Aside0.mk (below_step HB.out hb); clear HB; have HB := n0_; clear n0_; have n0_ := Aside0.mk (blk_below BKg.out hb); clear BKg; have BKg := n0_; clear n0_; have hcg_w1_0 : w1.cell? ⟨g, 0, none⟩ = some (.int .i64 (W : Int)) := (blk_cell BKg.out 0).trans rfl; have hfg_w1_0 := blk_frozen BKg.out 0; have hcg_w1_1 : w1.cell? ⟨g, 1, none⟩ = some (.int .u32 (P : Int)) := (blk_cell BKg.out 1).trans rfl; have hfg_w1_1 := blk_frozen BKg.out 1; have hcg_w1_2 : w1.cell? ⟨g, 2, none⟩ = some (.int .u32 (I : Int)) := (blk_cell BKg.out 2).trans rfl; have hfg_w1_2 := blk_frozen BKg.out 2; have hcg_w1_3 : w1.cell? ⟨g, 3, none⟩ = some (.int .u32 (O : Int)) := (blk_cell BKg.out 3).trans rfl; have hfg_w1_3 := blk_frozen BKg.out 3; have hcg_w1_4 : w1.cell? ⟨g, 4, none⟩ = some (.bool R) := (blk_cell BKg.out 4).trans rfl; have hfg_w1_4 := blk_frozen BKg.out 4; clear hb))
  go_ret2
  exact ⟨rfl, by repeat (first | (with_reducible first | exact HB.out | apply below_alloc | apply pw_below_drewN | apply below_drew1) | exact HB.out)⟩
set_option maxHeartbeats 16000000 in
set_option maxRecDepth 100000 in
theorem crc_Join_over (W P I O a b : Nat) (n : Int) (R : Bool) (w : World) (h : Crc.okN W P I O) (hn : 0 ≤ n) (hab : 2 ^ W ≤ a ∨ 2 ^ W ≤ b) : Calls Try.prog 37 #[.agg #[.int .i64 (W : Int), .int .u32 (P : Int), .int .u32 (I : Int), .int .u32 (O : Int), .bool R], .int .u32 (a : Int), .int .u32 (b : Int), .int .i64 n] w fun e w' => e = .returned (.tuple #[.int .u32 0, .int .i64 11]) ∧ Below w.heap.size w w' := by
  have hu24 := Try.underlying24
  have hu55 := Try.underlying55
  have HB := Aside0.mk (Below.refl w.heap.size w)
  have HS := Aside0.mk h
  have hW32 : W ≤ 32 := by have := h.1; omega
  have k1 : (0 : Int) ≤ 32 - (W : Int) := by omega
  have k3 : IntKind.i64.wrap (32 - (W : Int)) = 32 - (W : Int) := IntWalk.i64_in _ (by omega)
  have t1 : decide (n < 0) = false := decide_eq_false (by omega)
  have top : (4294967295 : Int) / 2 ^ (32 - W) = ((2 ^ W - 1 : Nat) : Int) := by
    have e1 : 2 ^ 32 = 2 ^ (32 - W) * 2 ^ W := by rw [← Nat.pow_add]; congr 1; omega
    have hp := Nat.pow_pos (n := 32 - W) (show 0 < 2 by omega)
    have hq := Nat.pow_pos (n := W) (show 0 < 2 by omega)
    have e2 : 4294967295 / 2 ^ (32 - W) = 2 ^ W - 1 := by
      refine Nat.div_eq_of_lt_le ?_ ?_
      · rw [Nat.mul_comm, Nat.mul_sub, ← e1, Nat.mul_one]; omega
      · rw [Nat.sub_add_cancel hq, Nat.mul_comm, ← e1]; decide
    have e3 : ((4294967295 / 2 ^ (32 - W) : Nat) : Int) = ((2 ^ W - 1 : Nat) : Int) := by rw [e2]
    rw [← e3]
    simp
  have hq := Nat.pow_pos (n := W) (show 0 < 2 by omega)
  by_cases ca : 2 ^ W ≤ a
  · have u1 : decide ((4294967295 : Int) / 2 ^ (32 - W) < (a : Int)) = true := decide_eq_true (by rw [top]; omega)
    clear top h ca hab hq
    go_enter Try.func37, Try.ntmps37
    go_wp2_with (first | ((with_reducible refine gate_dst (N := 4) rfl ?_); refine box_event ?hg (N := 4) ?hd (cs := #[.int .i64 (W : Int), .int .u32 (P : Int), .int .u32 (I : Int), .int .u32 (O : Int), .bool R]) (t := 24) ?hr ?_; (case hd => rfl); (case hg => rfl); (case hr => first | (go_simp; done) | (go_simp; rfl)); intro g hg_ wg hbox_ hb_; have n0_ := Aside0.mk (below_step HB.out hb_); have n1_ := Aside0.mk hbox_; clear HB; have HB := n0_; have BKg := n1_; clear n0_ n1_; clear hb_ hbox_ hg_; have hcg_wg_0 : wg.cell? ⟨g, 0, none⟩ = some (.int .i64 (W : Int)) := (blk_cell BKg.out 0).trans rfl; have hfg_wg_0 := blk_frozen BKg.out 0; have hcg_wg_1 : wg.cell? ⟨g, 1, none⟩ = some (.int .u32 (P : Int)) := (blk_cell BKg.out 1).trans rfl; have hfg_wg_1 := blk_frozen BKg.out 1; have hcg_wg_2 : wg.cell? ⟨g, 2, none⟩ = some (.int .u32 (I : Int)) := (blk_cell BKg.out 2).trans rfl; have hfg_wg_2 := blk_frozen BKg.out 2; have hcg_wg_3 : wg.cell? ⟨g, 3, none⟩ = some (.int .u32 (O : Int)) := (blk_cell BKg.out 3).trans rfl; have hfg_wg_3 := blk_frozen BKg.out 3; have hcg_wg_4 : wg.cell? ⟨g, 4, none⟩ = some (.bool R) := (blk_cell BKg.out 4).trans rfl; have hfg_wg_4 := blk_frozen BKg.out 4) | (go_at_call 16; refine (crc_Check_ok W P I O R _ HS.out).mono ?_; rintro e w1 ⟨rfl, hb⟩; have n0_ := Aside0.mk (below_step HB.out hb); clear HB; have HB := n0_; clear n0_; have n0_ := Aside0.mk (blk_below BKg.out hb); clear BKg; have BKg := n0_; clear n0_; have hcg_w1_0 : w1.cell? ⟨g, 0, none⟩ = some (.int .i64 (W : Int)) := (blk_cell BKg.out 0).trans rfl; have hfg_w1_0 := blk_frozen BKg.out 0; have hcg_w1_1 : w1.cell? ⟨g, 1, none⟩ = some (.int .u32 (P : Int)) := (blk_cell BKg.out 1).trans rfl; have hfg_w1_1 := blk_frozen BKg.out 1; have hcg_w1_2 : w1.cell? ⟨g, 2, none⟩ = some (.int .u32 (I : Int)) := (blk_cell BKg.out 2).trans rfl; have hfg_w1_2 := blk_frozen BKg.out 2; have hcg_w1_3 : w1.cell? ⟨g, 3, none⟩ = some (.int .u32 (O : Int)) := (blk_cell BKg.out 3).trans rfl; have hfg_w1_3 := blk_frozen BKg.out 3; have hcg_w1_4 : w1.cell? ⟨g, 4, none⟩ = some (.bool R) := (blk_cell BKg.out 4).trans rfl; have hfg_w1_4 := blk_frozen BKg.out 4; clear hb))
    go_ret2
    exact ⟨rfl, by repeat (first | (with_reducible first | exact HB.out | apply below_alloc | apply pw_below_drewN | apply below_drew1) | exact HB.out)⟩
  · have u1 : decide ((4294967295 : Int) / 2 ^ (32 - W) < (a : Int)) = false := decide_eq_false (by rw [top]; omega)
    have u2 : decide ((4294967295 : Int) / 2 ^ (32 - W) < (b : Int)) = true := decide_eq_true (by rw [top]; omega)
    clear top h ca hab hq
    go_enter Try.func37, Try.ntmps37
    go_wp2_with (first | ((with_reducible refine gate_dst (N := 4) rfl ?_); refine box_event ?hg (N := 4) ?hd (cs := #[.int .i64 (W : Int), .int .u32 (P : Int), .int .u32 (I : Int), .int .u32 (O : Int), .bool R]) (t := 24) ?hr ?_; (case hd => rfl); (case hg => rfl); (case hr => first | (go_simp; done) | (go_simp; rfl)); intro g hg_ wg hbox_ hb_; have n0_ := Aside0.mk (below_step HB.out hb_); have n1_ := Aside0.mk hbox_; clear HB; have HB := n0_; have BKg := n1_; clear n0_ n1_; clear hb_ hbox_ hg_; have hcg_wg_0 : wg.cell? ⟨g, 0, none⟩ = some (.int .i64 (W : Int)) := (blk_cell BKg.out 0).trans rfl; have hfg_wg_0 := blk_frozen BKg.out 0; have hcg_wg_1 : wg.cell? ⟨g, 1, none⟩ = some (.int .u32 (P : Int)) := (blk_cell BKg.out 1).trans rfl; have hfg_wg_1 := blk_frozen BKg.out 1; have hcg_wg_2 : wg.cell? ⟨g, 2, none⟩ = some (.int .u32 (I : Int)) := (blk_cell BKg.out 2).trans rfl; have hfg_wg_2 := blk_frozen BKg.out 2; have hcg_wg_3 : wg.cell? ⟨g, 3, none⟩ = some (.int .u32 (O : Int)) := (blk_cell BKg.out 3).trans rfl; have hfg_wg_3 := blk_frozen BKg.out 3; have hcg_wg_4 : wg.cell? ⟨g, 4, none⟩ = some (.bool R) := (blk_cell BKg.out 4).trans rfl; have hfg_wg_4 := blk_frozen BKg.out 4) | (go_at_call 16; refine (crc_Check_ok W P I O R _ HS.out).mono ?_; rintro e w1 ⟨rfl, hb⟩; have n0_ := Aside0.mk (below_step HB.out hb); clear HB; have HB := n0_; clear n0_; have n0_ := Aside0.mk (blk_below BKg.out hb); clear BKg; have BKg := n0_; clear n0_; have hcg_w1_0 : w1.cell? ⟨g, 0, none⟩ = some (.int .i64 (W : Int)) := (blk_cell BKg.out 0).trans rfl; have hfg_w1_0 := blk_frozen BKg.out 0; have hcg_w1_1 : w1.cell? ⟨g, 1, none⟩ = some (.int .u32 (P : Int)) := (blk_cell BKg.out 1).trans rfl; have hfg_w1_1 := blk_frozen BKg.out 1; have hcg_w1_2 : w1.cell? ⟨g, 2, none⟩ = some (.int .u32 (I : Int)) := (blk_cell BKg.out 2).trans rfl; have hfg_w1_2 := blk_frozen BKg.out 2; have hcg_w1_3 : w1.cell? ⟨g, 3, none⟩ = some (.int .u32 (O : Int)) := (blk_cell BKg.out 3).trans rfl; have hfg_w1_3 := blk_frozen BKg.out 3; have hcg_w1_4 : w1.cell? ⟨g, 4, none⟩ = some (.bool R) := (blk_cell BKg.out 4).trans rfl; have hfg_w1_4 := blk_frozen BKg.out 4; clear hb))
    go_ret2
    exact ⟨rfl, by repeat (first | (with_reducible first | exact HB.out | apply below_alloc | apply pw_below_drewN | apply below_drew1) | exact HB.out)⟩
/-- Sums of two strings one behind the other, of the program: by powers and products that are told. -/
def crc_Join.f (k : Nat) (W P I O : Int) (R : Bool) (a b n : Int) : Option (Int × Int) :=
  if Crc.okI W P I O then
    (if 0 ≤ P ∧ 0 ≤ I ∧ 0 ≤ O ∧ 0 ≤ a ∧ 0 ≤ b ∧ n < 9223372036854775808 then
      (if n < 0 then some (0, 1)
      else if 2 ^ W.toNat ≤ a.toNat ∨ 2 ^ W.toNat ≤ b.toNat then some (0, 11)
      else (poly_PowMod.f k 2 8 ((2 ^ W.toNat + P.toNat : Nat) : Int)).bind fun x => (poly_PowMod.f k x.1 n ((2 ^ W.toNat + P.toNat : Nat) : Int)).bind fun y =>
        (poly_MulMod.f k ((Crc.turn R W.toNat (a.toNat ^^^ O.toNat) ^^^ I.toNat : Nat) : Int) y.1 ((2 ^ W.toNat + P.toNat : Nat) : Int)).bind fun z =>
        if 0 ≤ z.1 ∧ z.1.toNat < 2 ^ W.toNat then some (((Crc.turn R W.toNat (z.1.toNat ^^^ Crc.turn R W.toNat (b.toNat ^^^ O.toNat)) ^^^ O.toNat : Nat) : Int), 0) else none)
    else none)
  else some (0, 30)
theorem crc_Join.mono : ∀ W P I O R a b n k, LeO (crc_Join.f k W P I O R a b n) (crc_Join.f (k + 1) W P I O R a b n) := by
  intro W P I O R a b n k
  unfold crc_Join.f
  split
  · split
    · split
      · exact LeO.refl _
      · split
        · exact LeO.refl _
        · exact LeO.bind (poly_PowMod.mono _ _ _ _) (fun _ => LeO.bind (poly_PowMod.mono _ _ _ _) (fun _ => LeO.bind (poly_MulMod.mono _ _ _ _) (fun _ => LeO.refl _)))
    · exact LeO.refl _
  · exact LeO.refl _
theorem crc_Join.calls (k : Nat) (a0_0 a0_1 a0_2 a0_3 : Int) (a0_4 : Bool) (a1 a2 a3 : Int) (r1 r2 : Int) (w : World) (h : crc_Join.f k a0_0 a0_1 a0_2 a0_3 a0_4 a1 a2 a3 = some (r1, r2)) :
    Calls Try.prog 37 #[.agg #[.int .i64 a0_0, .int .u32 a0_1, .int .u32 a0_2, .int .u32 a0_3, .bool a0_4], .int .u32 a1, .int .u32 a2, .int .i64 a3] w fun e w' => e = .returned (.tuple #[.int .u32 r1, .int .i64 r2]) ∧ Below w.heap.size w w' := by
  unfold crc_Join.f at h
  cases hk : Crc.okI a0_0 a0_1 a0_2 a0_3 with
  | false =>
    simp only [hk, Bool.false_eq_true, if_false, Option.some.injEq, Prod.mk.injEq] at h
    obtain ⟨rfl, rfl⟩ := h
    exact crc_Join_bad a0_0 a0_1 a0_2 a0_3 a1 a2 a3 a0_4 w hk
  | true =>
    rw [hk, if_pos rfl] at h
    by_cases hg : 0 ≤ a0_1 ∧ 0 ≤ a0_2 ∧ 0 ≤ a0_3 ∧ 0 ≤ a1 ∧ 0 ≤ a2 ∧ a3 < 9223372036854775808
    · rw [if_pos hg] at h
      obtain ⟨g1, g2, g3, g4, g5, g6⟩ := hg
      obtain ⟨W, rfl⟩ : ∃ n : Nat, a0_0 = (n : Int) := ⟨a0_0.toNat, by have := Crc.okI_width hk; omega⟩
      obtain ⟨P, rfl⟩ : ∃ n : Nat, a0_1 = (n : Int) := ⟨a0_1.toNat, by omega⟩
      obtain ⟨I, rfl⟩ : ∃ n : Nat, a0_2 = (n : Int) := ⟨a0_2.toNat, by omega⟩
      obtain ⟨O, rfl⟩ : ∃ n : Nat, a0_3 = (n : Int) := ⟨a0_3.toNat, by omega⟩
      obtain ⟨a, rfl⟩ : ∃ n : Nat, a1 = (n : Int) := ⟨a1.toNat, by omega⟩
      obtain ⟨b, rfl⟩ : ∃ n : Nat, a2 = (n : Int) := ⟨a2.toNat, by omega⟩
      have hn := (Crc.okI_nat W P I O).1 hk
      simp only [Int.toNat_natCast] at h
      by_cases c1 : a3 < 0
      · rw [if_pos c1] at h
        simp only [Option.some.injEq, Prod.mk.injEq] at h
        obtain ⟨rfl, rfl⟩ := h
        exact crc_Join_neg W P I O a b a3 a0_4 w hn c1
      rw [if_neg c1] at h
      by_cases c2 : 2 ^ W ≤ a ∨ 2 ^ W ≤ b
      · rw [if_pos c2] at h
        simp only [Option.some.injEq, Prod.mk.injEq] at h
        obtain ⟨rfl, rfl⟩ := h
        exact crc_Join_over W P I O a b a3 a0_4 w hn (by omega) c2
      rw [if_neg c2] at h
      obtain ⟨⟨x1, x2⟩, h1, h⟩ := Option.bind_eq_some_iff.mp h
      obtain ⟨⟨y1, y2⟩, h2, h⟩ := Option.bind_eq_some_iff.mp h
      obtain ⟨⟨z1, z2⟩, h3, h⟩ := Option.bind_eq_some_iff.mp h
      by_cases c3 : 0 ≤ z1 ∧ z1.toNat < 2 ^ W
      · rw [if_pos c3] at h
        obtain ⟨z, rfl⟩ : ∃ n : Nat, z1 = (n : Int) := ⟨z1.toNat, by omega⟩
        simp only [Int.toNat_natCast] at c3 h
        simp only [Option.some.injEq, Prod.mk.injEq] at h
        obtain ⟨rfl, rfl⟩ := h
        cases a0_4
        · exact crc_Join_plain k W P I O a b z a3 x1 x2 y1 y2 z2 w hn (by omega) (by omega) c3.2 (by omega) g6 h1 h2 h3
        · exact crc_Join_refl k W P I O a b z a3 x1 x2 y1 y2 z2 w hn (by omega) (by omega) c3.2 (by omega) g6 h1 h2 h3
      · rw [if_neg c3] at h
        exact absurd h (by simp)
    · rw [if_neg hg] at h
      exact absurd h (by simp)

/-! ### outpostref02_Bit: function 73 -/
def outpostref02_Bit.f (a0 : Int) (a1 : Int) : Option (Int) := if 0 ≤ (IntKind.u64.wrap (a1)) then (some (Go.bits .and .u64 (shr .u64 a0 (IntKind.u64.wrap (a1))) 1)) else (none)
set_option maxHeartbeats 8000000 in
set_option maxRecDepth 100000 in
theorem outpostref02_Bit.calls (a0 : Int) (a1 : Int) (r : Int) (w : World) (h : outpostref02_Bit.f a0 a1 = some r) :
    Calls Try.prog 73 #[.int .u64 a0, .int .i64 a1] w fun e w' => e = .returned (.int .u64 r) ∧ Drawn0 w w' := by
  have H : (if 0 ≤ (IntKind.u64.wrap (a1)) then (some (Go.bits .and .u64 (shr .u64 a0 (IntKind.u64.wrap (a1))) 1)) else (none)) = some r := h
  clear h
  obtain ⟨ji3, hji3⟩ : ∃ j_ : Int, (IntKind.u64.wrap (a1)) = j_ := ⟨_, rfl⟩
  replace H : (if 0 ≤ (ji3) then (some (Go.bits .and .u64 (shr .u64 a0 (ji3)) 1)) else (none)) = some r := by first | (rw [hji3] at H; exact H) | (simp only [hji3] at H ⊢; exact H)
  by_cases c4 : 0 ≤ (ji3)
  · rw [if_pos c4] at H
    have c4b0 := eq_true c4
    have c4b1 : decide (0 ≤ (ji3)) = true := decide_eq_true c4
    clear c4
    obtain ⟨ji5, hji5⟩ : ∃ j_ : Int, (shr .u64 a0 (ji3)) = j_ := ⟨_, rfl⟩
    replace H : (some (Go.bits .and .u64 (ji5) 1)) = some r := by first | (rw [hji5] at H; exact H) | (simp only [hji5] at H ⊢; exact H)
    have hji5_ : (a0 / 2 ^ min (ji3).toNat 64) = ji5 := hji5
    have hji5z : (ji3) ≤ 64 → (a0 / 2 ^ (ji3).toNat) = ji5 := shr_small hji5
    obtain rfl := Option.some.inj H
    go_enter Try.func73, Try.ntmps73
    go_wp2
    go_ret
    exact ⟨by first | rfl | (simp; done) | (simp only [← hji3, ← hji5] <;> (first | rfl | simp)) | (simp [*]; done) | (simp [wrap64]; done), by repeat (first | exact Drawn0.refl _ | apply Drawn0.step)⟩
  · rw [if_neg c4] at H
    exact absurd H (by simp)

/-! ### outpostref02_Degree: function 77 -/
def outpostref02_Degree.l0 : Nat → Int → Int → Option (Int)
  | 0, _, _ => none
  | k + 1, x0, x3 => if x0 = 0 then (some x3) else (outpostref02_Degree.l0 k (x0 / 2) (wrap64 (x3 + 1)))
def outpostref02_Degree.f (k : Nat) (a0 : Int) : Option (Int) := outpostref02_Degree.l0 k a0 (-1)
theorem outpostref02_Degree.mono_l : ∀ k, (∀ y0 y1, LeO (outpostref02_Degree.l0 k y0 y1) (outpostref02_Degree.l0 (k + 1) y0 y1))
  | 0 => fun _ _ r h => by simp [outpostref02_Degree.l0] at h
  | k + 1 => by
    have ih0 := outpostref02_Degree.mono_l k
    · intro y0 y1
      unfold outpostref02_Degree.l0
      repeat' first
      | (with_reducible exact ih0 _ _)
      | (with_reducible exact LeO.refl _)
      | (with_reducible exact LeO.none _)
      | (with_reducible refine LeO.ite ?_ ?_)
      | (with_reducible refine LeO.bind ?_ (fun _ => ?_))
      | exact ih0 _ _
      | exact LeO.none _
      | refine LeO.ite ?_ ?_
      | refine LeO.bind ?_ (fun _ => ?_)
theorem outpostref02_Degree.mono : ∀ a0 k, LeO (outpostref02_Degree.f k a0) (outpostref02_Degree.f (k + 1) a0) := by
  intro a0 k
  have ih0 := outpostref02_Degree.mono_l k
  unfold outpostref02_Degree.f
  repeat' first
      | (with_reducible exact ih0 _ _)
      | (with_reducible exact LeO.refl _)
      | (with_reducible exact LeO.none _)
      | (with_reducible refine LeO.ite ?_ ?_)
      | (with_reducible refine LeO.bind ?_ (fun _ => ?_))
      | exact ih0 _ _
      | exact LeO.none _
      | refine LeO.ite ?_ ?_
      | refine LeO.bind ?_ (fun _ => ?_)
set_option maxHeartbeats 8000000 in
set_option maxRecDepth 100000 in
theorem outpostref02_Degree.calls (k : Nat) (a0 : Int) (r : Int) (w : World) (h : outpostref02_Degree.f k a0 = some r) :
    Calls Try.prog 77 #[.int .u64 a0] w fun e w' => e = .returned (.int .i64 r) ∧ Drawn0 w w' := by
  have H : (outpostref02_Degree.l0 k a0 (-1)) = some r := h
  clear h
  have H' := Aside0.mk H
  clear H
  go_enter Try.func77, Try.ntmps77
  go_wp2
  go_loopg [0, 3] k (fun kq v0 v3 w' => ∃ (x0_1 : Int) (x3_1 : Int), v0 = .int .u64 x0_1 ∧ v3 = .int .i64 x3_1 ∧ Aside0 (outpostref02_Degree.l0 kq x0_1 x3_1 = some r) ∧ Aside0 (kq ≤ k) ∧ Drawn0 w w')
  case atStart => exact ⟨(a0), ((-1)), (by first | rfl | (simp; done) | (simp [*]; done) | (simp [wrap64]; done)), (by first | rfl | (simp; done) | (simp [*]; done) | (simp [wrap64]; done)), H', ⟨Nat.le_refl _⟩, by repeat (first | exact Drawn0.refl _ | apply Drawn0.step)⟩
  case round =>
    clear H'
    obtain ⟨x0_1, x3_1, rfl, rfl, HA, HK1, ⟨m1, rfl⟩⟩ := hrel
    cases gk with
    | zero => exact absurd HA.out (by simp [outpostref02_Degree.l0])
    | succ k1 =>
      have H := HA.out
      clear HA
      simp only [outpostref02_Degree.l0] at H
      by_cases c2 : x0_1 = 0
      · rw [if_pos c2] at H
        have c2b0 : (x0_1 == 0) = true := beq_iff_eq.mpr c2
        have c2b1 : (x0_1 != 0) = false := bne_eq_false_iff_eq.mpr c2
        clear c2
        obtain rfl := Option.some.inj H
        go_wp2
        go_ret
        exact ⟨by first | rfl | (simp; done) | (simp [*]; done) | (simp [wrap64]; done), by repeat (first | exact Drawn0.refl _ | apply Drawn0.step)⟩
      · rw [if_neg c2] at H
        have c2b0 : (x0_1 == 0) = false := beq_eq_false_iff_ne.mpr c2
        have c2b1 : (x0_1 != 0) = true := bne_iff_ne.mpr c2
        have H' := Aside0.mk H
        clear H
        go_wp2
        go_roundg k1
        case measure => have := HK1.out; omega
        case rel => exact ⟨(x0_1 / 2), (wrap64 (x3_1 + 1)), (by first | rfl | (simp; done) | (simp [*]; done) | (simp [wrap64]; done)), (by first | rfl | (simp; done) | (simp [*]; done) | (simp [wrap64]; done)), H', ⟨by have := HK1.out; omega⟩, by repeat (first | exact Drawn0.refl _ | apply Drawn0.step)⟩

/-! ### outpostref02_Whole: function 72 -/
mutual
def outpostref02_Whole.l0 : Nat → Int → Int → Int → Int → Int → Int → Int → Option (Int × Int)
  | 0, _, _, _, _, _, _, _ => none
  | k + 1, x0, x1, x2, x8, x9, x10, x11 => if x11 ≥ 0 then (if x11 ≥ 64 then ((outpostref02_Bit.f x0 (wrap64 (x11 - 64))).bind fun t334 => (outpostref02_Whole.j1 k x0 x1 x2 x8 x9 x10 x11 t334)) else ((outpostref02_Bit.f x1 x11).bind fun t335 => (outpostref02_Whole.j1 k x0 x1 x2 x8 x9 x10 x11 t335))) else (some (x8, x9))
def outpostref02_Whole.j1 : Nat → Int → Int → Int → Int → Int → Int → Int → Int → Option (Int × Int)
  | 0, _, _, _, _, _, _, _, _ => none
  | k + 1, x0, x1, x2, x8, x9, x10, x11, x12 => if x10 = 0 then (outpostref02_Whole.l0 k x0 x1 x2 (Go.bits .or .u64 (IntKind.u64.wrap (x8 * 2)) x12) x9 x10 (wrap64 (x11 - 1))) else ((outpostref02_Bit.f (Go.bits .or .u64 (IntKind.u64.wrap (x9 * 2)) x12) x10).bind fun t336 => (if t336 = 1 then (outpostref02_Whole.l0 k x0 x1 x2 (Go.bits .or .u64 (IntKind.u64.wrap (x8 * 2)) 1) (Go.bits .xor .u64 (Go.bits .or .u64 (IntKind.u64.wrap (x9 * 2)) x12) x2) x10 (wrap64 (x11 - 1))) else (outpostref02_Whole.l0 k x0 x1 x2 (IntKind.u64.wrap (x8 * 2)) (Go.bits .or .u64 (IntKind.u64.wrap (x9 * 2)) x12) x10 (wrap64 (x11 - 1)))))
end
def outpostref02_Whole.f (k : Nat) (a0 : Int) (a1 : Int) (a2 : Int) : Option (Int × Int) := (outpostref02_Degree.f k a2).bind fun t333 => (outpostref02_Whole.l0 k a0 a1 a2 0 0 t333 127)
theorem outpostref02_Whole.mono_l : ∀ k, (∀ y0 y1 y2 y3 y4 y5 y6, LeO (outpostref02_Whole.l0 k y0 y1 y2 y3 y4 y5 y6) (outpostref02_Whole.l0 (k + 1) y0 y1 y2 y3 y4 y5 y6)) ∧ (∀ y0 y1 y2 y3 y4 y5 y6 y7, LeO (outpostref02_Whole.j1 k y0 y1 y2 y3 y4 y5 y6 y7) (outpostref02_Whole.j1 (k + 1) y0 y1 y2 y3 y4 y5 y6 y7))
  | 0 => ⟨fun _ _ _ _ _ _ _ r h => by simp [outpostref02_Whole.l0] at h, fun _ _ _ _ _ _ _ _ r h => by simp [outpostref02_Whole.j1] at h⟩
  | k + 1 => by
    obtain ⟨ih0, ih1⟩ := outpostref02_Whole.mono_l k
    refine ⟨?_, ?_⟩
    · intro y0 y1 y2 y3 y4 y5 y6
      unfold outpostref02_Whole.l0
      repeat' first
      | (with_reducible exact ih0 _ _ _ _ _ _ _)
      | (with_reducible exact ih1 _ _ _ _ _ _ _ _)
      | (with_reducible exact outpostref02_Degree.mono _ _)
      | (with_reducible exact LeO.refl _)
      | (with_reducible exact LeO.none _)
      | (with_reducible refine LeO.ite ?_ ?_)
      | (with_reducible refine LeO.bind ?_ (fun _ => ?_))
      | exact ih0 _ _ _ _ _ _ _
      | exact ih1 _ _ _ _ _ _ _ _
      | exact outpostref02_Degree.mono _ _
      | exact LeO.none _
      | refine LeO.ite ?_ ?_
      | refine LeO.bind ?_ (fun _ => ?_)
    · intro y0 y1 y2 y3 y4 y5 y6 y7
      unfold outpostref02_Whole.j1
      repeat' first
      | (with_reducible exact ih0 _ _ _ _ _ _ _)
      | (with_reducible exact ih1 _ _ _ _ _ _ _ _)
      | (with_reducible exact outpostref02_Degree.mono _ _)
      | (with_reducible exact LeO.refl _)
      | (with_reducible exact LeO.none _)
      | (with_reducible refine LeO.ite ?_ ?_)
      | (with_reducible refine LeO.bind ?_ (fun _ => ?_))
      | exact ih0 _ _ _ _ _ _ _
      | exact ih1 _ _ _ _ _ _ _ _
      | exact outpostref02_Degree.mono _ _
      | exact LeO.none _
      | refine LeO.ite ?_ ?_
      | refine LeO.bind ?_ (fun _ => ?_)
theorem outpostref02_Whole.mono : ∀ a0 a1 a2 k, LeO (outpostref02_Whole.f k a0 a1 a2) (outpostref02_Whole.f (k + 1) a0 a1 a2) := by
  intro a0 a1 a2 k
  obtain ⟨ih0, ih1⟩ := outpostref02_Whole.mono_l k
  unfold outpostref02_Whole.f
  repeat' first
      | (with_reducible exact ih0 _ _ _ _ _ _ _)
      | (with_reducible exact ih1 _ _ _ _ _ _ _ _)
      | (with_reducible exact outpostref02_Degree.mono _ _)
      | (with_reducible exact LeO.refl _)
      | (with_reducible exact LeO.none _)
      | (with_reducible refine LeO.ite ?_ ?_)
      | (with_reducible refine LeO.bind ?_ (fun _ => ?_))
      | exact ih0 _ _ _ _ _ _ _
      | exact ih1 _ _ _ _ _ _ _ _
      | exact outpostref02_Degree.mono _ _
      | exact LeO.none _
      | refine LeO.ite ?_ ?_
      | refine LeO.bind ?_ (fun _ => ?_)
set_option maxHeartbeats 8000000 in
set_option maxRecDepth 100000 in
theorem outpostref02_Whole.calls (k : Nat) (a0 : Int) (a1 : Int) (a2 : Int) (r1 : Int) (r2 : Int) (w : World) (h : outpostref02_Whole.f k a0 a1 a2 = some (r1, r2)) :
    Calls Try.prog 72 #[.int .u64 a0, .int .u64 a1, .int .u64 a2] w fun e w' => e = .returned (.tuple #[.int .u64 r1, .int .u64 r2]) ∧ Drawn0 w w' := by
  have H : ((outpostref02_Degree.f k a2).bind fun t333 => (outpostref02_Whole.l0 k a0 a1 a2 0 0 t333 127)) = some (r1, r2) := h
  clear h
  replace H := Option.bind_eq_some_iff.mp H
  obtain ⟨t333, A40, H⟩ := H
  replace H : (outpostref02_Whole.l0 k a0 a1 a2 0 0 t333 127) = some (r1, r2) := H
  have A4 := Aside0.mk A40
  clear A40
  have H' := Aside0.mk H
  clear H
  go_enter Try.func72, Try.ntmps72
  go_wp2_with (first | ((with_reducible refine gate_callee (f := 77) rfl ?_); refine goesL_ (some 14) rfl rfl Try.func77 (by kernel_rfl) rfl #[.int .u64 a2] rfl (by (try simp only [List.map_toArray, List.map_cons, List.map_nil]); first | done | rfl | (simp only [List.length_drop, List.length_take]; rfl) | (simp [Act.eval, IntKind.wrap_u8, IntKind.wrap_u32]; done)) ?_; (with_reducible refine (outpostref02_Degree.calls k a2 t333 _ A4.out).mono ?_); rintro e w' ⟨rfl, ⟨nd, rfl⟩⟩; refine ⟨_, rfl, ?_⟩))
  go_loopg [8, 9, 11] k (fun kq v8 v9 v11 w' => ∃ (x8_1 : Int) (x9_1 : Int) (x11_1 : Int), v8 = .int .u64 x8_1 ∧ v9 = .int .u64 x9_1 ∧ v11 = .int .i64 x11_1 ∧ Aside0 (outpostref02_Whole.l0 kq a0 a1 a2 x8_1 x9_1 t333 x11_1 = some (r1, r2)) ∧ Aside0 (kq ≤ k) ∧ Drawn0 w w')
  case atStart => exact ⟨(0), (0), (127), (by first | rfl | (simp; done) | (simp [*]; done) | (simp [wrap64]; done)), (by first | rfl | (simp; done) | (simp [*]; done) | (simp [wrap64]; done)), (by first | rfl | (simp; done) | (simp [*]; done) | (simp [wrap64]; done)), H', ⟨Nat.le_refl _⟩, by repeat (first | exact Drawn0.refl _ | apply Drawn0.step)⟩
  case round =>
    clear H'
    try clear p2
    obtain ⟨x8_1, x9_1, x11_1, rfl, rfl, rfl, HA, HK1, ⟨m1, rfl⟩⟩ := hrel
    cases gk with
    | zero => exact absurd HA.out (by simp [outpostref02_Whole.l0])
    | succ k1 =>
      have H := HA.out
      clear HA
      simp only [outpostref02_Whole.l0] at H
      by_cases c5 : x11_1 ≥ 0
      · rw [if_pos c5] at H
        have c5b0 : decide (0 ≤ x11_1) = true := decide_eq_true c5
        clear c5
        have HC6 := Aside0.mk H
        clear H
        go_upto_if 20 with (fail)
        go_cut [12] (fun v12 wc => ∃ (kq : Nat) (x12_5 : Int), v12 = .int .u64 x12_5 ∧ Aside0 (outpostref02_Whole.j1 kq a0 a1 a2 x8_1 x9_1 t333 x11_1 x12_5 = some (r1, r2)) ∧ Aside0 (kq ≤ k1) ∧ Drawn0 w wc)
        case first =>
          have H := HC6.out
          clear HC6
          by_cases c7 : x11_1 ≥ 64
          · rw [if_pos c7] at H
            have c7b0 : decide (64 ≤ x11_1) = true := decide_eq_true c7
            clear c7
            (first | rw [c7b0] | (simp only [i64_w, i32_w]; rw [c7b0]) | rw [c7b1] | skip)
            replace H := Option.bind_eq_some_iff.mp H
            obtain ⟨t334, A80, H⟩ := H
            replace H : (outpostref02_Whole.j1 k1 a0 a1 a2 x8_1 x9_1 t333 x11_1 t334) = some (r1, r2) := H
            have A8 := Aside0.mk A80
            clear A80
            have H' := Aside0.mk H
            clear H
            go_wp2_with (first | ((with_reducible refine gate_callee (f := 73) rfl ?_); refine goesL_ (some 24) rfl rfl Try.func73 (by kernel_rfl) rfl #[.int .u64 a0, .int .i64 (wrap64 (x11_1 - 64))] rfl (by (try simp only [List.map_toArray, List.map_cons, List.map_nil]); first | done | rfl | (simp only [List.length_drop, List.length_take]; rfl) | (simp [Act.eval, IntKind.wrap_u8, IntKind.wrap_u32]; done)) ?_; (with_reducible refine (outpostref02_Bit.calls a0 (wrap64 (x11_1 - 64)) t334 _ A8.out).mono ?_); rintro e w' ⟨rfl, ⟨nd, rfl⟩⟩; refine ⟨_, rfl, ?_⟩))
            go_meet
            case rel => exact ⟨_, (t334), (by first | rfl | (simp; done) | (simp [*]; done) | (simp [wrap64]; done)), H', ⟨by have := HK1.out; first | omega | exact Nat.le_refl _⟩, by repeat (first | exact Drawn0.refl _ | apply Drawn0.step)⟩
          · rw [if_neg c7] at H
            have c7b0 : decide (64 ≤ x11_1) = false := decide_eq_false c7
            clear c7
            (first | rw [c7b0] | (simp only [i64_w, i32_w]; rw [c7b0]) | rw [c7b1] | skip)
            replace H := Option.bind_eq_some_iff.mp H
            obtain ⟨t335, A90, H⟩ := H
            replace H : (outpostref02_Whole.j1 k1 a0 a1 a2 x8_1 x9_1 t333 x11_1 t335) = some (r1, r2) := H
            have A9 := Aside0.mk A90
            clear A90
            have H' := Aside0.mk H
            clear H
            go_wp2_with (first | ((with_reducible refine gate_callee (f := 73) rfl ?_); refine goesL_ (some 27) rfl rfl Try.func73 (by kernel_rfl) rfl #[.int .u64 a1, .int .i64 x11_1] rfl (by (try simp only [List.map_toArray, List.map_cons, List.map_nil]); first | done | rfl | (simp only [List.length_drop, List.length_take]; rfl) | (simp [Act.eval, IntKind.wrap_u8, IntKind.wrap_u32]; done)) ?_; (with_reducible refine (outpostref02_Bit.calls a1 x11_1 t335 _ A9.out).mono ?_); rintro e w' ⟨rfl, ⟨nd, rfl⟩⟩; refine ⟨_, rfl, ?_⟩))
            go_meet
            case rel => exact ⟨_, (t335), (by first | rfl | (simp; done) | (simp [*]; done) | (simp [wrap64]; done)), H', ⟨by have := HK1.out; first | omega | exact Nat.le_refl _⟩, by repeat (first | exact Drawn0.refl _ | apply Drawn0.step)⟩
        case rest =>
          clear HC6
          try clear p2
          try clear c5
          try clear c5b0
          try clear p6
          try clear c7
          try clear c7b0
          try clear c7b1
          try clear p2
          obtain ⟨kq, x12_5, rfl, HA, HJ5, ⟨mc5, rfl⟩⟩ := hcut
          cases kq with
          | zero => exact absurd HA.out (by simp [outpostref02_Whole.j1])
          | succ kj5 =>
            have H := HA.out
            clear HA
            simp only [outpostref02_Whole.j1] at H
            by_cases c10 : t333 = 0
            · rw [if_pos c10] at H
              have c10b0 : (t333 == 0) = true := beq_iff_eq.mpr c10
              have c10b1 : (t333 != 0) = false := bne_eq_false_iff_eq.mpr c10
              clear c10
              have H' := Aside0.mk H
              clear H
              go_wp2
              go_roundg kj5
              case measure => have := HK1.out; have := HJ5.out; omega
              case rel => exact ⟨(Go.bits .or .u64 (IntKind.u64.wrap (x8_1 * 2)) x12_5), (x9_1), (wrap64 (x11_1 - 1)), (by first | rfl | (simp; done) | (simp [*]; done) | (simp [wrap64]; done)), (by first | rfl | (simp; done) | (simp [*]; done) | (simp [wrap64]; done)), (by first | rfl | (simp; done) | (simp [*]; done) | (simp [wrap64]; done)), H', ⟨by have := HK1.out; have := HJ5.out; omega⟩, by repeat (first | exact Drawn0.refl _ | apply Drawn0.step)⟩
            · rw [if_neg c10] at H
              have c10b0 : (t333 == 0) = false := beq_eq_false_iff_ne.mpr c10
              have c10b1 : (t333 != 0) = true := bne_iff_ne.mpr c10
              replace H := Option.bind_eq_some_iff.mp H
              obtain ⟨t336, A110, H⟩ := H
              replace H : (if t336 = 1 then (outpostref02_Whole.l0 kj5 a0 a1 a2 (Go.bits .or .u64 (IntKind.u64.wrap (x8_1 * 2)) 1) (Go.bits .xor .u64 (Go.bits .or .u64 (IntKind.u64.wrap (x9_1 * 2)) x12_5) a2) t333 (wrap64 (x11_1 - 1))) else (outpostref02_Whole.l0 kj5 a0 a1 a2 (IntKind.u64.wrap (x8_1 * 2)) (Go.bits .or .u64 (IntKind.u64.wrap (x9_1 * 2)) x12_5) t333 (wrap64 (x11_1 - 1)))) = some (r1, r2) := H
              have A11 := Aside0.mk A110
              clear A110
              by_cases c12 : t336 = 1
              · rw [if_pos c12] at H
                have c12b0 : (t336 == 1) = true := beq_iff_eq.mpr c12
                have c12b1 : (t336 != 1) = false := bne_eq_false_iff_eq.mpr c12
                clear c12
                have H' := Aside0.mk H
                clear H
                go_wp2_with (first | ((with_reducible refine gate_callee (f := 73) rfl ?_); refine goesL_ (some 42) rfl rfl Try.func73 (by kernel_rfl) rfl #[.int .u64 (Go.bits .or .u64 (IntKind.u64.wrap (x9_1 * 2)) x12_5), .int .i64 t333] rfl (by (try simp only [List.map_toArray, List.map_cons, List.map_nil]); first | done | rfl | (simp only [List.length_drop, List.length_take]; rfl) | (simp [Act.eval, IntKind.wrap_u8, IntKind.wrap_u32]; done)) ?_; (with_reducible refine (outpostref02_Bit.calls (Go.bits .or .u64 (IntKind.u64.wrap (x9_1 * 2)) x12_5) t333 t336 _ A11.out).mono ?_); rintro e w' ⟨rfl, ⟨nd, rfl⟩⟩; refine ⟨_, rfl, ?_⟩))
                go_roundg kj5
                case measure => have := HK1.out; have := HJ5.out; omega
                case rel => exact ⟨(Go.bits .or .u64 (IntKind.u64.wrap (x8_1 * 2)) 1), (Go.bits .xor .u64 (Go.bits .or .u64 (IntKind.u64.wrap (x9_1 * 2)) x12_5) a2), (wrap64 (x11_1 - 1)), (by first | rfl | (simp; done) | (simp [*]; done) | (simp [wrap64]; done)), (by first | rfl | (simp; done) | (simp [*]; done) | (simp [wrap64]; done)), (by first | rfl | (simp; done) | (simp [*]; done) | (simp [wrap64]; done)), H', ⟨by have := HK1.out; have := HJ5.out; omega⟩, by repeat (first | exact Drawn0.refl _ | apply Drawn0.step)⟩
              · rw [if_neg c12] at H
                have c12b0 : (t336 == 1) = false := beq_eq_false_iff_ne.mpr c12
                have c12b1 : (t336 != 1) = true := bne_iff_ne.mpr c12
                have H' := Aside0.mk H
                clear H
                go_wp2_with (first | ((with_reducible refine gate_callee (f := 73) rfl ?_); refine goesL_ (some 42) rfl rfl Try.func73 (by kernel_rfl) rfl #[.int .u64 (Go.bits .or .u64 (IntKind.u64.wrap (x9_1 * 2)) x12_5), .int .i64 t333] rfl (by (try simp only [List.map_toArray, List.map_cons, List.map_nil]); first | done | rfl | (simp only [List.length_drop, List.length_take]; rfl) | (simp [Act.eval, IntKind.wrap_u8, IntKind.wrap_u32]; done)) ?_; (with_reducible refine (outpostref02_Bit.calls (Go.bits .or .u64 (IntKind.u64.wrap (x9_1 * 2)) x12_5) t333 t336 _ A11.out).mono ?_); rintro e w' ⟨rfl, ⟨nd, rfl⟩⟩; refine ⟨_, rfl, ?_⟩))
                go_roundg kj5
                case measure => have := HK1.out; have := HJ5.out; omega
                case rel => exact ⟨(IntKind.u64.wrap (x8_1 * 2)), (Go.bits .or .u64 (IntKind.u64.wrap (x9_1 * 2)) x12_5), (wrap64 (x11_1 - 1)), (by first | rfl | (simp; done) | (simp [*]; done) | (simp [wrap64]; done)), (by first | rfl | (simp; done) | (simp [*]; done) | (simp [wrap64]; done)), (by first | rfl | (simp; done) | (simp [*]; done) | (simp [wrap64]; done)), H', ⟨by have := HK1.out; have := HJ5.out; omega⟩, by repeat (first | exact Drawn0.refl _ | apply Drawn0.step)⟩
      · rw [if_neg c5] at H
        have c5b0 : decide (0 ≤ x11_1) = false := decide_eq_false c5
        clear c5
        simp only [Option.some.injEq, Prod.mk.injEq] at H
        obtain ⟨rfl, rfl⟩ := H
        go_wp2
        go_ret2
        exact ⟨by first | rfl | (simp; done) | (simp [*]; done) | (simp [wrap64]; done), by repeat (first | exact Drawn0.refl _ | apply Drawn0.step)⟩

/-! ### outpostref02_Mul: function 74 -/
def outpostref02_Mul.l0 : Nat → Int → Int → Int → Int → Int → Option (Int × Int)
  | 0, _, _, _, _, _ => none
  | k + 1, x0, x1, x6, x7, x8 => if x8 < 64 then ((outpostref02_Bit.f x0 x8).bind fun t337 => (if t337 = 1 then (if 0 ≤ (IntKind.u64.wrap (x8)) then (if x8 > 0 then (if 0 ≤ (IntKind.u64.wrap (wrap64 (64 - x8))) then (outpostref02_Mul.l0 k x0 x1 (Go.bits .xor .u64 x6 (shr .u64 x1 (IntKind.u64.wrap (wrap64 (64 - x8))))) (Go.bits .xor .u64 x7 (shl .u64 x1 (IntKind.u64.wrap (x8)))) (wrap64 (x8 + 1))) else (none)) else (outpostref02_Mul.l0 k x0 x1 x6 (Go.bits .xor .u64 x7 (shl .u64 x1 (IntKind.u64.wrap (x8)))) (wrap64 (x8 + 1)))) else (none)) else (outpostref02_Mul.l0 k x0 x1 x6 x7 (wrap64 (x8 + 1))))) else (some (x6, x7))
def outpostref02_Mul.f (k : Nat) (a0 : Int) (a1 : Int) : Option (Int × Int) := outpostref02_Mul.l0 k a0 a1 0 0 0
theorem outpostref02_Mul.mono_l : ∀ k, (∀ y0 y1 y2 y3 y4, LeO (outpostref02_Mul.l0 k y0 y1 y2 y3 y4) (outpostref02_Mul.l0 (k + 1) y0 y1 y2 y3 y4))
  | 0 => fun _ _ _ _ _ r h => by simp [outpostref02_Mul.l0] at h
  | k + 1 => by
    have ih0 := outpostref02_Mul.mono_l k
    · intro y0 y1 y2 y3 y4
      unfold outpostref02_Mul.l0
      repeat' first
      | (with_reducible exact ih0 _ _ _ _ _)
      | (with_reducible exact LeO.refl _)
      | (with_reducible exact LeO.none _)
      | (with_reducible refine LeO.ite ?_ ?_)
      | (with_reducible refine LeO.bind ?_ (fun _ => ?_))
      | exact ih0 _ _ _ _ _
      | exact LeO.none _
      | refine LeO.ite ?_ ?_
      | refine LeO.bind ?_ (fun _ => ?_)
theorem outpostref02_Mul.mono : ∀ a0 a1 k, LeO (outpostref02_Mul.f k a0 a1) (outpostref02_Mul.f (k + 1) a0 a1) := by
  intro a0 a1 k
  have ih0 := outpostref02_Mul.mono_l k
  unfold outpostref02_Mul.f
  repeat' first
      | (with_reducible exact ih0 _ _ _ _ _)
      | (with_reducible exact LeO.refl _)
      | (with_reducible exact LeO.none _)
      | (with_reducible refine LeO.ite ?_ ?_)
      | (with_reducible refine LeO.bind ?_ (fun _ => ?_))
      | exact ih0 _ _ _ _ _
      | exact LeO.none _
      | refine LeO.ite ?_ ?_
      | refine LeO.bind ?_ (fun _ => ?_)
set_option maxHeartbeats 8000000 in
set_option maxRecDepth 100000 in
theorem outpostref02_Mul.calls (k : Nat) (a0 : Int) (a1 : Int) (r1 : Int) (r2 : Int) (w : World) (h : outpostref02_Mul.f k a0 a1 = some (r1, r2)) :
    Calls Try.prog 74 #[.int .u64 a0, .int .u64 a1] w fun e w' => e = .returned (.tuple #[.int .u64 r1, .int .u64 r2]) ∧ Drawn0 w w' := by
  have H : (outpostref02_Mul.l0 k a0 a1 0 0 0) = some (r1, r2) := h
  clear h
  have H' := Aside0.mk H
  clear H
  go_enter Try.func74, Try.ntmps74
  go_wp2
  go_loopg [6, 7, 8] k (fun kq v6 v7 v8 w' => ∃ (x6_1 : Int) (x7_1 : Int) (x8_1 : Int), v6 = .int .u64 x6_1 ∧ v7 = .int .u64 x7_1 ∧ v8 = .int .i64 x8_1 ∧ Aside0 (outpostref02_Mul.l0 kq a0 a1 x6_1 x7_1 x8_1 = some (r1, r2)) ∧ Aside0 (kq ≤ k) ∧ Drawn0 w w')
  case atStart => exact ⟨(0), (0), (0), (by first | rfl | (simp; done) | (simp [*]; done) | (simp [wrap64]; done)), (by first | rfl | (simp; done) | (simp [*]; done) | (simp [wrap64]; done)), (by first | rfl | (simp; done) | (simp [*]; done) | (simp [wrap64]; done)), H', ⟨Nat.le_refl _⟩, by repeat (first | exact Drawn0.refl _ | apply Drawn0.step)⟩
  case round =>
    clear H'
    try clear p2
    obtain ⟨x6_1, x7_1, x8_1, rfl, rfl, rfl, HA, HK1, ⟨m1, rfl⟩⟩ := hrel
    cases gk with
    | zero => exact absurd HA.out (by simp [outpostref02_Mul.l0])
    | succ k1 =>
      have H := HA.out
      clear HA
      simp only [outpostref02_Mul.l0] at H
      by_cases c3 : x8_1 < 64
      · rw [if_pos c3] at H
        have c3b0 : decide (x8_1 < 64) = true := decide_eq_true c3
        clear c3
        replace H := Option.bind_eq_some_iff.mp H
        obtain ⟨t337, A40, H⟩ := H
        replace H : (if t337 = 1 then (if 0 ≤ (IntKind.u64.wrap (x8_1)) then (if x8_1 > 0 then (if 0 ≤ (IntKind.u64.wrap (wrap64 (64 - x8_1))) then (outpostref02_Mul.l0 k1 a0 a1 (Go.bits .xor .u64 x6_1 (shr .u64 a1 (IntKind.u64.wrap (wrap64 (64 - x8_1))))) (Go.bits .xor .u64 x7_1 (shl .u64 a1 (IntKind.u64.wrap (x8_1)))) (wrap64 (x8_1 + 1))) else (none)) else (outpostref02_Mul.l0 k1 a0 a1 x6_1 (Go.bits .xor .u64 x7_1 (shl .u64 a1 (IntKind.u64.wrap (x8_1)))) (wrap64 (x8_1 + 1)))) else (none)) else (outpostref02_Mul.l0 k1 a0 a1 x6_1 x7_1 (wrap64 (x8_1 + 1)))) = some (r1, r2) := H
        have A4 := Aside0.mk A40
        clear A40
        by_cases c5 : t337 = 1
        · rw [if_pos c5] at H
          have c5b0 : (t337 == 1) = true := beq_iff_eq.mpr c5
          have c5b1 : (t337 != 1) = false := bne_eq_false_iff_eq.mpr c5
          clear c5
          obtain ⟨ji6, hji6⟩ : ∃ j_ : Int, (IntKind.u64.wrap (x8_1)) = j_ := ⟨_, rfl⟩
          replace H : (if 0 ≤ (ji6) then (if x8_1 > 0 then (if 0 ≤ (IntKind.u64.wrap (wrap64 (64 - x8_1))) then (outpostref02_Mul.l0 k1 a0 a1 (Go.bits .xor .u64 x6_1 (shr .u64 a1 (IntKind.u64.wrap (wrap64 (64 - x8_1))))) (Go.bits .xor .u64 x7_1 (shl .u64 a1 (ji6))) (wrap64 (x8_1 + 1))) else (none)) else (outpostref02_Mul.l0 k1 a0 a1 x6_1 (Go.bits .xor .u64 x7_1 (shl .u64 a1 (ji6))) (wrap64 (x8_1 + 1)))) else (none)) = some (r1, r2) := by first | (rw [hji6] at H; exact H) | (simp only [hji6] at H ⊢; exact H)
          (try rw [hji6] at A4)
          by_cases c7 : 0 ≤ (ji6)
          · rw [if_pos c7] at H
            have c7b0 := eq_true c7
            have c7b1 : decide (0 ≤ (ji6)) = true := decide_eq_true c7
            clear c7
            obtain ⟨ji8, hji8⟩ : ∃ j_ : Int, (shl .u64 a1 (ji6)) = j_ := ⟨_, rfl⟩
            replace H : (if x8_1 > 0 then (if 0 ≤ (IntKind.u64.wrap (wrap64 (64 - x8_1))) then (outpostref02_Mul.l0 k1 a0 a1 (Go.bits .xor .u64 x6_1 (shr .u64 a1 (IntKind.u64.wrap (wrap64 (64 - x8_1))))) (Go.bits .xor .u64 x7_1 (ji8)) (wrap64 (x8_1 + 1))) else (none)) else (outpostref02_Mul.l0 k1 a0 a1 x6_1 (Go.bits .xor .u64 x7_1 (ji8)) (wrap64 (x8_1 + 1)))) = some (r1, r2) := by first | (rw [hji8] at H; exact H) | (simp only [hji8] at H ⊢; exact H)
            (try rw [hji8] at A4)
            have hji8_ : (IntKind.u64.wrap (a1 * 2 ^ min (ji6).toNat 64)) = ji8 := hji8
            have hji8z : (ji6) ≤ 64 → (IntKind.u64.wrap (a1 * 2 ^ (ji6).toNat)) = ji8 := shl_small hji8
            by_cases c9 : x8_1 > 0
            · rw [if_pos c9] at H
              have c9b0 : decide (0 < x8_1) = true := decide_eq_true c9
              clear c9
              obtain ⟨ji10, hji10⟩ : ∃ j_ : Int, (IntKind.u64.wrap (wrap64 (64 - x8_1))) = j_ := ⟨_, rfl⟩
              replace H : (if 0 ≤ (ji10) then (outpostref02_Mul.l0 k1 a0 a1 (Go.bits .xor .u64 x6_1 (shr .u64 a1 (ji10))) (Go.bits .xor .u64 x7_1 (ji8)) (wrap64 (x8_1 + 1))) else (none)) = some (r1, r2) := by first | (rw [hji10] at H; exact H) | (simp only [hji10] at H ⊢; exact H)
              (try rw [hji10] at A4)
              by_cases c11 : 0 ≤ (ji10)
              · rw [if_pos c11] at H
                have c11b0 := eq_true c11
                have c11b1 : decide (0 ≤ (ji10)) = true := decide_eq_true c11
                clear c11
                obtain ⟨ji12, hji12⟩ : ∃ j_ : Int, (shr .u64 a1 (ji10)) = j_ := ⟨_, rfl⟩
                replace H : (outpostref02_Mul.l0 k1 a0 a1 (Go.bits .xor .u64 x6_1 (ji12)) (Go.bits .xor .u64 x7_1 (ji8)) (wrap64 (x8_1 + 1))) = some (r1, r2) := by first | (rw [hji12] at H; exact H) | (simp only [hji12] at H ⊢; exact H)
                (try rw [hji12] at A4)
                have hji12_ : (a1 / 2 ^ min (ji10).toNat 64) = ji12 := hji12
                have hji12z : (ji10) ≤ 64 → (a1 / 2 ^ (ji10).toNat) = ji12 := shr_small hji12
                have H' := Aside0.mk H
                clear H
                go_wp2_with (first | ((with_reducible refine gate_callee (f := 73) rfl ?_); refine goesL_ (some 15) rfl rfl Try.func73 (by kernel_rfl) rfl #[.int .u64 a0, .int .i64 x8_1] rfl (by (try simp only [List.map_toArray, List.map_cons, List.map_nil]); first | done | rfl | (simp only [List.length_drop, List.length_take]; rfl) | (simp [Act.eval, IntKind.wrap_u8, IntKind.wrap_u32]; done)) ?_; (with_reducible refine (outpostref02_Bit.calls a0 x8_1 t337 _ A4.out).mono ?_); rintro e w' ⟨rfl, ⟨nd, rfl⟩⟩; refine ⟨_, rfl, ?_⟩))
                go_roundg k1
                case measure => have := HK1.out; omega
                case rel => exact ⟨(Go.bits .xor .u64 x6_1 (ji12)), (Go.bits .xor .u64 x7_1 (ji8)), (wrap64 (x8_1 + 1)), (by first | rfl | (simp; done) | (simp only [← hji12] <;> (first | rfl | simp)) | (simp [*]; done) | (simp [wrap64]; done)), (by first | rfl | (simp; done) | (simp only [← hji8] <;> (first | rfl | simp)) | (simp [*]; done) | (simp [wrap64]; done)), (by first | rfl | (simp; done) | (simp [*]; done) | (simp [wrap64]; done)), H', ⟨by have := HK1.out; omega⟩, by repeat (first | exact Drawn0.refl _ | apply Drawn0.step)⟩
              · rw [if_neg c11] at H
                exact absurd H (by simp)
            · rw [if_neg c9] at H
              have c9b0 : decide (0 < x8_1) = false := decide_eq_false c9
              clear c9
              have H' := Aside0.mk H
              clear H
              go_wp2_with (first | ((with_reducible refine gate_callee (f := 73) rfl ?_); refine goesL_ (some 15) rfl rfl Try.func73 (by kernel_rfl) rfl #[.int .u64 a0, .int .i64 x8_1] rfl (by (try simp only [List.map_toArray, List.map_cons, List.map_nil]); first | done | rfl | (simp only [List.length_drop, List.length_take]; rfl) | (simp [Act.eval, IntKind.wrap_u8, IntKind.wrap_u32]; done)) ?_; (with_reducible refine (outpostref02_Bit.calls a0 x8_1 t337 _ A4.out).mono ?_); rintro e w' ⟨rfl, ⟨nd, rfl⟩⟩; refine ⟨_, rfl, ?_⟩))
              go_roundg k1
              case measure => have := HK1.out; omega
              case rel => exact ⟨(x6_1), (Go.bits .xor .u64 x7_1 (ji8)), (wrap64 (x8_1 + 1)), (by first | rfl | (simp; done) | (simp [*]; done) | (simp [wrap64]; done)), (by first | rfl | (simp; done) | (simp only [← hji8] <;> (first | rfl | simp)) | (simp [*]; done) | (simp [wrap64]; done)), (by first | rfl | (simp; done) | (simp [*]; done) | (simp [wrap64]; done)), H', ⟨by have := HK1.out; omega⟩, by repeat (first | exact Drawn0.refl _ | apply Drawn0.step)⟩
          · rw [if_neg c7] at H
            exact absurd H (by simp)
        · rw [if_neg c5] at H
          have c5b0 : (t337 == 1) = false := beq_eq_false_iff_ne.mpr c5
          have c5b1 : (t337 != 1) = true := bne_iff_ne.mpr c5
          have H' := Aside0.mk H
          clear H
          go_wp2_with (first | ((with_reducible refine gate_callee (f := 73) rfl ?_); refine goesL_ (some 15) rfl rfl Try.func73 (by kernel_rfl) rfl #[.int .u64 a0, .int .i64 x8_1] rfl (by (try simp only [List.map_toArray, List.map_cons, List.map_nil]); first | done | rfl | (simp only [List.length_drop, List.length_take]; rfl) | (simp [Act.eval, IntKind.wrap_u8, IntKind.wrap_u32]; done)) ?_; (with_reducible refine (outpostref02_Bit.calls a0 x8_1 t337 _ A4.out).mono ?_); rintro e w' ⟨rfl, ⟨nd, rfl⟩⟩; refine ⟨_, rfl, ?_⟩))
          go_roundg k1
          case measure => have := HK1.out; omega
          case rel => exact ⟨(x6_1), (x7_1), (wrap64 (x8_1 + 1)), (by first | rfl | (simp; done) | (simp [*]; done) | (simp [wrap64]; done)), (by first | rfl | (simp; done) | (simp [*]; done) | (simp [wrap64]; done)), (by first | rfl | (simp; done) | (simp [*]; done) | (simp [wrap64]; done)), H', ⟨by have := HK1.out; omega⟩, by repeat (first | exact Drawn0.refl _ | apply Drawn0.step)⟩
      · rw [if_neg c3] at H
        have c3b0 : decide (x8_1 < 64) = false := decide_eq_false c3
        clear c3
        simp only [Option.some.injEq, Prod.mk.injEq] at H
        obtain ⟨rfl, rfl⟩ := H
        go_wp2
        go_ret2
        exact ⟨by first | rfl | (simp; done) | (simp [*]; done) | (simp [wrap64]; done), by repeat (first | exact Drawn0.refl _ | apply Drawn0.step)⟩

/-! ### outpostref02_MulMod: function 55 -/
def outpostref02_MulMod.f (k : Nat) (a0 : Int) (a1 : Int) (a2 : Int) : Option (Int × Int) := if a2 = 0 then (some (0, 20)) else ((outpostref02_Mul.f k a0 a1).bind fun bt338 => ((outpostref02_Whole.f k bt338.1 bt338.2 a2).bind fun bt340 => (some (bt340.2, 0))))
theorem outpostref02_MulMod.mono : ∀ a0 a1 a2 k, LeO (outpostref02_MulMod.f k a0 a1 a2) (outpostref02_MulMod.f (k + 1) a0 a1 a2) := by
  intro a0 a1 a2 k
  unfold outpostref02_MulMod.f
  repeat' first
      | (with_reducible exact outpostref02_Mul.mono _ _ _)
      | (with_reducible exact outpostref02_Whole.mono _ _ _ _)
      | (with_reducible exact LeO.refl _)
      | (with_reducible exact LeO.none _)
      | (with_reducible refine LeO.ite ?_ ?_)
      | (with_reducible refine LeO.bind ?_ (fun _ => ?_))
      | exact outpostref02_Mul.mono _ _ _
      | exact outpostref02_Whole.mono _ _ _ _
      | exact LeO.none _
      | refine LeO.ite ?_ ?_
      | refine LeO.bind ?_ (fun _ => ?_)
set_option maxHeartbeats 8000000 in
set_option maxRecDepth 100000 in
theorem outpostref02_MulMod.calls (k : Nat) (a0 : Int) (a1 : Int) (a2 : Int) (r1 : Int) (r2 : Int) (w : World) (h : outpostref02_MulMod.f k a0 a1 a2 = some (r1, r2)) :
    Calls Try.prog 55 #[.int .u64 a0, .int .u64 a1, .int .u64 a2] w fun e w' => e = .returned (.tuple #[.int .u64 r1, .int .i64 r2]) ∧ Drawn0 w w' := by
  have H : (if a2 = 0 then (some (0, 20)) else ((outpostref02_Mul.f k a0 a1).bind fun bt338 => ((outpostref02_Whole.f k bt338.1 bt338.2 a2).bind fun bt340 => (some (bt340.2, 0))))) = some (r1, r2) := h
  clear h
  by_cases c4 : a2 = 0
  · rw [if_pos c4] at H
    have c4b0 : (a2 == 0) = true := beq_iff_eq.mpr c4
    have c4b1 : (a2 != 0) = false := bne_eq_false_iff_eq.mpr c4
    clear c4
    simp only [Option.some.injEq, Prod.mk.injEq] at H
    obtain ⟨rfl, rfl⟩ := H
    go_enter Try.func55, Try.ntmps55
    go_wp2
    go_ret2
    exact ⟨by first | rfl | (simp; done) | (simp [*]; done) | (simp [wrap64]; done), by repeat (first | exact Drawn0.refl _ | apply Drawn0.step)⟩
  · rw [if_neg c4] at H
    have c4b0 : (a2 == 0) = false := beq_eq_false_iff_ne.mpr c4
    have c4b1 : (a2 != 0) = true := bne_iff_ne.mpr c4
    replace H := Option.bind_eq_some_iff.mp H
    obtain ⟨⟨t338, t339⟩, A50, H⟩ := H
    replace H : ((outpostref02_Whole.f k t338 t339 a2).bind fun bt340 => (some (bt340.2, 0))) = some (r1, r2) := H
    have A5 := Aside0.mk A50
    clear A50
    replace H := Option.bind_eq_some_iff.mp H
    obtain ⟨⟨t340, t341⟩, A60, H⟩ := H
    replace H : (some (t341, 0)) = some (r1, r2) := H
    have A6 := Aside0.mk A60
    clear A60
    simp only [Option.some.injEq, Prod.mk.injEq] at H
    obtain ⟨rfl, rfl⟩ := H
    go_enter Try.func55, Try.ntmps55
    go_wp2_with (first | ((with_reducible refine gate_callee (f := 74) rfl ?_); refine goesL_ (some 17) rfl rfl Try.func74 (by kernel_rfl) rfl #[.int .u64 a0, .int .u64 a1] rfl (by (try simp only [List.map_toArray, List.map_cons, List.map_nil]); first | done | rfl | (simp only [List.length_drop, List.length_take]; rfl) | (simp [Act.eval, IntKind.wrap_u8, IntKind.wrap_u32]; done)) ?_; (with_reducible refine (outpostref02_Mul.calls k a0 a1 t338 t339 _ A5.out).mono ?_); rintro e w' ⟨rfl, ⟨nd, rfl⟩⟩; refine ⟨_, rfl, ?_⟩) | ((with_reducible refine gate_callee (f := 72) rfl ?_); refine goesL_ (some 24) rfl rfl Try.func72 (by kernel_rfl) rfl #[.int .u64 t338, .int .u64 t339, .int .u64 a2] rfl (by (try simp only [List.map_toArray, List.map_cons, List.map_nil]); first | done | rfl | (simp only [List.length_drop, List.length_take]; rfl) | (simp [Act.eval, IntKind.wrap_u8, IntKind.wrap_u32]; done)) ?_; (with_reducible refine (outpostref02_Whole.calls k t338 t339 a2 t340 t341 _ A6.out).mono ?_); rintro e w' ⟨rfl, ⟨nd, rfl⟩⟩; refine ⟨_, rfl, ?_⟩))
    go_ret2
    exact ⟨by first | rfl | (simp; done) | (simp [*]; done) | (simp [wrap64]; done), by repeat (first | exact Drawn0.refl _ | apply Drawn0.step)⟩

end Go.Proofs.Ytejlmodoghglbaa.P
