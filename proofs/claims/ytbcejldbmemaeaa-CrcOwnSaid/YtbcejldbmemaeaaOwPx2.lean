-- written by mk.sh, a program of this session, over the kit's print
import Derived.Test.YtbcejldbmemaeaaOwPx0
import Derived.Test.YtbcejldbmemaeaaOwPx1
namespace Go.Proofs.Ytbcejldbmemaeaa.P
open Go.RowKit Go.Proofs.YtbcejldbmemaeaaW.PrintWords Go.Proofs.YtbcejldbmemaeaaW.PrintLast Go.Proofs.YtbcejldbmemaeaaW.PrintMore
attribute [local go_sem] max2_int min2_int max_two min_two max_three min_three max_four min_four   -- for this text's walks alone
set_option linter.unusedVariables false
set_option linter.unusedSimpArgs false

/-! ### crc_Sum: function 24, given -/
attribute [local go_sem] crc_store_nilFunc crc_store_func
theorem crc_Check_f (a0 a1 a2 a3 : Int) (R : Bool) : crc_Check.f 1 a0 a1 a2 a3 R = some (if Crc.okI a0 a1 a2 a3 then 0 else 30) := by
 have s8 : shr .u32 4294967295 (wrap64 (32 - 8)) = 255 := by decide +kernel
 have s16 : shr .u32 4294967295 (wrap64 (32 - 16)) = 65535 := by decide +kernel
 have s24 : shr .u32 4294967295 (wrap64 (32 - 24)) = 16777215 := by decide +kernel
 have s32 : shr .u32 4294967295 (wrap64 (32 - 32)) = 4294967295 := by decide +kernel
 have key : ∀ (n : Nat) (top : Int), (n = 8 ∨ n = 16 ∨ n = 24 ∨ n = 32) → top = 2 ^ n - 1 → shr .u32 4294967295 (wrap64 (32 - (n : Int))) = top → crc_Check.j0 1 true (n : Int) a1 a2 a3 R = some (if Crc.okI (n : Int) a1 a2 a3 then 0 else 30) := by
  intro n top hn ht hs
  have hw : (0 : Int) ≤ wrap64 (32 - (n : Int)) := by unfold wrap64; omega
  have hor : (decide ((n : Int) = 8) || decide ((n : Int) = 16) || decide ((n : Int) = 24) || decide ((n : Int) = 32)) = true := by
   simp only [Bool.or_eq_true, decide_eq_true_eq]
   omega
  simp only [crc_Check.j0, if_true, if_pos hw, hs, Crc.okI, hor, Bool.true_and, Int.toNat_natCast]
  by_cases h1 : a1 > top
  ·rw [if_pos h1, show decide (a1 < 2 ^ n) = false from decide_eq_false (by omega)]; simp
  ·rw [if_neg h1, show decide (a1 < 2 ^ n) = true from decide_eq_true (by omega)]
   by_cases h2 : a2 > top
   ·rw [if_pos h2, show decide (a2 < 2 ^ n) = false from decide_eq_false (by omega)]; simp
   ·rw [if_neg h2, show decide (a2 < 2 ^ n) = true from decide_eq_true (by omega)]
    by_cases h3 : a3 > top
    ·rw [if_pos h3, show decide (a3 < 2 ^ n) = false from decide_eq_false (by omega)]; simp
    ·rw [if_neg h3, show decide (a3 < 2 ^ n) = true from decide_eq_true (by omega)]
     by_cases h4 : Int.tmod a1 2 = 0
     ·rw [if_pos h4]; simp [h4]
     ·rw [if_neg h4]; simp [h4]
 unfold crc_Check.f
 by_cases h8 : a0 = 8
 ·subst h8; rw [if_pos rfl]; exact key 8 255 (by omega) (by decide) s8
 ·rw [if_neg h8]
  by_cases h16 : a0 = 16
  ·subst h16; rw [if_pos rfl]; exact key 16 65535 (by omega) (by decide) s16
  ·rw [if_neg h16]
   by_cases h24 : a0 = 24
   ·subst h24; rw [if_pos rfl]; exact key 24 16777215 (by omega) (by decide) s24
   ·rw [if_neg h24]
    by_cases h32 : a0 = 32
    ·subst h32; exact key 32 4294967295 (by omega) (by decide) s32
    ·simp [crc_Check.j0, Crc.okI, h8, h16, h24, h32]
theorem crc_Check_ok (W P I O : Nat) (R : Bool) (w : World) (h : Crc.okN W P I O) : Calls Try.prog 27 #[.agg #[.int .i64 (W : Int), .int .u32 (P : Int), .int .u32 (I : Int), .int .u32 (O : Int), .bool R]] w fun e w' => e = .returned (.int .i64 0) ∧ Below w.heap.size w w' :=
 crc_Check.calls 1 _ _ _ _ R 0 w (by rw [crc_Check_f, if_pos ((Crc.okI_nat W P I O).2 h)])
theorem crc_Check_bad (W P I O : Int) (R : Bool) (w : World) (h : Crc.okI W P I O = false) : Calls Try.prog 27 #[.agg #[.int .i64 W, .int .u32 P, .int .u32 I, .int .u32 O, .bool R]] w fun e w' => e = .returned (.int .i64 30) ∧ Below w.heap.size w w' :=
 crc_Check.calls 1 _ _ _ _ R 30 w (by rw [crc_Check_f, h]; rfl)
@[reducible] def crc_St (W P I O G p q : Nat) (w w' : World) : Prop :=
 w'.cell? ⟨G, 0, none⟩ = some (.int .i64 (W : Int)) ∧ w'.cell? ⟨G, 1, none⟩ = some (.int .u32 (P : Int)) ∧ w'.cell? ⟨G, 2, none⟩ = some (.int .u32 (I : Int)) ∧ w'.cell? ⟨G, 3, none⟩ = some (.int .u32 (O : Int)) ∧ w'.cell? ⟨G, 4, none⟩ = some (.bool false) ∧ w'.cell? ⟨G, 5, none⟩ = some (.func (.func 41) #[] #[]) ∧ w'.cell? ⟨G, 6, none⟩ = some (.func (.func 42) #[] #[]) ∧ w'.cell? ⟨G, 7, none⟩ = some (.func (.func 43) #[] #[.pointer (some ⟨q, 0, none⟩)]) ∧ Aside0 (Below w.heap.size w w') ∧ Aside0 (w'.heap[G]? = some (.cells #[.int .i64 (W : Int), .int .u32 (P : Int), .int .u32 (I : Int), .int .u32 (O : Int), .bool false, .func (.func 41) #[] #[], .func (.func 42) #[] #[], .func (.func 43) #[] #[.pointer (some ⟨q, 0, none⟩)]] 65 (0, 0))) ∧ Aside0 (crc_Held W P I O false p q w')
theorem crc_Held_drew {W : Nat} {P I O : Int} {R : Bool} {p q : Nat} {w : World} (h : crc_Held W P I O R p q w) : crc_Held W P I O R p q w.drew := h
theorem crc_St_mk {W P I O G p q : Nat} {w w' : World} (hb : Below w.heap.size w w') (hk : w'.heap[G]? = some (.cells #[.int .i64 (W : Int), .int .u32 (P : Int), .int .u32 (I : Int), .int .u32 (O : Int), .bool false, .func (.func 41) #[] #[], .func (.func 42) #[] #[], .func (.func 43) #[] #[.pointer (some ⟨q, 0, none⟩)]] 65 (0, 0))) (hh : crc_Held W P I O false p q w') : crc_St W P I O G p q w w' :=
 ⟨(blk_cell hk 0).trans rfl, (blk_cell hk 1).trans rfl, (blk_cell hk 2).trans rfl, (blk_cell hk 3).trans rfl, (blk_cell hk 4).trans rfl, (blk_cell hk 5).trans rfl, (blk_cell hk 6).trans rfl, (blk_cell hk 7).trans rfl, ⟨hb⟩, ⟨hk⟩, ⟨hh⟩⟩
theorem crc_St_step {W P I O G p q : Nat} {w w' w2 : World} (h : crc_St W P I O G p q w w') (hb : Below w'.heap.size w' w2) : crc_St W P I O G p q w w2 :=
 let hh := h.2.2.2.2.2.2.2.2
 crc_St_mk (below_step hh.1.out hb) (blk_below hh.2.1.out hb) (hh.2.2.out.later hb)
set_option maxHeartbeats 16000000 in
set_option maxRecDepth 100000 in
theorem crc_Sum_plain (A1 : Option Addr) (c1 W P I O : Nat) (B : List Nat) (w : World) (hs : Crc.okN W P I O) (hB : ∀ x ∈ B, x < 256) (hr1 : Kd.C (Kd.int .u8) w A1 (Crc.ints B).length (Crc.ints B)) :
  Calls Try.prog 24 #[.agg #[.int .i64 (W : Int), .int .u32 (P : Int), .int .u32 (I : Int), .int .u32 (O : Int), .bool false], .slice A1 (Crc.ints B).length c1] w fun e w' => e = .returned (.tuple #[.int .u32 ((Crc.crc false W P I O B : Nat) : Int), .int .i64 0]) ∧ Below w.heap.size w w' := by
 have hu24 := Try.underlying24
 have hu55 := Try.underlying65
 have HB := Aside0.mk (Below.refl w.heap.size w)
 have HR1 := Aside0.mk hr1
 have HBY := Aside0.mk hB
 obtain ⟨K, hK⟩ : ∃ K, W + K = 32 := ⟨32 - W, by have := hs.1; omega⟩
 have HK := Aside0.mk hK
 have HS := Aside0.mk hs
 have HW := Aside0.mk (show 8 ≤ W by have := hs.1; omega)
 have HW2 := Aside0.mk (show W ≤ 32 by omega)
 have HP := Aside0.mk hs.2.1
 have HI := Aside0.mk hs.2.2.1
 have HO := Aside0.mk (Nat.lt_of_lt_of_le hs.2.2.2.1 (show 2 ^ W ≤ 2 ^ 32 from Nat.pow_le_pow_right (by omega) (by omega)))
 have HI32 := Aside0.mk (Nat.lt_of_lt_of_le hs.2.2.1 (show 2 ^ W ≤ 2 ^ 32 from Nat.pow_le_pow_right (by omega) (by omega)))
 have HIK := Aside0.mk (show I * 2 ^ K % 4294967296 = I * 2 ^ K from Nat.mod_eq_of_lt (Crc.up_lt hK hs.2.2.1))
 have hl0 : (0 : Int) ≤ ((Crc.ints B).length : Int) := by omega
 obtain ⟨L, hL⟩ : ∃ L, L = Crc.ints B := ⟨_, rfl⟩
 rw [← hL] at HR1 hl0 ⊢
 have HL := Aside0.mk hL
 clear hr1 hB hs hK hL
 go_enter Try.func24, Try.ntmps24
 go_wp2_with (first | ((with_reducible refine gate_dst (N := 2) rfl ?_); refine box_event ?hg (N := 2) ?hd (cs := #[.int .i64 (W : Int), .int .u32 (P : Int), .int .u32 (I : Int), .int .u32 (O : Int), .bool false]) (t := 24) ?hr ?_; (case hd => rfl); (case hg => rfl); (case hr => first | (go_simp; done) | (go_simp; rfl)); intro g hg_ wg hbox_ hb_; have n0_ := Aside0.mk (below_step HB.out hb_); have n1_ := Aside0.mk hbox_; have n2_ := Aside0.mk ((by rw [hg_]; exact below_size HB.out) : w.heap.size ≤ g); clear HB; have HB := n0_; have BKg := n1_; have GEg := n2_; clear n0_ n1_ n2_; clear hb_ hbox_ hg_; have hcg_0 : wg.cell? ⟨g, 0, none⟩ = some (.int .i64 (W : Int)) := (blk_cell BKg.out 0).trans rfl; have hfg_0 := blk_frozen BKg.out 0; have hcg_1 : wg.cell? ⟨g, 1, none⟩ = some (.int .u32 (P : Int)) := (blk_cell BKg.out 1).trans rfl; have hfg_1 := blk_frozen BKg.out 1; have hcg_2 : wg.cell? ⟨g, 2, none⟩ = some (.int .u32 (I : Int)) := (blk_cell BKg.out 2).trans rfl; have hfg_2 := blk_frozen BKg.out 2; have hcg_3 : wg.cell? ⟨g, 3, none⟩ = some (.int .u32 (O : Int)) := (blk_cell BKg.out 3).trans rfl; have hfg_3 := blk_frozen BKg.out 3; have hcg_4 : wg.cell? ⟨g, 4, none⟩ = some (.bool false) := (blk_cell BKg.out 4).trans rfl; have hfg_4 := blk_frozen BKg.out 4) | (go_at_call 27; refine (crc_Check_ok W P I O false _ HS.out).mono ?_; rintro e w1 ⟨rfl, hb⟩; have n0_ := Aside0.mk (below_step HB.out hb); clear HB; have HB := n0_; clear n0_; have n0_ := Aside0.mk (blk_below BKg.out hb); clear BKg; have BKg := n0_; clear n0_; have hcg_w1_0 : w1.cell? ⟨g, 0, none⟩ = some (.int .i64 (W : Int)) := (blk_cell BKg.out 0).trans rfl; have hfg_w1_0 := blk_frozen BKg.out 0; have hcg_w1_1 : w1.cell? ⟨g, 1, none⟩ = some (.int .u32 (P : Int)) := (blk_cell BKg.out 1).trans rfl; have hfg_w1_1 := blk_frozen BKg.out 1; have hcg_w1_2 : w1.cell? ⟨g, 2, none⟩ = some (.int .u32 (I : Int)) := (blk_cell BKg.out 2).trans rfl; have hfg_w1_2 := blk_frozen BKg.out 2; have hcg_w1_3 : w1.cell? ⟨g, 3, none⟩ = some (.int .u32 (O : Int)) := (blk_cell BKg.out 3).trans rfl; have hfg_w1_3 := blk_frozen BKg.out 3; have hcg_w1_4 : w1.cell? ⟨g, 4, none⟩ = some (.bool false) := (blk_cell BKg.out 4).trans rfl; have hfg_w1_4 := blk_frozen BKg.out 4; clear hb) | (go_at_call 26; refine (crc_fit_plain W P I O _ HW2.out).mono ?_; rintro e w2 ⟨p, q, rfl, hh, hb⟩; simp only [crc_wv, if_true, if_false, Bool.false_eq_true]; have n0_ := Aside0.mk (below_step HB.out hb); clear HB; have HB := n0_; clear n0_; have n0_ := Aside0.mk (blk_below BKg.out hb); clear BKg; have BKg := n0_; clear n0_; have hcg_w2_0 : w2.cell? ⟨g, 0, none⟩ = some (.int .i64 (W : Int)) := (blk_cell BKg.out 0).trans rfl; have hfg_w2_0 := blk_frozen BKg.out 0; have hcg_w2_1 : w2.cell? ⟨g, 1, none⟩ = some (.int .u32 (P : Int)) := (blk_cell BKg.out 1).trans rfl; have hfg_w2_1 := blk_frozen BKg.out 1; have hcg_w2_2 : w2.cell? ⟨g, 2, none⟩ = some (.int .u32 (I : Int)) := (blk_cell BKg.out 2).trans rfl; have hfg_w2_2 := blk_frozen BKg.out 2; have hcg_w2_3 : w2.cell? ⟨g, 3, none⟩ = some (.int .u32 (O : Int)) := (blk_cell BKg.out 3).trans rfl; have hfg_w2_3 := blk_frozen BKg.out 3; have hcg_w2_4 : w2.cell? ⟨g, 4, none⟩ = some (.bool false) := (blk_cell BKg.out 4).trans rfl; have hfg_w2_4 := blk_frozen BKg.out 4; have HH := Aside0.mk hh; have hlt := blk_lt BKg.out; clear hb hh) | (go_at_call 32; refine (crc_high_calls W K I _ _ _ _ _ _ _ _ _ _ _ HK.out HI32.out).mono ?_; rintro e w3 ⟨rfl, hb⟩; rw [HIK.out]; have BKh := Aside0.mk (blk_below (blk_new _ _) hb); have n0_ := Aside0.mk (below_step (below_alloc HB.out _) hb); clear HB; have HB := n0_; clear n0_; have n0_ := Aside0.mk ((HH.out.later (below_alloc (Below.refl _ _) _)).later hb); clear HH; have HH := n0_; clear n0_; clear BKg hb))
 go_loopg [8, 24] L.length (fun kq v8 v24 w' => ∃ (c y i : Nat), v8 = .int .u32 (c : Int) ∧ v24 = .int .i64 (i : Int) ∧ Aside0 (i + kq = L.length) ∧ Aside0 (c = y * 2 ^ K) ∧ Aside0 (y < 2 ^ W) ∧ Aside0 (Crc.regs false W P y (B.drop i) = Crc.regs false W P I B) ∧ Aside0 (w'.heap[w2.heap.size]? = some (.cells #[.int .i64 (W : Int), .int .u32 (P : Int), .int .u32 (I : Int), .int .u32 (O : Int), .bool false, .func (.func 41) #[] #[], .func (.func 42) #[] #[], .func (.func 43) #[] #[.pointer (some ⟨q, 0, none⟩)]] 65 (0, 0))) ∧ Aside0 (crc_Held W P I O false p q w') ∧ Aside0 (Below w.heap.size w w'))
 case atStart => exact ⟨I * 2 ^ K, I, 0, rfl, rfl, ⟨by omega⟩, ⟨rfl⟩, HI, ⟨rfl⟩, BKh, HH, HB⟩
 case round =>
  clear HH BKh HB
  obtain ⟨c, y, i, rfl, rfl, HN, HC, HY, HV, BKh, HH, HB⟩ := hrel
  cases gk with
  | zero =>
   have hj : decide (i < L.length) = false := decide_eq_false (by have := HN.out; omega)
   have hch_wr_0 : wr.cell? ⟨w2.heap.size, 0, none⟩ = some (.int .i64 (W : Int)) := (blk_cell BKh.out 0).trans rfl; have hfh_wr_0 := blk_frozen BKh.out 0; have hch_wr_1 : wr.cell? ⟨w2.heap.size, 1, none⟩ = some (.int .u32 (P : Int)) := (blk_cell BKh.out 1).trans rfl; have hfh_wr_1 := blk_frozen BKh.out 1; have hch_wr_2 : wr.cell? ⟨w2.heap.size, 2, none⟩ = some (.int .u32 (I : Int)) := (blk_cell BKh.out 2).trans rfl; have hfh_wr_2 := blk_frozen BKh.out 2; have hch_wr_3 : wr.cell? ⟨w2.heap.size, 3, none⟩ = some (.int .u32 (O : Int)) := (blk_cell BKh.out 3).trans rfl; have hfh_wr_3 := blk_frozen BKh.out 3; have hch_wr_4 : wr.cell? ⟨w2.heap.size, 4, none⟩ = some (.bool false) := (blk_cell BKh.out 4).trans rfl; have hfh_wr_4 := blk_frozen BKh.out 4; have hch_wr_5 : wr.cell? ⟨w2.heap.size, 5, none⟩ = some (.func (.func 41) #[] #[]) := (blk_cell BKh.out 5).trans rfl; have hfh_wr_5 := blk_frozen BKh.out 5; have hch_wr_6 : wr.cell? ⟨w2.heap.size, 6, none⟩ = some (.func (.func 42) #[] #[]) := (blk_cell BKh.out 6).trans rfl; have hfh_wr_6 := blk_frozen BKh.out 6; have hch_wr_7 : wr.cell? ⟨w2.heap.size, 7, none⟩ = some (.func (.func 43) #[] #[.pointer (some ⟨q, 0, none⟩)]) := (blk_cell BKh.out 7).trans rfl; have hfh_wr_7 := blk_frozen BKh.out 7
   have ei : i = B.length := by
    have h1 := HN.out
    have h2 : L.length = B.length := by rw [HL.out, Crc.ints_length]
    omega
   have ey : y = Crc.regs false W P I B := by
    have h1 := HV.out
    rw [ei, List.drop_length] at h1
    exact h1
   have EY := Aside0.mk ey
   have EC := Aside0.mk (show Crc.turn false W (Crc.regs false W P I B) ^^^ O = Crc.crc false W P I O B from rfl)
   have hcc := HC.out
   subst hcc
   clear ei ey
   go_wp2_with (first | (go_at_call 37; refine (crc_told_plain W K y O p q P I wr HK.out HY.out HO.out HH.out).mono ?_; rintro e w4 ⟨rfl, hb⟩; rw [EY.out, EC.out]; have n0_ := Aside0.mk (below_step HB.out hb); clear HB; have HB := n0_; clear n0_; clear hb))
   go_ret2
   exact ⟨rfl, HB.out⟩
  | succ k1 =>
   have hj : decide (i < L.length) = true := decide_eq_true (by have := HN.out; omega)
   have hil := of_decide_eq_true hj
   have HIL := Aside0.mk hil
   have hj0 : decide (0 ≤ (i : Int)) = true := decide_eq_true (by omega)
   have ti : (i < L.length) = True := eq_true hil
   obtain ⟨ad, ea, hx⟩ := Kd.at_int HR1.out (i : Int) (by omega) (by omega)
   cases ea
   obtain ⟨x, hxx⟩ : ∃ x, x = B.getD i 0 := ⟨_, rfl⟩
   have hv : rd L (i : Int) = (x : Int) := by rw [HL.out, Crc.rd_ints, hxx]
   have hx0 := (HB.out.cell (World.block_lt_of_cell? w _ hx)).trans hx
   rw [hv, Int.toNat_natCast] at hx0
   have HXX := Aside0.mk hxx
   have HX := Aside0.mk (show x < 256 by rw [hxx]; exact Crc.getD_lt HBY.out i)
   clear hx hv hil hxx
   have hch_wr_0 : wr.cell? ⟨w2.heap.size, 0, none⟩ = some (.int .i64 (W : Int)) := (blk_cell BKh.out 0).trans rfl; have hfh_wr_0 := blk_frozen BKh.out 0; have hch_wr_1 : wr.cell? ⟨w2.heap.size, 1, none⟩ = some (.int .u32 (P : Int)) := (blk_cell BKh.out 1).trans rfl; have hfh_wr_1 := blk_frozen BKh.out 1; have hch_wr_2 : wr.cell? ⟨w2.heap.size, 2, none⟩ = some (.int .u32 (I : Int)) := (blk_cell BKh.out 2).trans rfl; have hfh_wr_2 := blk_frozen BKh.out 2; have hch_wr_3 : wr.cell? ⟨w2.heap.size, 3, none⟩ = some (.int .u32 (O : Int)) := (blk_cell BKh.out 3).trans rfl; have hfh_wr_3 := blk_frozen BKh.out 3; have hch_wr_4 : wr.cell? ⟨w2.heap.size, 4, none⟩ = some (.bool false) := (blk_cell BKh.out 4).trans rfl; have hfh_wr_4 := blk_frozen BKh.out 4; have hch_wr_5 : wr.cell? ⟨w2.heap.size, 5, none⟩ = some (.func (.func 41) #[] #[]) := (blk_cell BKh.out 5).trans rfl; have hfh_wr_5 := blk_frozen BKh.out 5; have hch_wr_6 : wr.cell? ⟨w2.heap.size, 6, none⟩ = some (.func (.func 42) #[] #[]) := (blk_cell BKh.out 6).trans rfl; have hfh_wr_6 := blk_frozen BKh.out 6; have hch_wr_7 : wr.cell? ⟨w2.heap.size, 7, none⟩ = some (.func (.func 43) #[] #[.pointer (some ⟨q, 0, none⟩)]) := (blk_cell BKh.out 7).trans rfl; have hfh_wr_7 := blk_frozen BKh.out 7
   have hcx : c < 4294967296 := by rw [HC.out]; exact Crc.up_lt HK.out HY.out
   have EX : Aside0 (Go.bits .xor .u32 (c : Int) (IntKind.u32.wrap (IntKind.u32.wrap (x : Int) * 16777216)) = ((c ^^^ x * 2 ^ 24 : Nat) : Int)) := ⟨Crc.xor24 hcx HX.out⟩
   have HCX := Aside0.mk (show c ^^^ x * 2 ^ 24 < 4294967296 from Nat.xor_lt_two_pow (n := 32) hcx (by have := HX.out; omega))
   clear hcx
   go_wp2
   go_region_held3 (fun w' => w'.cell? ⟨w2.heap.size, 0, none⟩ = some (.int .i64 (W : Int)) ∧ w'.cell? ⟨w2.heap.size, 1, none⟩ = some (.int .u32 (P : Int)) ∧ w'.cell? ⟨w2.heap.size, 2, none⟩ = some (.int .u32 (I : Int)) ∧ w'.cell? ⟨w2.heap.size, 3, none⟩ = some (.int .u32 (O : Int)) ∧ w'.cell? ⟨w2.heap.size, 4, none⟩ = some (.bool false) ∧ w'.cell? ⟨w2.heap.size, 5, none⟩ = some (.func (.func 41) #[] #[]) ∧ w'.cell? ⟨w2.heap.size, 6, none⟩ = some (.func (.func 42) #[] #[]) ∧ w'.cell? ⟨w2.heap.size, 7, none⟩ = some (.func (.func 43) #[] #[.pointer (some ⟨q, 0, none⟩)]) ∧ Aside0 (Below w.heap.size w w') ∧ Aside0 (w'.heap[w2.heap.size]? = some (.cells #[.int .i64 (W : Int), .int .u32 (P : Int), .int .u32 (I : Int), .int .u32 (O : Int), .bool false, .func (.func 41) #[] #[], .func (.func 42) #[] #[], .func (.func 43) #[] #[.pointer (some ⟨q, 0, none⟩)]] 65 (0, 0))) ∧ Aside0 (crc_Held W P I O false p q w')) ((first | (with_reducible assumption) | (with_reducible exact crc_St_mk (below_drew1 HB.out) (blk_drew BKh.out) (crc_Held_drew HH.out)) | (exact HS6))) (first | (go_at_call 41; refine (crc_fit1_calls _ _).mono ?_; rintro e w5 ⟨rfl, rfl⟩) | (go_at_call 38; rw [EX.out]; refine (crc_step_calls W K P _ _ _ _ _ _ _ _ _ _ _ HK.out HP.out HCX.out).mono ?_; rintro e w6 ⟨rfl, hb⟩; have HS6 := crc_St_step (crc_St_mk (below_drew1 HB.out) (blk_drew BKh.out) (crc_Held_drew HH.out)) hb))
   have HS6' := Aside0.mk HS6
   clear HS6
   go_wp2
   go_roundg k1
   case measure => omega
   case rel =>
    have hh := HS6'.out.2.2.2.2.2.2.2.2
    have hl2 : L.length = B.length := by rw [HL.out, Crc.ints_length]
    have hst := Crc.step_byte (R := false) HK.out HW.out HX.out HP.out HY.out
    refine ⟨_, Crc.feeds W P y (Crc.bitsOf false x), i + 1, rfl, congrArg (Value.int .i64) ?_, ⟨by have := HN.out; omega⟩, ⟨?_⟩, ⟨Crc.feeds_lt HP.out _ HY.out⟩, ⟨?_⟩, hh.2.1, hh.2.2, hh.1⟩
    ·have h1 := HIL.out
     have h2 := Kd.C_max HR1.out
     first | omega | (unfold wrap64; omega)
    ·rw [HC.out]
     exact hst
    ·have h1 := HV.out
     rw [Crc.drop_get (by have := HIL.out; omega), ← HXX.out] at h1
     exact h1
@[reducible] def crc_Sr (W P I O G p q : Nat) (w w' : World) : Prop :=
 w'.cell? ⟨G, 0, none⟩ = some (.int .i64 (W : Int)) ∧ w'.cell? ⟨G, 1, none⟩ = some (.int .u32 (P : Int)) ∧ w'.cell? ⟨G, 2, none⟩ = some (.int .u32 (I : Int)) ∧ w'.cell? ⟨G, 3, none⟩ = some (.int .u32 (O : Int)) ∧ w'.cell? ⟨G, 4, none⟩ = some (.bool true) ∧ w'.cell? ⟨G, 5, none⟩ = some (.func (.func 44) #[] #[]) ∧ w'.cell? ⟨G, 6, none⟩ = some (.func (.func 45) #[] #[.pointer (some ⟨p, 0, none⟩)]) ∧ w'.cell? ⟨G, 7, none⟩ = some (.func (.func 47) #[] #[.pointer (some ⟨q, 0, none⟩)]) ∧ Aside0 (Below w.heap.size w w') ∧ Aside0 (w'.heap[G]? = some (.cells #[.int .i64 (W : Int), .int .u32 (P : Int), .int .u32 (I : Int), .int .u32 (O : Int), .bool true, .func (.func 44) #[] #[], .func (.func 45) #[] #[.pointer (some ⟨p, 0, none⟩)], .func (.func 47) #[] #[.pointer (some ⟨q, 0, none⟩)]] 65 (0, 0))) ∧ Aside0 (crc_Held W P I O true p q w')
theorem crc_Sr_mk {W P I O G p q : Nat} {w w' : World} (hb : Below w.heap.size w w') (hk : w'.heap[G]? = some (.cells #[.int .i64 (W : Int), .int .u32 (P : Int), .int .u32 (I : Int), .int .u32 (O : Int), .bool true, .func (.func 44) #[] #[], .func (.func 45) #[] #[.pointer (some ⟨p, 0, none⟩)], .func (.func 47) #[] #[.pointer (some ⟨q, 0, none⟩)]] 65 (0, 0))) (hh : crc_Held W P I O true p q w') : crc_Sr W P I O G p q w w' :=
 ⟨(blk_cell hk 0).trans rfl, (blk_cell hk 1).trans rfl, (blk_cell hk 2).trans rfl, (blk_cell hk 3).trans rfl, (blk_cell hk 4).trans rfl, (blk_cell hk 5).trans rfl, (blk_cell hk 6).trans rfl, (blk_cell hk 7).trans rfl, ⟨hb⟩, ⟨hk⟩, ⟨hh⟩⟩
theorem crc_Sr_step {W P I O G p q : Nat} {w w' w2 : World} (h : crc_Sr W P I O G p q w w') (hb : Below w'.heap.size w' w2) : crc_Sr W P I O G p q w w2 :=
 let hh := h.2.2.2.2.2.2.2.2
 crc_Sr_mk (below_step hh.1.out hb) (blk_below hh.2.1.out hb) (hh.2.2.out.later hb)
set_option maxHeartbeats 16000000 in
set_option maxRecDepth 100000 in
theorem crc_Sum_refl (A1 : Option Addr) (c1 W P I O : Nat) (B : List Nat) (w : World) (hs : Crc.okN W P I O) (hB : ∀ x ∈ B, x < 256) (hr1 : Kd.C (Kd.int .u8) w A1 (Crc.ints B).length (Crc.ints B)) :
  Calls Try.prog 24 #[.agg #[.int .i64 (W : Int), .int .u32 (P : Int), .int .u32 (I : Int), .int .u32 (O : Int), .bool true], .slice A1 (Crc.ints B).length c1] w fun e w' => e = .returned (.tuple #[.int .u32 ((Crc.crc true W P I O B : Nat) : Int), .int .i64 0]) ∧ Below w.heap.size w w' := by
 have hu24 := Try.underlying24
 have hu55 := Try.underlying65
 have HB := Aside0.mk (Below.refl w.heap.size w)
 have HR1 := Aside0.mk hr1
 have HBY := Aside0.mk hB
 obtain ⟨K, hK⟩ : ∃ K, W + K = 32 := ⟨32 - W, by have := hs.1; omega⟩
 have HK := Aside0.mk hK
 have HS := Aside0.mk hs
 have HW := Aside0.mk (show 8 ≤ W by have := hs.1; omega)
 have HW2 := Aside0.mk (show W ≤ 32 by omega)
 have HP := Aside0.mk hs.2.1
 have HI := Aside0.mk hs.2.2.1
 have HO := Aside0.mk (Nat.lt_of_lt_of_le hs.2.2.2.1 (show 2 ^ W ≤ 2 ^ 32 from Nat.pow_le_pow_right (by omega) (by omega)))
 have HI32 := Aside0.mk (Nat.lt_of_lt_of_le hs.2.2.1 (show 2 ^ W ≤ 2 ^ 32 from Nat.pow_le_pow_right (by omega) (by omega)))
 have HIK := Aside0.mk (show I * 2 ^ K % 4294967296 = I * 2 ^ K from Nat.mod_eq_of_lt (Crc.up_lt hK hs.2.2.1))
 have hl0 : (0 : Int) ≤ ((Crc.ints B).length : Int) := by omega
 obtain ⟨L, hL⟩ : ∃ L, L = Crc.ints B := ⟨_, rfl⟩
 rw [← hL] at HR1 hl0 ⊢
 have HL := Aside0.mk hL
 clear hr1 hB hs hK hL
 go_enter Try.func24, Try.ntmps24
 go_wp2_with (first | ((with_reducible refine gate_dst (N := 2) rfl ?_); refine box_event ?hg (N := 2) ?hd (cs := #[.int .i64 (W : Int), .int .u32 (P : Int), .int .u32 (I : Int), .int .u32 (O : Int), .bool true]) (t := 24) ?hr ?_; (case hd => rfl); (case hg => rfl); (case hr => first | (go_simp; done) | (go_simp; rfl)); intro g hg_ wg hbox_ hb_; have n0_ := Aside0.mk (below_step HB.out hb_); have n1_ := Aside0.mk hbox_; have n2_ := Aside0.mk ((by rw [hg_]; exact below_size HB.out) : w.heap.size ≤ g); clear HB; have HB := n0_; have BKg := n1_; have GEg := n2_; clear n0_ n1_ n2_; clear hb_ hbox_ hg_; have hcg_0 : wg.cell? ⟨g, 0, none⟩ = some (.int .i64 (W : Int)) := (blk_cell BKg.out 0).trans rfl; have hfg_0 := blk_frozen BKg.out 0; have hcg_1 : wg.cell? ⟨g, 1, none⟩ = some (.int .u32 (P : Int)) := (blk_cell BKg.out 1).trans rfl; have hfg_1 := blk_frozen BKg.out 1; have hcg_2 : wg.cell? ⟨g, 2, none⟩ = some (.int .u32 (I : Int)) := (blk_cell BKg.out 2).trans rfl; have hfg_2 := blk_frozen BKg.out 2; have hcg_3 : wg.cell? ⟨g, 3, none⟩ = some (.int .u32 (O : Int)) := (blk_cell BKg.out 3).trans rfl; have hfg_3 := blk_frozen BKg.out 3; have hcg_4 : wg.cell? ⟨g, 4, none⟩ = some (.bool true) := (blk_cell BKg.out 4).trans rfl; have hfg_4 := blk_frozen BKg.out 4) | (go_at_call 27; refine (crc_Check_ok W P I O true _ HS.out).mono ?_; rintro e w1 ⟨rfl, hb⟩; have n0_ := Aside0.mk (below_step HB.out hb); clear HB; have HB := n0_; clear n0_; have n0_ := Aside0.mk (blk_below BKg.out hb); clear BKg; have BKg := n0_; clear n0_; have hcg_w1_0 : w1.cell? ⟨g, 0, none⟩ = some (.int .i64 (W : Int)) := (blk_cell BKg.out 0).trans rfl; have hfg_w1_0 := blk_frozen BKg.out 0; have hcg_w1_1 : w1.cell? ⟨g, 1, none⟩ = some (.int .u32 (P : Int)) := (blk_cell BKg.out 1).trans rfl; have hfg_w1_1 := blk_frozen BKg.out 1; have hcg_w1_2 : w1.cell? ⟨g, 2, none⟩ = some (.int .u32 (I : Int)) := (blk_cell BKg.out 2).trans rfl; have hfg_w1_2 := blk_frozen BKg.out 2; have hcg_w1_3 : w1.cell? ⟨g, 3, none⟩ = some (.int .u32 (O : Int)) := (blk_cell BKg.out 3).trans rfl; have hfg_w1_3 := blk_frozen BKg.out 3; have hcg_w1_4 : w1.cell? ⟨g, 4, none⟩ = some (.bool true) := (blk_cell BKg.out 4).trans rfl; have hfg_w1_4 := blk_frozen BKg.out 4; clear hb) | (go_at_call 26; refine (crc_fit_refl W P I O _ HW2.out).mono ?_; rintro e w2 ⟨p, q, rfl, hh, hb⟩; simp only [crc_wv, if_true, if_false, Bool.false_eq_true]; have n0_ := Aside0.mk (below_step HB.out hb); clear HB; have HB := n0_; clear n0_; have n0_ := Aside0.mk (blk_below BKg.out hb); clear BKg; have BKg := n0_; clear n0_; have hcg_w2_0 : w2.cell? ⟨g, 0, none⟩ = some (.int .i64 (W : Int)) := (blk_cell BKg.out 0).trans rfl; have hfg_w2_0 := blk_frozen BKg.out 0; have hcg_w2_1 : w2.cell? ⟨g, 1, none⟩ = some (.int .u32 (P : Int)) := (blk_cell BKg.out 1).trans rfl; have hfg_w2_1 := blk_frozen BKg.out 1; have hcg_w2_2 : w2.cell? ⟨g, 2, none⟩ = some (.int .u32 (I : Int)) := (blk_cell BKg.out 2).trans rfl; have hfg_w2_2 := blk_frozen BKg.out 2; have hcg_w2_3 : w2.cell? ⟨g, 3, none⟩ = some (.int .u32 (O : Int)) := (blk_cell BKg.out 3).trans rfl; have hfg_w2_3 := blk_frozen BKg.out 3; have hcg_w2_4 : w2.cell? ⟨g, 4, none⟩ = some (.bool true) := (blk_cell BKg.out 4).trans rfl; have hfg_w2_4 := blk_frozen BKg.out 4; have HH := Aside0.mk hh; have hlt := blk_lt BKg.out; clear hb hh) | (go_at_call 32; refine (crc_high_calls W K I _ _ _ _ _ _ _ _ _ _ _ HK.out HI32.out).mono ?_; rintro e w3 ⟨rfl, hb⟩; rw [HIK.out]; have BKh := Aside0.mk (blk_below (blk_new _ _) hb); have n0_ := Aside0.mk (below_step (below_alloc HB.out _) hb); clear HB; have HB := n0_; clear n0_; have n0_ := Aside0.mk ((HH.out.later (below_alloc (Below.refl _ _) _)).later hb); clear HH; have HH := n0_; clear n0_; clear BKg hb))
 go_loopg [8, 24] L.length (fun kq v8 v24 w' => ∃ (c y i : Nat), v8 = .int .u32 (c : Int) ∧ v24 = .int .i64 (i : Int) ∧ Aside0 (i + kq = L.length) ∧ Aside0 (c = y * 2 ^ K) ∧ Aside0 (y < 2 ^ W) ∧ Aside0 (Crc.regs true W P y (B.drop i) = Crc.regs true W P I B) ∧ Aside0 (w'.heap[w2.heap.size]? = some (.cells #[.int .i64 (W : Int), .int .u32 (P : Int), .int .u32 (I : Int), .int .u32 (O : Int), .bool true, .func (.func 44) #[] #[], .func (.func 45) #[] #[.pointer (some ⟨p, 0, none⟩)], .func (.func 47) #[] #[.pointer (some ⟨q, 0, none⟩)]] 65 (0, 0))) ∧ Aside0 (crc_Held W P I O true p q w') ∧ Aside0 (Below w.heap.size w w'))
 case atStart => exact ⟨I * 2 ^ K, I, 0, rfl, rfl, ⟨by omega⟩, ⟨rfl⟩, HI, ⟨rfl⟩, BKh, HH, HB⟩
 case round =>
  clear HH BKh HB
  obtain ⟨c, y, i, rfl, rfl, HN, HC, HY, HV, BKh, HH, HB⟩ := hrel
  cases gk with
  | zero =>
   have hj : decide (i < L.length) = false := decide_eq_false (by have := HN.out; omega)
   have hch_wr_0 : wr.cell? ⟨w2.heap.size, 0, none⟩ = some (.int .i64 (W : Int)) := (blk_cell BKh.out 0).trans rfl; have hfh_wr_0 := blk_frozen BKh.out 0; have hch_wr_1 : wr.cell? ⟨w2.heap.size, 1, none⟩ = some (.int .u32 (P : Int)) := (blk_cell BKh.out 1).trans rfl; have hfh_wr_1 := blk_frozen BKh.out 1; have hch_wr_2 : wr.cell? ⟨w2.heap.size, 2, none⟩ = some (.int .u32 (I : Int)) := (blk_cell BKh.out 2).trans rfl; have hfh_wr_2 := blk_frozen BKh.out 2; have hch_wr_3 : wr.cell? ⟨w2.heap.size, 3, none⟩ = some (.int .u32 (O : Int)) := (blk_cell BKh.out 3).trans rfl; have hfh_wr_3 := blk_frozen BKh.out 3; have hch_wr_4 : wr.cell? ⟨w2.heap.size, 4, none⟩ = some (.bool true) := (blk_cell BKh.out 4).trans rfl; have hfh_wr_4 := blk_frozen BKh.out 4; have hch_wr_5 : wr.cell? ⟨w2.heap.size, 5, none⟩ = some (.func (.func 44) #[] #[]) := (blk_cell BKh.out 5).trans rfl; have hfh_wr_5 := blk_frozen BKh.out 5; have hch_wr_6 : wr.cell? ⟨w2.heap.size, 6, none⟩ = some (.func (.func 45) #[] #[.pointer (some ⟨p, 0, none⟩)]) := (blk_cell BKh.out 6).trans rfl; have hfh_wr_6 := blk_frozen BKh.out 6; have hch_wr_7 : wr.cell? ⟨w2.heap.size, 7, none⟩ = some (.func (.func 47) #[] #[.pointer (some ⟨q, 0, none⟩)]) := (blk_cell BKh.out 7).trans rfl; have hfh_wr_7 := blk_frozen BKh.out 7
   have ei : i = B.length := by
    have h1 := HN.out
    have h2 : L.length = B.length := by rw [HL.out, Crc.ints_length]
    omega
   have ey : y = Crc.regs true W P I B := by
    have h1 := HV.out
    rw [ei, List.drop_length] at h1
    exact h1
   have EY := Aside0.mk ey
   have EC := Aside0.mk (show Crc.turn true W (Crc.regs true W P I B) ^^^ O = Crc.crc true W P I O B from rfl)
   have hcc := HC.out
   subst hcc
   clear ei ey
   go_wp2_with (first | (go_at_call 37; refine (crc_told_refl W K y O p q P I wr HK.out HY.out HO.out HH.out).mono ?_; rintro e w4 ⟨rfl, hb⟩; rw [EY.out, EC.out]; have n0_ := Aside0.mk (below_step HB.out hb); clear HB; have HB := n0_; clear n0_; clear hb))
   go_ret2
   exact ⟨rfl, HB.out⟩
  | succ k1 =>
   have hj : decide (i < L.length) = true := decide_eq_true (by have := HN.out; omega)
   have hil := of_decide_eq_true hj
   have HIL := Aside0.mk hil
   have hj0 : decide (0 ≤ (i : Int)) = true := decide_eq_true (by omega)
   have ti : (i < L.length) = True := eq_true hil
   obtain ⟨ad, ea, hx⟩ := Kd.at_int HR1.out (i : Int) (by omega) (by omega)
   cases ea
   obtain ⟨x, hxx⟩ : ∃ x, x = B.getD i 0 := ⟨_, rfl⟩
   have hv : rd L (i : Int) = (x : Int) := by rw [HL.out, Crc.rd_ints, hxx]
   have hx0 := (HB.out.cell (World.block_lt_of_cell? w _ hx)).trans hx
   rw [hv, Int.toNat_natCast] at hx0
   have HXX := Aside0.mk hxx
   have HX := Aside0.mk (show x < 256 by rw [hxx]; exact Crc.getD_lt HBY.out i)
   clear hx hv hil hxx
   have hch_wr_0 : wr.cell? ⟨w2.heap.size, 0, none⟩ = some (.int .i64 (W : Int)) := (blk_cell BKh.out 0).trans rfl; have hfh_wr_0 := blk_frozen BKh.out 0; have hch_wr_1 : wr.cell? ⟨w2.heap.size, 1, none⟩ = some (.int .u32 (P : Int)) := (blk_cell BKh.out 1).trans rfl; have hfh_wr_1 := blk_frozen BKh.out 1; have hch_wr_2 : wr.cell? ⟨w2.heap.size, 2, none⟩ = some (.int .u32 (I : Int)) := (blk_cell BKh.out 2).trans rfl; have hfh_wr_2 := blk_frozen BKh.out 2; have hch_wr_3 : wr.cell? ⟨w2.heap.size, 3, none⟩ = some (.int .u32 (O : Int)) := (blk_cell BKh.out 3).trans rfl; have hfh_wr_3 := blk_frozen BKh.out 3; have hch_wr_4 : wr.cell? ⟨w2.heap.size, 4, none⟩ = some (.bool true) := (blk_cell BKh.out 4).trans rfl; have hfh_wr_4 := blk_frozen BKh.out 4; have hch_wr_5 : wr.cell? ⟨w2.heap.size, 5, none⟩ = some (.func (.func 44) #[] #[]) := (blk_cell BKh.out 5).trans rfl; have hfh_wr_5 := blk_frozen BKh.out 5; have hch_wr_6 : wr.cell? ⟨w2.heap.size, 6, none⟩ = some (.func (.func 45) #[] #[.pointer (some ⟨p, 0, none⟩)]) := (blk_cell BKh.out 6).trans rfl; have hfh_wr_6 := blk_frozen BKh.out 6; have hch_wr_7 : wr.cell? ⟨w2.heap.size, 7, none⟩ = some (.func (.func 47) #[] #[.pointer (some ⟨q, 0, none⟩)]) := (blk_cell BKh.out 7).trans rfl; have hfh_wr_7 := blk_frozen BKh.out 7
   have hcx : c < 4294967296 := by rw [HC.out]; exact Crc.up_lt HK.out HY.out
   have EX : Aside0 (Go.bits .xor .u32 (c : Int) (IntKind.u32.wrap (IntKind.u32.wrap ((Crc.rev x 8 : Nat) : Int) * 16777216)) = ((c ^^^ Crc.rev x 8 * 2 ^ 24 : Nat) : Int)) := ⟨Crc.xor24 hcx (Crc.rev_lt x 8)⟩
   have HCX := Aside0.mk (show c ^^^ Crc.rev x 8 * 2 ^ 24 < 4294967296 from Nat.xor_lt_two_pow (n := 32) hcx (by have := Crc.rev_lt x 8; omega))
   have RV : Aside0 (bits_Reverse8.f (x : Int) = some ((Crc.rev x 8 : Nat) : Int)) := ⟨by unfold bits_Reverse8.f; rw [if_pos (by have := HX.out; omega), Int.toNat_natCast]⟩
   clear hcx
   go_wp2
   go_region_held3 (fun w' => w'.cell? ⟨w2.heap.size, 0, none⟩ = some (.int .i64 (W : Int)) ∧ w'.cell? ⟨w2.heap.size, 1, none⟩ = some (.int .u32 (P : Int)) ∧ w'.cell? ⟨w2.heap.size, 2, none⟩ = some (.int .u32 (I : Int)) ∧ w'.cell? ⟨w2.heap.size, 3, none⟩ = some (.int .u32 (O : Int)) ∧ w'.cell? ⟨w2.heap.size, 4, none⟩ = some (.bool true) ∧ w'.cell? ⟨w2.heap.size, 5, none⟩ = some (.func (.func 44) #[] #[]) ∧ w'.cell? ⟨w2.heap.size, 6, none⟩ = some (.func (.func 45) #[] #[.pointer (some ⟨p, 0, none⟩)]) ∧ w'.cell? ⟨w2.heap.size, 7, none⟩ = some (.func (.func 47) #[] #[.pointer (some ⟨q, 0, none⟩)]) ∧ Aside0 (Below w.heap.size w w') ∧ Aside0 (w'.heap[w2.heap.size]? = some (.cells #[.int .i64 (W : Int), .int .u32 (P : Int), .int .u32 (I : Int), .int .u32 (O : Int), .bool true, .func (.func 44) #[] #[], .func (.func 45) #[] #[.pointer (some ⟨p, 0, none⟩)], .func (.func 47) #[] #[.pointer (some ⟨q, 0, none⟩)]] 65 (0, 0))) ∧ Aside0 (crc_Held W P I O true p q w')) ((first | (with_reducible assumption) | (with_reducible exact crc_Sr_mk (below_drew1 HB.out) (blk_drew BKh.out) (crc_Held_drew HH.out)) | (exact HS5) | (exact HS6))) (first | (go_at_call 44; refine (bits_Reverse8.calls (x : Int) ((Crc.rev x 8 : Nat) : Int) _ RV.out).mono ?_; rintro e w5 ⟨rfl, hd⟩; have HS5 := crc_Sr_step (crc_Sr_mk (below_drew1 HB.out) (blk_drew BKh.out) (crc_Held_drew HH.out)) hd.below) | (go_at_call 38; rw [EX.out]; refine (crc_step_calls W K P _ _ _ _ _ _ _ _ _ _ _ HK.out HP.out HCX.out).mono ?_; rintro e w6 ⟨rfl, hb⟩; have HS6 := crc_Sr_step HS5 hb))
   have HS6' := Aside0.mk HS6
   clear HS6
   go_wp2
   go_roundg k1
   case measure => omega
   case rel =>
    have hh := HS6'.out.2.2.2.2.2.2.2.2
    have hl2 : L.length = B.length := by rw [HL.out, Crc.ints_length]
    have hst := Crc.step_byte (R := true) HK.out HW.out HX.out HP.out HY.out
    refine ⟨_, Crc.feeds W P y (Crc.bitsOf true x), i + 1, rfl, congrArg (Value.int .i64) ?_, ⟨by have := HN.out; omega⟩, ⟨?_⟩, ⟨Crc.feeds_lt HP.out _ HY.out⟩, ⟨?_⟩, hh.2.1, hh.2.2, hh.1⟩
    ·have h1 := HIL.out
     have h2 := Kd.C_max HR1.out
     first | omega | (unfold wrap64; omega)
    ·rw [HC.out]
     exact hst
    ·have h1 := HV.out
     rw [Crc.drop_get (by have := HIL.out; omega), ← HXX.out] at h1
     exact h1
set_option maxHeartbeats 8000000 in
set_option maxRecDepth 100000 in
theorem crc_Sum_bad (A1 : Option Addr) (n1 c1 : Nat) (W P I O : Int) (R : Bool) (w : World) (hs : Crc.okI W P I O = false) :
  Calls Try.prog 24 #[.agg #[.int .i64 W, .int .u32 P, .int .u32 I, .int .u32 O, .bool R], .slice A1 n1 c1] w fun e w' => e = .returned (.tuple #[.int .u32 0, .int .i64 30]) ∧ Below w.heap.size w w' := by
 have hu24 := Try.underlying24
 have HB := Aside0.mk (Below.refl w.heap.size w)
 have HS := Aside0.mk hs
 clear hs
 go_enter Try.func24, Try.ntmps24
 go_wp2_with (first | ((with_reducible refine gate_dst (N := 2) rfl ?_); refine box_event ?hg (N := 2) ?hd (cs := #[.int .i64 W, .int .u32 P, .int .u32 I, .int .u32 O, .bool R]) (t := 24) ?hr ?_; (case hd => rfl); (case hg => rfl); (case hr => first | (go_simp; done) | (go_simp; rfl)); intro g hg_ wg hbox_ hb_; have n0_ := Aside0.mk (below_step HB.out hb_); have n1_ := Aside0.mk hbox_; have n2_ := Aside0.mk ((by rw [hg_]; exact below_size HB.out) : w.heap.size ≤ g); clear HB; have HB := n0_; have BKg := n1_; have GEg := n2_; clear n0_ n1_ n2_; clear hb_ hbox_ hg_; have hcg_0 : wg.cell? ⟨g, 0, none⟩ = some (.int .i64 W) := (blk_cell BKg.out 0).trans rfl; have hfg_0 := blk_frozen BKg.out 0; have hcg_1 : wg.cell? ⟨g, 1, none⟩ = some (.int .u32 P) := (blk_cell BKg.out 1).trans rfl; have hfg_1 := blk_frozen BKg.out 1; have hcg_2 : wg.cell? ⟨g, 2, none⟩ = some (.int .u32 I) := (blk_cell BKg.out 2).trans rfl; have hfg_2 := blk_frozen BKg.out 2; have hcg_3 : wg.cell? ⟨g, 3, none⟩ = some (.int .u32 O) := (blk_cell BKg.out 3).trans rfl; have hfg_3 := blk_frozen BKg.out 3; have hcg_4 : wg.cell? ⟨g, 4, none⟩ = some (.bool R) := (blk_cell BKg.out 4).trans rfl; have hfg_4 := blk_frozen BKg.out 4) | (go_at_call 27; refine (crc_Check_bad W P I O R _ HS.out).mono ?_; rintro e w1 ⟨rfl, hb⟩; have n0_ := Aside0.mk (below_step HB.out hb); clear HB; have HB := n0_; clear n0_; clear hb))
 go_ret2
 exact ⟨rfl, HB.out⟩
def crc_Sum.f (a0_0 a0_1 a0_2 a0_3 : Int) (a0_4 : Bool) (l1 : List Int) : Option (Int × Int) :=
 if Crc.okI a0_0 a0_1 a0_2 a0_3 then (if Crc.good a0_1 a0_2 a0_3 l1 then some (((Crc.crc a0_4 a0_0.toNat a0_1.toNat a0_2.toNat a0_3.toNat (l1.map Int.toNat) : Nat) : Int), 0) else none) else some (0, 30)
theorem crc_Sum.calls (a0_0 a0_1 a0_2 a0_3 : Int) (a0_4 : Bool) (A1 : Option Addr) (c1 : Nat) (l1 : List Int) (r1 r2 : Int) (w : World) (hr1 : Kd.C (Kd.int .u8) w A1 l1.length l1) (hc1 : l1.length ≤ c1) (h : crc_Sum.f a0_0 a0_1 a0_2 a0_3 a0_4 l1 = some (r1, r2)) :
  Calls Try.prog 24 #[.agg #[.int .i64 a0_0, .int .u32 a0_1, .int .u32 a0_2, .int .u32 a0_3, .bool a0_4], .slice A1 l1.length c1] w fun e w' => e = .returned (.tuple #[.int .u32 r1, .int .i64 r2]) ∧ Below w.heap.size w w' := by
 unfold crc_Sum.f at h
 cases hk : Crc.okI a0_0 a0_1 a0_2 a0_3 with
 | false =>
  simp only [hk, Bool.false_eq_true, if_false, Option.some.injEq, Prod.mk.injEq] at h
  obtain ⟨rfl, rfl⟩ := h
  exact crc_Sum_bad A1 l1.length c1 a0_0 a0_1 a0_2 a0_3 a0_4 w hk
 | true =>
  rw [hk, if_pos rfl] at h
  by_cases hg : Crc.good a0_1 a0_2 a0_3 l1
  ·rw [if_pos hg] at h
   simp only [Option.some.injEq, Prod.mk.injEq] at h
   obtain ⟨rfl, rfl⟩ := h
   obtain ⟨g1, g2, g3, g4⟩ := hg
   obtain ⟨W, rfl⟩ : ∃ n : Nat, a0_0 = (n : Int) := ⟨a0_0.toNat, by have := Crc.okI_width hk; omega⟩
   obtain ⟨P, rfl⟩ : ∃ n : Nat, a0_1 = (n : Int) := ⟨a0_1.toNat, by omega⟩
   obtain ⟨I, rfl⟩ : ∃ n : Nat, a0_2 = (n : Int) := ⟨a0_2.toNat, by omega⟩
   obtain ⟨O, rfl⟩ : ∃ n : Nat, a0_3 = (n : Int) := ⟨a0_3.toNat, by omega⟩
   obtain ⟨B, rfl, hB⟩ := Crc.bytes_of g4
   have hn := (Crc.okI_nat W P I O).1 hk
   have e : (Crc.ints B).map Int.toNat = B := Crc.toNat_ints B
   rw [e]
   simp only [Int.toNat_natCast]
   cases a0_4
   ·exact crc_Sum_plain A1 c1 W P I O B w hn hB hr1
   ·exact crc_Sum_refl A1 c1 W P I O B w hn hB hr1
  ·rw [if_neg hg] at h
   exact absurd h (by simp)

/-! ### crc_Seal: function 7, given -/
theorem crc_field3 (a0 a1 a2 a3 a4 a5 a6 a7 : Value) (W' : World) : (Instr.field 65 (.agg #[a0, a1, a2, a3, a4, a5, a6, a7]) 3).run Try.prog W' = .ok a7 W' := by
 kernel_rfl
@[reducible] def crc_SqP (W P I O g : Nat) (w w' : World) : Prop :=
 w'.cell? ⟨g, 0, none⟩ = some (.int .i64 (W : Int)) ∧ w'.cell? ⟨g, 1, none⟩ = some (.int .u32 (P : Int)) ∧ w'.cell? ⟨g, 2, none⟩ = some (.int .u32 (I : Int)) ∧ w'.cell? ⟨g, 3, none⟩ = some (.int .u32 (O : Int)) ∧ w'.cell? ⟨g, 4, none⟩ = some (.bool false) ∧ Aside0 (w'.heap[g]? = some (.cells #[.int .i64 (W : Int), .int .u32 (P : Int), .int .u32 (I : Int), .int .u32 (O : Int), .bool false] 24 (0, 0))) ∧ Aside0 (Below w.heap.size w w')
theorem crc_SqP_mk {W P I O g : Nat} {w w' : World} (hk : w'.heap[g]? = some (.cells #[.int .i64 (W : Int), .int .u32 (P : Int), .int .u32 (I : Int), .int .u32 (O : Int), .bool false] 24 (0, 0))) (hb : Below w.heap.size w w') : crc_SqP W P I O g w w' :=
 ⟨(blk_cell hk 0).trans rfl, (blk_cell hk 1).trans rfl, (blk_cell hk 2).trans rfl, (blk_cell hk 3).trans rfl, (blk_cell hk 4).trans rfl, ⟨hk⟩, ⟨hb⟩⟩
theorem crc_SqP_step {W P I O g : Nat} {w w' w2 : World} (h : crc_SqP W P I O g w w') (hb : Below w'.heap.size w' w2) : crc_SqP W P I O g w w2 :=
 crc_SqP_mk (blk_below h.2.2.2.2.2.1.out hb) (below_step h.2.2.2.2.2.2.out hb)
set_option maxHeartbeats 16000000 in
set_option maxRecDepth 100000 in
theorem crc_Seal_P (A1 : Option Addr) (c1 W P I O : Nat) (B : List Nat) (w : World) (hs : Crc.okN W P I O) (hB : ∀ x ∈ B, x < 256) (hlen : B.length + 8 < 140737488355328) (hr1 : Kd.C (Kd.int .u8) w A1 (Crc.ints B).length (Crc.ints B)) :
  Calls Try.prog 7 #[.agg #[.int .i64 (W : Int), .int .u32 (P : Int), .int .u32 (I : Int), .int .u32 (O : Int), .bool false], .slice A1 (Crc.ints B).length c1] w fun e w' => ∃ v0_ : Value, e = .returned (.tuple #[v0_, .int .i64 0]) ∧ Kd.R (Kd.int .u8) 5 w' w.heap.size (fun _ => True) v0_ (Crc.ints B ++ Crc.ints (Crc.layl false (W / 8) (Crc.crc false W P I O B))) ∧ Below w.heap.size w w' := by
 have hu24 := Try.underlying24
 have hu55 := Try.underlying65
 have HB := Aside0.mk (Below.refl w.heap.size w)
 have hfd := crc_field3
 have HR1 := Aside0.mk hr1
 have HBY := Aside0.mk hB
 have HS := Aside0.mk hs
 have HLEN := Aside0.mk hlen
 have hw8 : (W : Int) ≤ 32 := by have := hs.1; omega
 obtain ⟨x, hx⟩ : ∃ x, x = Crc.crc false W P I O B := ⟨_, rfl⟩
 have hx32 : x < 4294967296 := by rw [hx]; exact Nat.lt_of_lt_of_le (Crc.crc_lt hs B) (show 2 ^ W ≤ 2 ^ 32 from Nat.pow_le_pow_right (by omega) (by have := hs.1; omega))
 rw [← hx]
 have HX := Aside0.mk hx
 have HX32 := Aside0.mk hx32
 obtain ⟨L, hL⟩ : ∃ L, L = Crc.ints B := ⟨_, rfl⟩
 have hlb : L.length = B.length := by rw [hL, Crc.ints_length]
 have HLB := Aside0.mk hlb
 rw [← hL] at HR1 ⊢
 have HL := Aside0.mk hL
 have hll : (L.length : Int) ≤ 140737488355328 := by omega
 have hm : W / 8 ≤ 4 := by omega
 have HM := Aside0.mk hm
 clear hr1 hB hs hL hx hx32 hlb hlen hm
 go_enter Try.func7, Try.ntmps7
 go_wp2_with (first | ((with_reducible refine gate_dst (N := 2) rfl ?_); refine box_event ?hg (N := 2) ?hd (cs := #[.int .i64 (W : Int), .int .u32 (P : Int), .int .u32 (I : Int), .int .u32 (O : Int), .bool false]) (t := 24) ?hr ?_; (case hd => rfl); (case hg => rfl); (case hr => first | (go_simp; done) | (go_simp; rfl)); intro g hg_ wg hbox_ hb_; have n0_ := Aside0.mk (below_step HB.out hb_); have n1_ := Aside0.mk hbox_; have n2_ := Aside0.mk ((by rw [hg_]; exact below_size HB.out) : w.heap.size ≤ g); clear HB; have HB := n0_; have BKg := n1_; have GEg := n2_; clear n0_ n1_ n2_; clear hb_ hbox_ hg_; have hcg_0 : wg.cell? ⟨g, 0, none⟩ = some (.int .i64 (W : Int)) := (blk_cell BKg.out 0).trans rfl; have hfg_0 := blk_frozen BKg.out 0; have hcg_1 : wg.cell? ⟨g, 1, none⟩ = some (.int .u32 (P : Int)) := (blk_cell BKg.out 1).trans rfl; have hfg_1 := blk_frozen BKg.out 1; have hcg_2 : wg.cell? ⟨g, 2, none⟩ = some (.int .u32 (I : Int)) := (blk_cell BKg.out 2).trans rfl; have hfg_2 := blk_frozen BKg.out 2; have hcg_3 : wg.cell? ⟨g, 3, none⟩ = some (.int .u32 (O : Int)) := (blk_cell BKg.out 3).trans rfl; have hfg_3 := blk_frozen BKg.out 3; have hcg_4 : wg.cell? ⟨g, 4, none⟩ = some (.bool false) := (blk_cell BKg.out 4).trans rfl; have hfg_4 := blk_frozen BKg.out 4) | (go_at_call 24; rw [HL.out]; refine (crc_Sum_plain A1 c1 W P I O B _ HS.out HBY.out (by rw [← HL.out]; exact Kd.C_below HR1.out HB.out)).mono ?_; rintro e w1 ⟨rfl, hb⟩; rw [← HX.out, ← HL.out]; have n0_ := Aside0.mk (below_step HB.out hb); clear HB; have HB := n0_; clear n0_; have n0_ := Aside0.mk (blk_below BKg.out hb); clear BKg; have BKg := n0_; clear n0_; have hcg_w1_0 : w1.cell? ⟨g, 0, none⟩ = some (.int .i64 (W : Int)) := (blk_cell BKg.out 0).trans rfl; have hfg_w1_0 := blk_frozen BKg.out 0; have hcg_w1_1 : w1.cell? ⟨g, 1, none⟩ = some (.int .u32 (P : Int)) := (blk_cell BKg.out 1).trans rfl; have hfg_w1_1 := blk_frozen BKg.out 1; have hcg_w1_2 : w1.cell? ⟨g, 2, none⟩ = some (.int .u32 (I : Int)) := (blk_cell BKg.out 2).trans rfl; have hfg_w1_2 := blk_frozen BKg.out 2; have hcg_w1_3 : w1.cell? ⟨g, 3, none⟩ = some (.int .u32 (O : Int)) := (blk_cell BKg.out 3).trans rfl; have hfg_w1_3 := blk_frozen BKg.out 3; have hcg_w1_4 : w1.cell? ⟨g, 4, none⟩ = some (.bool false) := (blk_cell BKg.out 4).trans rfl; have hfg_w1_4 := blk_frozen BKg.out 4; clear hb))
 have HCAP : Aside0 (wrap64 ((L.length : Int) + wrap64 ((W : Int) / 8)) = ((L.length + W / 8 : Nat) : Int)) := ⟨by unfold wrap64; omega⟩
 refine start_ (n := 17) (S := crc_SqP W P I O g w) (ds := []) #[false, false, false, false, false, false, false, false, false, false, false, false, false, false, false, false, false] (by kernel_rfl) rfl rfl (crc_SqP_mk (blk_drew BKg.out) (below_drew1 HB.out)) (fun hHeld => ?_)
 refine pure_ (i := 0) (N := some 17) (v := ?_) (a' := ?_) #[true, false, false, false, false, false, false, false, false, false, false, false, false, false, false, false, false] rfl rfl (by kernel_rfl) (fun _ _ _ h => h) (Or.inl ⟨by rfl, ?_⟩) ?_ ?_
 rotate_left
 ·intro w'
  go_simp
  with_reducible rfl
 rotate_left
 ·simp only [Act.put, List.setIfInBounds_toArray, List.set_cons_zero, List.set_cons_succ, i64_w, i32_w]
  rfl
 refine pure_ (i := 1) (N := some 18) (v := ?_) (a' := ?_) #[true, true, false, false, false, false, false, false, false, false, false, false, false, false, false, false, false] rfl rfl (by kernel_rfl) (fun _ _ _ h => h) (Or.inl ⟨by rfl, ?_⟩) ?_ ?_
 rotate_left
 ·intro w'
  go_simp
  with_reducible rfl
 rotate_left
 ·simp only [Act.put, List.setIfInBounds_toArray, List.set_cons_zero, List.set_cons_succ, i64_w, i32_w]
  rfl
 refine pure_ (i := 2) (N := some 19) (v := ?_) (a' := ?_) #[true, true, true, false, false, false, false, false, false, false, false, false, false, false, false, false, false] rfl rfl (by kernel_rfl) (fun _ _ _ h => h) (Or.inl ⟨by rfl, ?_⟩) ?_ ?_
 rotate_left
 ·intro w'
  go_simp
  with_reducible rfl
 rotate_left
 ·simp only [Act.put, List.setIfInBounds_toArray, List.set_cons_zero, List.set_cons_succ, i64_w, i32_w]
  rfl
 refine take_ (i := 3) (N := some 20) (v := ?_) (a' := ?_) #[true, true, true, true, false, false, false, false, false, false, false, false, false, false, false, false, false] rfl rfl (by kernel_rfl) (fun _ _ _ h => h) (Or.inl ⟨by rfl, ?_⟩) hHeld ?_ ?_
 rotate_left
 ·rintro w' ⟨hq0, hq1, hq2, hq3, hq4, _⟩
  go_simp
  with_reducible rfl
 rotate_left
 ·simp only [Act.put, List.setIfInBounds_toArray, List.set_cons_zero, List.set_cons_succ, i64_w, i32_w]
  rfl
 refine pure_ (i := 4) (N := some 21) (v := ?_) (a' := ?_) #[true, true, true, true, true, false, false, false, false, false, false, false, false, false, false, false, false] rfl rfl (by kernel_rfl) (fun _ _ _ h => h) (Or.inl ⟨by rfl, ?_⟩) ?_ ?_
 rotate_left
 ·intro w'
  go_simp
  with_reducible rfl
 rotate_left
 ·simp only [Act.put, List.setIfInBounds_toArray, List.set_cons_zero, List.set_cons_succ, i64_w, i32_w]
  rfl
 refine pure_ (i := 5) (N := some 22) (v := ?_) (a' := ?_) #[true, true, true, true, true, true, false, false, false, false, false, false, false, false, false, false, false] rfl rfl (by kernel_rfl) (fun _ _ _ h => h) (Or.inl ⟨by rfl, ?_⟩) ?_ ?_
 rotate_left
 ·intro w'
  go_simp
  with_reducible rfl
 rotate_left
 ·simp only [Act.put, List.setIfInBounds_toArray, List.set_cons_zero, List.set_cons_succ, i64_w, i32_w]
  rfl
 refine pure_ (i := 7) (N := some 24) (v := ?_) (a' := ?_) #[true, true, true, true, true, true, false, true, false, false, false, false, false, false, false, false, false] rfl rfl (by kernel_rfl) (fun _ _ _ h => h) (Or.inl ⟨by rfl, ?_⟩) ?_ ?_
 rotate_left
 ·intro w'
  go_simp
  with_reducible rfl
 rotate_left
 ·simp only [Act.put, List.setIfInBounds_toArray, List.set_cons_zero, List.set_cons_succ, i64_w, i32_w]
  rfl
 refine take_ (i := 9) (N := some 26) (v := ?_) (a' := ?_) #[true, true, true, true, true, true, false, true, false, true, false, false, false, false, false, false, false] rfl rfl (by kernel_rfl) (fun _ _ _ h => h) (Or.inl ⟨by rfl, ?_⟩) hHeld ?_ ?_
 rotate_left
 ·rintro w' ⟨hq0, hq1, hq2, hq3, hq4, _⟩
  go_simp
  with_reducible rfl
 rotate_left
 ·simp only [Act.put, List.setIfInBounds_toArray, List.set_cons_zero, List.set_cons_succ, i64_w, i32_w]
  rfl
 refine pure_ (i := 12) (N := some 29) (v := ?_) (a' := ?_) #[true, true, true, true, true, true, false, true, false, true, false, false, true, false, false, false, false] rfl rfl (by kernel_rfl) (fun _ _ _ h => h) (Or.inl ⟨by rfl, ?_⟩) ?_ ?_
 rotate_left
 ·intro w'
  go_simp
  with_reducible rfl
 rotate_left
 ·simp only [Act.put, List.setIfInBounds_toArray, List.set_cons_zero, List.set_cons_succ, i64_w, i32_w]
  rfl
 refine one_ (i := 6) (N := some 23) #[true, true, true, true, true, true, true, true, false, true, false, false, true, false, false, false, false] rfl rfl (by kernel_rfl) (by decide) (fun K hK => ?_)
 refine Kd.R_make0_step (Kd.int .u8) (w0 := w) w.heap.size 5 (by rfl) (N := 23) rfl 25 _ _ rfl (wrap64 ((L.length : Int) + wrap64 ((W : Int) / 8))) rfl rfl Try.underlying25 (.int .u8 0) 1 info5 rfl (by decide) (ok := fun _ => True) (okp := fun _ => True) (fun _ hk => hk) trivial (by rw [HCAP.out]; exact Int.natCast_nonneg _) (by rw [HCAP.out, Int.toNat_natCast]; have := HLEN.out; have := HLB.out; have := HM.out; omega) (below_drew1 HB.out) (below_size (below_drew1 HB.out)) ?_
 intro v23 w6 ho6 hb6 hg_ hnew_
 have HO6 := Aside0.mk ho6
 have HB6 := Aside0.mk hb6
 have BK6 := Aside0.mk (blk_grown (blk_drew BKg.out) hg_ (by simp))
 refine hK.out _ _ (crc_SqP_mk BK6.out HB6.out) (fun hHeld6 => ?_)
 clear hK K hg_ hnew_ ho6 hb6 hHeld
 try simp only [Act.put, List.setIfInBounds_toArray, List.set_cons_zero, List.set_cons_succ]
 refine one_ (i := 8) (N := some 25) #[true, true, true, true, true, true, true, true, true, true, false, false, true, false, false, false, false] rfl rfl (by kernel_rfl) (by decide) (fun K hK => ?_)
 refine Kd.R_append_rows_at (Kd.int .u8) (w0 := w) w.heap.size (by rfl) (N := some 25) rfl (.tmp 23) (.tmp 24) 25 5 (.int .u8 0) 1 rfl Try.underlying25 info5 rfl (by decide) (by omega) v23 [] L A1 L.length c1 (fun _ => True) (fun _ => False) rfl rfl HO6.out (Kd.C_below HR1.out HB6.out) (fun _ _ h => h) (fun _ h => h.elim) (fun _ _ => trivial) HB6.out (below_size HB6.out) (by have := HLEN.out; have := HLB.out; simp only [List.length_nil]; omega) ?_
 intro v25 w8 ho8 hb8 hg8 hat8
 have HO8 := Aside0.mk ho8
 have HB8 := Aside0.mk hb8
 have BK8 := Aside0.mk (blk_grown BK6.out hg8 (Kd.R_ne HO6.out BK6.out (by decide)))
 refine hK.out _ _ (crc_SqP_mk BK8.out HB8.out) (fun hHeld8 => ?_)
 clear hK K hg8 hat8 ho8 hb8 hHeld6
 try simp only [Act.put, List.setIfInBounds_toArray, List.set_cons_zero, List.set_cons_succ]
 refine one_ (i := 10) (N := some 27) #[true, true, true, true, true, true, true, true, true, true, true, false, true, false, false, false, false] rfl rfl (by kernel_rfl) (by decide) (fun K hK => ?_)
 refine call_ 26 #[.agg #[.int .i64 (W : Int), .int .u32 (P : Int), .int .u32 (I : Int), .int .u32 (O : Int), .bool false]] (by rfl) rfl ?hrun ?_
 case hrun =>
  have he := enters_ Try.func26 (by kernel_rfl) rfl #[.agg #[.int .i64 (W : Int), .int .u32 (P : Int), .int .u32 (I : Int), .int .u32 (O : Int), .bool false]] w8
  unfold execOp
  simp [resolve, Deferred.ofValue, invoke, Act.eval, he]
 refine (crc_fit_plain W P I O _ (by have := HS.out.1; omega)).mono ?_
 rintro e w10 ⟨p, q, rfl, hh, hb10⟩
 simp only [crc_wv, if_true, if_false, Bool.false_eq_true]
 have HH := Aside0.mk hh
 have HB10 := Aside0.mk (below_step HB8.out hb10)
 have BK10 := Aside0.mk (blk_below BK8.out hb10)
 have HO10 := Aside0.mk (Kd.R_below HO8.out hb10)
 refine ⟨_, rfl, hK.out _ _ (crc_SqP_mk BK10.out HB10.out) (fun hHeld10 => ?_)⟩
 clear hK K hh hb10 hHeld8
 try simp only [Act.put, List.setIfInBounds_toArray, List.set_cons_zero, List.set_cons_succ]
 refine pure_ (i := 11) (N := some 28) (v := ?_) (a' := ?_) #[true, true, true, true, true, true, true, true, true, true, true, true, true, false, false, false, false] rfl rfl (by kernel_rfl) (fun _ _ _ h => h) (Or.inl ⟨by rfl, ?_⟩) ?_ ?_
 rotate_left
 ·intro w'
  go_simp
  with_reducible rfl
 rotate_left
 ·simp only [Act.put, List.setIfInBounds_toArray, List.set_cons_zero, List.set_cons_succ, i64_w, i32_w]
  rfl
 refine one_ (i := 13) (N := some 30) #[true, true, true, true, true, true, true, true, true, true, true, true, true, true, false, false, false] rfl rfl (by kernel_rfl) (by decide) (fun K hK => ?_)
 refine call_ 43 #[.int .u32 (x : Int), .pointer (some ⟨q, 0, none⟩)] (by rfl) rfl ?hrun ?_
 case hrun =>
  have he := enters_ Try.func43 (by kernel_rfl) rfl #[.int .u32 (x : Int), .pointer (some ⟨q, 0, none⟩)] w10
  unfold execOp
  simp [resolve, Deferred.ofValue, invoke, Act.eval, he]
 refine (crc_lay3_calls q (W / 8) x w10 HX32.out HM.out HH.out.2).mono ?_
 rintro e w13 ⟨v30, rfl, hr30, hb13⟩
 obtain ⟨Ao, co, eo⟩ := Kd.R_slice hr30
 subst eo
 have HR30 := Aside0.mk (Kd.R_reads' hr30).2.2
 have HB13 := Aside0.mk (below_step HB10.out hb13)
 have BK13 := Aside0.mk (blk_below BK10.out hb13)
 have HO13 := Aside0.mk (Kd.R_below HO10.out hb13)
 refine ⟨_, rfl, hK.out _ _ (crc_SqP_mk BK13.out HB13.out) (fun hHeld13 => ?_)⟩
 clear hK K hr30 hb13 hHeld10
 try simp only [Act.put, List.setIfInBounds_toArray, List.set_cons_zero, List.set_cons_succ]
 refine one_ (i := 14) (N := some 31) #[true, true, true, true, true, true, true, true, true, true, true, true, true, true, true, false, false] rfl rfl (by kernel_rfl) (by decide) (fun K hK => ?_)
 refine Kd.R_append_rows_at (Kd.int .u8) (w0 := w) w.heap.size (by rfl) (N := some 31) rfl (.tmp 25) (.tmp 30) 25 5 (.int .u8 0) 1 rfl Try.underlying25 info5 rfl (by decide) (by omega) v25 ([] ++ L) ((Crc.layl false (W / 8) x).map (fun n : Nat => (n : Int))) Ao _ co (fun _ => True) (fun _ => False) rfl rfl HO13.out HR30.out (fun _ _ h => h) (fun _ h => h.elim) (fun _ _ => trivial) HB13.out (below_size HB13.out) (by have := HLEN.out; have := HLB.out; have := HM.out; simp only [List.nil_append, List.length_map, Crc.layl_length]; omega) ?_
 intro v31 w14 ho14 hb14 hg14 hat14
 have HO14 := Aside0.mk ho14
 have HB14 := Aside0.mk hb14
 have BK14 := Aside0.mk (blk_grown BK13.out hg14 (Kd.R_ne HO13.out BK13.out (by decide)))
 refine hK.out _ _ (crc_SqP_mk BK14.out HB14.out) (fun hHeld14 => ?_)
 clear hK K hg14 hat14 ho14 hb14 hHeld13
 refine pure_ (i := 15) (N := some 4) (v := ?_) (a' := ?_) #[true, true, true, true, true, true, true, true, true, true, true, true, true, true, true, true, false] rfl rfl (by kernel_rfl) (fun _ _ _ h => h) (Or.inl ⟨by rfl, ?_⟩) ?_ ?_
 rotate_left
 ·intro w'
  go_simp
  with_reducible rfl
 rotate_left
 ·simp only [Act.put, List.setIfInBounds_toArray, List.set_cons_zero, List.set_cons_succ, i64_w, i32_w]
  rfl
 refine pure_ (i := 16) (N := some 5) (v := ?_) (a' := ?_) #[true, true, true, true, true, true, true, true, true, true, true, true, true, true, true, true, true] rfl rfl (by kernel_rfl) (fun _ _ _ h => h) (Or.inl ⟨by rfl, ?_⟩) ?_ ?_
 rotate_left
 ·intro w'
  go_simp
  with_reducible rfl
 rotate_left
 ·simp only [Act.put, List.setIfInBounds_toArray, List.set_cons_zero, List.set_cons_succ, i64_w, i32_w]
  rfl
 refine done_ (by kernel_rfl) ?_
 go_wp2
 go_ret2
 exact ⟨_, rfl, HO14.out, HB14.out⟩
@[reducible] def crc_SqR (W P I O g : Nat) (w w' : World) : Prop :=
 w'.cell? ⟨g, 0, none⟩ = some (.int .i64 (W : Int)) ∧ w'.cell? ⟨g, 1, none⟩ = some (.int .u32 (P : Int)) ∧ w'.cell? ⟨g, 2, none⟩ = some (.int .u32 (I : Int)) ∧ w'.cell? ⟨g, 3, none⟩ = some (.int .u32 (O : Int)) ∧ w'.cell? ⟨g, 4, none⟩ = some (.bool true) ∧ Aside0 (w'.heap[g]? = some (.cells #[.int .i64 (W : Int), .int .u32 (P : Int), .int .u32 (I : Int), .int .u32 (O : Int), .bool true] 24 (0, 0))) ∧ Aside0 (Below w.heap.size w w')
theorem crc_SqR_mk {W P I O g : Nat} {w w' : World} (hk : w'.heap[g]? = some (.cells #[.int .i64 (W : Int), .int .u32 (P : Int), .int .u32 (I : Int), .int .u32 (O : Int), .bool true] 24 (0, 0))) (hb : Below w.heap.size w w') : crc_SqR W P I O g w w' :=
 ⟨(blk_cell hk 0).trans rfl, (blk_cell hk 1).trans rfl, (blk_cell hk 2).trans rfl, (blk_cell hk 3).trans rfl, (blk_cell hk 4).trans rfl, ⟨hk⟩, ⟨hb⟩⟩
theorem crc_SqR_step {W P I O g : Nat} {w w' w2 : World} (h : crc_SqR W P I O g w w') (hb : Below w'.heap.size w' w2) : crc_SqR W P I O g w w2 :=
 crc_SqR_mk (blk_below h.2.2.2.2.2.1.out hb) (below_step h.2.2.2.2.2.2.out hb)
set_option maxHeartbeats 16000000 in
set_option maxRecDepth 100000 in
theorem crc_Seal_R (A1 : Option Addr) (c1 W P I O : Nat) (B : List Nat) (w : World) (hs : Crc.okN W P I O) (hB : ∀ x ∈ B, x < 256) (hlen : B.length + 8 < 140737488355328) (hr1 : Kd.C (Kd.int .u8) w A1 (Crc.ints B).length (Crc.ints B)) :
  Calls Try.prog 7 #[.agg #[.int .i64 (W : Int), .int .u32 (P : Int), .int .u32 (I : Int), .int .u32 (O : Int), .bool true], .slice A1 (Crc.ints B).length c1] w fun e w' => ∃ v0_ : Value, e = .returned (.tuple #[v0_, .int .i64 0]) ∧ Kd.R (Kd.int .u8) 5 w' w.heap.size (fun _ => True) v0_ (Crc.ints B ++ Crc.ints (Crc.layl true (W / 8) (Crc.crc true W P I O B))) ∧ Below w.heap.size w w' := by
 have hu24 := Try.underlying24
 have hu55 := Try.underlying65
 have HB := Aside0.mk (Below.refl w.heap.size w)
 have hfd := crc_field3
 have HR1 := Aside0.mk hr1
 have HBY := Aside0.mk hB
 have HS := Aside0.mk hs
 have HLEN := Aside0.mk hlen
 have hw8 : (W : Int) ≤ 32 := by have := hs.1; omega
 obtain ⟨x, hx⟩ : ∃ x, x = Crc.crc true W P I O B := ⟨_, rfl⟩
 have hx32 : x < 4294967296 := by rw [hx]; exact Nat.lt_of_lt_of_le (Crc.crc_lt hs B) (show 2 ^ W ≤ 2 ^ 32 from Nat.pow_le_pow_right (by omega) (by have := hs.1; omega))
 rw [← hx]
 have HX := Aside0.mk hx
 have HX32 := Aside0.mk hx32
 obtain ⟨L, hL⟩ : ∃ L, L = Crc.ints B := ⟨_, rfl⟩
 have hlb : L.length = B.length := by rw [hL, Crc.ints_length]
 have HLB := Aside0.mk hlb
 rw [← hL] at HR1 ⊢
 have HL := Aside0.mk hL
 have hll : (L.length : Int) ≤ 140737488355328 := by omega
 have hm : W / 8 ≤ 4 := by omega
 have HM := Aside0.mk hm
 clear hr1 hB hs hL hx hx32 hlb hlen hm
 go_enter Try.func7, Try.ntmps7
 go_wp2_with (first | ((with_reducible refine gate_dst (N := 2) rfl ?_); refine box_event ?hg (N := 2) ?hd (cs := #[.int .i64 (W : Int), .int .u32 (P : Int), .int .u32 (I : Int), .int .u32 (O : Int), .bool true]) (t := 24) ?hr ?_; (case hd => rfl); (case hg => rfl); (case hr => first | (go_simp; done) | (go_simp; rfl)); intro g hg_ wg hbox_ hb_; have n0_ := Aside0.mk (below_step HB.out hb_); have n1_ := Aside0.mk hbox_; have n2_ := Aside0.mk ((by rw [hg_]; exact below_size HB.out) : w.heap.size ≤ g); clear HB; have HB := n0_; have BKg := n1_; have GEg := n2_; clear n0_ n1_ n2_; clear hb_ hbox_ hg_; have hcg_0 : wg.cell? ⟨g, 0, none⟩ = some (.int .i64 (W : Int)) := (blk_cell BKg.out 0).trans rfl; have hfg_0 := blk_frozen BKg.out 0; have hcg_1 : wg.cell? ⟨g, 1, none⟩ = some (.int .u32 (P : Int)) := (blk_cell BKg.out 1).trans rfl; have hfg_1 := blk_frozen BKg.out 1; have hcg_2 : wg.cell? ⟨g, 2, none⟩ = some (.int .u32 (I : Int)) := (blk_cell BKg.out 2).trans rfl; have hfg_2 := blk_frozen BKg.out 2; have hcg_3 : wg.cell? ⟨g, 3, none⟩ = some (.int .u32 (O : Int)) := (blk_cell BKg.out 3).trans rfl; have hfg_3 := blk_frozen BKg.out 3; have hcg_4 : wg.cell? ⟨g, 4, none⟩ = some (.bool true) := (blk_cell BKg.out 4).trans rfl; have hfg_4 := blk_frozen BKg.out 4) | (go_at_call 24; rw [HL.out]; refine (crc_Sum_refl A1 c1 W P I O B _ HS.out HBY.out (by rw [← HL.out]; exact Kd.C_below HR1.out HB.out)).mono ?_; rintro e w1 ⟨rfl, hb⟩; rw [← HX.out, ← HL.out]; have n0_ := Aside0.mk (below_step HB.out hb); clear HB; have HB := n0_; clear n0_; have n0_ := Aside0.mk (blk_below BKg.out hb); clear BKg; have BKg := n0_; clear n0_; have hcg_w1_0 : w1.cell? ⟨g, 0, none⟩ = some (.int .i64 (W : Int)) := (blk_cell BKg.out 0).trans rfl; have hfg_w1_0 := blk_frozen BKg.out 0; have hcg_w1_1 : w1.cell? ⟨g, 1, none⟩ = some (.int .u32 (P : Int)) := (blk_cell BKg.out 1).trans rfl; have hfg_w1_1 := blk_frozen BKg.out 1; have hcg_w1_2 : w1.cell? ⟨g, 2, none⟩ = some (.int .u32 (I : Int)) := (blk_cell BKg.out 2).trans rfl; have hfg_w1_2 := blk_frozen BKg.out 2; have hcg_w1_3 : w1.cell? ⟨g, 3, none⟩ = some (.int .u32 (O : Int)) := (blk_cell BKg.out 3).trans rfl; have hfg_w1_3 := blk_frozen BKg.out 3; have hcg_w1_4 : w1.cell? ⟨g, 4, none⟩ = some (.bool true) := (blk_cell BKg.out 4).trans rfl; have hfg_w1_4 := blk_frozen BKg.out 4; clear hb))
 have HCAP : Aside0 (wrap64 ((L.length : Int) + wrap64 ((W : Int) / 8)) = ((L.length + W / 8 : Nat) : Int)) := ⟨by unfold wrap64; omega⟩
 refine start_ (n := 17) (S := crc_SqR W P I O g w) (ds := []) #[false, false, false, false, false, false, false, false, false, false, false, false, false, false, false, false, false] (by kernel_rfl) rfl rfl (crc_SqR_mk (blk_drew BKg.out) (below_drew1 HB.out)) (fun hHeld => ?_)
 refine pure_ (i := 0) (N := some 17) (v := ?_) (a' := ?_) #[true, false, false, false, false, false, false, false, false, false, false, false, false, false, false, false, false] rfl rfl (by kernel_rfl) (fun _ _ _ h => h) (Or.inl ⟨by rfl, ?_⟩) ?_ ?_
 rotate_left
 ·intro w'
  go_simp
  with_reducible rfl
 rotate_left
 ·simp only [Act.put, List.setIfInBounds_toArray, List.set_cons_zero, List.set_cons_succ, i64_w, i32_w]
  rfl
 refine pure_ (i := 1) (N := some 18) (v := ?_) (a' := ?_) #[true, true, false, false, false, false, false, false, false, false, false, false, false, false, false, false, false] rfl rfl (by kernel_rfl) (fun _ _ _ h => h) (Or.inl ⟨by rfl, ?_⟩) ?_ ?_
 rotate_left
 ·intro w'
  go_simp
  with_reducible rfl
 rotate_left
 ·simp only [Act.put, List.setIfInBounds_toArray, List.set_cons_zero, List.set_cons_succ, i64_w, i32_w]
  rfl
 refine pure_ (i := 2) (N := some 19) (v := ?_) (a' := ?_) #[true, true, true, false, false, false, false, false, false, false, false, false, false, false, false, false, false] rfl rfl (by kernel_rfl) (fun _ _ _ h => h) (Or.inl ⟨by rfl, ?_⟩) ?_ ?_
 rotate_left
 ·intro w'
  go_simp
  with_reducible rfl
 rotate_left
 ·simp only [Act.put, List.setIfInBounds_toArray, List.set_cons_zero, List.set_cons_succ, i64_w, i32_w]
  rfl
 refine take_ (i := 3) (N := some 20) (v := ?_) (a' := ?_) #[true, true, true, true, false, false, false, false, false, false, false, false, false, false, false, false, false] rfl rfl (by kernel_rfl) (fun _ _ _ h => h) (Or.inl ⟨by rfl, ?_⟩) hHeld ?_ ?_
 rotate_left
 ·rintro w' ⟨hq0, hq1, hq2, hq3, hq4, _⟩
  go_simp
  with_reducible rfl
 rotate_left
 ·simp only [Act.put, List.setIfInBounds_toArray, List.set_cons_zero, List.set_cons_succ, i64_w, i32_w]
  rfl
 refine pure_ (i := 4) (N := some 21) (v := ?_) (a' := ?_) #[true, true, true, true, true, false, false, false, false, false, false, false, false, false, false, false, false] rfl rfl (by kernel_rfl) (fun _ _ _ h => h) (Or.inl ⟨by rfl, ?_⟩) ?_ ?_
 rotate_left
 ·intro w'
  go_simp
  with_reducible rfl
 rotate_left
 ·simp only [Act.put, List.setIfInBounds_toArray, List.set_cons_zero, List.set_cons_succ, i64_w, i32_w]
  rfl
 refine pure_ (i := 5) (N := some 22) (v := ?_) (a' := ?_) #[true, true, true, true, true, true, false, false, false, false, false, false, false, false, false, false, false] rfl rfl (by kernel_rfl) (fun _ _ _ h => h) (Or.inl ⟨by rfl, ?_⟩) ?_ ?_
 rotate_left
 ·intro w'
  go_simp
  with_reducible rfl
 rotate_left
 ·simp only [Act.put, List.setIfInBounds_toArray, List.set_cons_zero, List.set_cons_succ, i64_w, i32_w]
  rfl
 refine pure_ (i := 7) (N := some 24) (v := ?_) (a' := ?_) #[true, true, true, true, true, true, false, true, false, false, false, false, false, false, false, false, false] rfl rfl (by kernel_rfl) (fun _ _ _ h => h) (Or.inl ⟨by rfl, ?_⟩) ?_ ?_
 rotate_left
 ·intro w'
  go_simp
  with_reducible rfl
 rotate_left
 ·simp only [Act.put, List.setIfInBounds_toArray, List.set_cons_zero, List.set_cons_succ, i64_w, i32_w]
  rfl
 refine take_ (i := 9) (N := some 26) (v := ?_) (a' := ?_) #[true, true, true, true, true, true, false, true, false, true, false, false, false, false, false, false, false] rfl rfl (by kernel_rfl) (fun _ _ _ h => h) (Or.inl ⟨by rfl, ?_⟩) hHeld ?_ ?_
 rotate_left
 ·rintro w' ⟨hq0, hq1, hq2, hq3, hq4, _⟩
  go_simp
  with_reducible rfl
 rotate_left
 ·simp only [Act.put, List.setIfInBounds_toArray, List.set_cons_zero, List.set_cons_succ, i64_w, i32_w]
  rfl
 refine pure_ (i := 12) (N := some 29) (v := ?_) (a' := ?_) #[true, true, true, true, true, true, false, true, false, true, false, false, true, false, false, false, false] rfl rfl (by kernel_rfl) (fun _ _ _ h => h) (Or.inl ⟨by rfl, ?_⟩) ?_ ?_
 rotate_left
 ·intro w'
  go_simp
  with_reducible rfl
 rotate_left
 ·simp only [Act.put, List.setIfInBounds_toArray, List.set_cons_zero, List.set_cons_succ, i64_w, i32_w]
  rfl
 refine one_ (i := 6) (N := some 23) #[true, true, true, true, true, true, true, true, false, true, false, false, true, false, false, false, false] rfl rfl (by kernel_rfl) (by decide) (fun K hK => ?_)
 refine Kd.R_make0_step (Kd.int .u8) (w0 := w) w.heap.size 5 (by rfl) (N := 23) rfl 25 _ _ rfl (wrap64 ((L.length : Int) + wrap64 ((W : Int) / 8))) rfl rfl Try.underlying25 (.int .u8 0) 1 info5 rfl (by decide) (ok := fun _ => True) (okp := fun _ => True) (fun _ hk => hk) trivial (by rw [HCAP.out]; exact Int.natCast_nonneg _) (by rw [HCAP.out, Int.toNat_natCast]; have := HLEN.out; have := HLB.out; have := HM.out; omega) (below_drew1 HB.out) (below_size (below_drew1 HB.out)) ?_
 intro v23 w6 ho6 hb6 hg_ hnew_
 have HO6 := Aside0.mk ho6
 have HB6 := Aside0.mk hb6
 have BK6 := Aside0.mk (blk_grown (blk_drew BKg.out) hg_ (by simp))
 refine hK.out _ _ (crc_SqR_mk BK6.out HB6.out) (fun hHeld6 => ?_)
 clear hK K hg_ hnew_ ho6 hb6 hHeld
 try simp only [Act.put, List.setIfInBounds_toArray, List.set_cons_zero, List.set_cons_succ]
 refine one_ (i := 8) (N := some 25) #[true, true, true, true, true, true, true, true, true, true, false, false, true, false, false, false, false] rfl rfl (by kernel_rfl) (by decide) (fun K hK => ?_)
 refine Kd.R_append_rows_at (Kd.int .u8) (w0 := w) w.heap.size (by rfl) (N := some 25) rfl (.tmp 23) (.tmp 24) 25 5 (.int .u8 0) 1 rfl Try.underlying25 info5 rfl (by decide) (by omega) v23 [] L A1 L.length c1 (fun _ => True) (fun _ => False) rfl rfl HO6.out (Kd.C_below HR1.out HB6.out) (fun _ _ h => h) (fun _ h => h.elim) (fun _ _ => trivial) HB6.out (below_size HB6.out) (by have := HLEN.out; have := HLB.out; simp only [List.length_nil]; omega) ?_
 intro v25 w8 ho8 hb8 hg8 hat8
 have HO8 := Aside0.mk ho8
 have HB8 := Aside0.mk hb8
 have BK8 := Aside0.mk (blk_grown BK6.out hg8 (Kd.R_ne HO6.out BK6.out (by decide)))
 refine hK.out _ _ (crc_SqR_mk BK8.out HB8.out) (fun hHeld8 => ?_)
 clear hK K hg8 hat8 ho8 hb8 hHeld6
 try simp only [Act.put, List.setIfInBounds_toArray, List.set_cons_zero, List.set_cons_succ]
 refine one_ (i := 10) (N := some 27) #[true, true, true, true, true, true, true, true, true, true, true, false, true, false, false, false, false] rfl rfl (by kernel_rfl) (by decide) (fun K hK => ?_)
 refine call_ 26 #[.agg #[.int .i64 (W : Int), .int .u32 (P : Int), .int .u32 (I : Int), .int .u32 (O : Int), .bool true]] (by rfl) rfl ?hrun ?_
 case hrun =>
  have he := enters_ Try.func26 (by kernel_rfl) rfl #[.agg #[.int .i64 (W : Int), .int .u32 (P : Int), .int .u32 (I : Int), .int .u32 (O : Int), .bool true]] w8
  unfold execOp
  simp [resolve, Deferred.ofValue, invoke, Act.eval, he]
 refine (crc_fit_refl W P I O _ (by have := HS.out.1; omega)).mono ?_
 rintro e w10 ⟨p, q, rfl, hh, hb10⟩
 simp only [crc_wv, if_true, if_false, Bool.false_eq_true]
 have HH := Aside0.mk hh
 have HB10 := Aside0.mk (below_step HB8.out hb10)
 have BK10 := Aside0.mk (blk_below BK8.out hb10)
 have HO10 := Aside0.mk (Kd.R_below HO8.out hb10)
 refine ⟨_, rfl, hK.out _ _ (crc_SqR_mk BK10.out HB10.out) (fun hHeld10 => ?_)⟩
 clear hK K hh hb10 hHeld8
 try simp only [Act.put, List.setIfInBounds_toArray, List.set_cons_zero, List.set_cons_succ]
 refine pure_ (i := 11) (N := some 28) (v := ?_) (a' := ?_) #[true, true, true, true, true, true, true, true, true, true, true, true, true, false, false, false, false] rfl rfl (by kernel_rfl) (fun _ _ _ h => h) (Or.inl ⟨by rfl, ?_⟩) ?_ ?_
 rotate_left
 ·intro w'
  go_simp
  with_reducible rfl
 rotate_left
 ·simp only [Act.put, List.setIfInBounds_toArray, List.set_cons_zero, List.set_cons_succ, i64_w, i32_w]
  rfl
 refine one_ (i := 13) (N := some 30) #[true, true, true, true, true, true, true, true, true, true, true, true, true, true, false, false, false] rfl rfl (by kernel_rfl) (by decide) (fun K hK => ?_)
 refine call_ 47 #[.int .u32 (x : Int), .pointer (some ⟨q, 0, none⟩)] (by rfl) rfl ?hrun ?_
 case hrun =>
  have he := enters_ Try.func47 (by kernel_rfl) rfl #[.int .u32 (x : Int), .pointer (some ⟨q, 0, none⟩)] w10
  unfold execOp
  simp [resolve, Deferred.ofValue, invoke, Act.eval, he]
 refine (crc_lay5_calls q (W / 8) x w10 HX32.out HM.out HH.out.2).mono ?_
 rintro e w13 ⟨v30, rfl, hr30, hb13⟩
 obtain ⟨Ao, co, eo⟩ := Kd.R_slice hr30
 subst eo
 have HR30 := Aside0.mk (Kd.R_reads' hr30).2.2
 have HB13 := Aside0.mk (below_step HB10.out hb13)
 have BK13 := Aside0.mk (blk_below BK10.out hb13)
 have HO13 := Aside0.mk (Kd.R_below HO10.out hb13)
 refine ⟨_, rfl, hK.out _ _ (crc_SqR_mk BK13.out HB13.out) (fun hHeld13 => ?_)⟩
 clear hK K hr30 hb13 hHeld10
 try simp only [Act.put, List.setIfInBounds_toArray, List.set_cons_zero, List.set_cons_succ]
 refine one_ (i := 14) (N := some 31) #[true, true, true, true, true, true, true, true, true, true, true, true, true, true, true, false, false] rfl rfl (by kernel_rfl) (by decide) (fun K hK => ?_)
 refine Kd.R_append_rows_at (Kd.int .u8) (w0 := w) w.heap.size (by rfl) (N := some 31) rfl (.tmp 25) (.tmp 30) 25 5 (.int .u8 0) 1 rfl Try.underlying25 info5 rfl (by decide) (by omega) v25 ([] ++ L) ((Crc.layl true (W / 8) x).map (fun n : Nat => (n : Int))) Ao _ co (fun _ => True) (fun _ => False) rfl rfl HO13.out HR30.out (fun _ _ h => h) (fun _ h => h.elim) (fun _ _ => trivial) HB13.out (below_size HB13.out) (by have := HLEN.out; have := HLB.out; have := HM.out; simp only [List.nil_append, List.length_map, Crc.layl_length]; omega) ?_
 intro v31 w14 ho14 hb14 hg14 hat14
 have HO14 := Aside0.mk ho14
 have HB14 := Aside0.mk hb14
 have BK14 := Aside0.mk (blk_grown BK13.out hg14 (Kd.R_ne HO13.out BK13.out (by decide)))
 refine hK.out _ _ (crc_SqR_mk BK14.out HB14.out) (fun hHeld14 => ?_)
 clear hK K hg14 hat14 ho14 hb14 hHeld13
 refine pure_ (i := 15) (N := some 4) (v := ?_) (a' := ?_) #[true, true, true, true, true, true, true, true, true, true, true, true, true, true, true, true, false] rfl rfl (by kernel_rfl) (fun _ _ _ h => h) (Or.inl ⟨by rfl, ?_⟩) ?_ ?_
 rotate_left
 ·intro w'
  go_simp
  with_reducible rfl
 rotate_left
 ·simp only [Act.put, List.setIfInBounds_toArray, List.set_cons_zero, List.set_cons_succ, i64_w, i32_w]
  rfl
 refine pure_ (i := 16) (N := some 5) (v := ?_) (a' := ?_) #[true, true, true, true, true, true, true, true, true, true, true, true, true, true, true, true, true] rfl rfl (by kernel_rfl) (fun _ _ _ h => h) (Or.inl ⟨by rfl, ?_⟩) ?_ ?_
 rotate_left
 ·intro w'
  go_simp
  with_reducible rfl
 rotate_left
 ·simp only [Act.put, List.setIfInBounds_toArray, List.set_cons_zero, List.set_cons_succ, i64_w, i32_w]
  rfl
 refine done_ (by kernel_rfl) ?_
 go_wp2
 go_ret2
 exact ⟨_, rfl, HO14.out, HB14.out⟩

set_option maxHeartbeats 8000000 in
set_option maxRecDepth 100000 in
theorem crc_Seal_bad (A1 : Option Addr) (n1 c1 : Nat) (W P I O : Int) (R : Bool) (w : World) (hs : Crc.okI W P I O = false) :
  Calls Try.prog 7 #[.agg #[.int .i64 W, .int .u32 P, .int .u32 I, .int .u32 O, .bool R], .slice A1 n1 c1] w fun e w' => ∃ v0_ : Value, e = .returned (.tuple #[v0_, .int .i64 30]) ∧ Kd.R (Kd.int .u8) 5 w' w.heap.size (fun _ => True) v0_ [] ∧ Below w.heap.size w w' := by
 have hu24 := Try.underlying24
 have HB := Aside0.mk (Below.refl w.heap.size w)
 have HS := Aside0.mk hs
 clear hs
 go_enter Try.func7, Try.ntmps7
 go_wp2_with (first | ((with_reducible refine gate_dst (N := 2) rfl ?_); refine box_event ?hg (N := 2) ?hd (cs := #[.int .i64 W, .int .u32 P, .int .u32 I, .int .u32 O, .bool R]) (t := 24) ?hr ?_; (case hd => rfl); (case hg => rfl); (case hr => first | (go_simp; done) | (go_simp; rfl)); intro g hg_ wg hbox_ hb_; have n0_ := Aside0.mk (below_step HB.out hb_); have n1_ := Aside0.mk hbox_; have n2_ := Aside0.mk ((by rw [hg_]; exact below_size HB.out) : w.heap.size ≤ g); clear HB; have HB := n0_; have BKg := n1_; have GEg := n2_; clear n0_ n1_ n2_; clear hb_ hbox_ hg_; have hcg_0 : wg.cell? ⟨g, 0, none⟩ = some (.int .i64 W) := (blk_cell BKg.out 0).trans rfl; have hfg_0 := blk_frozen BKg.out 0; have hcg_1 : wg.cell? ⟨g, 1, none⟩ = some (.int .u32 P) := (blk_cell BKg.out 1).trans rfl; have hfg_1 := blk_frozen BKg.out 1; have hcg_2 : wg.cell? ⟨g, 2, none⟩ = some (.int .u32 I) := (blk_cell BKg.out 2).trans rfl; have hfg_2 := blk_frozen BKg.out 2; have hcg_3 : wg.cell? ⟨g, 3, none⟩ = some (.int .u32 O) := (blk_cell BKg.out 3).trans rfl; have hfg_3 := blk_frozen BKg.out 3; have hcg_4 : wg.cell? ⟨g, 4, none⟩ = some (.bool R) := (blk_cell BKg.out 4).trans rfl; have hfg_4 := blk_frozen BKg.out 4) | (go_at_call 24; refine (crc_Sum_bad A1 n1 c1 W P I O R _ HS.out).mono ?_; rintro e w1 ⟨rfl, hb⟩; have n0_ := Aside0.mk (below_step HB.out hb); clear HB; have HB := n0_; clear n0_; clear hb))
 go_ret2
 exact ⟨_, rfl, Kd.R_nil _ _ _ _ _, HB.out⟩
def crc_Seal.f (a0_0 a0_1 a0_2 a0_3 : Int) (a0_4 : Bool) (l1 : List Int) : Option (List Int × Int) :=
 if Crc.okI a0_0 a0_1 a0_2 a0_3 then (if Crc.good a0_1 a0_2 a0_3 l1 ∧ l1.length + 8 < 140737488355328 then some (l1 ++ Crc.ints (Crc.layl a0_4 (a0_0.toNat / 8) (Crc.crc a0_4 a0_0.toNat a0_1.toNat a0_2.toNat a0_3.toNat (l1.map Int.toNat))), 0) else none) else some ([], 30)
theorem crc_Seal.calls (a0_0 a0_1 a0_2 a0_3 : Int) (a0_4 : Bool) (A1 : Option Addr) (c1 : Nat) (l1 : List Int) (r1 : List Int) (r2 : Int) (w : World) (hr1 : Kd.C (Kd.int .u8) w A1 l1.length l1) (hc1 : l1.length ≤ c1) (h : crc_Seal.f a0_0 a0_1 a0_2 a0_3 a0_4 l1 = some (r1, r2)) :
  Calls Try.prog 7 #[.agg #[.int .i64 a0_0, .int .u32 a0_1, .int .u32 a0_2, .int .u32 a0_3, .bool a0_4], .slice A1 l1.length c1] w fun e w' => ∃ v0_ : Value, e = .returned (.tuple #[v0_, .int .i64 r2]) ∧ Kd.R (Kd.int .u8) 5 w' w.heap.size (fun _ => True) v0_ r1 ∧ Below w.heap.size w w' := by
 unfold crc_Seal.f at h
 cases hk : Crc.okI a0_0 a0_1 a0_2 a0_3 with
 | false =>
  simp only [hk, Bool.false_eq_true, if_false, Option.some.injEq, Prod.mk.injEq] at h
  obtain ⟨rfl, rfl⟩ := h
  exact crc_Seal_bad A1 l1.length c1 a0_0 a0_1 a0_2 a0_3 a0_4 w hk
 | true =>
  rw [hk, if_pos rfl] at h
  by_cases hg : Crc.good a0_1 a0_2 a0_3 l1 ∧ l1.length + 8 < 140737488355328
  ·rw [if_pos hg] at h
   simp only [Option.some.injEq, Prod.mk.injEq] at h
   obtain ⟨rfl, rfl⟩ := h
   obtain ⟨⟨g1, g2, g3, g4⟩, g5⟩ := hg
   obtain ⟨W, rfl⟩ : ∃ n : Nat, a0_0 = (n : Int) := ⟨a0_0.toNat, by have := Crc.okI_width hk; omega⟩
   obtain ⟨P, rfl⟩ : ∃ n : Nat, a0_1 = (n : Int) := ⟨a0_1.toNat, by omega⟩
   obtain ⟨I, rfl⟩ : ∃ n : Nat, a0_2 = (n : Int) := ⟨a0_2.toNat, by omega⟩
   obtain ⟨O, rfl⟩ : ∃ n : Nat, a0_3 = (n : Int) := ⟨a0_3.toNat, by omega⟩
   obtain ⟨B, rfl, hB⟩ := Crc.bytes_of g4
   have hn := (Crc.okI_nat W P I O).1 hk
   have e : (Crc.ints B).map Int.toNat = B := Crc.toNat_ints B
   rw [e]
   simp only [Int.toNat_natCast]
   rw [Crc.ints_length] at g5
   cases a0_4
   ·exact crc_Seal_P A1 c1 W P I O B w hn hB g5 hr1
   ·exact crc_Seal_R A1 c1 W P I O B w hn hB g5 hr1
  ·rw [if_neg hg] at h
   exact absurd h (by simp)

end Go.Proofs.Ytbcejldbmemaeaa.P

-- squeezed
