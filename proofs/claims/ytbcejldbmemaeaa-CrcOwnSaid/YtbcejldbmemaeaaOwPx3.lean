-- written by mk.sh, a program of this session, over the kit's print
import Derived.Test.YtbcejldbmemaeaaOwPx0
import Derived.Test.YtbcejldbmemaeaaOwPx1
import Derived.Test.YtbcejldbmemaeaaOwPx2
namespace Go.Proofs.Ytbcejldbmemaeaa.P
open Go.RowKit Go.Proofs.YtbcejldbmemaeaaW.PrintWords Go.Proofs.YtbcejldbmemaeaaW.PrintLast Go.Proofs.YtbcejldbmemaeaaW.PrintMore
attribute [local go_sem] max2_int min2_int max_two min_two max_three min_three max_four min_four   -- for this text's walks alone
set_option linter.unusedVariables false
set_option linter.unusedSimpArgs false

/-! ### crc_Unseal: function 8, given -/
set_option maxHeartbeats 16000000 in
set_option maxRecDepth 100000 in
theorem crc_Unseal_P (A1 : Option Addr) (c1 W P I O : Nat) (B : List Nat) (w : World) (hs : Crc.okN W P I O) (hB : ∀ x ∈ B, x < 256) (hlen : B.length < 140737488355328) (hr1 : Kd.C (Kd.int .u8) w A1 (Crc.ints B).length (Crc.ints B)) (hc1 : (Crc.ints B).length ≤ c1) (r1 : List Int) (r2 : Int) (hres : Crc.unsealed false W P I O B = (r1, r2)) :
  Calls Try.prog 8 #[.agg #[.int .i64 (W : Int), .int .u32 (P : Int), .int .u32 (I : Int), .int .u32 (O : Int), .bool false], .slice A1 (Crc.ints B).length c1] w fun e w' => ∃ v0_ : Value, e = .returned (.tuple #[v0_, .int .i64 r2]) ∧ Kd.R (Kd.int .u8) 5 w' w.heap.size (fun _ => True) v0_ r1 ∧ Below w.heap.size w w' := by
 have hu24 := Try.underlying24
 have hu55 := Try.underlying65
 have HB := Aside0.mk (Below.refl w.heap.size w)
 have hfd := crc_field3
 have HR1 := Aside0.mk hr1
 have HBY := Aside0.mk hB
 have HS := Aside0.mk hs
 have HLEN := Aside0.mk hlen
 have HC1 := Aside0.mk hc1
 have HRES := Aside0.mk hres
 have hw8 : (W : Int) ≤ 32 := by have := hs.1; omega
 have hw0 : 8 ≤ W := by have := hs.1; omega
 obtain ⟨L, hL⟩ : ∃ L, L = Crc.ints B := ⟨_, rfl⟩
 have hlb : L.length = B.length := by rw [hL, Crc.ints_length]
 have HLB := Aside0.mk hlb
 rw [← hL] at HR1 HC1 ⊢
 have HL := Aside0.mk hL
 have hll : (L.length : Int) ≤ 140737488355328 := by omega
 have hm : W / 8 ≤ 4 := by omega
 have HM := Aside0.mk hm
 have HW := Aside0.mk hw0
 clear hr1 hB hs hL hlb hlen hm hc1 hres hw0
 by_cases hn : L.length < W / 8
 ·have hn1 : decide ((L.length : Int) - (W : Int) / 8 < 0) = true := decide_eq_true (by omega)
  have e := HRES.out
  unfold Crc.unsealed at e
  rw [if_pos (by have := HLB.out; omega)] at e
  injection e with e1 e2
  subst e1 e2
  clear hn HRES
  go_enter Try.func8, Try.ntmps8
  go_wp2_with (first | ((with_reducible refine gate_dst (N := 2) rfl ?_); refine box_event ?hg (N := 2) ?hd (cs := #[.int .i64 (W : Int), .int .u32 (P : Int), .int .u32 (I : Int), .int .u32 (O : Int), .bool false]) (t := 24) ?hr ?_; (case hd => rfl); (case hg => rfl); (case hr => first | (go_simp; done) | (go_simp; rfl)); intro g hg_ wg hbox_ hb_; have n0_ := Aside0.mk (below_step HB.out hb_); have n1_ := Aside0.mk hbox_; have n2_ := Aside0.mk ((by rw [hg_]; exact below_size HB.out) : w.heap.size ≤ g); clear HB; have HB := n0_; have BKg := n1_; have GEg := n2_; clear n0_ n1_ n2_; clear hb_ hbox_ hg_; have hcg_0 : wg.cell? ⟨g, 0, none⟩ = some (.int .i64 (W : Int)) := (blk_cell BKg.out 0).trans rfl; have hfg_0 := blk_frozen BKg.out 0; have hcg_1 : wg.cell? ⟨g, 1, none⟩ = some (.int .u32 (P : Int)) := (blk_cell BKg.out 1).trans rfl; have hfg_1 := blk_frozen BKg.out 1; have hcg_2 : wg.cell? ⟨g, 2, none⟩ = some (.int .u32 (I : Int)) := (blk_cell BKg.out 2).trans rfl; have hfg_2 := blk_frozen BKg.out 2; have hcg_3 : wg.cell? ⟨g, 3, none⟩ = some (.int .u32 (O : Int)) := (blk_cell BKg.out 3).trans rfl; have hfg_3 := blk_frozen BKg.out 3; have hcg_4 : wg.cell? ⟨g, 4, none⟩ = some (.bool false) := (blk_cell BKg.out 4).trans rfl; have hfg_4 := blk_frozen BKg.out 4) | (go_at_call 27; refine (crc_Check_ok W P I O false _ HS.out).mono ?_; rintro e w1 ⟨rfl, hb⟩; have n0_ := Aside0.mk (below_step HB.out hb); clear HB; have HB := n0_; clear n0_; have n0_ := Aside0.mk (blk_below BKg.out hb); clear BKg; have BKg := n0_; clear n0_; have hcg_w1_0 : w1.cell? ⟨g, 0, none⟩ = some (.int .i64 (W : Int)) := (blk_cell BKg.out 0).trans rfl; have hfg_w1_0 := blk_frozen BKg.out 0; have hcg_w1_1 : w1.cell? ⟨g, 1, none⟩ = some (.int .u32 (P : Int)) := (blk_cell BKg.out 1).trans rfl; have hfg_w1_1 := blk_frozen BKg.out 1; have hcg_w1_2 : w1.cell? ⟨g, 2, none⟩ = some (.int .u32 (I : Int)) := (blk_cell BKg.out 2).trans rfl; have hfg_w1_2 := blk_frozen BKg.out 2; have hcg_w1_3 : w1.cell? ⟨g, 3, none⟩ = some (.int .u32 (O : Int)) := (blk_cell BKg.out 3).trans rfl; have hfg_w1_3 := blk_frozen BKg.out 3; have hcg_w1_4 : w1.cell? ⟨g, 4, none⟩ = some (.bool false) := (blk_cell BKg.out 4).trans rfl; have hfg_w1_4 := blk_frozen BKg.out 4; clear hb))
  go_ret2
  exact ⟨_, rfl, Kd.R_nil _ _ _ _ _, HB.out⟩
 have hn1 : decide ((L.length : Int) - (W : Int) / 8 < 0) = false := decide_eq_false (by omega)
 obtain ⟨n, hnn⟩ : ∃ n, n + W / 8 = L.length := ⟨L.length - W / 8, by omega⟩
 have HNN := Aside0.mk hnn
 have HNI : Aside0 ((L.length : Int) - (W : Int) / 8 = (n : Int)) := ⟨by omega⟩
 clear hn hnn
 have e := HRES.out
 unfold Crc.unsealed at e
 rw [if_neg (by have := HLB.out; have := HNN.out; omega), show B.length - W / 8 = n by have := HLB.out; have := HNN.out; omega] at e
 obtain ⟨x, hx⟩ : ∃ x, x = Crc.crc false W P I O (B.take n) := ⟨_, rfl⟩
 rw [← hx] at e
 have hx32 : x < 4294967296 := by rw [hx]; exact Nat.lt_of_lt_of_le (Crc.crc_lt HS.out _) (show 2 ^ W ≤ 2 ^ 32 from Nat.pow_le_pow_right (by omega) (by omega))
 have HE := Aside0.mk e
 have HX := Aside0.mk hx
 have HX32 := Aside0.mk hx32
 clear e hx hx32 HRES
 go_enter Try.func8, Try.ntmps8
 go_wp2_with (first | ((with_reducible refine gate_dst (N := 2) rfl ?_); refine box_event ?hg (N := 2) ?hd (cs := #[.int .i64 (W : Int), .int .u32 (P : Int), .int .u32 (I : Int), .int .u32 (O : Int), .bool false]) (t := 24) ?hr ?_; (case hd => rfl); (case hg => rfl); (case hr => first | (go_simp; done) | (go_simp; rfl)); intro g hg_ wg hbox_ hb_; have n0_ := Aside0.mk (below_step HB.out hb_); have n1_ := Aside0.mk hbox_; have n2_ := Aside0.mk ((by rw [hg_]; exact below_size HB.out) : w.heap.size ≤ g); clear HB; have HB := n0_; have BKg := n1_; have GEg := n2_; clear n0_ n1_ n2_; clear hb_ hbox_ hg_; have hcg_0 : wg.cell? ⟨g, 0, none⟩ = some (.int .i64 (W : Int)) := (blk_cell BKg.out 0).trans rfl; have hfg_0 := blk_frozen BKg.out 0; have hcg_1 : wg.cell? ⟨g, 1, none⟩ = some (.int .u32 (P : Int)) := (blk_cell BKg.out 1).trans rfl; have hfg_1 := blk_frozen BKg.out 1; have hcg_2 : wg.cell? ⟨g, 2, none⟩ = some (.int .u32 (I : Int)) := (blk_cell BKg.out 2).trans rfl; have hfg_2 := blk_frozen BKg.out 2; have hcg_3 : wg.cell? ⟨g, 3, none⟩ = some (.int .u32 (O : Int)) := (blk_cell BKg.out 3).trans rfl; have hfg_3 := blk_frozen BKg.out 3; have hcg_4 : wg.cell? ⟨g, 4, none⟩ = some (.bool false) := (blk_cell BKg.out 4).trans rfl; have hfg_4 := blk_frozen BKg.out 4) | (go_at_call 27; refine (crc_Check_ok W P I O false _ HS.out).mono ?_; rintro e w1 ⟨rfl, hb⟩; have n0_ := Aside0.mk (below_step HB.out hb); clear HB; have HB := n0_; clear n0_; have n0_ := Aside0.mk (blk_below BKg.out hb); clear BKg; have BKg := n0_; clear n0_; have hcg_w1_0 : w1.cell? ⟨g, 0, none⟩ = some (.int .i64 (W : Int)) := (blk_cell BKg.out 0).trans rfl; have hfg_w1_0 := blk_frozen BKg.out 0; have hcg_w1_1 : w1.cell? ⟨g, 1, none⟩ = some (.int .u32 (P : Int)) := (blk_cell BKg.out 1).trans rfl; have hfg_w1_1 := blk_frozen BKg.out 1; have hcg_w1_2 : w1.cell? ⟨g, 2, none⟩ = some (.int .u32 (I : Int)) := (blk_cell BKg.out 2).trans rfl; have hfg_w1_2 := blk_frozen BKg.out 2; have hcg_w1_3 : w1.cell? ⟨g, 3, none⟩ = some (.int .u32 (O : Int)) := (blk_cell BKg.out 3).trans rfl; have hfg_w1_3 := blk_frozen BKg.out 3; have hcg_w1_4 : w1.cell? ⟨g, 4, none⟩ = some (.bool false) := (blk_cell BKg.out 4).trans rfl; have hfg_w1_4 := blk_frozen BKg.out 4; clear hb))
 rw [HNI.out]
 clear hn1
 obtain ⟨i0, hi0, _, _, _⟩ := info_parts info5
 have hcut := cut_to (P := Try.prog) 25 5 .i64 Try.underlying25 hi0 A1 L.length c1 (n : Int) (Int.natCast_nonneg _) (by have := HNN.out; omega) HC1.out
 simp only [Int.toNat_natCast] at hcut
 have HCUT := Aside0.mk hcut
 clear hi0
 refine start_ (n := 10) (S := crc_SqP W P I O g w) (ds := []) #[false, false, false, false, false, false, false, false, false, false] (by kernel_rfl) rfl rfl (crc_SqP_mk (blk_drew BKg.out) (below_drew1 HB.out)) (fun hHeld => ?_)
 refine take_ (i := 0) (N := some 26) (v := ?_) (a' := ?_) #[true, false, false, false, false, false, false, false, false, false] rfl rfl (by kernel_rfl) (fun _ _ _ h => h) (Or.inl ⟨by rfl, ?_⟩) hHeld ?_ ?_
 rotate_left
 ·rintro w' ⟨hq0, hq1, hq2, hq3, hq4, _⟩
  go_simp
  with_reducible rfl
 rotate_left
 ·simp only [Act.put, List.setIfInBounds_toArray, List.set_cons_zero, List.set_cons_succ, i64_w, i32_w]
  rfl
 refine pure_ (i := 1) (N := some 27) (v := ?_) (a' := ?_) #[true, true, false, false, false, false, false, false, false, false] rfl rfl (by kernel_rfl) (fun _ _ _ h => h) (Or.inl ⟨by rfl, ?_⟩) ?_ ?_
 rotate_left
 ·intro w'
  go_simp
  with_reducible rfl
 rotate_left
 ·simp only [Act.put, List.setIfInBounds_toArray, List.set_cons_zero, List.set_cons_succ, i64_w, i32_w]
  rfl
 refine pure_ (i := 2) (N := some 28) (v := ?_) (a' := ?_) #[true, true, true, false, false, false, false, false, false, false] rfl rfl (by kernel_rfl) (fun _ _ _ h => h) (Or.inl ⟨by rfl, ?_⟩) ?_ ?_
 rotate_left
 ·intro w'
  go_simp
  with_reducible rfl
 rotate_left
 ·simp only [Act.put, List.setIfInBounds_toArray, List.set_cons_zero, List.set_cons_succ, i64_w, i32_w]
  rfl
 refine pure_ (i := 3) (N := some 29) (v := ?_) (a' := ?_) #[true, true, true, true, false, false, false, false, false, false] rfl rfl (by kernel_rfl) (fun _ _ _ h => h) (Or.inl ⟨by rfl, ?_⟩) ?_ ?_
 rotate_left
 ·intro w'
  go_simp
  with_reducible rfl
 rotate_left
 ·simp only [Act.put, List.setIfInBounds_toArray, List.set_cons_zero, List.set_cons_succ, i64_w, i32_w]
  rfl
 refine one_ (i := 4) (N := some 30) #[true, true, true, true, true, false, false, false, false, false] rfl rfl (by kernel_rfl) (by decide) (fun K hK => ?_)
 refine call_ 24 #[.agg #[.int .i64 (W : Int), .int .u32 (P : Int), .int .u32 (I : Int), .int .u32 (O : Int), .bool false], .slice A1 n c1] (by rfl) rfl ?hrun ?_
 case hrun =>
  have he := enters_ Try.func24 (by kernel_rfl) rfl #[.agg #[.int .i64 (W : Int), .int .u32 (P : Int), .int .u32 (I : Int), .int .u32 (O : Int), .bool false], .slice A1 n c1] w1.drew
  unfold execOp
  simp [resolve, Deferred.ofValue, invoke, Act.eval, he]
 have hcs := crc_Sum_plain A1 c1 W P I O (B.take n) w1.drew HS.out (fun y hy => HBY.out y (List.mem_of_mem_take hy)) (by
  have h1 := Kd.C_take (m := n) HR1.out (by have := HNN.out; omega)
  rw [HL.out, Crc.ints_take] at h1
  exact Kd.C_below h1 (below_drew1 HB.out))
 rw [show (Crc.ints (B.take n)).length = n by rw [Crc.ints_length, List.length_take]; have := HNN.out; have := HLB.out; omega, ← HX.out] at hcs
 refine hcs.mono ?_
 rintro e w4 ⟨rfl, hb4⟩
 have HB4 := Aside0.mk (below_step (below_drew1 HB.out) hb4)
 have BK4 := Aside0.mk (blk_below (blk_drew BKg.out) hb4)
 refine ⟨_, rfl, hK.out _ _ (crc_SqP_mk BK4.out HB4.out) (fun hHeld4 => ?_)⟩
 clear hK K hcs hb4 hHeld
 try simp only [Act.put, List.setIfInBounds_toArray, List.set_cons_zero, List.set_cons_succ]
 refine pure_ (i := 5) (N := some 25) (v := ?_) (a' := ?_) #[true, true, true, true, true, true, false, false, false, false] rfl rfl (by kernel_rfl) (fun _ _ _ h => h) (Or.inl ⟨by rfl, ?_⟩) ?_ ?_
 rotate_left
 ·intro w'
  go_simp
  with_reducible rfl
 rotate_left
 ·simp only [Act.put, List.setIfInBounds_toArray, List.set_cons_zero, List.set_cons_succ, i64_w, i32_w]
  rfl
 refine pure_ (i := 6) (N := some 31) (v := ?_) (a' := ?_) #[true, true, true, true, true, true, true, false, false, false] rfl rfl (by kernel_rfl) (fun _ _ _ h => h) (Or.inl ⟨by rfl, ?_⟩) ?_ ?_
 rotate_left
 ·intro w'
  go_simp
  with_reducible rfl
 rotate_left
 ·simp only [Act.put, List.setIfInBounds_toArray, List.set_cons_zero, List.set_cons_succ, i64_w, i32_w]
  rfl
 refine pure_ (i := 7) (N := some 32) (v := ?_) (a' := ?_) #[true, true, true, true, true, true, true, true, false, false] rfl rfl (by kernel_rfl) (fun _ _ _ h => h) (Or.inl ⟨by rfl, ?_⟩) ?_ ?_
 rotate_left
 ·intro w'
  go_simp
  with_reducible rfl
 rotate_left
 ·simp only [Act.put, List.setIfInBounds_toArray, List.set_cons_zero, List.set_cons_succ, i64_w, i32_w]
  rfl
 refine pure_ (i := 8) (N := some 8) (v := ?_) (a' := ?_) #[true, true, true, true, true, true, true, true, true, false] rfl rfl (by kernel_rfl) (fun _ _ _ h => h) (Or.inl ⟨by rfl, ?_⟩) ?_ ?_
 rotate_left
 ·intro w'
  go_simp
  with_reducible rfl
 rotate_left
 ·simp only [Act.put, List.setIfInBounds_toArray, List.set_cons_zero, List.set_cons_succ, i64_w, i32_w]
  rfl
 refine pure_ (i := 9) (N := some 9) (v := ?_) (a' := ?_) #[true, true, true, true, true, true, true, true, true, true] rfl rfl (by kernel_rfl) (fun _ _ _ h => h) (Or.inl ⟨by rfl, ?_⟩) ?_ ?_
 rotate_left
 ·intro w'
  go_simp
  with_reducible rfl
 rotate_left
 ·simp only [Act.put, List.setIfInBounds_toArray, List.set_cons_zero, List.set_cons_succ, i64_w, i32_w]
  rfl
 refine done_ (by kernel_rfl) ?_
 clear hcut BKg HB
 have BKg := BK4
 have HB := HB4
 clear BK4 HB4
 have hcg_w4_0 : w4.cell? ⟨g, 0, none⟩ = some (.int .i64 (W : Int)) := (blk_cell BKg.out 0).trans rfl; have hfg_w4_0 := blk_frozen BKg.out 0; have hcg_w4_1 : w4.cell? ⟨g, 1, none⟩ = some (.int .u32 (P : Int)) := (blk_cell BKg.out 1).trans rfl; have hfg_w4_1 := blk_frozen BKg.out 1; have hcg_w4_2 : w4.cell? ⟨g, 2, none⟩ = some (.int .u32 (I : Int)) := (blk_cell BKg.out 2).trans rfl; have hfg_w4_2 := blk_frozen BKg.out 2; have hcg_w4_3 : w4.cell? ⟨g, 3, none⟩ = some (.int .u32 (O : Int)) := (blk_cell BKg.out 3).trans rfl; have hfg_w4_3 := blk_frozen BKg.out 3; have hcg_w4_4 : w4.cell? ⟨g, 4, none⟩ = some (.bool false) := (blk_cell BKg.out 4).trans rfl; have hfg_w4_4 := blk_frozen BKg.out 4
 have hmf : (0 : Int) ≤ (n : Int) := Int.natCast_nonneg _
 go_wp2_with (first | (go_at_call 26; refine (crc_fit_plain W P I O w4 (by have := HS.out.1; omega)).mono ?_; rintro e w5 ⟨p, q, rfl, hh, hb⟩; simp only [crc_wv, if_true, if_false, Bool.false_eq_true]; have n0_ := Aside0.mk (below_step HB.out hb); clear HB; have HB := n0_; clear n0_; have n0_ := Aside0.mk (blk_below BKg.out hb); clear BKg; have BKg := n0_; clear n0_; have HH := Aside0.mk hh; clear hb hh))
 refine (crc_lay3_calls q (W / 8) x _ HX32.out HM.out HH.out.2).mono ?_
 rintro e w6 ⟨v37, rfl, hr, hb⟩
 obtain ⟨Ao, co, eo⟩ := Kd.R_slice hr
 subst eo
 obtain ⟨m8, hm8⟩ : ∃ m8, m8 = W / 8 := ⟨_, rfl⟩
 have HM8 := Aside0.mk hm8
 have hlm : ((Crc.layl false (W / 8) x).map (fun n : Nat => (n : Int))).length = m8 := by rw [List.length_map, Crc.layl_length, hm8]
 have hr2 := (Kd.R_reads' hr).2.2
 rw [hlm] at hr2
 have HR37 := Aside0.mk hr2
 have n0_ := Aside0.mk (below_step HB.out hb); clear HB; have HB := n0_; clear n0_
 simp only [hlm]
 have HLM := Aside0.mk hlm
 clear hb hr hlm hr2 hm8
 go_wp2
 go_loopg [39] m8 (fun kq v39 w' => ∃ i : Nat, v39 = .int .i64 (i : Int) ∧ w' = w6 ∧ Aside0 (i + kq = m8) ∧ Aside0 (∀ j, j < i → (Crc.layl false (W / 8) x).getD j 0 = (B.drop n).getD j 0))
 case atStart => exact ⟨0, rfl, rfl, ⟨by omega⟩, ⟨fun j hj => by omega⟩⟩
 case round =>
  obtain ⟨i, rfl, rfl, HI, HEQ⟩ := hrel
  cases gk with
  | zero =>
   have hj : decide (i < m8) = false := decide_eq_false (by have := HI.out; omega)
   have ei : i = m8 := by have := HI.out; omega
   have heq : Crc.layl false (W / 8) x = B.drop n := Crc.getD_ext (by rw [Crc.layl_length, List.length_drop]; have := HNN.out; have := HLB.out; omega) (fun j hj => HEQ.out j (by rw [Crc.layl_length] at hj; have := HM8.out; omega))
   have he := HE.out
   rw [if_pos heq] at he
   injection he with e1 e2
   subst e1 e2
   have hrt := Kd.C_take (m := n) HR1.out (by have := HNN.out; omega)
   rw [show (L.take n).length = n by rw [List.length_take]; have := HNN.out; omega] at hrt
   have HRT := Aside0.mk (Kd.C_below hrt HB.out)
   have HTK := Aside0.mk (show L.take n = Crc.ints (B.take n) by rw [HL.out, Crc.ints_take])
   have hcut := HCUT.out
   clear ei heq hrt
   go_wp2_with (first | ((with_reducible refine gate_builtin (b := .append) (xs := #[.const (.slice none 0 0), .tmp 55]) rfl ?_); at_builtin; refine Kd.R_append_rows (Kd.int .u8) (w0 := w) w.heap.size rfl (.const (.slice none 0 0)) (.tmp 55) 25 5 (.int .u8 0) 1 rfl Try.underlying25 info5 rfl (by decide) (by omega) (.slice none 0 0) [] (L.take n) A1 n c1 (fun _ => True) (fun _ => False) rfl rfl ?aO ?aR (fun _ _ h => h) (fun _ h => h.elim) ?aF ?aB ?aS ?aL ?_; (case aR => exact HRT.out); (case aB => exact HB.out); (case aF => exact (fun _ _ => trivial)); (case aO => exact Kd.R_nil _ _ _ _ _); (case aS => exact below_size HB.out); (case aL => have := HNN.out; have := HLB.out; have := HLEN.out; simp only [List.length_nil]; omega); intro v105 w7 ho hb hg hat; rw [List.nil_append, HTK.out] at ho; have HO := Aside0.mk ho; have HB7 := Aside0.mk hb; clear ho hb hg hat))
   go_ret2
   exact ⟨_, rfl, HO.out, HB7.out⟩
  | succ k1 =>
   have hj : decide (i < m8) = true := decide_eq_true (by have := HI.out; omega)
   have hij := of_decide_eq_true hj
   have HIJ := Aside0.mk hij
   have ti : (i < m8) = True := eq_true hij
   obtain ⟨ad, ea, hx⟩ := Kd.at_int HR37.out (i : Int) (Int.natCast_nonneg _) (by omega)
   cases ea
   rw [Int.toNat_natCast] at hx
   obtain ⟨bd, eb, hy⟩ := Kd.at_int HR1.out ((n + i : Nat) : Int) (Int.natCast_nonneg _) (by have := HNN.out; have := HM8.out; omega)
   cases eb
   rw [Int.toNat_natCast] at hy
   have hy2 := (HB.out.cell (World.block_lt_of_cell? w _ hy)).trans hy
   obtain ⟨av, hav⟩ : ∃ av, av = rd ((Crc.layl false (W / 8) x).map (fun n : Nat => (n : Int))) (i : Int) := ⟨_, rfl⟩
   obtain ⟨bv, hbv⟩ : ∃ bv, bv = rd L ((n + i : Nat) : Int) := ⟨_, rfl⟩
   rw [← hav] at hx
   rw [← hbv] at hy2
   have HAV := Aside0.mk hav
   have HBV := Aside0.mk hbv
   have s1 : (n : Int) + (i : Int) < (L.length : Int) := by have := HNN.out; have := HM8.out; omega
   have s0 : (0 : Int) ≤ (n : Int) + (i : Int) := by omega
   have s2 : ((n : Int) + (i : Int)).toNat = n + i := by omega
   have s3 : ((n : Int) + (i : Int) < (L.length : Int)) = True := eq_true s1
   have s4 : ((0 : Int) ≤ (n : Int) + (i : Int)) = True := eq_true s0
   have s6 : wrap64 ((n : Int) + (i : Int)) = (n : Int) + (i : Int) := by unfold wrap64; omega
   clear hy hav hbv s1 s0
   by_cases hab : bv = av
   ·have t1 : (bv != av) = false := by rw [hab]; exact bne_self_eq_false av
    have HAB := Aside0.mk hab
    clear hab
    go_wp2
    go_roundg k1
    case measure => omega
    case rel =>
     refine ⟨i + 1, congrArg (Value.int .i64) (by have := HIJ.out; have := HM.out; have := HM8.out; first | omega | (unfold wrap64; omega)), rfl, ⟨by have := HI.out; omega⟩, ⟨fun j hj => ?_⟩⟩
     by_cases e : j < i
     ·exact HEQ.out j e
     ·have ej : j = i := by omega
      subst ej
      exact Crc.byte_eq HL.out HAV.out HBV.out HAB.out
   ·have t1 : (bv != av) = true := bne_iff_ne.2 hab
    have HAB := Aside0.mk hab
    clear hab
    have hne : ¬ (Crc.layl false (W / 8) x = B.drop n) := fun h => HAB.out (Crc.byte_ne HL.out HAV.out HBV.out h)
    have he := HE.out
    rw [if_neg hne] at he
    injection he with e1 e2
    subst e1 e2
    clear hne
    go_wp2
    go_ret2
    exact ⟨_, rfl, Kd.R_nil _ _ _ _ _, HB.out⟩
set_option maxHeartbeats 16000000 in
set_option maxRecDepth 100000 in
theorem crc_Unseal_R (A1 : Option Addr) (c1 W P I O : Nat) (B : List Nat) (w : World) (hs : Crc.okN W P I O) (hB : ∀ x ∈ B, x < 256) (hlen : B.length < 140737488355328) (hr1 : Kd.C (Kd.int .u8) w A1 (Crc.ints B).length (Crc.ints B)) (hc1 : (Crc.ints B).length ≤ c1) (r1 : List Int) (r2 : Int) (hres : Crc.unsealed true W P I O B = (r1, r2)) :
  Calls Try.prog 8 #[.agg #[.int .i64 (W : Int), .int .u32 (P : Int), .int .u32 (I : Int), .int .u32 (O : Int), .bool true], .slice A1 (Crc.ints B).length c1] w fun e w' => ∃ v0_ : Value, e = .returned (.tuple #[v0_, .int .i64 r2]) ∧ Kd.R (Kd.int .u8) 5 w' w.heap.size (fun _ => True) v0_ r1 ∧ Below w.heap.size w w' := by
 have hu24 := Try.underlying24
 have hu55 := Try.underlying65
 have HB := Aside0.mk (Below.refl w.heap.size w)
 have hfd := crc_field3
 have HR1 := Aside0.mk hr1
 have HBY := Aside0.mk hB
 have HS := Aside0.mk hs
 have HLEN := Aside0.mk hlen
 have HC1 := Aside0.mk hc1
 have HRES := Aside0.mk hres
 have hw8 : (W : Int) ≤ 32 := by have := hs.1; omega
 have hw0 : 8 ≤ W := by have := hs.1; omega
 obtain ⟨L, hL⟩ : ∃ L, L = Crc.ints B := ⟨_, rfl⟩
 have hlb : L.length = B.length := by rw [hL, Crc.ints_length]
 have HLB := Aside0.mk hlb
 rw [← hL] at HR1 HC1 ⊢
 have HL := Aside0.mk hL
 have hll : (L.length : Int) ≤ 140737488355328 := by omega
 have hm : W / 8 ≤ 4 := by omega
 have HM := Aside0.mk hm
 have HW := Aside0.mk hw0
 clear hr1 hB hs hL hlb hlen hm hc1 hres hw0
 by_cases hn : L.length < W / 8
 ·have hn1 : decide ((L.length : Int) - (W : Int) / 8 < 0) = true := decide_eq_true (by omega)
  have e := HRES.out
  unfold Crc.unsealed at e
  rw [if_pos (by have := HLB.out; omega)] at e
  injection e with e1 e2
  subst e1 e2
  clear hn HRES
  go_enter Try.func8, Try.ntmps8
  go_wp2_with (first | ((with_reducible refine gate_dst (N := 2) rfl ?_); refine box_event ?hg (N := 2) ?hd (cs := #[.int .i64 (W : Int), .int .u32 (P : Int), .int .u32 (I : Int), .int .u32 (O : Int), .bool true]) (t := 24) ?hr ?_; (case hd => rfl); (case hg => rfl); (case hr => first | (go_simp; done) | (go_simp; rfl)); intro g hg_ wg hbox_ hb_; have n0_ := Aside0.mk (below_step HB.out hb_); have n1_ := Aside0.mk hbox_; have n2_ := Aside0.mk ((by rw [hg_]; exact below_size HB.out) : w.heap.size ≤ g); clear HB; have HB := n0_; have BKg := n1_; have GEg := n2_; clear n0_ n1_ n2_; clear hb_ hbox_ hg_; have hcg_0 : wg.cell? ⟨g, 0, none⟩ = some (.int .i64 (W : Int)) := (blk_cell BKg.out 0).trans rfl; have hfg_0 := blk_frozen BKg.out 0; have hcg_1 : wg.cell? ⟨g, 1, none⟩ = some (.int .u32 (P : Int)) := (blk_cell BKg.out 1).trans rfl; have hfg_1 := blk_frozen BKg.out 1; have hcg_2 : wg.cell? ⟨g, 2, none⟩ = some (.int .u32 (I : Int)) := (blk_cell BKg.out 2).trans rfl; have hfg_2 := blk_frozen BKg.out 2; have hcg_3 : wg.cell? ⟨g, 3, none⟩ = some (.int .u32 (O : Int)) := (blk_cell BKg.out 3).trans rfl; have hfg_3 := blk_frozen BKg.out 3; have hcg_4 : wg.cell? ⟨g, 4, none⟩ = some (.bool true) := (blk_cell BKg.out 4).trans rfl; have hfg_4 := blk_frozen BKg.out 4) | (go_at_call 27; refine (crc_Check_ok W P I O true _ HS.out).mono ?_; rintro e w1 ⟨rfl, hb⟩; have n0_ := Aside0.mk (below_step HB.out hb); clear HB; have HB := n0_; clear n0_; have n0_ := Aside0.mk (blk_below BKg.out hb); clear BKg; have BKg := n0_; clear n0_; have hcg_w1_0 : w1.cell? ⟨g, 0, none⟩ = some (.int .i64 (W : Int)) := (blk_cell BKg.out 0).trans rfl; have hfg_w1_0 := blk_frozen BKg.out 0; have hcg_w1_1 : w1.cell? ⟨g, 1, none⟩ = some (.int .u32 (P : Int)) := (blk_cell BKg.out 1).trans rfl; have hfg_w1_1 := blk_frozen BKg.out 1; have hcg_w1_2 : w1.cell? ⟨g, 2, none⟩ = some (.int .u32 (I : Int)) := (blk_cell BKg.out 2).trans rfl; have hfg_w1_2 := blk_frozen BKg.out 2; have hcg_w1_3 : w1.cell? ⟨g, 3, none⟩ = some (.int .u32 (O : Int)) := (blk_cell BKg.out 3).trans rfl; have hfg_w1_3 := blk_frozen BKg.out 3; have hcg_w1_4 : w1.cell? ⟨g, 4, none⟩ = some (.bool true) := (blk_cell BKg.out 4).trans rfl; have hfg_w1_4 := blk_frozen BKg.out 4; clear hb))
  go_ret2
  exact ⟨_, rfl, Kd.R_nil _ _ _ _ _, HB.out⟩
 have hn1 : decide ((L.length : Int) - (W : Int) / 8 < 0) = false := decide_eq_false (by omega)
 obtain ⟨n, hnn⟩ : ∃ n, n + W / 8 = L.length := ⟨L.length - W / 8, by omega⟩
 have HNN := Aside0.mk hnn
 have HNI : Aside0 ((L.length : Int) - (W : Int) / 8 = (n : Int)) := ⟨by omega⟩
 clear hn hnn
 have e := HRES.out
 unfold Crc.unsealed at e
 rw [if_neg (by have := HLB.out; have := HNN.out; omega), show B.length - W / 8 = n by have := HLB.out; have := HNN.out; omega] at e
 obtain ⟨x, hx⟩ : ∃ x, x = Crc.crc true W P I O (B.take n) := ⟨_, rfl⟩
 rw [← hx] at e
 have hx32 : x < 4294967296 := by rw [hx]; exact Nat.lt_of_lt_of_le (Crc.crc_lt HS.out _) (show 2 ^ W ≤ 2 ^ 32 from Nat.pow_le_pow_right (by omega) (by omega))
 have HE := Aside0.mk e
 have HX := Aside0.mk hx
 have HX32 := Aside0.mk hx32
 clear e hx hx32 HRES
 go_enter Try.func8, Try.ntmps8
 go_wp2_with (first | ((with_reducible refine gate_dst (N := 2) rfl ?_); refine box_event ?hg (N := 2) ?hd (cs := #[.int .i64 (W : Int), .int .u32 (P : Int), .int .u32 (I : Int), .int .u32 (O : Int), .bool true]) (t := 24) ?hr ?_; (case hd => rfl); (case hg => rfl); (case hr => first | (go_simp; done) | (go_simp; rfl)); intro g hg_ wg hbox_ hb_; have n0_ := Aside0.mk (below_step HB.out hb_); have n1_ := Aside0.mk hbox_; have n2_ := Aside0.mk ((by rw [hg_]; exact below_size HB.out) : w.heap.size ≤ g); clear HB; have HB := n0_; have BKg := n1_; have GEg := n2_; clear n0_ n1_ n2_; clear hb_ hbox_ hg_; have hcg_0 : wg.cell? ⟨g, 0, none⟩ = some (.int .i64 (W : Int)) := (blk_cell BKg.out 0).trans rfl; have hfg_0 := blk_frozen BKg.out 0; have hcg_1 : wg.cell? ⟨g, 1, none⟩ = some (.int .u32 (P : Int)) := (blk_cell BKg.out 1).trans rfl; have hfg_1 := blk_frozen BKg.out 1; have hcg_2 : wg.cell? ⟨g, 2, none⟩ = some (.int .u32 (I : Int)) := (blk_cell BKg.out 2).trans rfl; have hfg_2 := blk_frozen BKg.out 2; have hcg_3 : wg.cell? ⟨g, 3, none⟩ = some (.int .u32 (O : Int)) := (blk_cell BKg.out 3).trans rfl; have hfg_3 := blk_frozen BKg.out 3; have hcg_4 : wg.cell? ⟨g, 4, none⟩ = some (.bool true) := (blk_cell BKg.out 4).trans rfl; have hfg_4 := blk_frozen BKg.out 4) | (go_at_call 27; refine (crc_Check_ok W P I O true _ HS.out).mono ?_; rintro e w1 ⟨rfl, hb⟩; have n0_ := Aside0.mk (below_step HB.out hb); clear HB; have HB := n0_; clear n0_; have n0_ := Aside0.mk (blk_below BKg.out hb); clear BKg; have BKg := n0_; clear n0_; have hcg_w1_0 : w1.cell? ⟨g, 0, none⟩ = some (.int .i64 (W : Int)) := (blk_cell BKg.out 0).trans rfl; have hfg_w1_0 := blk_frozen BKg.out 0; have hcg_w1_1 : w1.cell? ⟨g, 1, none⟩ = some (.int .u32 (P : Int)) := (blk_cell BKg.out 1).trans rfl; have hfg_w1_1 := blk_frozen BKg.out 1; have hcg_w1_2 : w1.cell? ⟨g, 2, none⟩ = some (.int .u32 (I : Int)) := (blk_cell BKg.out 2).trans rfl; have hfg_w1_2 := blk_frozen BKg.out 2; have hcg_w1_3 : w1.cell? ⟨g, 3, none⟩ = some (.int .u32 (O : Int)) := (blk_cell BKg.out 3).trans rfl; have hfg_w1_3 := blk_frozen BKg.out 3; have hcg_w1_4 : w1.cell? ⟨g, 4, none⟩ = some (.bool true) := (blk_cell BKg.out 4).trans rfl; have hfg_w1_4 := blk_frozen BKg.out 4; clear hb))
 rw [HNI.out]
 clear hn1
 obtain ⟨i0, hi0, _, _, _⟩ := info_parts info5
 have hcut := cut_to (P := Try.prog) 25 5 .i64 Try.underlying25 hi0 A1 L.length c1 (n : Int) (Int.natCast_nonneg _) (by have := HNN.out; omega) HC1.out
 simp only [Int.toNat_natCast] at hcut
 have HCUT := Aside0.mk hcut
 clear hi0
 refine start_ (n := 10) (S := crc_SqR W P I O g w) (ds := []) #[false, false, false, false, false, false, false, false, false, false] (by kernel_rfl) rfl rfl (crc_SqR_mk (blk_drew BKg.out) (below_drew1 HB.out)) (fun hHeld => ?_)
 refine take_ (i := 0) (N := some 26) (v := ?_) (a' := ?_) #[true, false, false, false, false, false, false, false, false, false] rfl rfl (by kernel_rfl) (fun _ _ _ h => h) (Or.inl ⟨by rfl, ?_⟩) hHeld ?_ ?_
 rotate_left
 ·rintro w' ⟨hq0, hq1, hq2, hq3, hq4, _⟩
  go_simp
  with_reducible rfl
 rotate_left
 ·simp only [Act.put, List.setIfInBounds_toArray, List.set_cons_zero, List.set_cons_succ, i64_w, i32_w]
  rfl
 refine pure_ (i := 1) (N := some 27) (v := ?_) (a' := ?_) #[true, true, false, false, false, false, false, false, false, false] rfl rfl (by kernel_rfl) (fun _ _ _ h => h) (Or.inl ⟨by rfl, ?_⟩) ?_ ?_
 rotate_left
 ·intro w'
  go_simp
  with_reducible rfl
 rotate_left
 ·simp only [Act.put, List.setIfInBounds_toArray, List.set_cons_zero, List.set_cons_succ, i64_w, i32_w]
  rfl
 refine pure_ (i := 2) (N := some 28) (v := ?_) (a' := ?_) #[true, true, true, false, false, false, false, false, false, false] rfl rfl (by kernel_rfl) (fun _ _ _ h => h) (Or.inl ⟨by rfl, ?_⟩) ?_ ?_
 rotate_left
 ·intro w'
  go_simp
  with_reducible rfl
 rotate_left
 ·simp only [Act.put, List.setIfInBounds_toArray, List.set_cons_zero, List.set_cons_succ, i64_w, i32_w]
  rfl
 refine pure_ (i := 3) (N := some 29) (v := ?_) (a' := ?_) #[true, true, true, true, false, false, false, false, false, false] rfl rfl (by kernel_rfl) (fun _ _ _ h => h) (Or.inl ⟨by rfl, ?_⟩) ?_ ?_
 rotate_left
 ·intro w'
  go_simp
  with_reducible rfl
 rotate_left
 ·simp only [Act.put, List.setIfInBounds_toArray, List.set_cons_zero, List.set_cons_succ, i64_w, i32_w]
  rfl
 refine one_ (i := 4) (N := some 30) #[true, true, true, true, true, false, false, false, false, false] rfl rfl (by kernel_rfl) (by decide) (fun K hK => ?_)
 refine call_ 24 #[.agg #[.int .i64 (W : Int), .int .u32 (P : Int), .int .u32 (I : Int), .int .u32 (O : Int), .bool true], .slice A1 n c1] (by rfl) rfl ?hrun ?_
 case hrun =>
  have he := enters_ Try.func24 (by kernel_rfl) rfl #[.agg #[.int .i64 (W : Int), .int .u32 (P : Int), .int .u32 (I : Int), .int .u32 (O : Int), .bool true], .slice A1 n c1] w1.drew
  unfold execOp
  simp [resolve, Deferred.ofValue, invoke, Act.eval, he]
 have hcs := crc_Sum_refl A1 c1 W P I O (B.take n) w1.drew HS.out (fun y hy => HBY.out y (List.mem_of_mem_take hy)) (by
  have h1 := Kd.C_take (m := n) HR1.out (by have := HNN.out; omega)
  rw [HL.out, Crc.ints_take] at h1
  exact Kd.C_below h1 (below_drew1 HB.out))
 rw [show (Crc.ints (B.take n)).length = n by rw [Crc.ints_length, List.length_take]; have := HNN.out; have := HLB.out; omega, ← HX.out] at hcs
 refine hcs.mono ?_
 rintro e w4 ⟨rfl, hb4⟩
 have HB4 := Aside0.mk (below_step (below_drew1 HB.out) hb4)
 have BK4 := Aside0.mk (blk_below (blk_drew BKg.out) hb4)
 refine ⟨_, rfl, hK.out _ _ (crc_SqR_mk BK4.out HB4.out) (fun hHeld4 => ?_)⟩
 clear hK K hcs hb4 hHeld
 try simp only [Act.put, List.setIfInBounds_toArray, List.set_cons_zero, List.set_cons_succ]
 refine pure_ (i := 5) (N := some 25) (v := ?_) (a' := ?_) #[true, true, true, true, true, true, false, false, false, false] rfl rfl (by kernel_rfl) (fun _ _ _ h => h) (Or.inl ⟨by rfl, ?_⟩) ?_ ?_
 rotate_left
 ·intro w'
  go_simp
  with_reducible rfl
 rotate_left
 ·simp only [Act.put, List.setIfInBounds_toArray, List.set_cons_zero, List.set_cons_succ, i64_w, i32_w]
  rfl
 refine pure_ (i := 6) (N := some 31) (v := ?_) (a' := ?_) #[true, true, true, true, true, true, true, false, false, false] rfl rfl (by kernel_rfl) (fun _ _ _ h => h) (Or.inl ⟨by rfl, ?_⟩) ?_ ?_
 rotate_left
 ·intro w'
  go_simp
  with_reducible rfl
 rotate_left
 ·simp only [Act.put, List.setIfInBounds_toArray, List.set_cons_zero, List.set_cons_succ, i64_w, i32_w]
  rfl
 refine pure_ (i := 7) (N := some 32) (v := ?_) (a' := ?_) #[true, true, true, true, true, true, true, true, false, false] rfl rfl (by kernel_rfl) (fun _ _ _ h => h) (Or.inl ⟨by rfl, ?_⟩) ?_ ?_
 rotate_left
 ·intro w'
  go_simp
  with_reducible rfl
 rotate_left
 ·simp only [Act.put, List.setIfInBounds_toArray, List.set_cons_zero, List.set_cons_succ, i64_w, i32_w]
  rfl
 refine pure_ (i := 8) (N := some 8) (v := ?_) (a' := ?_) #[true, true, true, true, true, true, true, true, true, false] rfl rfl (by kernel_rfl) (fun _ _ _ h => h) (Or.inl ⟨by rfl, ?_⟩) ?_ ?_
 rotate_left
 ·intro w'
  go_simp
  with_reducible rfl
 rotate_left
 ·simp only [Act.put, List.setIfInBounds_toArray, List.set_cons_zero, List.set_cons_succ, i64_w, i32_w]
  rfl
 refine pure_ (i := 9) (N := some 9) (v := ?_) (a' := ?_) #[true, true, true, true, true, true, true, true, true, true] rfl rfl (by kernel_rfl) (fun _ _ _ h => h) (Or.inl ⟨by rfl, ?_⟩) ?_ ?_
 rotate_left
 ·intro w'
  go_simp
  with_reducible rfl
 rotate_left
 ·simp only [Act.put, List.setIfInBounds_toArray, List.set_cons_zero, List.set_cons_succ, i64_w, i32_w]
  rfl
 refine done_ (by kernel_rfl) ?_
 clear hcut BKg HB
 have BKg := BK4
 have HB := HB4
 clear BK4 HB4
 have hcg_w4_0 : w4.cell? ⟨g, 0, none⟩ = some (.int .i64 (W : Int)) := (blk_cell BKg.out 0).trans rfl; have hfg_w4_0 := blk_frozen BKg.out 0; have hcg_w4_1 : w4.cell? ⟨g, 1, none⟩ = some (.int .u32 (P : Int)) := (blk_cell BKg.out 1).trans rfl; have hfg_w4_1 := blk_frozen BKg.out 1; have hcg_w4_2 : w4.cell? ⟨g, 2, none⟩ = some (.int .u32 (I : Int)) := (blk_cell BKg.out 2).trans rfl; have hfg_w4_2 := blk_frozen BKg.out 2; have hcg_w4_3 : w4.cell? ⟨g, 3, none⟩ = some (.int .u32 (O : Int)) := (blk_cell BKg.out 3).trans rfl; have hfg_w4_3 := blk_frozen BKg.out 3; have hcg_w4_4 : w4.cell? ⟨g, 4, none⟩ = some (.bool true) := (blk_cell BKg.out 4).trans rfl; have hfg_w4_4 := blk_frozen BKg.out 4
 have hmf : (0 : Int) ≤ (n : Int) := Int.natCast_nonneg _
 go_wp2_with (first | (go_at_call 26; refine (crc_fit_refl W P I O w4 (by have := HS.out.1; omega)).mono ?_; rintro e w5 ⟨p, q, rfl, hh, hb⟩; simp only [crc_wv, if_true, if_false, Bool.false_eq_true]; have n0_ := Aside0.mk (below_step HB.out hb); clear HB; have HB := n0_; clear n0_; have n0_ := Aside0.mk (blk_below BKg.out hb); clear BKg; have BKg := n0_; clear n0_; have HH := Aside0.mk hh; clear hb hh))
 refine (crc_lay5_calls q (W / 8) x _ HX32.out HM.out HH.out.2).mono ?_
 rintro e w6 ⟨v37, rfl, hr, hb⟩
 obtain ⟨Ao, co, eo⟩ := Kd.R_slice hr
 subst eo
 obtain ⟨m8, hm8⟩ : ∃ m8, m8 = W / 8 := ⟨_, rfl⟩
 have HM8 := Aside0.mk hm8
 have hlm : ((Crc.layl true (W / 8) x).map (fun n : Nat => (n : Int))).length = m8 := by rw [List.length_map, Crc.layl_length, hm8]
 have hr2 := (Kd.R_reads' hr).2.2
 rw [hlm] at hr2
 have HR37 := Aside0.mk hr2
 have n0_ := Aside0.mk (below_step HB.out hb); clear HB; have HB := n0_; clear n0_
 simp only [hlm]
 have HLM := Aside0.mk hlm
 clear hb hr hlm hr2 hm8
 go_wp2
 go_loopg [39] m8 (fun kq v39 w' => ∃ i : Nat, v39 = .int .i64 (i : Int) ∧ w' = w6 ∧ Aside0 (i + kq = m8) ∧ Aside0 (∀ j, j < i → (Crc.layl true (W / 8) x).getD j 0 = (B.drop n).getD j 0))
 case atStart => exact ⟨0, rfl, rfl, ⟨by omega⟩, ⟨fun j hj => by omega⟩⟩
 case round =>
  obtain ⟨i, rfl, rfl, HI, HEQ⟩ := hrel
  cases gk with
  | zero =>
   have hj : decide (i < m8) = false := decide_eq_false (by have := HI.out; omega)
   have ei : i = m8 := by have := HI.out; omega
   have heq : Crc.layl true (W / 8) x = B.drop n := Crc.getD_ext (by rw [Crc.layl_length, List.length_drop]; have := HNN.out; have := HLB.out; omega) (fun j hj => HEQ.out j (by rw [Crc.layl_length] at hj; have := HM8.out; omega))
   have he := HE.out
   rw [if_pos heq] at he
   injection he with e1 e2
   subst e1 e2
   have hrt := Kd.C_take (m := n) HR1.out (by have := HNN.out; omega)
   rw [show (L.take n).length = n by rw [List.length_take]; have := HNN.out; omega] at hrt
   have HRT := Aside0.mk (Kd.C_below hrt HB.out)
   have HTK := Aside0.mk (show L.take n = Crc.ints (B.take n) by rw [HL.out, Crc.ints_take])
   have hcut := HCUT.out
   clear ei heq hrt
   go_wp2_with (first | ((with_reducible refine gate_builtin (b := .append) (xs := #[.const (.slice none 0 0), .tmp 55]) rfl ?_); at_builtin; refine Kd.R_append_rows (Kd.int .u8) (w0 := w) w.heap.size rfl (.const (.slice none 0 0)) (.tmp 55) 25 5 (.int .u8 0) 1 rfl Try.underlying25 info5 rfl (by decide) (by omega) (.slice none 0 0) [] (L.take n) A1 n c1 (fun _ => True) (fun _ => False) rfl rfl ?aO ?aR (fun _ _ h => h) (fun _ h => h.elim) ?aF ?aB ?aS ?aL ?_; (case aR => exact HRT.out); (case aB => exact HB.out); (case aF => exact (fun _ _ => trivial)); (case aO => exact Kd.R_nil _ _ _ _ _); (case aS => exact below_size HB.out); (case aL => have := HNN.out; have := HLB.out; have := HLEN.out; simp only [List.length_nil]; omega); intro v105 w7 ho hb hg hat; rw [List.nil_append, HTK.out] at ho; have HO := Aside0.mk ho; have HB7 := Aside0.mk hb; clear ho hb hg hat))
   go_ret2
   exact ⟨_, rfl, HO.out, HB7.out⟩
  | succ k1 =>
   have hj : decide (i < m8) = true := decide_eq_true (by have := HI.out; omega)
   have hij := of_decide_eq_true hj
   have HIJ := Aside0.mk hij
   have ti : (i < m8) = True := eq_true hij
   obtain ⟨ad, ea, hx⟩ := Kd.at_int HR37.out (i : Int) (Int.natCast_nonneg _) (by omega)
   cases ea
   rw [Int.toNat_natCast] at hx
   obtain ⟨bd, eb, hy⟩ := Kd.at_int HR1.out ((n + i : Nat) : Int) (Int.natCast_nonneg _) (by have := HNN.out; have := HM8.out; omega)
   cases eb
   rw [Int.toNat_natCast] at hy
   have hy2 := (HB.out.cell (World.block_lt_of_cell? w _ hy)).trans hy
   obtain ⟨av, hav⟩ : ∃ av, av = rd ((Crc.layl true (W / 8) x).map (fun n : Nat => (n : Int))) (i : Int) := ⟨_, rfl⟩
   obtain ⟨bv, hbv⟩ : ∃ bv, bv = rd L ((n + i : Nat) : Int) := ⟨_, rfl⟩
   rw [← hav] at hx
   rw [← hbv] at hy2
   have HAV := Aside0.mk hav
   have HBV := Aside0.mk hbv
   have s1 : (n : Int) + (i : Int) < (L.length : Int) := by have := HNN.out; have := HM8.out; omega
   have s0 : (0 : Int) ≤ (n : Int) + (i : Int) := by omega
   have s2 : ((n : Int) + (i : Int)).toNat = n + i := by omega
   have s3 : ((n : Int) + (i : Int) < (L.length : Int)) = True := eq_true s1
   have s4 : ((0 : Int) ≤ (n : Int) + (i : Int)) = True := eq_true s0
   have s6 : wrap64 ((n : Int) + (i : Int)) = (n : Int) + (i : Int) := by unfold wrap64; omega
   clear hy hav hbv s1 s0
   by_cases hab : bv = av
   ·have t1 : (bv != av) = false := by rw [hab]; exact bne_self_eq_false av
    have HAB := Aside0.mk hab
    clear hab
    go_wp2
    go_roundg k1
    case measure => omega
    case rel =>
     refine ⟨i + 1, congrArg (Value.int .i64) (by have := HIJ.out; have := HM.out; have := HM8.out; first | omega | (unfold wrap64; omega)), rfl, ⟨by have := HI.out; omega⟩, ⟨fun j hj => ?_⟩⟩
     by_cases e : j < i
     ·exact HEQ.out j e
     ·have ej : j = i := by omega
      subst ej
      exact Crc.byte_eq HL.out HAV.out HBV.out HAB.out
   ·have t1 : (bv != av) = true := bne_iff_ne.2 hab
    have HAB := Aside0.mk hab
    clear hab
    have hne : ¬ (Crc.layl true (W / 8) x = B.drop n) := fun h => HAB.out (Crc.byte_ne HL.out HAV.out HBV.out h)
    have he := HE.out
    rw [if_neg hne] at he
    injection he with e1 e2
    subst e1 e2
    clear hne
    go_wp2
    go_ret2
    exact ⟨_, rfl, Kd.R_nil _ _ _ _ _, HB.out⟩

set_option maxHeartbeats 8000000 in
set_option maxRecDepth 100000 in
theorem crc_Unseal_bad (A1 : Option Addr) (n1 c1 : Nat) (W P I O : Int) (R : Bool) (w : World) (hs : Crc.okI W P I O = false) :
  Calls Try.prog 8 #[.agg #[.int .i64 W, .int .u32 P, .int .u32 I, .int .u32 O, .bool R], .slice A1 n1 c1] w fun e w' => ∃ v0_ : Value, e = .returned (.tuple #[v0_, .int .i64 30]) ∧ Kd.R (Kd.int .u8) 5 w' w.heap.size (fun _ => True) v0_ [] ∧ Below w.heap.size w w' := by
 have hu24 := Try.underlying24
 have HB := Aside0.mk (Below.refl w.heap.size w)
 have HS := Aside0.mk hs
 clear hs
 go_enter Try.func8, Try.ntmps8
 go_wp2_with (first | ((with_reducible refine gate_dst (N := 2) rfl ?_); refine box_event ?hg (N := 2) ?hd (cs := #[.int .i64 W, .int .u32 P, .int .u32 I, .int .u32 O, .bool R]) (t := 24) ?hr ?_; (case hd => rfl); (case hg => rfl); (case hr => first | (go_simp; done) | (go_simp; rfl)); intro g hg_ wg hbox_ hb_; have n0_ := Aside0.mk (below_step HB.out hb_); have n1_ := Aside0.mk hbox_; have n2_ := Aside0.mk ((by rw [hg_]; exact below_size HB.out) : w.heap.size ≤ g); clear HB; have HB := n0_; have BKg := n1_; have GEg := n2_; clear n0_ n1_ n2_; clear hb_ hbox_ hg_; have hcg_0 : wg.cell? ⟨g, 0, none⟩ = some (.int .i64 W) := (blk_cell BKg.out 0).trans rfl; have hfg_0 := blk_frozen BKg.out 0; have hcg_1 : wg.cell? ⟨g, 1, none⟩ = some (.int .u32 P) := (blk_cell BKg.out 1).trans rfl; have hfg_1 := blk_frozen BKg.out 1; have hcg_2 : wg.cell? ⟨g, 2, none⟩ = some (.int .u32 I) := (blk_cell BKg.out 2).trans rfl; have hfg_2 := blk_frozen BKg.out 2; have hcg_3 : wg.cell? ⟨g, 3, none⟩ = some (.int .u32 O) := (blk_cell BKg.out 3).trans rfl; have hfg_3 := blk_frozen BKg.out 3; have hcg_4 : wg.cell? ⟨g, 4, none⟩ = some (.bool R) := (blk_cell BKg.out 4).trans rfl; have hfg_4 := blk_frozen BKg.out 4) | (go_at_call 27; refine (crc_Check_bad W P I O R _ HS.out).mono ?_; rintro e w1 ⟨rfl, hb⟩; have n0_ := Aside0.mk (below_step HB.out hb); clear HB; have HB := n0_; clear n0_; clear hb))
 go_ret2
 exact ⟨_, rfl, Kd.R_nil _ _ _ _ _, HB.out⟩
def crc_Unseal.f (a0_0 a0_1 a0_2 a0_3 : Int) (a0_4 : Bool) (l1 : List Int) : Option (List Int × Int) :=
 if Crc.okI a0_0 a0_1 a0_2 a0_3 then (if Crc.good a0_1 a0_2 a0_3 l1 ∧ l1.length < 140737488355328 then some (Crc.unsealed a0_4 a0_0.toNat a0_1.toNat a0_2.toNat a0_3.toNat (l1.map Int.toNat)) else none) else some ([], 30)
theorem crc_Unseal.calls (a0_0 a0_1 a0_2 a0_3 : Int) (a0_4 : Bool) (A1 : Option Addr) (c1 : Nat) (l1 : List Int) (r1 : List Int) (r2 : Int) (w : World) (hr1 : Kd.C (Kd.int .u8) w A1 l1.length l1) (hc1 : l1.length ≤ c1) (h : crc_Unseal.f a0_0 a0_1 a0_2 a0_3 a0_4 l1 = some (r1, r2)) :
  Calls Try.prog 8 #[.agg #[.int .i64 a0_0, .int .u32 a0_1, .int .u32 a0_2, .int .u32 a0_3, .bool a0_4], .slice A1 l1.length c1] w fun e w' => ∃ v0_ : Value, e = .returned (.tuple #[v0_, .int .i64 r2]) ∧ Kd.R (Kd.int .u8) 5 w' w.heap.size (fun _ => True) v0_ r1 ∧ Below w.heap.size w w' := by
 unfold crc_Unseal.f at h
 cases hk : Crc.okI a0_0 a0_1 a0_2 a0_3 with
 | false =>
  simp only [hk, Bool.false_eq_true, if_false, Option.some.injEq, Prod.mk.injEq] at h
  obtain ⟨rfl, rfl⟩ := h
  exact crc_Unseal_bad A1 l1.length c1 a0_0 a0_1 a0_2 a0_3 a0_4 w hk
 | true =>
  rw [hk, if_pos rfl] at h
  by_cases hg : Crc.good a0_1 a0_2 a0_3 l1 ∧ l1.length < 140737488355328
  ·rw [if_pos hg] at h
   have h := Option.some.inj h
   obtain ⟨⟨g1, g2, g3, g4⟩, g5⟩ := hg
   obtain ⟨W, rfl⟩ : ∃ n : Nat, a0_0 = (n : Int) := ⟨a0_0.toNat, by have := Crc.okI_width hk; omega⟩
   obtain ⟨P, rfl⟩ : ∃ n : Nat, a0_1 = (n : Int) := ⟨a0_1.toNat, by omega⟩
   obtain ⟨I, rfl⟩ : ∃ n : Nat, a0_2 = (n : Int) := ⟨a0_2.toNat, by omega⟩
   obtain ⟨O, rfl⟩ : ∃ n : Nat, a0_3 = (n : Int) := ⟨a0_3.toNat, by omega⟩
   obtain ⟨B, rfl, hB⟩ := Crc.bytes_of g4
   have hn := (Crc.okI_nat W P I O).1 hk
   have e : (Crc.ints B).map Int.toNat = B := Crc.toNat_ints B
   rw [e] at h
   simp only [Int.toNat_natCast] at h
   rw [Crc.ints_length] at g5
   cases a0_4
   ·exact crc_Unseal_P A1 c1 W P I O B w hn hB g5 hr1 hc1 r1 r2 h
   ·exact crc_Unseal_R A1 c1 W P I O B w hn hB g5 hr1 hc1 r1 r2 h
  ·rw [if_neg hg] at h
   exact absurd h (by simp)

/-! ### outpostlaw03_num: function 9 -/
def outpostlaw03_num.f (a0 : Int) : Option (Int) := some a0
set_option maxHeartbeats 8000000 in
set_option maxRecDepth 100000 in
theorem outpostlaw03_num.calls (a0 : Int) (r : Int) (w : World) (h : outpostlaw03_num.f a0 = some r) :
  Calls Try.prog 9 #[.int .i64 a0] w fun e w' => e = .returned (.int .i64 r) ∧ Drawn0 w w' := by
 have H : (some a0) = some r := h
 clear h
 obtain rfl := Option.some.inj H
 go_enter Try.func9, Try.ntmps9
 go_wp2
 go_ret
 exact ⟨by first | rfl | (simp; done) | (simp [*]; done) | (simp [wrap64]; done), by repeat (first | exact Drawn0.refl _ | apply Drawn0.step)⟩

/-! ### outpostlaw01_mark: function 28 -/
def outpostlaw01_mark.f (a0 : Int) (a1 : Int) : Option (Int) := some ((wrap64 ((wrap64 ((wrap64 (31 * a0)) + (wrap64 (7 * a1)))) + 1)) % 256)
set_option maxHeartbeats 8000000 in
set_option maxRecDepth 100000 in
theorem outpostlaw01_mark.calls (a0 : Int) (a1 : Int) (r : Int) (w : World) (h : outpostlaw01_mark.f a0 a1 = some r) :
  Calls Try.prog 28 #[.int .i64 a0, .int .i64 a1] w fun e w' => e = .returned (.int .u8 r) ∧ Drawn0 w w' := by
 have H : (some ((wrap64 ((wrap64 ((wrap64 (31 * a0)) + (wrap64 (7 * a1)))) + 1)) % 256)) = some r := h
 clear h
 obtain rfl := Option.some.inj H
 go_enter Try.func28, Try.ntmps28
 go_wp2
 go_ret
 exact ⟨by first | rfl | (simp; done) | (simp [*]; done) | (simp [wrap64]; done), by repeat (first | exact Drawn0.refl _ | apply Drawn0.step)⟩

-- NOT PRINTED: function 10 (outpostlaw01_ApartBytes)

/-! ### crc_Named: function 29 -/
def crc_Named.f (a0 : ByteArray) : Option (Int × Int × Int × Int × Bool × Int) := if a0.toList = ([99, 99, 105, 116, 116] : List UInt8) then (some (16, 4129, 65535, 0, false, 0)) else (if a0.toList = ([105, 101, 101, 101] : List UInt8) then (some (32, 79764919, 4294967295, 4294967295, true, 0)) else (if a0.toList = ([98, 121, 116, 101] : List UInt8) then (some (8, 7, 0, 0, false, 0)) else (if a0.toList = ([112, 103, 112] : List UInt8) then (some (24, 8801531, 11994318, 0, false, 0)) else (some (0, 0, 0, 0, false, 3)))))
set_option maxHeartbeats 8000000 in
set_option maxRecDepth 100000 in
theorem crc_Named.calls (a0 : ByteArray) (r1 : Int) (r2 : Int) (r3 : Int) (r4 : Int) (r5 : Bool) (r6 : Int) (w : World) (h : crc_Named.f a0 = some (r1, r2, r3, r4, r5, r6)) :
  Calls Try.prog 29 #[.string a0] w fun e w' => e = .returned (.tuple #[.agg #[.int .i64 r1, .int .u32 r2, .int .u32 r3, .int .u32 r4, .bool r5], .int .i64 r6]) ∧ Below w.heap.size w w' := by
 have hu24 := Try.underlying24
 have HB := Aside0.mk (Below.refl w.heap.size w)
 have H : (if a0.toList = ([99, 99, 105, 116, 116] : List UInt8) then (some (16, 4129, 65535, 0, false, 0)) else (if a0.toList = ([105, 101, 101, 101] : List UInt8) then (some (32, 79764919, 4294967295, 4294967295, true, 0)) else (if a0.toList = ([98, 121, 116, 101] : List UInt8) then (some (8, 7, 0, 0, false, 0)) else (if a0.toList = ([112, 103, 112] : List UInt8) then (some (24, 8801531, 11994318, 0, false, 0)) else (some (0, 0, 0, 0, false, 3)))))) = some (r1, r2, r3, r4, r5, r6) := h
 clear h
 by_cases c2 : a0.toList = ([99, 99, 105, 116, 116] : List UInt8)
 ·rw [if_pos c2] at H
  have c2b0 : (a0.toList == ([99, 99, 105, 116, 116] : List UInt8)) = true := beq_iff_eq.mpr c2
  have c2b1 : (a0.toList != ([99, 99, 105, 116, 116] : List UInt8)) = false := bne_eq_false_iff_eq.mpr c2
  clear c2
  simp only [Option.some.injEq, Prod.mk.injEq] at H
  obtain ⟨rfl, rfl, rfl, rfl, rfl, rfl⟩ := H
  go_enter Try.func29, Try.ntmps29
  go_wp2_with (first | ((with_reducible refine gate_dst (N := 2) rfl ?_); refine box_event ?hg (N := 2) ?hd (cs := #[.int .i64 0, .int .u32 0, .int .u32 0, .int .u32 0, .bool false]) (t := 24) ?hr ?_; (case hd => rfl); (case hg => rfl); (case hr => first | (go_simp; done) | (go_simp; rfl)); intro gb107 hg w3 hbox hb; have n0_ := Aside0.mk (below_step (by repeat (first | (with_reducible first | exact HB.out | apply below_alloc | apply pw_below_drewN | apply below_drew1) | exact HB.out)) hb); have n1_ := Aside0.mk (hbox); have n2_ := Aside0.mk ((by rw [hg]; exact (below_size (by repeat (first | (with_reducible first | exact HB.out | apply below_alloc | apply pw_below_drewN | apply below_drew1) | exact HB.out))) : w.heap.size ≤ gb107)); have n3_ := Aside0.mk ((by rw [hg]; exact (below_size (by repeat (first | (with_reducible first | exact HB.out | apply below_alloc | apply pw_below_drewN | apply below_drew1) | exact HB.out))) : w.heap.size ≤ gb107)); clear HB; have HB := n0_; have BK107 := n1_; have GW107 := n2_; have GE107 := n3_; clear n0_ n1_ n2_ n3_; clear hb hbox hg; have hcz4_0 : w3.cell? ⟨gb107, 0, none⟩ = some (.int .i64 0) := (blk_cell BK107.out 0).trans rfl; have hcz4_1 : w3.cell? ⟨gb107, 1, none⟩ = some (.int .u32 0) := (blk_cell BK107.out 1).trans rfl; have hcz4_2 : w3.cell? ⟨gb107, 2, none⟩ = some (.int .u32 0) := (blk_cell BK107.out 2).trans rfl; have hcz4_3 : w3.cell? ⟨gb107, 3, none⟩ = some (.int .u32 0) := (blk_cell BK107.out 3).trans rfl; have hcz4_4 : w3.cell? ⟨gb107, 4, none⟩ = some (.bool false) := (blk_cell BK107.out 4).trans rfl; have hfz4_0 := blk_frozen BK107.out 0; have hfz4_1 := blk_frozen BK107.out 1; have hfz4_2 := blk_frozen BK107.out 2; have hfz4_3 := blk_frozen BK107.out 3; have hfz4_4 := blk_frozen BK107.out 4))
  refine bodyPost_ret (results_ct rfl _ _ gb107 24 #[.int .i64 16, .int .u32 4129, .int .u32 65535, .int .u32 0, .bool false] (0, 0) _ rfl (by (with_reducible repeat (first | refine blk_drewN ?_ _ | refine blk_drew ?_ | refine blk_alloc ?_ _)); refine blk_put (cs := #[.int .i64 16, .int .u32 4129, .int .u32 65535, .int .u32 0, .bool false]) ?_ 4 _ rfl; (with_reducible repeat (first | refine blk_drewN ?_ _ | refine blk_drew ?_ | refine blk_alloc ?_ _)); refine blk_put (cs := #[.int .i64 16, .int .u32 4129, .int .u32 65535, .int .u32 0, .bool false]) ?_ 3 _ rfl; (with_reducible repeat (first | refine blk_drewN ?_ _ | refine blk_drew ?_ | refine blk_alloc ?_ _)); refine blk_put (cs := #[.int .i64 16, .int .u32 4129, .int .u32 0, .int .u32 0, .bool false]) ?_ 2 _ rfl; (with_reducible repeat (first | refine blk_drewN ?_ _ | refine blk_drew ?_ | refine blk_alloc ?_ _)); refine blk_put (cs := #[.int .i64 16, .int .u32 0, .int .u32 0, .int .u32 0, .bool false]) ?_ 1 _ rfl; (with_reducible repeat (first | refine blk_drewN ?_ _ | refine blk_drew ?_ | refine blk_alloc ?_ _)); refine blk_put (cs := #[.int .i64 0, .int .u32 0, .int .u32 0, .int .u32 0, .bool false]) ?_ 0 _ rfl; (with_reducible repeat (first | refine blk_drewN ?_ _ | refine blk_drew ?_ | refine blk_alloc ?_ _)); exact BK107.out) Try.underlying24 rfl (by kernel_rfl)) rfl ?_
  exact ⟨by first | rfl | (simp [errW_none, errW_some] <;> rfl) | (simp [*, errW_none, errW_some] <;> rfl), by repeat (first | (with_reducible first | exact HB.out | apply below_alloc | apply pw_below_drewN | apply below_drew1 | refine below_set ?_ GE107.out) | exact HB.out)⟩
 ·rw [if_neg c2] at H
  have c2b0 : (a0.toList == ([99, 99, 105, 116, 116] : List UInt8)) = false := beq_eq_false_iff_ne.mpr c2
  have c2b1 : (a0.toList != ([99, 99, 105, 116, 116] : List UInt8)) = true := bne_iff_ne.mpr c2
  by_cases c5 : a0.toList = ([105, 101, 101, 101] : List UInt8)
  ·rw [if_pos c5] at H
   have c5b0 : (a0.toList == ([105, 101, 101, 101] : List UInt8)) = true := beq_iff_eq.mpr c5
   have c5b1 : (a0.toList != ([105, 101, 101, 101] : List UInt8)) = false := bne_eq_false_iff_eq.mpr c5
   clear c5
   simp only [Option.some.injEq, Prod.mk.injEq] at H
   obtain ⟨rfl, rfl, rfl, rfl, rfl, rfl⟩ := H
   go_enter Try.func29, Try.ntmps29
   go_wp2_with (first | ((with_reducible refine gate_dst (N := 2) rfl ?_); refine box_event ?hg (N := 2) ?hd (cs := #[.int .i64 0, .int .u32 0, .int .u32 0, .int .u32 0, .bool false]) (t := 24) ?hr ?_; (case hd => rfl); (case hg => rfl); (case hr => first | (go_simp; done) | (go_simp; rfl)); intro gb107 hg w6 hbox hb; have n0_ := Aside0.mk (below_step (by repeat (first | (with_reducible first | exact HB.out | apply below_alloc | apply pw_below_drewN | apply below_drew1) | exact HB.out)) hb); have n1_ := Aside0.mk (hbox); have n2_ := Aside0.mk ((by rw [hg]; exact (below_size (by repeat (first | (with_reducible first | exact HB.out | apply below_alloc | apply pw_below_drewN | apply below_drew1) | exact HB.out))) : w.heap.size ≤ gb107)); have n3_ := Aside0.mk ((by rw [hg]; exact (below_size (by repeat (first | (with_reducible first | exact HB.out | apply below_alloc | apply pw_below_drewN | apply below_drew1) | exact HB.out))) : w.heap.size ≤ gb107)); clear HB; have HB := n0_; have BK107 := n1_; have GW107 := n2_; have GE107 := n3_; clear n0_ n1_ n2_ n3_; clear hb hbox hg; have hcz7_0 : w6.cell? ⟨gb107, 0, none⟩ = some (.int .i64 0) := (blk_cell BK107.out 0).trans rfl; have hcz7_1 : w6.cell? ⟨gb107, 1, none⟩ = some (.int .u32 0) := (blk_cell BK107.out 1).trans rfl; have hcz7_2 : w6.cell? ⟨gb107, 2, none⟩ = some (.int .u32 0) := (blk_cell BK107.out 2).trans rfl; have hcz7_3 : w6.cell? ⟨gb107, 3, none⟩ = some (.int .u32 0) := (blk_cell BK107.out 3).trans rfl; have hcz7_4 : w6.cell? ⟨gb107, 4, none⟩ = some (.bool false) := (blk_cell BK107.out 4).trans rfl; have hfz7_0 := blk_frozen BK107.out 0; have hfz7_1 := blk_frozen BK107.out 1; have hfz7_2 := blk_frozen BK107.out 2; have hfz7_3 := blk_frozen BK107.out 3; have hfz7_4 := blk_frozen BK107.out 4))
   refine bodyPost_ret (results_ct rfl _ _ gb107 24 #[.int .i64 32, .int .u32 79764919, .int .u32 4294967295, .int .u32 4294967295, .bool true] (0, 0) _ rfl (by (with_reducible repeat (first | refine blk_drewN ?_ _ | refine blk_drew ?_ | refine blk_alloc ?_ _)); refine blk_put (cs := #[.int .i64 32, .int .u32 79764919, .int .u32 4294967295, .int .u32 4294967295, .bool false]) ?_ 4 _ rfl; (with_reducible repeat (first | refine blk_drewN ?_ _ | refine blk_drew ?_ | refine blk_alloc ?_ _)); refine blk_put (cs := #[.int .i64 32, .int .u32 79764919, .int .u32 4294967295, .int .u32 0, .bool false]) ?_ 3 _ rfl; (with_reducible repeat (first | refine blk_drewN ?_ _ | refine blk_drew ?_ | refine blk_alloc ?_ _)); refine blk_put (cs := #[.int .i64 32, .int .u32 79764919, .int .u32 0, .int .u32 0, .bool false]) ?_ 2 _ rfl; (with_reducible repeat (first | refine blk_drewN ?_ _ | refine blk_drew ?_ | refine blk_alloc ?_ _)); refine blk_put (cs := #[.int .i64 32, .int .u32 0, .int .u32 0, .int .u32 0, .bool false]) ?_ 1 _ rfl; (with_reducible repeat (first | refine blk_drewN ?_ _ | refine blk_drew ?_ | refine blk_alloc ?_ _)); refine blk_put (cs := #[.int .i64 0, .int .u32 0, .int .u32 0, .int .u32 0, .bool false]) ?_ 0 _ rfl; (with_reducible repeat (first | refine blk_drewN ?_ _ | refine blk_drew ?_ | refine blk_alloc ?_ _)); exact BK107.out) Try.underlying24 rfl (by kernel_rfl)) rfl ?_
   exact ⟨by first | rfl | (simp [errW_none, errW_some] <;> rfl) | (simp [*, errW_none, errW_some] <;> rfl), by repeat (first | (with_reducible first | exact HB.out | apply below_alloc | apply pw_below_drewN | apply below_drew1 | refine below_set ?_ GE107.out) | exact HB.out)⟩
  ·rw [if_neg c5] at H
   have c5b0 : (a0.toList == ([105, 101, 101, 101] : List UInt8)) = false := beq_eq_false_iff_ne.mpr c5
   have c5b1 : (a0.toList != ([105, 101, 101, 101] : List UInt8)) = true := bne_iff_ne.mpr c5
   by_cases c8 : a0.toList = ([98, 121, 116, 101] : List UInt8)
   ·rw [if_pos c8] at H
    have c8b0 : (a0.toList == ([98, 121, 116, 101] : List UInt8)) = true := beq_iff_eq.mpr c8
    have c8b1 : (a0.toList != ([98, 121, 116, 101] : List UInt8)) = false := bne_eq_false_iff_eq.mpr c8
    clear c8
    simp only [Option.some.injEq, Prod.mk.injEq] at H
    obtain ⟨rfl, rfl, rfl, rfl, rfl, rfl⟩ := H
    go_enter Try.func29, Try.ntmps29
    go_wp2_with (first | ((with_reducible refine gate_dst (N := 2) rfl ?_); refine box_event ?hg (N := 2) ?hd (cs := #[.int .i64 0, .int .u32 0, .int .u32 0, .int .u32 0, .bool false]) (t := 24) ?hr ?_; (case hd => rfl); (case hg => rfl); (case hr => first | (go_simp; done) | (go_simp; rfl)); intro gb107 hg w9 hbox hb; have n0_ := Aside0.mk (below_step (by repeat (first | (with_reducible first | exact HB.out | apply below_alloc | apply pw_below_drewN | apply below_drew1) | exact HB.out)) hb); have n1_ := Aside0.mk (hbox); have n2_ := Aside0.mk ((by rw [hg]; exact (below_size (by repeat (first | (with_reducible first | exact HB.out | apply below_alloc | apply pw_below_drewN | apply below_drew1) | exact HB.out))) : w.heap.size ≤ gb107)); have n3_ := Aside0.mk ((by rw [hg]; exact (below_size (by repeat (first | (with_reducible first | exact HB.out | apply below_alloc | apply pw_below_drewN | apply below_drew1) | exact HB.out))) : w.heap.size ≤ gb107)); clear HB; have HB := n0_; have BK107 := n1_; have GW107 := n2_; have GE107 := n3_; clear n0_ n1_ n2_ n3_; clear hb hbox hg; have hcz10_0 : w9.cell? ⟨gb107, 0, none⟩ = some (.int .i64 0) := (blk_cell BK107.out 0).trans rfl; have hcz10_1 : w9.cell? ⟨gb107, 1, none⟩ = some (.int .u32 0) := (blk_cell BK107.out 1).trans rfl; have hcz10_2 : w9.cell? ⟨gb107, 2, none⟩ = some (.int .u32 0) := (blk_cell BK107.out 2).trans rfl; have hcz10_3 : w9.cell? ⟨gb107, 3, none⟩ = some (.int .u32 0) := (blk_cell BK107.out 3).trans rfl; have hcz10_4 : w9.cell? ⟨gb107, 4, none⟩ = some (.bool false) := (blk_cell BK107.out 4).trans rfl; have hfz10_0 := blk_frozen BK107.out 0; have hfz10_1 := blk_frozen BK107.out 1; have hfz10_2 := blk_frozen BK107.out 2; have hfz10_3 := blk_frozen BK107.out 3; have hfz10_4 := blk_frozen BK107.out 4))
    refine bodyPost_ret (results_ct rfl _ _ gb107 24 #[.int .i64 8, .int .u32 7, .int .u32 0, .int .u32 0, .bool false] (0, 0) _ rfl (by (with_reducible repeat (first | refine blk_drewN ?_ _ | refine blk_drew ?_ | refine blk_alloc ?_ _)); refine blk_put (cs := #[.int .i64 8, .int .u32 7, .int .u32 0, .int .u32 0, .bool false]) ?_ 4 _ rfl; (with_reducible repeat (first | refine blk_drewN ?_ _ | refine blk_drew ?_ | refine blk_alloc ?_ _)); refine blk_put (cs := #[.int .i64 8, .int .u32 7, .int .u32 0, .int .u32 0, .bool false]) ?_ 3 _ rfl; (with_reducible repeat (first | refine blk_drewN ?_ _ | refine blk_drew ?_ | refine blk_alloc ?_ _)); refine blk_put (cs := #[.int .i64 8, .int .u32 7, .int .u32 0, .int .u32 0, .bool false]) ?_ 2 _ rfl; (with_reducible repeat (first | refine blk_drewN ?_ _ | refine blk_drew ?_ | refine blk_alloc ?_ _)); refine blk_put (cs := #[.int .i64 8, .int .u32 0, .int .u32 0, .int .u32 0, .bool false]) ?_ 1 _ rfl; (with_reducible repeat (first | refine blk_drewN ?_ _ | refine blk_drew ?_ | refine blk_alloc ?_ _)); refine blk_put (cs := #[.int .i64 0, .int .u32 0, .int .u32 0, .int .u32 0, .bool false]) ?_ 0 _ rfl; (with_reducible repeat (first | refine blk_drewN ?_ _ | refine blk_drew ?_ | refine blk_alloc ?_ _)); exact BK107.out) Try.underlying24 rfl (by kernel_rfl)) rfl ?_
    exact ⟨by first | rfl | (simp [errW_none, errW_some] <;> rfl) | (simp [*, errW_none, errW_some] <;> rfl), by repeat (first | (with_reducible first | exact HB.out | apply below_alloc | apply pw_below_drewN | apply below_drew1 | refine below_set ?_ GE107.out) | exact HB.out)⟩
   ·rw [if_neg c8] at H
    have c8b0 : (a0.toList == ([98, 121, 116, 101] : List UInt8)) = false := beq_eq_false_iff_ne.mpr c8
    have c8b1 : (a0.toList != ([98, 121, 116, 101] : List UInt8)) = true := bne_iff_ne.mpr c8
    by_cases c11 : a0.toList = ([112, 103, 112] : List UInt8)
    ·rw [if_pos c11] at H
     have c11b0 : (a0.toList == ([112, 103, 112] : List UInt8)) = true := beq_iff_eq.mpr c11
     have c11b1 : (a0.toList != ([112, 103, 112] : List UInt8)) = false := bne_eq_false_iff_eq.mpr c11
     clear c11
     simp only [Option.some.injEq, Prod.mk.injEq] at H
     obtain ⟨rfl, rfl, rfl, rfl, rfl, rfl⟩ := H
     go_enter Try.func29, Try.ntmps29
     go_wp2_with (first | ((with_reducible refine gate_dst (N := 2) rfl ?_); refine box_event ?hg (N := 2) ?hd (cs := #[.int .i64 0, .int .u32 0, .int .u32 0, .int .u32 0, .bool false]) (t := 24) ?hr ?_; (case hd => rfl); (case hg => rfl); (case hr => first | (go_simp; done) | (go_simp; rfl)); intro gb107 hg w12 hbox hb; have n0_ := Aside0.mk (below_step (by repeat (first | (with_reducible first | exact HB.out | apply below_alloc | apply pw_below_drewN | apply below_drew1) | exact HB.out)) hb); have n1_ := Aside0.mk (hbox); have n2_ := Aside0.mk ((by rw [hg]; exact (below_size (by repeat (first | (with_reducible first | exact HB.out | apply below_alloc | apply pw_below_drewN | apply below_drew1) | exact HB.out))) : w.heap.size ≤ gb107)); have n3_ := Aside0.mk ((by rw [hg]; exact (below_size (by repeat (first | (with_reducible first | exact HB.out | apply below_alloc | apply pw_below_drewN | apply below_drew1) | exact HB.out))) : w.heap.size ≤ gb107)); clear HB; have HB := n0_; have BK107 := n1_; have GW107 := n2_; have GE107 := n3_; clear n0_ n1_ n2_ n3_; clear hb hbox hg; have hcz13_0 : w12.cell? ⟨gb107, 0, none⟩ = some (.int .i64 0) := (blk_cell BK107.out 0).trans rfl; have hcz13_1 : w12.cell? ⟨gb107, 1, none⟩ = some (.int .u32 0) := (blk_cell BK107.out 1).trans rfl; have hcz13_2 : w12.cell? ⟨gb107, 2, none⟩ = some (.int .u32 0) := (blk_cell BK107.out 2).trans rfl; have hcz13_3 : w12.cell? ⟨gb107, 3, none⟩ = some (.int .u32 0) := (blk_cell BK107.out 3).trans rfl; have hcz13_4 : w12.cell? ⟨gb107, 4, none⟩ = some (.bool false) := (blk_cell BK107.out 4).trans rfl; have hfz13_0 := blk_frozen BK107.out 0; have hfz13_1 := blk_frozen BK107.out 1; have hfz13_2 := blk_frozen BK107.out 2; have hfz13_3 := blk_frozen BK107.out 3; have hfz13_4 := blk_frozen BK107.out 4))
     refine bodyPost_ret (results_ct rfl _ _ gb107 24 #[.int .i64 24, .int .u32 8801531, .int .u32 11994318, .int .u32 0, .bool false] (0, 0) _ rfl (by (with_reducible repeat (first | refine blk_drewN ?_ _ | refine blk_drew ?_ | refine blk_alloc ?_ _)); refine blk_put (cs := #[.int .i64 24, .int .u32 8801531, .int .u32 11994318, .int .u32 0, .bool false]) ?_ 4 _ rfl; (with_reducible repeat (first | refine blk_drewN ?_ _ | refine blk_drew ?_ | refine blk_alloc ?_ _)); refine blk_put (cs := #[.int .i64 24, .int .u32 8801531, .int .u32 11994318, .int .u32 0, .bool false]) ?_ 3 _ rfl; (with_reducible repeat (first | refine blk_drewN ?_ _ | refine blk_drew ?_ | refine blk_alloc ?_ _)); refine blk_put (cs := #[.int .i64 24, .int .u32 8801531, .int .u32 0, .int .u32 0, .bool false]) ?_ 2 _ rfl; (with_reducible repeat (first | refine blk_drewN ?_ _ | refine blk_drew ?_ | refine blk_alloc ?_ _)); refine blk_put (cs := #[.int .i64 24, .int .u32 0, .int .u32 0, .int .u32 0, .bool false]) ?_ 1 _ rfl; (with_reducible repeat (first | refine blk_drewN ?_ _ | refine blk_drew ?_ | refine blk_alloc ?_ _)); refine blk_put (cs := #[.int .i64 0, .int .u32 0, .int .u32 0, .int .u32 0, .bool false]) ?_ 0 _ rfl; (with_reducible repeat (first | refine blk_drewN ?_ _ | refine blk_drew ?_ | refine blk_alloc ?_ _)); exact BK107.out) Try.underlying24 rfl (by kernel_rfl)) rfl ?_
     exact ⟨by first | rfl | (simp [errW_none, errW_some] <;> rfl) | (simp [*, errW_none, errW_some] <;> rfl), by repeat (first | (with_reducible first | exact HB.out | apply below_alloc | apply pw_below_drewN | apply below_drew1 | refine below_set ?_ GE107.out) | exact HB.out)⟩
    ·rw [if_neg c11] at H
     have c11b0 : (a0.toList == ([112, 103, 112] : List UInt8)) = false := beq_eq_false_iff_ne.mpr c11
     have c11b1 : (a0.toList != ([112, 103, 112] : List UInt8)) = true := bne_iff_ne.mpr c11
     simp only [Option.some.injEq, Prod.mk.injEq] at H
     obtain ⟨rfl, rfl, rfl, rfl, rfl, rfl⟩ := H
     go_enter Try.func29, Try.ntmps29
     go_wp2_with (first | ((with_reducible refine gate_dst (N := 2) rfl ?_); refine box_event ?hg (N := 2) ?hd (cs := #[.int .i64 0, .int .u32 0, .int .u32 0, .int .u32 0, .bool false]) (t := 24) ?hr ?_; (case hd => rfl); (case hg => rfl); (case hr => first | (go_simp; done) | (go_simp; rfl)); intro gb107 hg w14 hbox hb; have n0_ := Aside0.mk (below_step (by repeat (first | (with_reducible first | exact HB.out | apply below_alloc | apply pw_below_drewN | apply below_drew1) | exact HB.out)) hb); have n1_ := Aside0.mk (hbox); have n2_ := Aside0.mk ((by rw [hg]; exact (below_size (by repeat (first | (with_reducible first | exact HB.out | apply below_alloc | apply pw_below_drewN | apply below_drew1) | exact HB.out))) : w.heap.size ≤ gb107)); have n3_ := Aside0.mk ((by rw [hg]; exact (below_size (by repeat (first | (with_reducible first | exact HB.out | apply below_alloc | apply pw_below_drewN | apply below_drew1) | exact HB.out))) : w.heap.size ≤ gb107)); clear HB; have HB := n0_; have BK107 := n1_; have GW107 := n2_; have GE107 := n3_; clear n0_ n1_ n2_ n3_; clear hb hbox hg; have hcz15_0 : w14.cell? ⟨gb107, 0, none⟩ = some (.int .i64 0) := (blk_cell BK107.out 0).trans rfl; have hcz15_1 : w14.cell? ⟨gb107, 1, none⟩ = some (.int .u32 0) := (blk_cell BK107.out 1).trans rfl; have hcz15_2 : w14.cell? ⟨gb107, 2, none⟩ = some (.int .u32 0) := (blk_cell BK107.out 2).trans rfl; have hcz15_3 : w14.cell? ⟨gb107, 3, none⟩ = some (.int .u32 0) := (blk_cell BK107.out 3).trans rfl; have hcz15_4 : w14.cell? ⟨gb107, 4, none⟩ = some (.bool false) := (blk_cell BK107.out 4).trans rfl; have hfz15_0 := blk_frozen BK107.out 0; have hfz15_1 := blk_frozen BK107.out 1; have hfz15_2 := blk_frozen BK107.out 2; have hfz15_3 := blk_frozen BK107.out 3; have hfz15_4 := blk_frozen BK107.out 4))
     refine bodyPost_ret (results_ct rfl _ _ gb107 24 #[.int .i64 0, .int .u32 0, .int .u32 0, .int .u32 0, .bool false] (0, 0) _ rfl (by (with_reducible repeat (first | refine blk_drewN ?_ _ | refine blk_drew ?_ | refine blk_alloc ?_ _)); refine blk_put (cs := #[.int .i64 0, .int .u32 0, .int .u32 0, .int .u32 0, .bool false]) ?_ 4 _ rfl; (with_reducible repeat (first | refine blk_drewN ?_ _ | refine blk_drew ?_ | refine blk_alloc ?_ _)); refine blk_put (cs := #[.int .i64 0, .int .u32 0, .int .u32 0, .int .u32 0, .bool false]) ?_ 3 _ rfl; (with_reducible repeat (first | refine blk_drewN ?_ _ | refine blk_drew ?_ | refine blk_alloc ?_ _)); refine blk_put (cs := #[.int .i64 0, .int .u32 0, .int .u32 0, .int .u32 0, .bool false]) ?_ 2 _ rfl; (with_reducible repeat (first | refine blk_drewN ?_ _ | refine blk_drew ?_ | refine blk_alloc ?_ _)); refine blk_put (cs := #[.int .i64 0, .int .u32 0, .int .u32 0, .int .u32 0, .bool false]) ?_ 1 _ rfl; (with_reducible repeat (first | refine blk_drewN ?_ _ | refine blk_drew ?_ | refine blk_alloc ?_ _)); refine blk_put (cs := #[.int .i64 0, .int .u32 0, .int .u32 0, .int .u32 0, .bool false]) ?_ 0 _ rfl; (with_reducible repeat (first | refine blk_drewN ?_ _ | refine blk_drew ?_ | refine blk_alloc ?_ _)); exact BK107.out) Try.underlying24 rfl (by kernel_rfl)) rfl ?_
     exact ⟨by first | rfl | (simp [errW_none, errW_some] <;> rfl) | (simp [*, errW_none, errW_some] <;> rfl), by repeat (first | (with_reducible first | exact HB.out | apply below_alloc | apply pw_below_drewN | apply below_drew1 | refine below_set ?_ GE107.out) | exact HB.out)⟩

/-! ### outpostlaw03_knows: function 11, given -/
theorem crc_lit_C (W : World) (g : Nat) (hg : g = W.heap.size) : Kd.C (Kd.int .u8) (W.alloc (.cells #[.int .u8 49, .int .u8 50, .int .u8 51, .int .u8 52, .int .u8 53, .int .u8 54, .int .u8 55, .int .u8 56, .int .u8 57] 5 (9, 10))) (some ⟨g, 0, none⟩) ([49, 50, 51, 52, 53, 54, 55, 56, 57] : List Int).length [49, 50, 51, 52, 53, 54, 55, 56, 57] := by
 refine Kd.C_of_reads (d := (0 : Int)) (h1 := fun _ => rfl) ⟨rfl, by decide, fun _ => ⟨_, rfl, fun j hj => ?_⟩⟩
 have hc := fun i => Go.Joins.cell_alloc_mark_at W #[.int .u8 49, .int .u8 50, .int .u8 51, .int .u8 52, .int .u8 53, .int .u8 54, .int .u8 55, .int .u8 56, .int .u8 57] 5 (9, 10) g i hg
 match j, hj with
 | 0, _ => exact hc 0
 | 1, _ => exact hc 1
 | 2, _ => exact hc 2
 | 3, _ => exact hc 3
 | 4, _ => exact hc 4
 | 5, _ => exact hc 5
 | 6, _ => exact hc 6
 | 7, _ => exact hc 7
 | 8, _ => exact hc 8
def outpostlaw03_knows.f : Option Bool := some true
set_option maxHeartbeats 8000000 in
set_option maxRecDepth 100000 in
theorem outpostlaw03_knows.calls (r : Bool) (w : World) (h : outpostlaw03_knows.f = some r) :
  Calls Try.prog 11 #[] w fun e w' => e = .returned (.bool r) ∧ Below w.heap.size w w' := by
 obtain rfl := Option.some.inj h
 have hu24 := Try.underlying24
 have HB := Aside0.mk (Below.refl w.heap.size w)
 have hn : crc_Named.f (⟨#[105, 101, 101, 101]⟩ : ByteArray) = some (32, 79764919, 4294967295, 4294967295, true, 0) := by decide +kernel
 have HN := Aside0.mk hn
 have HS : Aside0 (crc_Sum.f 32 79764919 4294967295 4294967295 true [49, 50, 51, 52, 53, 54, 55, 56, 57] = some (3421780262, 0)) := ⟨by decide +kernel⟩
 have kc := fun (W : World) (C : Array Value) (n c g : Nat) (hg : g = W.heap.size) => Go.Joins.run_convert_bytes_const_at (P := Try.prog) W 25 5 C n c g hg Try.underlying25 Try.underlying5
 clear h hn
 go_enter Try.func11, Try.ntmps11
 go_wp2_with (first | (go_at_call 29; refine (crc_Named.calls _ 32 79764919 4294967295 4294967295 true 0 _ HN.out).mono ?_; rintro e w1 ⟨rfl, hb⟩; have n0_ := Aside0.mk (below_step HB.out hb); clear HB; have HB := n0_; clear n0_; clear hb) | (go_at_call 24; refine (crc_Sum.calls 32 79764919 4294967295 4294967295 true _ 9 [49, 50, 51, 52, 53, 54, 55, 56, 57] 3421780262 0 _ (crc_lit_C (w1.alloc (.cells #[.int .i64 32, .int .u32 79764919, .int .u32 4294967295, .int .u32 4294967295, .bool true] 24)) (w1.heap.size + 1) (Array.size_push _).symm) (Nat.le_refl 9) HS.out).mono ?_; rintro e w2 ⟨rfl, hb⟩; have n0_ := Aside0.mk (below_step (below_alloc (below_alloc HB.out _) _) hb); clear HB; have HB := n0_; clear n0_ hb) | (go_at_call 9; refine (outpostlaw03_num.calls 0 0 _ rfl).mono ?_; rintro e w3 ⟨rfl, hd⟩; have n0_ := Aside0.mk (below_step HB.out hd.below); clear HB; have HB := n0_; clear n0_ hd))
 go_ret
 exact ⟨rfl, HB.out⟩

-- NOT PRINTED: function 3 (outpostlaw03_CrcOwn)

end Go.Proofs.Ytbcejldbmemaeaa.P

-- squeezed
