-- written by mk.sh, a program of this session, over the kit's print
import Derived.Test.YtaoeehnnboegnaaFpPx0
import Derived.Test.YtaoeehnnboegnaaFpPx1
namespace Go.Proofs.Ytaoeehnnboegnaa.P
open Go.RowKit Go.Proofs.YtaoeehnnboegnaaW.PrintWords Go.Proofs.YtaoeehnnboegnaaW.PrintLast Go.Proofs.YtaoeehnnboegnaaW.PrintMore
attribute [local go_sem] max2_int min2_int max_two min_two max_three min_three max_four min_four   -- for this text's walks alone
set_option linter.unusedVariables false
set_option linter.unusedSimpArgs false

/-! ### crc_fit: function 42, given -/
theorem crc_fit1_calls (a0 : Int) (w : World) : Calls Try.prog 51 #[.int .u8 a0] w fun e w' => e = .returned (.int .u8 a0) ∧ w = w' := by
 go_enter Try.func51, Try.ntmps51
 go_wp2
 go_ret
 exact ⟨rfl, rfl⟩
theorem crc_fit2_calls (a0 : Int) (w : World) : Calls Try.prog 52 #[.int .u32 a0] w fun e w' => e = .returned (.int .u32 a0) ∧ w = w' := by
 go_enter Try.func52, Try.ntmps52
 go_wp2
 go_ret
 exact ⟨rfl, rfl⟩
set_option maxHeartbeats 8000000 in
theorem bits_ReverseBytes32_calls (x : Nat) (w : World) (hx : x < 4294967296) : Calls Try.prog 60 #[.int .u32 (x : Int)] w fun e w' => e = .returned (.int .u32 ((Crc.rbs x : Nat) : Int)) ∧ w = w' := by
 have HX := aK (Crc.rbs_int x hx)
 clear hx
 go_enter Try.func60, Try.ntmps60
 go_wp2
 go_ret
 exact ⟨congrArg (fun z => Ending.returned (Value.int .u32 z)) HX.out, rfl⟩
set_option maxHeartbeats 8000000 in
theorem bits_Reverse32_calls (x : Nat) (w : World) (hx : x < 4294967296) : Calls Try.prog 56 #[.int .u32 (x : Int)] w fun e w' => e = .returned (.int .u32 ((Crc.rev x 32 : Nat) : Int)) ∧ w = w' := by
 have H1 := Crc.swp_int 1431655765 1 2 x rfl (by omega) hx
 have L1 := Crc.swp_lt 1431655765 1 x (by omega)
 have H2 := Crc.swp_int 858993459 2 4 (Crc.swp 1431655765 1 x) rfl (by omega) L1
 have L2 := Crc.swp_lt 858993459 2 (Crc.swp 1431655765 1 x) (by omega)
 have H3 := Crc.swp_int 252645135 4 16 (Crc.swp 858993459 2 (Crc.swp 1431655765 1 x)) rfl (by omega) L2
 have L3 := aK (Crc.swp_lt 252645135 4 (Crc.swp 858993459 2 (Crc.swp 1431655765 1 x)) (by omega))
 have R := aK (Crc.rev32 x hx)
 simp only [show ((2 : Nat) : Int) = 2 from rfl, show ((4 : Nat) : Int) = 4 from rfl, show ((16 : Nat) : Int) = 16 from rfl, show ((1431655765 : Nat) : Int) = 1431655765 from rfl, show ((858993459 : Nat) : Int) = 858993459 from rfl, show ((252645135 : Nat) : Int) = 252645135 from rfl] at H1 H2 H3
 clear L1 L2 hx
 go_enter Try.func56, Try.ntmps56
 go_wp2_with (first | (go_at_call 60; refine (bits_ReverseBytes32_calls _ _ L3.out).mono ?_; rintro e w' ⟨rfl, rfl⟩))
 go_ret
 exact ⟨congrArg (fun z => Ending.returned (Value.int .u32 z)) (congrArg (fun n : Nat => (n : Int)) R.out), rfl⟩
set_option maxHeartbeats 8000000 in
theorem crc_fit4_calls (p W K x : Nat) (P I O : Int) (R : Bool) (w : World) (hx : x < 4294967296) (hK : W + K = 32) (hb : w.heap[p]? = some (.cells #[.int .i64 (W : Int), .int .u32 P, .int .u32 I, .int .u32 O, .bool R] 24 (0, 0))) :
  Calls Try.prog 55 #[.int .u32 (x : Int), .pointer (some ⟨p, 0, none⟩)] w fun e w' => e = .returned (.int .u32 ((Crc.rev x 32 / 2 ^ K : Nat) : Int)) ∧ ∃ m, w' = w.drewN m := by
 have c0 : w.cell? ⟨p, 0, none⟩ = some (.int .i64 (W : Int)) := (blk_cell hb 0).trans rfl
 have HX := Aside0.mk hx
 have HK := Aside0.mk hK
 have k1 : (0 : Int) ≤ 32 - (W : Int) := by omega
 have k3 : IntKind.i64.wrap (32 - (W : Int)) = 32 - (W : Int) := IntWalk.i64_in _ (by omega)
 clear hx hK hb
 go_enter Try.func55, Try.ntmps55
 go_wp2
 go_quiet ((go_at_call 56; exact Calls.quiet_of_same ((bits_Reverse32_calls _ _ HX.out).mono fun e w' h => ⟨h.1, h.2.symm⟩)))
 go_wp2
 go_ret
 exact ⟨congrArg (fun z => Ending.returned (Value.int .u32 z)) (by rw [show 32 - W = K by have := HK.out; omega]; simp), ⟨_, rfl⟩⟩
set_option maxHeartbeats 8000000 in
set_option maxRecDepth 100000 in
theorem crc_high_calls (W K c n1 n2 n3 : Nat) (P I O : Int) (R : Bool) (cp1 cp2 cp3 : Array Value) (w : World) (hK : W + K = 32) (hc : c < 4294967296) :
  Calls Try.prog 48 #[.agg #[.int .i64 (W : Int), .int .u32 P, .int .u32 I, .int .u32 O, .bool R, .func (.func n1) #[] cp1, .func (.func n2) #[] cp2, .func (.func n3) #[] cp3], .int .u32 (c : Int)] w fun e w' => e = .returned (.int .u32 ((c * 2 ^ K % 4294967296 : Nat) : Int)) ∧ Below w.heap.size w w' := by
 have hu24 := Try.underlying24
 have hu55 := Try.underlying79
 have HB := aK (Below.refl w.heap.size w)
 have HK := Aside0.mk hK
 have HC := Aside0.mk hc
 have k1 : (0 : Int) ≤ 32 - (W : Int) := by omega
 have k3 : IntKind.i64.wrap (32 - (W : Int)) = 32 - (W : Int) := IntWalk.i64_in _ (by omega)
 clear hK hc
 go_enter Try.func48, Try.ntmps48
 go_wp2_with (first | ((with_reducible refine gate_dst (N := 2) rfl ?_); refine box_event ?hg (N := 2) ?hd (cs := #[.int .i64 (W : Int), .int .u32 P, .int .u32 I, .int .u32 O, .bool R, .func (.func n1) #[] cp1, .func (.func n2) #[] cp2, .func (.func n3) #[] cp3]) (t := 79) ?hr ?_; (case hd => rfl); (case hg => rfl); (case hr => first | (go_simp; done) | (go_simp; rfl)); intro g hg_ wg hbox_ hb_; have n0_ := aK (below_step HB.out hb_); have n1_ := Aside0.mk hbox_; have n2_ := aK ((by rw [hg_]; exact below_size HB.out) : w.heap.size ≤ g); clear HB; have HB := n0_; have BKg := n1_; have GEg := n2_; clear n0_ n1_ n2_; clear hb_ hbox_ hg_; have hcg_0 : wg.cell? ⟨g, 0, none⟩ = some (.int .i64 (W : Int)) := (blk_cell BKg.out 0).trans rfl; have hfg_0 := blk_frozen BKg.out 0; have hcg_1 : wg.cell? ⟨g, 1, none⟩ = some (.int .u32 P) := (blk_cell BKg.out 1).trans rfl; have hfg_1 := blk_frozen BKg.out 1; have hcg_2 : wg.cell? ⟨g, 2, none⟩ = some (.int .u32 I) := (blk_cell BKg.out 2).trans rfl; have hfg_2 := blk_frozen BKg.out 2; have hcg_3 : wg.cell? ⟨g, 3, none⟩ = some (.int .u32 O) := (blk_cell BKg.out 3).trans rfl; have hfg_3 := blk_frozen BKg.out 3; have hcg_4 : wg.cell? ⟨g, 4, none⟩ = some (.bool R) := (blk_cell BKg.out 4).trans rfl; have hfg_4 := blk_frozen BKg.out 4; have hcg_5 : wg.cell? ⟨g, 5, none⟩ = some (.func (.func n1) #[] cp1) := (blk_cell BKg.out 5).trans rfl; have hfg_5 := blk_frozen BKg.out 5; have hcg_6 : wg.cell? ⟨g, 6, none⟩ = some (.func (.func n2) #[] cp2) := (blk_cell BKg.out 6).trans rfl; have hfg_6 := blk_frozen BKg.out 6; have hcg_7 : wg.cell? ⟨g, 7, none⟩ = some (.func (.func n3) #[] cp3) := (blk_cell BKg.out 7).trans rfl; have hfg_7 := blk_frozen BKg.out 7))
 go_ret
 exact ⟨congrArg (fun z => Ending.returned (Value.int .u32 z)) (by rw [show 32 - W = K by have := HK.out; omega]; simp), HB.out⟩
set_option maxHeartbeats 8000000 in
set_option maxRecDepth 100000 in
theorem crc_step_calls (W K P c n1 n2 n3 : Nat) (I O : Int) (R : Bool) (cp1 cp2 cp3 : Array Value) (w : World) (hK : W + K = 32) (hP : P < 2 ^ W) (hc : c < 4294967296) :
  Calls Try.prog 49 #[.agg #[.int .i64 (W : Int), .int .u32 P, .int .u32 I, .int .u32 O, .bool R, .func (.func n1) #[] cp1, .func (.func n2) #[] cp2, .func (.func n3) #[] cp3], .int .u32 (c : Int)] w fun e w' => e = .returned (.int .u32 ((Crc.stpN 32 (P * 2 ^ K) 8 c : Nat) : Int)) ∧ Below w.heap.size w w' := by
 have hu24 := Try.underlying24
 have hu55 := Try.underlying79
 have HB := aK (Below.refl w.heap.size w)
 have HK := Aside0.mk hK
 have HC := Aside0.mk hc
 have hPK : P * 2 ^ K < 4294967296 := by
  have : P * 2 ^ K < 2 ^ W * 2 ^ K := Nat.mul_lt_mul_of_pos_right hP (Nat.pow_pos (by omega))
  rwa [← Nat.pow_add, hK] at this
 have hP32 : P < 4294967296 := Nat.lt_of_lt_of_le hP (show 2 ^ W ≤ 2 ^ 32 from Nat.pow_le_pow_right (by omega) (by omega))
 have hmod : P * 2 ^ K % 4294967296 = P * 2 ^ K := Nat.mod_eq_of_lt hPK
 obtain ⟨Q, hQ⟩ : ∃ Q, Q = P * 2 ^ K := ⟨_, rfl⟩
 rw [← hQ] at hPK hmod ⊢
 have HQ := Aside0.mk hQ
 have HPK := Aside0.mk hPK
 have HP := Aside0.mk hP32
 have HM := Aside0.mk hmod
 obtain ⟨r, hr⟩ : ∃ r, r = Crc.stpN 32 Q 8 c := ⟨_, rfl⟩
 rw [← hr]
 have HR := Aside0.mk hr
 clear hK hc hP hPK hP32 hmod hQ hr
 go_enter Try.func49, Try.ntmps49
 go_wp2_with (first | ((with_reducible refine gate_dst (N := 2) rfl ?_); refine box_event ?hg (N := 2) ?hd (cs := #[.int .i64 (W : Int), .int .u32 P, .int .u32 I, .int .u32 O, .bool R, .func (.func n1) #[] cp1, .func (.func n2) #[] cp2, .func (.func n3) #[] cp3]) (t := 79) ?hr ?_; (case hd => rfl); (case hg => rfl); (case hr => first | (go_simp; done) | (go_simp; rfl)); intro g hg_ wg hbox_ hb_; have n0_ := aK (below_step HB.out hb_); have n1_ := Aside0.mk hbox_; have n2_ := aK ((by rw [hg_]; exact below_size HB.out) : w.heap.size ≤ g); clear HB; have HB := n0_; have BKg := n1_; have GEg := n2_; clear n0_ n1_ n2_; clear hb_ hbox_ hg_; have hcg_0 : wg.cell? ⟨g, 0, none⟩ = some (.int .i64 (W : Int)) := (blk_cell BKg.out 0).trans rfl; have hfg_0 := blk_frozen BKg.out 0; have hcg_1 : wg.cell? ⟨g, 1, none⟩ = some (.int .u32 P) := (blk_cell BKg.out 1).trans rfl; have hfg_1 := blk_frozen BKg.out 1; have hcg_2 : wg.cell? ⟨g, 2, none⟩ = some (.int .u32 I) := (blk_cell BKg.out 2).trans rfl; have hfg_2 := blk_frozen BKg.out 2; have hcg_3 : wg.cell? ⟨g, 3, none⟩ = some (.int .u32 O) := (blk_cell BKg.out 3).trans rfl; have hfg_3 := blk_frozen BKg.out 3; have hcg_4 : wg.cell? ⟨g, 4, none⟩ = some (.bool R) := (blk_cell BKg.out 4).trans rfl; have hfg_4 := blk_frozen BKg.out 4; have hcg_5 : wg.cell? ⟨g, 5, none⟩ = some (.func (.func n1) #[] cp1) := (blk_cell BKg.out 5).trans rfl; have hfg_5 := blk_frozen BKg.out 5; have hcg_6 : wg.cell? ⟨g, 6, none⟩ = some (.func (.func n2) #[] cp2) := (blk_cell BKg.out 6).trans rfl; have hfg_6 := blk_frozen BKg.out 6; have hcg_7 : wg.cell? ⟨g, 7, none⟩ = some (.func (.func n3) #[] cp3) := (blk_cell BKg.out 7).trans rfl; have hfg_7 := blk_frozen BKg.out 7) | (go_at_call 48; refine (crc_high_calls W K P n1 n2 n3 _ _ _ _ _ _ _ _ HK.out HP.out).mono ?_; rintro e w1 ⟨rfl, hb⟩; rw [← HQ.out, HM.out]; have n0_ := aK (below_step HB.out hb); clear HB; have HB := n0_; clear n0_ hb))
 go_loopg [1, 11] 8 (fun kq v1 v11 w' => ∃ (x : Nat), v1 = .int .u32 (x : Int) ∧ v11 = .int .i64 ((8 - kq : Nat) : Int) ∧ Aside0 (kq ≤ 8) ∧ Aside0 (x < 4294967296) ∧ Aside0 (r = Crc.stpN 32 Q kq x) ∧ Aside0 (Below w.heap.size w w'))
 case atStart => exact ⟨c, rfl, rfl, ⟨by omega⟩, HC, HR, HB⟩
 case round =>
  clear HC HR HB
  obtain ⟨x, rfl, rfl, HL, HC, HR, HB⟩ := hrel
  cases gk with
  | zero =>
   have hj : decide (((8 - 0 : Nat) : Int) < 8) = false := by decide
   have e := HR.out
   simp only [Crc.stpN] at e
   subst e
   go_wp2
   go_ret
   exact ⟨rfl, HB.out⟩
  | succ k1 =>
   have hj : decide (((8 - (k1 + 1) : Nat) : Int) < 8) = true := decide_eq_true (by omega)
   have hj2 : ((8 - (k1 + 1) : Nat) : Int) ≤ 8 := by omega
   have hj3 : (0 : Int) ≤ ((8 - (k1 + 1) : Nat) : Int) := by omega
   have e1 : (x : Int) * 2 % 4294967296 = ((2 * x % 2 ^ 32 : Nat) : Int) := by
    rw [Nat.mul_comm]; simp
   have e2 : (x : Int) / 2147483648 = ((x / 2147483648 : Nat) : Int) := by simp
   have hx2 : x / 2147483648 < 2 := by have := HC.out; omega
   have hlt : 2 * x % 2 ^ 32 < 4294967296 := Nat.mod_lt _ (by omega)
   have E1 := Aside0.mk e1
   have HLT := Aside0.mk hlt
   by_cases hb : x / 2147483648 = 1
   ·have ht : ((x : Int) / 2147483648 == 1) = true := by rw [e2, hb]; rfl
    have hs : Crc.stp 32 Q x = (2 * x % 2 ^ 32) ^^^ Q := by
     unfold Crc.stp
     rw [if_pos]
     rw [Nat.testBit_eq_decide_div_mod_eq, show 2 ^ (32 - 1) = 2147483648 from rfl, hb]
     rfl
    have HS := Aside0.mk hs
    clear e1 e2 hx2 hlt hb hs
    go_wp2
    go_roundg k1
    case measure => omega
    case rel => exact ⟨Crc.stp 32 Q x, congrArg (Value.int .u32) (by rw [E1.out, Crc.bxor32 _ _ HLT.out HPK.out, HS.out]), congrArg (Value.int .i64) (by have := HL.out; first | omega | (unfold wrap64; omega)), ⟨by have := HL.out; omega⟩, ⟨by rw [HS.out]; exact Nat.xor_lt_two_pow (n := 32) HLT.out HPK.out⟩, ⟨HR.out⟩, HB⟩
   ·have ht : ((x : Int) / 2147483648 == 1) = false := by rw [e2]; exact beq_eq_false_iff_ne.2 (by omega)
    have hs : Crc.stp 32 Q x = 2 * x % 2 ^ 32 := by
     unfold Crc.stp
     rw [if_neg]
     rw [Nat.testBit_eq_decide_div_mod_eq, show 2 ^ (32 - 1) = 2147483648 from rfl, show x / 2147483648 = 0 by omega]
     decide
    have HS := Aside0.mk hs
    clear e1 e2 hx2 hlt hb hs
    go_wp2
    go_roundg k1
    case measure => omega
    case rel => exact ⟨Crc.stp 32 Q x, congrArg (Value.int .u32) (by rw [E1.out, HS.out]), congrArg (Value.int .i64) (by have := HL.out; first | omega | (unfold wrap64; omega)), ⟨by have := HL.out; omega⟩, ⟨by rw [HS.out]; exact HLT.out⟩, ⟨HR.out⟩, HB⟩
set_option maxHeartbeats 8000000 in
set_option maxRecDepth 100000 in
theorem crc_lay3_calls (q m x : Nat) (w : World) (hx : x < 4294967296) (hm : m ≤ 4) (hq : w.heap[q]? = some (.cells #[.int .i64 (m : Int)] 3 (0, 0))) :
  Calls Try.prog 53 #[.int .u32 (x : Int), .pointer (some ⟨q, 0, none⟩)] w fun e w' => ∃ v0_ : Value, e = .returned v0_ ∧ Kd.R (Kd.int .u8) 5 w' w.heap.size (fun _ => True) v0_ ((Crc.layl false m x).map (fun n : Nat => (n : Int))) ∧ Below w.heap.size w w' := by
 have hc : w.cell? ⟨q, 0, none⟩ = some (.int .i64 (m : Int)) := (blk_cell hq 0).trans rfl
 have HC := Aside0.mk hc
 have HX := Aside0.mk hx
 have HM := Aside0.mk hm
 have hl0 : (0 : Int) ≤ (m : Int) := by omega
 clear hx hm hq
 go_enter Try.func53, Try.ntmps53
 go_wp2_with (first | ((with_reducible refine gate_dst (N := 7) rfl ?_); refine Kd.R_make (Kd.int .u8) _ 5 rfl (N := 7) rfl 27 _ _ rfl (m : Int) rfl rfl Try.underlying27 (.int .u8 0) 1 info5 rfl (by decide) (by omega) 0 (ok := fun _ => True) (okp := fun _ => True) rfl (fun _ hk => hk) trivial hl0 (by have := HM.out; omega) (Below.refl _ _) (Nat.le_refl _) ?_; intro v220 w7 ho8 hb hg_ hnew_; clear hg_ hnew_; rw [Int.toNat_natCast] at ho8; have HO := Aside0.mk ho8; have HB := Aside0.mk hb; have hc7 := (hb.cell (World.block_lt_of_cell? w _ HC.out)).trans HC.out; clear hb ho8; obtain ⟨Ao9, co9, eo9⟩ := Kd.R_slice HO.out; subst eo9; have hlr : (List.replicate m (0 : Int)).length = m := List.length_replicate; rw [hlr] at HO))
 go_loopg [9] m (fun kq v9 w' => ∃ (out : List Int) (i : Nat), v9 = .int .i64 (i : Int) ∧ Aside0 (i + kq = m) ∧ Aside0 (out.length = m) ∧ Aside0 (∀ j, j < i → out.getD j 0 = (Crc.layc false m x j : Nat)) ∧ Aside0 (Kd.R (Kd.int .u8) 5 w' w.heap.size (fun _ => True) (.slice Ao9 m co9) out) ∧ Aside0 (Below w.heap.size w w'))
 case atStart => exact ⟨List.replicate m 0, 0, rfl, ⟨by omega⟩, ⟨hlr⟩, ⟨fun j hj => by omega⟩, HO, HB⟩
 case round =>
  clear HO HB
  obtain ⟨out, i, rfl, HI, HN, HS, HO, HB⟩ := hrel
  cases gk with
  | zero =>
   have hj : decide (i < m) = false := decide_eq_false (by have := HI.out; omega)
   have e : out = (Crc.layl false m x).map (fun n : Nat => (n : Int)) := Crc.lay_done HN.out (fun j hj => HS.out j (by have := HI.out; omega))
   subst e
   go_wp2
   go_ret
   exact ⟨_, rfl, HO.out, HB.out⟩
  | succ k1 =>
   have hj : decide (i < m) = true := decide_eq_true (by have := HI.out; omega)
   have ti : (i < m) = True := eq_true (of_decide_eq_true hj)
   have hc2 := (HB.out.cell (World.block_lt_of_cell? w _ HC.out)).trans HC.out
   have HIM := aK (of_decide_eq_true hj)
   have k1_ : (i : Int) + 1 ≤ (m : Int) := by have := HIM.out; omega
   have k2_ : (m : Int) ≤ 4 := by have := HM.out; omega
   have HON := HO.out
   rw [← HN.out] at HON
   obtain ⟨go, co, eo, gb, gb2, cl, hgb⟩ := Kd.R_form HON (by have := HN.out; have := HIM.out; omega)
   injection eo with ea en ec
   subst ea ec
   clear hgb gb2 gb HON en cl
   obtain ⟨hc9, hf9⟩ := Kd.R_celln 0 HO.out (i : Int) (by omega) (by have := HN.out; have := HIM.out; omega)
   rw [Int.toNat_natCast] at hc9 hf9
   go_wp2
   go_roundg k1
   case measure => omega
   case rel =>
    have HON := HO.out
    rw [← HN.out] at HON
    obtain ⟨go', co', eo', gb', _, cl', hgb⟩ := Kd.R_form HON (by have := HN.out; have := HIM.out; omega)
    injection eo' with ea' _ _
    injection ea' with ea'
    injection ea' with ea'
    subst ea'
    have hp := Kd.R_putn HO.out (i : Int) ((Crc.layc false m x i : Nat) : Int)
    rw [Int.toNat_natCast] at hp
    have ev : (x : Int) / 2 ^ (8 * (m - 1 - i)) % 256 = ((Crc.layc false m x i : Nat) : Int) := by simp [Crc.layc]
    refine ⟨out.set i ((Crc.layc false m x i : Nat) : Int), i + 1, congrArg (Value.int .i64) (by first | omega | (unfold wrap64; omega)), ⟨by have := HI.out; omega⟩, ⟨by rw [List.length_set]; exact HN.out⟩, ⟨Crc.lay_step (by have := HN.out; have := HIM.out; omega) HS.out⟩, ⟨?_⟩, ⟨HB.out.setCell gb' _⟩⟩
    rw [← ev] at hp ⊢
    exact hp
set_option maxHeartbeats 8000000 in
set_option maxRecDepth 100000 in
theorem crc_lay5_calls (q m x : Nat) (w : World) (hx : x < 4294967296) (hm : m ≤ 4) (hq : w.heap[q]? = some (.cells #[.int .i64 (m : Int)] 3 (0, 0))) :
  Calls Try.prog 57 #[.int .u32 (x : Int), .pointer (some ⟨q, 0, none⟩)] w fun e w' => ∃ v0_ : Value, e = .returned v0_ ∧ Kd.R (Kd.int .u8) 5 w' w.heap.size (fun _ => True) v0_ ((Crc.layl true m x).map (fun n : Nat => (n : Int))) ∧ Below w.heap.size w w' := by
 have hc : w.cell? ⟨q, 0, none⟩ = some (.int .i64 (m : Int)) := (blk_cell hq 0).trans rfl
 have HC := Aside0.mk hc
 have HX := Aside0.mk hx
 have HM := Aside0.mk hm
 have hl0 : (0 : Int) ≤ (m : Int) := by omega
 clear hx hm hq
 go_enter Try.func57, Try.ntmps57
 go_wp2_with (first | ((with_reducible refine gate_dst (N := 7) rfl ?_); refine Kd.R_make (Kd.int .u8) _ 5 rfl (N := 7) rfl 27 _ _ rfl (m : Int) rfl rfl Try.underlying27 (.int .u8 0) 1 info5 rfl (by decide) (by omega) 0 (ok := fun _ => True) (okp := fun _ => True) rfl (fun _ hk => hk) trivial hl0 (by have := HM.out; omega) (Below.refl _ _) (Nat.le_refl _) ?_; intro v220 w7 ho8 hb hg_ hnew_; clear hg_ hnew_; rw [Int.toNat_natCast] at ho8; have HO := Aside0.mk ho8; have HB := Aside0.mk hb; have hc7 := (hb.cell (World.block_lt_of_cell? w _ HC.out)).trans HC.out; clear hb ho8; obtain ⟨Ao9, co9, eo9⟩ := Kd.R_slice HO.out; subst eo9; have hlr : (List.replicate m (0 : Int)).length = m := List.length_replicate; rw [hlr] at HO))
 go_loopg [9] m (fun kq v9 w' => ∃ (out : List Int) (i : Nat), v9 = .int .i64 (i : Int) ∧ Aside0 (i + kq = m) ∧ Aside0 (out.length = m) ∧ Aside0 (∀ j, j < i → out.getD j 0 = (Crc.layc true m x j : Nat)) ∧ Aside0 (Kd.R (Kd.int .u8) 5 w' w.heap.size (fun _ => True) (.slice Ao9 m co9) out) ∧ Aside0 (Below w.heap.size w w'))
 case atStart => exact ⟨List.replicate m 0, 0, rfl, ⟨by omega⟩, ⟨hlr⟩, ⟨fun j hj => by omega⟩, HO, HB⟩
 case round =>
  clear HO HB
  obtain ⟨out, i, rfl, HI, HN, HS, HO, HB⟩ := hrel
  cases gk with
  | zero =>
   have hj : decide (i < m) = false := decide_eq_false (by have := HI.out; omega)
   have e : out = (Crc.layl true m x).map (fun n : Nat => (n : Int)) := Crc.lay_done HN.out (fun j hj => HS.out j (by have := HI.out; omega))
   subst e
   go_wp2
   go_ret
   exact ⟨_, rfl, HO.out, HB.out⟩
  | succ k1 =>
   have hj : decide (i < m) = true := decide_eq_true (by have := HI.out; omega)
   have ti : (i < m) = True := eq_true (of_decide_eq_true hj)
   have hc2 := (HB.out.cell (World.block_lt_of_cell? w _ HC.out)).trans HC.out
   have HIM := aK (of_decide_eq_true hj)
   have k1_ : (i : Int) + 1 ≤ (m : Int) := by have := HIM.out; omega
   have k2_ : (m : Int) ≤ 4 := by have := HM.out; omega
   have HON := HO.out
   rw [← HN.out] at HON
   obtain ⟨go, co, eo, gb, gb2, cl, hgb⟩ := Kd.R_form HON (by have := HN.out; have := HIM.out; omega)
   injection eo with ea en ec
   subst ea ec
   clear hgb gb2 gb HON en cl
   obtain ⟨hc9, hf9⟩ := Kd.R_celln 0 HO.out (i : Int) (by omega) (by have := HN.out; have := HIM.out; omega)
   rw [Int.toNat_natCast] at hc9 hf9
   go_wp2
   go_roundg k1
   case measure => omega
   case rel =>
    have HON := HO.out
    rw [← HN.out] at HON
    obtain ⟨go', co', eo', gb', _, cl', hgb⟩ := Kd.R_form HON (by have := HN.out; have := HIM.out; omega)
    injection eo' with ea' _ _
    injection ea' with ea'
    injection ea' with ea'
    subst ea'
    have hp := Kd.R_putn HO.out (i : Int) ((Crc.layc true m x i : Nat) : Int)
    rw [Int.toNat_natCast] at hp
    have ev : (x : Int) / 2 ^ (8 * i) % 256 = ((Crc.layc true m x i : Nat) : Int) := by simp [Crc.layc]
    refine ⟨out.set i ((Crc.layc true m x i : Nat) : Int), i + 1, congrArg (Value.int .i64) (by first | omega | (unfold wrap64; omega)), ⟨by have := HI.out; omega⟩, ⟨by rw [List.length_set]; exact HN.out⟩, ⟨Crc.lay_step (by have := HN.out; have := HIM.out; omega) HS.out⟩, ⟨?_⟩, ⟨HB.out.setCell gb' _⟩⟩
    rw [← ev] at hp ⊢
    exact hp
theorem crc_store_nilFunc {P : Program} {w : World} {a : Addr} {m : Mode} : (store a .nilFunc m).run P w = stored P w a .nilFunc m := run_store P w a _ m rfl
theorem crc_store_func {P : Program} {w : World} {a : Addr} {m : Mode} (fn : Fn) (first captured : Array Value) : (store a (.func fn first captured) m).run P w = stored P w a (.func fn first captured) m := run_store P w a _ m rfl
attribute [local go_sem] crc_store_nilFunc crc_store_func
/-- The ways of a spec, as the functions have them: p: where the spec lies that one of them holds; q: where the number of the sum's bytes lies. -/
def crc_wv (W P I O : Int) (R : Bool) (p q : Nat) : Array Value :=
 if R then #[.int .i64 W, .int .u32 P, .int .u32 I, .int .u32 O, .bool true, .func (.func 54) #[] #[], .func (.func 55) #[] #[.pointer (some ⟨p, 0, none⟩)], .func (.func 57) #[] #[.pointer (some ⟨q, 0, none⟩)]]
 else #[.int .i64 W, .int .u32 P, .int .u32 I, .int .u32 O, .bool false, .func (.func 51) #[] #[], .func (.func 52) #[] #[], .func (.func 53) #[] #[.pointer (some ⟨q, 0, none⟩)]]
def crc_Held (W : Nat) (P I O : Int) (R : Bool) (p q : Nat) (w : World) : Prop :=
 w.heap[p]? = some (.cells #[.int .i64 (W : Int), .int .u32 P, .int .u32 I, .int .u32 O, .bool R] 24 (0, 0)) ∧ w.heap[q]? = some (.cells #[.int .i64 ((W / 8 : Nat) : Int)] 3 (0, 0))
theorem crc_Held.later {W : Nat} {P I O : Int} {R : Bool} {p q : Nat} {w w' : World} (h : crc_Held W P I O R p q w) (hb : Below w.heap.size w w') : crc_Held W P I O R p q w' := ⟨blk_below h.1 hb, blk_below h.2 hb⟩
def crc_Fit (W : Nat) (P I O : Int) (R : Bool) (w : World) (e : Ending) (w' : World) : Prop :=
 ∃ p q, e = .returned (.agg (crc_wv W P I O R p q)) ∧ crc_Held W P I O R p q w' ∧ Below w.heap.size w w'
theorem crc_new_at {w : World} {o o' : Obj} {n : Nat} (h : n = w.heap.size) (e : o = o') : (w.alloc o).heap[n]? = some o' := by subst h e; exact blk_new w o
set_option maxHeartbeats 8000000 in
set_option maxRecDepth 100000 in
theorem crc_fit_plain (W : Nat) (P I O : Int) (w : World) (hW : W ≤ 32) :
  Calls Try.prog 42 #[.agg #[.int .i64 (W : Int), .int .u32 P, .int .u32 I, .int .u32 O, .bool false]] w (crc_Fit W P I O false w) := by
 have hu24 := Try.underlying24
 have hu55 := Try.underlying79
 have hw1 : (W : Int) ≤ 32 := by omega
 have hmf : ∀ (fn : Fn) (first cap : Array Value) (w : World), (Instr.makeFunc fn first cap).run Try.prog w = .ok (.func fn first cap) w := fun _ _ _ _ => rfl
 clear hW
 go_enter Try.func42, Try.ntmps42
 go_wp2
 refine bodyPost_ret (v := .agg (crc_wv W P I O false w.heap.size (w.heap.size + 3))) (by simp [results, Try.results42, go_sem, crc_wv]) rfl ?_
 refine ⟨w.heap.size, w.heap.size + 3, rfl, ⟨blk_alloc (blk_alloc (blk_alloc (blk_new w _) _) _) _, ?_⟩, ?_⟩
 ·refine crc_new_at ?_ rfl
  show w.heap.size + 3 = (((w.heap.push _).push _).push _).size
  simp only [Array.size_push]
 ·repeat (first | exact Below.refl _ _ | apply below_alloc)
set_option maxHeartbeats 8000000 in
set_option maxRecDepth 100000 in
theorem crc_fit_refl (W : Nat) (P I O : Int) (w : World) (hW : W ≤ 32) :
  Calls Try.prog 42 #[.agg #[.int .i64 (W : Int), .int .u32 P, .int .u32 I, .int .u32 O, .bool true]] w (crc_Fit W P I O true w) := by
 have hu24 := Try.underlying24
 have hu55 := Try.underlying79
 have hw1 : (W : Int) ≤ 32 := by omega
 have hmf : ∀ (fn : Fn) (first cap : Array Value) (w : World), (Instr.makeFunc fn first cap).run Try.prog w = .ok (.func fn first cap) w := fun _ _ _ _ => rfl
 clear hW
 go_enter Try.func42, Try.ntmps42
 go_wp2
 refine bodyPost_ret (v := .agg (crc_wv W P I O true w.heap.size (w.heap.size + 3))) (by simp [results, Try.results42, go_sem, crc_wv]) rfl ?_
 refine ⟨w.heap.size, w.heap.size + 3, rfl, ⟨blk_alloc (blk_alloc (blk_alloc (blk_new w _) _) _) _, ?_⟩, ?_⟩
 ·refine crc_new_at ?_ rfl
  show w.heap.size + 3 = (((w.heap.push _).push _).push _).size
  simp only [Array.size_push]
 ·repeat (first | exact Below.refl _ _ | apply below_alloc)
set_option maxHeartbeats 8000000 in
set_option maxRecDepth 100000 in
theorem crc_told_plain (W K x O p q : Nat) (P I : Int) (w : World) (hK : W + K = 32) (hx : x < 2 ^ W) (hO : O < 4294967296) (hh : crc_Held W P I (O : Int) false p q w) :
  Calls Try.prog 50 #[.agg (crc_wv W P I (O : Int) false p q), .int .u32 ((x * 2 ^ K : Nat) : Int)] w fun e w' => e = .returned (.int .u32 ((Crc.turn false W x ^^^ O : Nat) : Int)) ∧ Below w.heap.size w w' := by
 have hu24 := Try.underlying24
 have hu55 := Try.underlying79
 have HB := aK (Below.refl w.heap.size w)
 have HH := Aside0.mk hh
 have HK := Aside0.mk hK
 have hx32 : x < 4294967296 := Nat.lt_of_lt_of_le hx (show 2 ^ W ≤ 2 ^ 32 from Nat.pow_le_pow_right (by omega) (by omega))
 have hdiv : x * 2 ^ K / 2 ^ (32 - W) = x := by rw [show 32 - W = K by omega]; exact Nat.mul_div_cancel _ (Nat.pow_pos (by omega))
 have HX := Aside0.mk hx32
 have HO := Aside0.mk hO
 have HT := aK (Nat.lt_of_lt_of_le (Crc.turn_lt (R := false) hx) (show 2 ^ W ≤ 2 ^ 32 from Nat.pow_le_pow_right (by omega) (by omega)))
 have k1 : (0 : Int) ≤ 32 - (W : Int) := by omega
 have k3 : IntKind.i64.wrap (32 - (W : Int)) = 32 - (W : Int) := IntWalk.i64_in _ (by omega)
 obtain ⟨c, hc⟩ : ∃ c, c = x * 2 ^ K := ⟨_, rfl⟩
 rw [← hc] at hdiv ⊢
 have hd : (c : Int) / 2 ^ (32 - W) = (x : Int) := by
  have e : ((c / 2 ^ (32 - W) : Nat) : Int) = (x : Int) := by rw [hdiv]
  rw [← e]
  simp
 clear hK hx hO hh hx32 hdiv hc
 simp only [crc_wv, if_true, if_false, Bool.false_eq_true]
 go_enter Try.func50, Try.ntmps50
 go_wp2_with (first | ((with_reducible refine gate_dst (N := 2) rfl ?_); refine box_event ?hg (N := 2) ?hd (cs := #[.int .i64 (W : Int), .int .u32 P, .int .u32 I, .int .u32 (O : Int), .bool false, .func (.func 51) #[] #[], .func (.func 52) #[] #[], .func (.func 53) #[] #[.pointer (some ⟨q, 0, none⟩)]]) (t := 79) ?hr ?_; (case hd => rfl); (case hg => rfl); (case hr => first | (go_simp; done) | (go_simp; rfl)); intro g hg_ wg hbox_ hb_; have n0_ := aK (below_step HB.out hb_); have n1_ := Aside0.mk hbox_; have n2_ := aK ((by rw [hg_]; exact below_size HB.out) : w.heap.size ≤ g); clear HB; have HB := n0_; have BKg := n1_; have GEg := n2_; clear n0_ n1_ n2_; clear hb_ hbox_ hg_; have hcg_0 : wg.cell? ⟨g, 0, none⟩ = some (.int .i64 (W : Int)) := (blk_cell BKg.out 0).trans rfl; have hfg_0 := blk_frozen BKg.out 0; have hcg_1 : wg.cell? ⟨g, 1, none⟩ = some (.int .u32 P) := (blk_cell BKg.out 1).trans rfl; have hfg_1 := blk_frozen BKg.out 1; have hcg_2 : wg.cell? ⟨g, 2, none⟩ = some (.int .u32 I) := (blk_cell BKg.out 2).trans rfl; have hfg_2 := blk_frozen BKg.out 2; have hcg_3 : wg.cell? ⟨g, 3, none⟩ = some (.int .u32 (O : Int)) := (blk_cell BKg.out 3).trans rfl; have hfg_3 := blk_frozen BKg.out 3; have hcg_4 : wg.cell? ⟨g, 4, none⟩ = some (.bool false) := (blk_cell BKg.out 4).trans rfl; have hfg_4 := blk_frozen BKg.out 4; have hcg_5 : wg.cell? ⟨g, 5, none⟩ = some (.func (.func 51) #[] #[]) := (blk_cell BKg.out 5).trans rfl; have hfg_5 := blk_frozen BKg.out 5; have hcg_6 : wg.cell? ⟨g, 6, none⟩ = some (.func (.func 52) #[] #[]) := (blk_cell BKg.out 6).trans rfl; have hfg_6 := blk_frozen BKg.out 6; have hcg_7 : wg.cell? ⟨g, 7, none⟩ = some (.func (.func 53) #[] #[.pointer (some ⟨q, 0, none⟩)]) := (blk_cell BKg.out 7).trans rfl; have hfg_7 := blk_frozen BKg.out 7))
 go_quiet ((go_at_call 52; exact Calls.quiet_of_same ((crc_fit2_calls _ _).mono fun e w' h => ⟨h.1, h.2.symm⟩)))
 go_wp2
 go_ret
 exact ⟨congrArg (fun z => Ending.returned (Value.int .u32 z)) (by (try rw [hd]); exact Crc.bxor32 _ _ HT.out HO.out), by repeat (first | exact HB.out | apply pw_below_drewN)⟩
set_option maxHeartbeats 8000000 in
set_option maxRecDepth 100000 in
theorem crc_told_refl (W K x O p q : Nat) (P I : Int) (w : World) (hK : W + K = 32) (hx : x < 2 ^ W) (hO : O < 4294967296) (hh : crc_Held W P I (O : Int) true p q w) :
  Calls Try.prog 50 #[.agg (crc_wv W P I (O : Int) true p q), .int .u32 ((x * 2 ^ K : Nat) : Int)] w fun e w' => e = .returned (.int .u32 ((Crc.turn true W x ^^^ O : Nat) : Int)) ∧ Below w.heap.size w w' := by
 have hu24 := Try.underlying24
 have hu55 := Try.underlying79
 have HB := aK (Below.refl w.heap.size w)
 have HH := Aside0.mk hh
 have HK := Aside0.mk hK
 have hx32 : x < 4294967296 := Nat.lt_of_lt_of_le hx (show 2 ^ W ≤ 2 ^ 32 from Nat.pow_le_pow_right (by omega) (by omega))
 have hdiv : x * 2 ^ K / 2 ^ (32 - W) = x := by rw [show 32 - W = K by omega]; exact Nat.mul_div_cancel _ (Nat.pow_pos (by omega))
 have HX := Aside0.mk hx32
 have HO := Aside0.mk hO
 have HT := aK (Nat.lt_of_lt_of_le (Crc.turn_lt (R := true) hx) (show 2 ^ W ≤ 2 ^ 32 from Nat.pow_le_pow_right (by omega) (by omega)))
 have k1 : (0 : Int) ≤ 32 - (W : Int) := by omega
 have k3 : IntKind.i64.wrap (32 - (W : Int)) = 32 - (W : Int) := IntWalk.i64_in _ (by omega)
 obtain ⟨c, hc⟩ : ∃ c, c = x * 2 ^ K := ⟨_, rfl⟩
 rw [← hc] at hdiv ⊢
 have hd : (c : Int) / 2 ^ (32 - W) = (x : Int) := by
  have e : ((c / 2 ^ (32 - W) : Nat) : Int) = (x : Int) := by rw [hdiv]
  rw [← e]
  simp
 clear hK hx hO hh hx32 hdiv hc
 simp only [crc_wv, if_true, if_false, Bool.false_eq_true]
 go_enter Try.func50, Try.ntmps50
 go_wp2_with (first | ((with_reducible refine gate_dst (N := 2) rfl ?_); refine box_event ?hg (N := 2) ?hd (cs := #[.int .i64 (W : Int), .int .u32 P, .int .u32 I, .int .u32 (O : Int), .bool true, .func (.func 54) #[] #[], .func (.func 55) #[] #[.pointer (some ⟨p, 0, none⟩)], .func (.func 57) #[] #[.pointer (some ⟨q, 0, none⟩)]]) (t := 79) ?hr ?_; (case hd => rfl); (case hg => rfl); (case hr => first | (go_simp; done) | (go_simp; rfl)); intro g hg_ wg hbox_ hb_; have n0_ := aK (below_step HB.out hb_); have n1_ := Aside0.mk hbox_; have n2_ := aK ((by rw [hg_]; exact below_size HB.out) : w.heap.size ≤ g); clear HB; have HB := n0_; have BKg := n1_; have GEg := n2_; clear n0_ n1_ n2_; clear hb_ hbox_ hg_; have hcg_0 : wg.cell? ⟨g, 0, none⟩ = some (.int .i64 (W : Int)) := (blk_cell BKg.out 0).trans rfl; have hfg_0 := blk_frozen BKg.out 0; have hcg_1 : wg.cell? ⟨g, 1, none⟩ = some (.int .u32 P) := (blk_cell BKg.out 1).trans rfl; have hfg_1 := blk_frozen BKg.out 1; have hcg_2 : wg.cell? ⟨g, 2, none⟩ = some (.int .u32 I) := (blk_cell BKg.out 2).trans rfl; have hfg_2 := blk_frozen BKg.out 2; have hcg_3 : wg.cell? ⟨g, 3, none⟩ = some (.int .u32 (O : Int)) := (blk_cell BKg.out 3).trans rfl; have hfg_3 := blk_frozen BKg.out 3; have hcg_4 : wg.cell? ⟨g, 4, none⟩ = some (.bool true) := (blk_cell BKg.out 4).trans rfl; have hfg_4 := blk_frozen BKg.out 4; have hcg_5 : wg.cell? ⟨g, 5, none⟩ = some (.func (.func 54) #[] #[]) := (blk_cell BKg.out 5).trans rfl; have hfg_5 := blk_frozen BKg.out 5; have hcg_6 : wg.cell? ⟨g, 6, none⟩ = some (.func (.func 55) #[] #[.pointer (some ⟨p, 0, none⟩)]) := (blk_cell BKg.out 6).trans rfl; have hfg_6 := blk_frozen BKg.out 6; have hcg_7 : wg.cell? ⟨g, 7, none⟩ = some (.func (.func 57) #[] #[.pointer (some ⟨q, 0, none⟩)]) := (blk_cell BKg.out 7).trans rfl; have hfg_7 := blk_frozen BKg.out 7))
 have HL := aK (HH.out.later HB.out)
 go_quiet ((go_at_call 55; (try rw [hd]); exact Calls.quiet_of (crc_fit4_calls p W K x P I (O : Int) true _ HX.out HK.out (blk_drewN HL.out.1 _))))
 go_wp2
 go_ret
 exact ⟨congrArg (fun z => Ending.returned (Value.int .u32 z)) (by rw [show ((Crc.rev x 32 : Nat) : Int) / 2 ^ K = ((Crc.rev x W : Nat) : Int) by rw [← Crc.rev_up x W K 32 HK.out]; simp]; exact Crc.bxor32 _ _ HT.out HO.out), by repeat (first | exact HB.out | apply pw_below_drewN)⟩

/-! ### crc_Sum: function 41, given -/
attribute [local go_sem] crc_store_nilFunc crc_store_func
theorem crc_Check_f (a0 a1 a2 a3 : Int) (R : Bool) : crc_Check.f 1 a0 a1 a2 a3 R = some (if Crc.okI a0 a1 a2 a3 then 0 else 30) := by
 have s8 : shr .u32 4294967295 (wrap64 (32 - 8)) = 255 := by decide +kernel
 have s16 : shr .u32 4294967295 (wrap64 (32 - 16)) = 65535 := by decide +kernel
 have s24 : shr .u32 4294967295 (wrap64 (32 - 24)) = 16777215 := by decide +kernel
 have s32 : shr .u32 4294967295 (wrap64 (32 - 32)) = 4294967295 := by decide +kernel
 have key : ∀ (n : Nat) (top : Int), (n = 8 ∨ n = 16 ∨ n = 24 ∨ n = 32) → top = 2 ^ n - 1 → shr .u32 4294967295 (wrap64 (32 - (n : Int))) = top → crc_Check.j0 1 true (n : Int) a1 a2 a3 R = some (if Crc.okI (n : Int) a1 a2 a3 then 0 else 30) := by
  intro n top hn ht hs
  have hw : (0 : Int) ≤ wrap64 (32 - (n : Int)) := by unfold wrap64; omega
  have hor : (decide ((n : Int) = 8) || decide ((n : Int) = 16) || decide ((n : Int) = 24) || decide ((n : Int) = 32)) = true := by
   simp only [Bool.or_eq_true, decide_eq_true_eq]
   omega
  simp only [crc_Check.j0, if_true, if_pos hw, hs, Crc.okI, hor, Bool.true_and, Int.toNat_natCast]
  by_cases h1 : a1 > top
  ·rw [if_pos h1, show decide (a1 < 2 ^ n) = false from decide_eq_false (by omega)]; simp
  ·rw [if_neg h1, show decide (a1 < 2 ^ n) = true from decide_eq_true (by omega)]
   by_cases h2 : a2 > top
   ·rw [if_pos h2, show decide (a2 < 2 ^ n) = false from decide_eq_false (by omega)]; simp
   ·rw [if_neg h2, show decide (a2 < 2 ^ n) = true from decide_eq_true (by omega)]
    by_cases h3 : a3 > top
    ·rw [if_pos h3, show decide (a3 < 2 ^ n) = false from decide_eq_false (by omega)]; simp
    ·rw [if_neg h3, show decide (a3 < 2 ^ n) = true from decide_eq_true (by omega)]
     by_cases h4 : Int.tmod a1 2 = 0
     ·rw [if_pos h4]; simp [h4]
     ·rw [if_neg h4]; simp [h4]
 unfold crc_Check.f
 by_cases h8 : a0 = 8
 ·subst h8; rw [if_pos rfl]; exact key 8 255 (by omega) (by decide) s8
 ·rw [if_neg h8]
  by_cases h16 : a0 = 16
  ·subst h16; rw [if_pos rfl]; exact key 16 65535 (by omega) (by decide) s16
  ·rw [if_neg h16]
   by_cases h24 : a0 = 24
   ·subst h24; rw [if_pos rfl]; exact key 24 16777215 (by omega) (by decide) s24
   ·rw [if_neg h24]
    by_cases h32 : a0 = 32
    ·subst h32; exact key 32 4294967295 (by omega) (by decide) s32
    ·simp [crc_Check.j0, Crc.okI, h8, h16, h24, h32]
theorem crc_Check_ok (W P I O : Nat) (R : Bool) (w : World) (h : Crc.okN W P I O) : Calls Try.prog 30 #[.agg #[.int .i64 (W : Int), .int .u32 (P : Int), .int .u32 (I : Int), .int .u32 (O : Int), .bool R]] w fun e w' => e = .returned (.int .i64 0) ∧ Below w.heap.size w w' :=
 crc_Check.calls 1 _ _ _ _ R 0 w (by rw [crc_Check_f, if_pos ((Crc.okI_nat W P I O).2 h)])
theorem crc_Check_bad (W P I O : Int) (R : Bool) (w : World) (h : Crc.okI W P I O = false) : Calls Try.prog 30 #[.agg #[.int .i64 W, .int .u32 P, .int .u32 I, .int .u32 O, .bool R]] w fun e w' => e = .returned (.int .i64 30) ∧ Below w.heap.size w w' :=
 crc_Check.calls 1 _ _ _ _ R 30 w (by rw [crc_Check_f, h]; rfl)
@[reducible] def crc_St (W P I O G p q : Nat) (w w' : World) : Prop :=
 w'.cell? ⟨G, 0, none⟩ = some (.int .i64 (W : Int)) ∧ w'.cell? ⟨G, 1, none⟩ = some (.int .u32 (P : Int)) ∧ w'.cell? ⟨G, 2, none⟩ = some (.int .u32 (I : Int)) ∧ w'.cell? ⟨G, 3, none⟩ = some (.int .u32 (O : Int)) ∧ w'.cell? ⟨G, 4, none⟩ = some (.bool false) ∧ w'.cell? ⟨G, 5, none⟩ = some (.func (.func 51) #[] #[]) ∧ w'.cell? ⟨G, 6, none⟩ = some (.func (.func 52) #[] #[]) ∧ w'.cell? ⟨G, 7, none⟩ = some (.func (.func 53) #[] #[.pointer (some ⟨q, 0, none⟩)]) ∧ Aside0 (Below w.heap.size w w') ∧ Aside0 (w'.heap[G]? = some (.cells #[.int .i64 (W : Int), .int .u32 (P : Int), .int .u32 (I : Int), .int .u32 (O : Int), .bool false, .func (.func 51) #[] #[], .func (.func 52) #[] #[], .func (.func 53) #[] #[.pointer (some ⟨q, 0, none⟩)]] 79 (0, 0))) ∧ Aside0 (crc_Held W P I O false p q w')
theorem crc_Held_drew {W : Nat} {P I O : Int} {R : Bool} {p q : Nat} {w : World} (h : crc_Held W P I O R p q w) : crc_Held W P I O R p q w.drew := h
theorem crc_St_mk {W P I O G p q : Nat} {w w' : World} (hb : Below w.heap.size w w') (hk : w'.heap[G]? = some (.cells #[.int .i64 (W : Int), .int .u32 (P : Int), .int .u32 (I : Int), .int .u32 (O : Int), .bool false, .func (.func 51) #[] #[], .func (.func 52) #[] #[], .func (.func 53) #[] #[.pointer (some ⟨q, 0, none⟩)]] 79 (0, 0))) (hh : crc_Held W P I O false p q w') : crc_St W P I O G p q w w' :=
 ⟨(blk_cell hk 0).trans rfl, (blk_cell hk 1).trans rfl, (blk_cell hk 2).trans rfl, (blk_cell hk 3).trans rfl, (blk_cell hk 4).trans rfl, (blk_cell hk 5).trans rfl, (blk_cell hk 6).trans rfl, (blk_cell hk 7).trans rfl, ⟨hb⟩, ⟨hk⟩, ⟨hh⟩⟩
theorem crc_St_step {W P I O G p q : Nat} {w w' w2 : World} (h : crc_St W P I O G p q w w') (hb : Below w'.heap.size w' w2) : crc_St W P I O G p q w w2 :=
 let hh := h.2.2.2.2.2.2.2.2
 crc_St_mk (below_step hh.1.out hb) (blk_below hh.2.1.out hb) (hh.2.2.out.later hb)
set_option maxHeartbeats 16000000 in
set_option maxRecDepth 100000 in
theorem crc_Sum_plain (A1 : Option Addr) (c1 W P I O : Nat) (B : List Nat) (w : World) (hs : Crc.okN W P I O) (hB : ∀ x ∈ B, x < 256) (hr1 : Kd.C (Kd.int .u8) w A1 (Crc.ints B).length (Crc.ints B)) :
  Calls Try.prog 41 #[.agg #[.int .i64 (W : Int), .int .u32 (P : Int), .int .u32 (I : Int), .int .u32 (O : Int), .bool false], .slice A1 (Crc.ints B).length c1] w fun e w' => e = .returned (.tuple #[.int .u32 ((Crc.crc false W P I O B : Nat) : Int), .int .i64 0]) ∧ Below w.heap.size w w' := by
 have hu24 := Try.underlying24
 have hu55 := Try.underlying79
 have HB := aK (Below.refl w.heap.size w)
 have HR1 := Aside0.mk hr1
 have HBY := Aside0.mk hB
 obtain ⟨K, hK⟩ : ∃ K, W + K = 32 := ⟨32 - W, by have := hs.1; omega⟩
 have HK := Aside0.mk hK
 have HS := Aside0.mk hs
 have HW := aK (show 8 ≤ W by have := hs.1; omega)
 have HW2 := aK (show W ≤ 32 by omega)
 have HP := Aside0.mk hs.2.1
 have HI := Aside0.mk hs.2.2.1
 have HO := aK (Nat.lt_of_lt_of_le hs.2.2.2.1 (show 2 ^ W ≤ 2 ^ 32 from Nat.pow_le_pow_right (by omega) (by omega)))
 have HI32 := aK (Nat.lt_of_lt_of_le hs.2.2.1 (show 2 ^ W ≤ 2 ^ 32 from Nat.pow_le_pow_right (by omega) (by omega)))
 have HIK := aK (show I * 2 ^ K % 4294967296 = I * 2 ^ K from Nat.mod_eq_of_lt (Crc.up_lt hK hs.2.2.1))
 have hl0 : (0 : Int) ≤ ((Crc.ints B).length : Int) := by omega
 obtain ⟨L, hL⟩ : ∃ L, L = Crc.ints B := ⟨_, rfl⟩
 rw [← hL] at HR1 hl0 ⊢
 have HL := Aside0.mk hL
 clear hr1 hB hs hK hL
 go_enter Try.func41, Try.ntmps41
 go_wp2_with (first | ((with_reducible refine gate_dst (N := 2) rfl ?_); refine box_event ?hg (N := 2) ?hd (cs := #[.int .i64 (W : Int), .int .u32 (P : Int), .int .u32 (I : Int), .int .u32 (O : Int), .bool false]) (t := 24) ?hr ?_; (case hd => rfl); (case hg => rfl); (case hr => first | (go_simp; done) | (go_simp; rfl)); intro g hg_ wg hbox_ hb_; have n0_ := aK (below_step HB.out hb_); have n1_ := Aside0.mk hbox_; have n2_ := aK ((by rw [hg_]; exact below_size HB.out) : w.heap.size ≤ g); clear HB; have HB := n0_; have BKg := n1_; have GEg := n2_; clear n0_ n1_ n2_; clear hb_ hbox_ hg_; have hcg_0 : wg.cell? ⟨g, 0, none⟩ = some (.int .i64 (W : Int)) := (blk_cell BKg.out 0).trans rfl; have hfg_0 := blk_frozen BKg.out 0; have hcg_1 : wg.cell? ⟨g, 1, none⟩ = some (.int .u32 (P : Int)) := (blk_cell BKg.out 1).trans rfl; have hfg_1 := blk_frozen BKg.out 1; have hcg_2 : wg.cell? ⟨g, 2, none⟩ = some (.int .u32 (I : Int)) := (blk_cell BKg.out 2).trans rfl; have hfg_2 := blk_frozen BKg.out 2; have hcg_3 : wg.cell? ⟨g, 3, none⟩ = some (.int .u32 (O : Int)) := (blk_cell BKg.out 3).trans rfl; have hfg_3 := blk_frozen BKg.out 3; have hcg_4 : wg.cell? ⟨g, 4, none⟩ = some (.bool false) := (blk_cell BKg.out 4).trans rfl; have hfg_4 := blk_frozen BKg.out 4) | (go_at_call 30; refine (crc_Check_ok W P I O false _ HS.out).mono ?_; rintro e w1 ⟨rfl, hb⟩; have n0_ := aK (below_step HB.out hb); clear HB; have HB := n0_; clear n0_; have n0_ := aK (blk_below BKg.out hb); clear BKg; have BKg := n0_; clear n0_; have hcg_w1_0 : w1.cell? ⟨g, 0, none⟩ = some (.int .i64 (W : Int)) := (blk_cell BKg.out 0).trans rfl; have hfg_w1_0 := blk_frozen BKg.out 0; have hcg_w1_1 : w1.cell? ⟨g, 1, none⟩ = some (.int .u32 (P : Int)) := (blk_cell BKg.out 1).trans rfl; have hfg_w1_1 := blk_frozen BKg.out 1; have hcg_w1_2 : w1.cell? ⟨g, 2, none⟩ = some (.int .u32 (I : Int)) := (blk_cell BKg.out 2).trans rfl; have hfg_w1_2 := blk_frozen BKg.out 2; have hcg_w1_3 : w1.cell? ⟨g, 3, none⟩ = some (.int .u32 (O : Int)) := (blk_cell BKg.out 3).trans rfl; have hfg_w1_3 := blk_frozen BKg.out 3; have hcg_w1_4 : w1.cell? ⟨g, 4, none⟩ = some (.bool false) := (blk_cell BKg.out 4).trans rfl; have hfg_w1_4 := blk_frozen BKg.out 4; clear hb) | (go_at_call 42; refine (crc_fit_plain W P I O _ HW2.out).mono ?_; rintro e w2 ⟨p, q, rfl, hh, hb⟩; simp only [crc_wv, if_true, if_false, Bool.false_eq_true]; have n0_ := aK (below_step HB.out hb); clear HB; have HB := n0_; clear n0_; have n0_ := aK (blk_below BKg.out hb); clear BKg; have BKg := n0_; clear n0_; have hcg_w2_0 : w2.cell? ⟨g, 0, none⟩ = some (.int .i64 (W : Int)) := (blk_cell BKg.out 0).trans rfl; have hfg_w2_0 := blk_frozen BKg.out 0; have hcg_w2_1 : w2.cell? ⟨g, 1, none⟩ = some (.int .u32 (P : Int)) := (blk_cell BKg.out 1).trans rfl; have hfg_w2_1 := blk_frozen BKg.out 1; have hcg_w2_2 : w2.cell? ⟨g, 2, none⟩ = some (.int .u32 (I : Int)) := (blk_cell BKg.out 2).trans rfl; have hfg_w2_2 := blk_frozen BKg.out 2; have hcg_w2_3 : w2.cell? ⟨g, 3, none⟩ = some (.int .u32 (O : Int)) := (blk_cell BKg.out 3).trans rfl; have hfg_w2_3 := blk_frozen BKg.out 3; have hcg_w2_4 : w2.cell? ⟨g, 4, none⟩ = some (.bool false) := (blk_cell BKg.out 4).trans rfl; have hfg_w2_4 := blk_frozen BKg.out 4; have HH := Aside0.mk hh; have hlt := blk_lt BKg.out; clear hb hh) | (go_at_call 48; refine (crc_high_calls W K I _ _ _ _ _ _ _ _ _ _ _ HK.out HI32.out).mono ?_; rintro e w3 ⟨rfl, hb⟩; rw [HIK.out]; have BKh := aK (blk_below (blk_new _ _) hb); have n0_ := aK (below_step (below_alloc HB.out _) hb); clear HB; have HB := n0_; clear n0_; have n0_ := aK ((HH.out.later (below_alloc (Below.refl _ _) _)).later hb); clear HH; have HH := n0_; clear n0_; clear BKg hb))
 go_loopg [8, 24] L.length (fun kq v8 v24 w' => ∃ (c y i : Nat), v8 = .int .u32 (c : Int) ∧ v24 = .int .i64 (i : Int) ∧ Aside0 (i + kq = L.length) ∧ Aside0 (c = y * 2 ^ K) ∧ Aside0 (y < 2 ^ W) ∧ Aside0 (Crc.regs false W P y (B.drop i) = Crc.regs false W P I B) ∧ Aside0 (w'.heap[w2.heap.size]? = some (.cells #[.int .i64 (W : Int), .int .u32 (P : Int), .int .u32 (I : Int), .int .u32 (O : Int), .bool false, .func (.func 51) #[] #[], .func (.func 52) #[] #[], .func (.func 53) #[] #[.pointer (some ⟨q, 0, none⟩)]] 79 (0, 0))) ∧ Aside0 (crc_Held W P I O false p q w') ∧ Aside0 (Below w.heap.size w w'))
 case atStart => exact ⟨I * 2 ^ K, I, 0, rfl, rfl, ⟨by omega⟩, ⟨rfl⟩, HI, ⟨rfl⟩, BKh, HH, HB⟩
 case round =>
  clear HH BKh HB
  obtain ⟨c, y, i, rfl, rfl, HN, HC, HY, HV, BKh, HH, HB⟩ := hrel
  cases gk with
  | zero =>
   have hj : decide (i < L.length) = false := decide_eq_false (by have := HN.out; omega)
   have hch_wr_0 : wr.cell? ⟨w2.heap.size, 0, none⟩ = some (.int .i64 (W : Int)) := (blk_cell BKh.out 0).trans rfl; have hfh_wr_0 := blk_frozen BKh.out 0; have hch_wr_1 : wr.cell? ⟨w2.heap.size, 1, none⟩ = some (.int .u32 (P : Int)) := (blk_cell BKh.out 1).trans rfl; have hfh_wr_1 := blk_frozen BKh.out 1; have hch_wr_2 : wr.cell? ⟨w2.heap.size, 2, none⟩ = some (.int .u32 (I : Int)) := (blk_cell BKh.out 2).trans rfl; have hfh_wr_2 := blk_frozen BKh.out 2; have hch_wr_3 : wr.cell? ⟨w2.heap.size, 3, none⟩ = some (.int .u32 (O : Int)) := (blk_cell BKh.out 3).trans rfl; have hfh_wr_3 := blk_frozen BKh.out 3; have hch_wr_4 : wr.cell? ⟨w2.heap.size, 4, none⟩ = some (.bool false) := (blk_cell BKh.out 4).trans rfl; have hfh_wr_4 := blk_frozen BKh.out 4; have hch_wr_5 : wr.cell? ⟨w2.heap.size, 5, none⟩ = some (.func (.func 51) #[] #[]) := (blk_cell BKh.out 5).trans rfl; have hfh_wr_5 := blk_frozen BKh.out 5; have hch_wr_6 : wr.cell? ⟨w2.heap.size, 6, none⟩ = some (.func (.func 52) #[] #[]) := (blk_cell BKh.out 6).trans rfl; have hfh_wr_6 := blk_frozen BKh.out 6; have hch_wr_7 : wr.cell? ⟨w2.heap.size, 7, none⟩ = some (.func (.func 53) #[] #[.pointer (some ⟨q, 0, none⟩)]) := (blk_cell BKh.out 7).trans rfl; have hfh_wr_7 := blk_frozen BKh.out 7
   have ei : i = B.length := by
    have h1 := HN.out
    have h2 : L.length = B.length := by rw [HL.out, Crc.ints_length]
    omega
   have ey : y = Crc.regs false W P I B := by
    have h1 := HV.out
    rw [ei, List.drop_length] at h1
    exact h1
   have EY := Aside0.mk ey
   have EC := aK (show Crc.turn false W (Crc.regs false W P I B) ^^^ O = Crc.crc false W P I O B from rfl)
   have hcc := HC.out
   subst hcc
   clear ei ey
   go_wp2_with (first | (go_at_call 50; refine (crc_told_plain W K y O p q P I wr HK.out HY.out HO.out HH.out).mono ?_; rintro e w4 ⟨rfl, hb⟩; rw [EY.out, EC.out]; have n0_ := aK (below_step HB.out hb); clear HB; have HB := n0_; clear n0_; clear hb))
   go_ret2
   exact ⟨rfl, HB.out⟩
  | succ k1 =>
   have hj : decide (i < L.length) = true := decide_eq_true (by have := HN.out; omega)
   have hil := of_decide_eq_true hj
   have HIL := Aside0.mk hil
   have hj0 : decide (0 ≤ (i : Int)) = true := decide_eq_true (by omega)
   have ti : (i < L.length) = True := eq_true hil
   obtain ⟨ad, ea, hx⟩ := Kd.at_int HR1.out (i : Int) (by omega) (by omega)
   cases ea
   obtain ⟨x, hxx⟩ : ∃ x, x = B.getD i 0 := ⟨_, rfl⟩
   have hv : rd L (i : Int) = (x : Int) := by rw [HL.out, Crc.rd_ints, hxx]
   have hx0 := (HB.out.cell (World.block_lt_of_cell? w _ hx)).trans hx
   rw [hv, Int.toNat_natCast] at hx0
   have HXX := Aside0.mk hxx
   have HX := aK (show x < 256 by rw [hxx]; exact Crc.getD_lt HBY.out i)
   clear hx hv hil hxx
   have hch_wr_0 : wr.cell? ⟨w2.heap.size, 0, none⟩ = some (.int .i64 (W : Int)) := (blk_cell BKh.out 0).trans rfl; have hfh_wr_0 := blk_frozen BKh.out 0; have hch_wr_1 : wr.cell? ⟨w2.heap.size, 1, none⟩ = some (.int .u32 (P : Int)) := (blk_cell BKh.out 1).trans rfl; have hfh_wr_1 := blk_frozen BKh.out 1; have hch_wr_2 : wr.cell? ⟨w2.heap.size, 2, none⟩ = some (.int .u32 (I : Int)) := (blk_cell BKh.out 2).trans rfl; have hfh_wr_2 := blk_frozen BKh.out 2; have hch_wr_3 : wr.cell? ⟨w2.heap.size, 3, none⟩ = some (.int .u32 (O : Int)) := (blk_cell BKh.out 3).trans rfl; have hfh_wr_3 := blk_frozen BKh.out 3; have hch_wr_4 : wr.cell? ⟨w2.heap.size, 4, none⟩ = some (.bool false) := (blk_cell BKh.out 4).trans rfl; have hfh_wr_4 := blk_frozen BKh.out 4; have hch_wr_5 : wr.cell? ⟨w2.heap.size, 5, none⟩ = some (.func (.func 51) #[] #[]) := (blk_cell BKh.out 5).trans rfl; have hfh_wr_5 := blk_frozen BKh.out 5; have hch_wr_6 : wr.cell? ⟨w2.heap.size, 6, none⟩ = some (.func (.func 52) #[] #[]) := (blk_cell BKh.out 6).trans rfl; have hfh_wr_6 := blk_frozen BKh.out 6; have hch_wr_7 : wr.cell? ⟨w2.heap.size, 7, none⟩ = some (.func (.func 53) #[] #[.pointer (some ⟨q, 0, none⟩)]) := (blk_cell BKh.out 7).trans rfl; have hfh_wr_7 := blk_frozen BKh.out 7
   have hcx : c < 4294967296 := by rw [HC.out]; exact Crc.up_lt HK.out HY.out
   have EX : Aside0 (Go.bits .xor .u32 (c : Int) (IntKind.u32.wrap (IntKind.u32.wrap (x : Int) * 16777216)) = ((c ^^^ x * 2 ^ 24 : Nat) : Int)) := ⟨Crc.xor24 hcx HX.out⟩
   have HCX := aK (show c ^^^ x * 2 ^ 24 < 4294967296 from Nat.xor_lt_two_pow (n := 32) hcx (by have := HX.out; omega))
   clear hcx
   go_wp2
   go_region_held3 (fun w' => w'.cell? ⟨w2.heap.size, 0, none⟩ = some (.int .i64 (W : Int)) ∧ w'.cell? ⟨w2.heap.size, 1, none⟩ = some (.int .u32 (P : Int)) ∧ w'.cell? ⟨w2.heap.size, 2, none⟩ = some (.int .u32 (I : Int)) ∧ w'.cell? ⟨w2.heap.size, 3, none⟩ = some (.int .u32 (O : Int)) ∧ w'.cell? ⟨w2.heap.size, 4, none⟩ = some (.bool false) ∧ w'.cell? ⟨w2.heap.size, 5, none⟩ = some (.func (.func 51) #[] #[]) ∧ w'.cell? ⟨w2.heap.size, 6, none⟩ = some (.func (.func 52) #[] #[]) ∧ w'.cell? ⟨w2.heap.size, 7, none⟩ = some (.func (.func 53) #[] #[.pointer (some ⟨q, 0, none⟩)]) ∧ Aside0 (Below w.heap.size w w') ∧ Aside0 (w'.heap[w2.heap.size]? = some (.cells #[.int .i64 (W : Int), .int .u32 (P : Int), .int .u32 (I : Int), .int .u32 (O : Int), .bool false, .func (.func 51) #[] #[], .func (.func 52) #[] #[], .func (.func 53) #[] #[.pointer (some ⟨q, 0, none⟩)]] 79 (0, 0))) ∧ Aside0 (crc_Held W P I O false p q w')) ((first | (with_reducible assumption) | (with_reducible exact crc_St_mk (below_drew1 HB.out) (blk_drew BKh.out) (crc_Held_drew HH.out)) | (exact HS6))) (first | (go_at_call 51; refine (crc_fit1_calls _ _).mono ?_; rintro e w5 ⟨rfl, rfl⟩) | (go_at_call 49; rw [EX.out]; refine (crc_step_calls W K P _ _ _ _ _ _ _ _ _ _ _ HK.out HP.out HCX.out).mono ?_; rintro e w6 ⟨rfl, hb⟩; have HS6 := crc_St_step (crc_St_mk (below_drew1 HB.out) (blk_drew BKh.out) (crc_Held_drew HH.out)) hb))
   have HS6' := Aside0.mk HS6
   clear HS6
   go_wp2
   go_roundg k1
   case measure => omega
   case rel =>
    have hh := HS6'.out.2.2.2.2.2.2.2.2
    have hl2 : L.length = B.length := by rw [HL.out, Crc.ints_length]
    have hst := Crc.step_byte (R := false) HK.out HW.out HX.out HP.out HY.out
    refine ⟨_, Crc.feeds W P y (Crc.bitsOf false x), i + 1, rfl, congrArg (Value.int .i64) ?_, ⟨by have := HN.out; omega⟩, ⟨?_⟩, ⟨Crc.feeds_lt HP.out _ HY.out⟩, ⟨?_⟩, hh.2.1, hh.2.2, hh.1⟩
    ·have h1 := HIL.out
     have h2 := Kd.C_max HR1.out
     first | omega | (unfold wrap64; omega)
    ·rw [HC.out]
     exact hst
    ·have h1 := HV.out
     rw [Crc.drop_get (by have := HIL.out; omega), ← HXX.out] at h1
     exact h1
@[reducible] def crc_Sr (W P I O G p q : Nat) (w w' : World) : Prop :=
 w'.cell? ⟨G, 0, none⟩ = some (.int .i64 (W : Int)) ∧ w'.cell? ⟨G, 1, none⟩ = some (.int .u32 (P : Int)) ∧ w'.cell? ⟨G, 2, none⟩ = some (.int .u32 (I : Int)) ∧ w'.cell? ⟨G, 3, none⟩ = some (.int .u32 (O : Int)) ∧ w'.cell? ⟨G, 4, none⟩ = some (.bool true) ∧ w'.cell? ⟨G, 5, none⟩ = some (.func (.func 54) #[] #[]) ∧ w'.cell? ⟨G, 6, none⟩ = some (.func (.func 55) #[] #[.pointer (some ⟨p, 0, none⟩)]) ∧ w'.cell? ⟨G, 7, none⟩ = some (.func (.func 57) #[] #[.pointer (some ⟨q, 0, none⟩)]) ∧ Aside0 (Below w.heap.size w w') ∧ Aside0 (w'.heap[G]? = some (.cells #[.int .i64 (W : Int), .int .u32 (P : Int), .int .u32 (I : Int), .int .u32 (O : Int), .bool true, .func (.func 54) #[] #[], .func (.func 55) #[] #[.pointer (some ⟨p, 0, none⟩)], .func (.func 57) #[] #[.pointer (some ⟨q, 0, none⟩)]] 79 (0, 0))) ∧ Aside0 (crc_Held W P I O true p q w')
theorem crc_Sr_mk {W P I O G p q : Nat} {w w' : World} (hb : Below w.heap.size w w') (hk : w'.heap[G]? = some (.cells #[.int .i64 (W : Int), .int .u32 (P : Int), .int .u32 (I : Int), .int .u32 (O : Int), .bool true, .func (.func 54) #[] #[], .func (.func 55) #[] #[.pointer (some ⟨p, 0, none⟩)], .func (.func 57) #[] #[.pointer (some ⟨q, 0, none⟩)]] 79 (0, 0))) (hh : crc_Held W P I O true p q w') : crc_Sr W P I O G p q w w' :=
 ⟨(blk_cell hk 0).trans rfl, (blk_cell hk 1).trans rfl, (blk_cell hk 2).trans rfl, (blk_cell hk 3).trans rfl, (blk_cell hk 4).trans rfl, (blk_cell hk 5).trans rfl, (blk_cell hk 6).trans rfl, (blk_cell hk 7).trans rfl, ⟨hb⟩, ⟨hk⟩, ⟨hh⟩⟩
theorem crc_Sr_step {W P I O G p q : Nat} {w w' w2 : World} (h : crc_Sr W P I O G p q w w') (hb : Below w'.heap.size w' w2) : crc_Sr W P I O G p q w w2 :=
 let hh := h.2.2.2.2.2.2.2.2
 crc_Sr_mk (below_step hh.1.out hb) (blk_below hh.2.1.out hb) (hh.2.2.out.later hb)
set_option maxHeartbeats 16000000 in
set_option maxRecDepth 100000 in
theorem crc_Sum_refl (A1 : Option Addr) (c1 W P I O : Nat) (B : List Nat) (w : World) (hs : Crc.okN W P I O) (hB : ∀ x ∈ B, x < 256) (hr1 : Kd.C (Kd.int .u8) w A1 (Crc.ints B).length (Crc.ints B)) :
  Calls Try.prog 41 #[.agg #[.int .i64 (W : Int), .int .u32 (P : Int), .int .u32 (I : Int), .int .u32 (O : Int), .bool true], .slice A1 (Crc.ints B).length c1] w fun e w' => e = .returned (.tuple #[.int .u32 ((Crc.crc true W P I O B : Nat) : Int), .int .i64 0]) ∧ Below w.heap.size w w' := by
 have hu24 := Try.underlying24
 have hu55 := Try.underlying79
 have HB := aK (Below.refl w.heap.size w)
 have HR1 := Aside0.mk hr1
 have HBY := Aside0.mk hB
 obtain ⟨K, hK⟩ : ∃ K, W + K = 32 := ⟨32 - W, by have := hs.1; omega⟩
 have HK := Aside0.mk hK
 have HS := Aside0.mk hs
 have HW := aK (show 8 ≤ W by have := hs.1; omega)
 have HW2 := aK (show W ≤ 32 by omega)
 have HP := Aside0.mk hs.2.1
 have HI := Aside0.mk hs.2.2.1
 have HO := aK (Nat.lt_of_lt_of_le hs.2.2.2.1 (show 2 ^ W ≤ 2 ^ 32 from Nat.pow_le_pow_right (by omega) (by omega)))
 have HI32 := aK (Nat.lt_of_lt_of_le hs.2.2.1 (show 2 ^ W ≤ 2 ^ 32 from Nat.pow_le_pow_right (by omega) (by omega)))
 have HIK := aK (show I * 2 ^ K % 4294967296 = I * 2 ^ K from Nat.mod_eq_of_lt (Crc.up_lt hK hs.2.2.1))
 have hl0 : (0 : Int) ≤ ((Crc.ints B).length : Int) := by omega
 obtain ⟨L, hL⟩ : ∃ L, L = Crc.ints B := ⟨_, rfl⟩
 rw [← hL] at HR1 hl0 ⊢
 have HL := Aside0.mk hL
 clear hr1 hB hs hK hL
 go_enter Try.func41, Try.ntmps41
 go_wp2_with (first | ((with_reducible refine gate_dst (N := 2) rfl ?_); refine box_event ?hg (N := 2) ?hd (cs := #[.int .i64 (W : Int), .int .u32 (P : Int), .int .u32 (I : Int), .int .u32 (O : Int), .bool true]) (t := 24) ?hr ?_; (case hd => rfl); (case hg => rfl); (case hr => first | (go_simp; done) | (go_simp; rfl)); intro g hg_ wg hbox_ hb_; have n0_ := aK (below_step HB.out hb_); have n1_ := Aside0.mk hbox_; have n2_ := aK ((by rw [hg_]; exact below_size HB.out) : w.heap.size ≤ g); clear HB; have HB := n0_; have BKg := n1_; have GEg := n2_; clear n0_ n1_ n2_; clear hb_ hbox_ hg_; have hcg_0 : wg.cell? ⟨g, 0, none⟩ = some (.int .i64 (W : Int)) := (blk_cell BKg.out 0).trans rfl; have hfg_0 := blk_frozen BKg.out 0; have hcg_1 : wg.cell? ⟨g, 1, none⟩ = some (.int .u32 (P : Int)) := (blk_cell BKg.out 1).trans rfl; have hfg_1 := blk_frozen BKg.out 1; have hcg_2 : wg.cell? ⟨g, 2, none⟩ = some (.int .u32 (I : Int)) := (blk_cell BKg.out 2).trans rfl; have hfg_2 := blk_frozen BKg.out 2; have hcg_3 : wg.cell? ⟨g, 3, none⟩ = some (.int .u32 (O : Int)) := (blk_cell BKg.out 3).trans rfl; have hfg_3 := blk_frozen BKg.out 3; have hcg_4 : wg.cell? ⟨g, 4, none⟩ = some (.bool true) := (blk_cell BKg.out 4).trans rfl; have hfg_4 := blk_frozen BKg.out 4) | (go_at_call 30; refine (crc_Check_ok W P I O true _ HS.out).mono ?_; rintro e w1 ⟨rfl, hb⟩; have n0_ := aK (below_step HB.out hb); clear HB; have HB := n0_; clear n0_; have n0_ := aK (blk_below BKg.out hb); clear BKg; have BKg := n0_; clear n0_; have hcg_w1_0 : w1.cell? ⟨g, 0, none⟩ = some (.int .i64 (W : Int)) := (blk_cell BKg.out 0).trans rfl; have hfg_w1_0 := blk_frozen BKg.out 0; have hcg_w1_1 : w1.cell? ⟨g, 1, none⟩ = some (.int .u32 (P : Int)) := (blk_cell BKg.out 1).trans rfl; have hfg_w1_1 := blk_frozen BKg.out 1; have hcg_w1_2 : w1.cell? ⟨g, 2, none⟩ = some (.int .u32 (I : Int)) := (blk_cell BKg.out 2).trans rfl; have hfg_w1_2 := blk_frozen BKg.out 2; have hcg_w1_3 : w1.cell? ⟨g, 3, none⟩ = some (.int .u32 (O : Int)) := (blk_cell BKg.out 3).trans rfl; have hfg_w1_3 := blk_frozen BKg.out 3; have hcg_w1_4 : w1.cell? ⟨g, 4, none⟩ = some (.bool true) := (blk_cell BKg.out 4).trans rfl; have hfg_w1_4 := blk_frozen BKg.out 4; clear hb) | (go_at_call 42; refine (crc_fit_refl W P I O _ HW2.out).mono ?_; rintro e w2 ⟨p, q, rfl, hh, hb⟩; simp only [crc_wv, if_true, if_false, Bool.false_eq_true]; have n0_ := aK (below_step HB.out hb); clear HB; have HB := n0_; clear n0_; have n0_ := aK (blk_below BKg.out hb); clear BKg; have BKg := n0_; clear n0_; have hcg_w2_0 : w2.cell? ⟨g, 0, none⟩ = some (.int .i64 (W : Int)) := (blk_cell BKg.out 0).trans rfl; have hfg_w2_0 := blk_frozen BKg.out 0; have hcg_w2_1 : w2.cell? ⟨g, 1, none⟩ = some (.int .u32 (P : Int)) := (blk_cell BKg.out 1).trans rfl; have hfg_w2_1 := blk_frozen BKg.out 1; have hcg_w2_2 : w2.cell? ⟨g, 2, none⟩ = some (.int .u32 (I : Int)) := (blk_cell BKg.out 2).trans rfl; have hfg_w2_2 := blk_frozen BKg.out 2; have hcg_w2_3 : w2.cell? ⟨g, 3, none⟩ = some (.int .u32 (O : Int)) := (blk_cell BKg.out 3).trans rfl; have hfg_w2_3 := blk_frozen BKg.out 3; have hcg_w2_4 : w2.cell? ⟨g, 4, none⟩ = some (.bool true) := (blk_cell BKg.out 4).trans rfl; have hfg_w2_4 := blk_frozen BKg.out 4; have HH := Aside0.mk hh; have hlt := blk_lt BKg.out; clear hb hh) | (go_at_call 48; refine (crc_high_calls W K I _ _ _ _ _ _ _ _ _ _ _ HK.out HI32.out).mono ?_; rintro e w3 ⟨rfl, hb⟩; rw [HIK.out]; have BKh := aK (blk_below (blk_new _ _) hb); have n0_ := aK (below_step (below_alloc HB.out _) hb); clear HB; have HB := n0_; clear n0_; have n0_ := aK ((HH.out.later (below_alloc (Below.refl _ _) _)).later hb); clear HH; have HH := n0_; clear n0_; clear BKg hb))
 go_loopg [8, 24] L.length (fun kq v8 v24 w' => ∃ (c y i : Nat), v8 = .int .u32 (c : Int) ∧ v24 = .int .i64 (i : Int) ∧ Aside0 (i + kq = L.length) ∧ Aside0 (c = y * 2 ^ K) ∧ Aside0 (y < 2 ^ W) ∧ Aside0 (Crc.regs true W P y (B.drop i) = Crc.regs true W P I B) ∧ Aside0 (w'.heap[w2.heap.size]? = some (.cells #[.int .i64 (W : Int), .int .u32 (P : Int), .int .u32 (I : Int), .int .u32 (O : Int), .bool true, .func (.func 54) #[] #[], .func (.func 55) #[] #[.pointer (some ⟨p, 0, none⟩)], .func (.func 57) #[] #[.pointer (some ⟨q, 0, none⟩)]] 79 (0, 0))) ∧ Aside0 (crc_Held W P I O true p q w') ∧ Aside0 (Below w.heap.size w w'))
 case atStart => exact ⟨I * 2 ^ K, I, 0, rfl, rfl, ⟨by omega⟩, ⟨rfl⟩, HI, ⟨rfl⟩, BKh, HH, HB⟩
 case round =>
  clear HH BKh HB
  obtain ⟨c, y, i, rfl, rfl, HN, HC, HY, HV, BKh, HH, HB⟩ := hrel
  cases gk with
  | zero =>
   have hj : decide (i < L.length) = false := decide_eq_false (by have := HN.out; omega)
   have hch_wr_0 : wr.cell? ⟨w2.heap.size, 0, none⟩ = some (.int .i64 (W : Int)) := (blk_cell BKh.out 0).trans rfl; have hfh_wr_0 := blk_frozen BKh.out 0; have hch_wr_1 : wr.cell? ⟨w2.heap.size, 1, none⟩ = some (.int .u32 (P : Int)) := (blk_cell BKh.out 1).trans rfl; have hfh_wr_1 := blk_frozen BKh.out 1; have hch_wr_2 : wr.cell? ⟨w2.heap.size, 2, none⟩ = some (.int .u32 (I : Int)) := (blk_cell BKh.out 2).trans rfl; have hfh_wr_2 := blk_frozen BKh.out 2; have hch_wr_3 : wr.cell? ⟨w2.heap.size, 3, none⟩ = some (.int .u32 (O : Int)) := (blk_cell BKh.out 3).trans rfl; have hfh_wr_3 := blk_frozen BKh.out 3; have hch_wr_4 : wr.cell? ⟨w2.heap.size, 4, none⟩ = some (.bool true) := (blk_cell BKh.out 4).trans rfl; have hfh_wr_4 := blk_frozen BKh.out 4; have hch_wr_5 : wr.cell? ⟨w2.heap.size, 5, none⟩ = some (.func (.func 54) #[] #[]) := (blk_cell BKh.out 5).trans rfl; have hfh_wr_5 := blk_frozen BKh.out 5; have hch_wr_6 : wr.cell? ⟨w2.heap.size, 6, none⟩ = some (.func (.func 55) #[] #[.pointer (some ⟨p, 0, none⟩)]) := (blk_cell BKh.out 6).trans rfl; have hfh_wr_6 := blk_frozen BKh.out 6; have hch_wr_7 : wr.cell? ⟨w2.heap.size, 7, none⟩ = some (.func (.func 57) #[] #[.pointer (some ⟨q, 0, none⟩)]) := (blk_cell BKh.out 7).trans rfl; have hfh_wr_7 := blk_frozen BKh.out 7
   have ei : i = B.length := by
    have h1 := HN.out
    have h2 : L.length = B.length := by rw [HL.out, Crc.ints_length]
    omega
   have ey : y = Crc.regs true W P I B := by
    have h1 := HV.out
    rw [ei, List.drop_length] at h1
    exact h1
   have EY := Aside0.mk ey
   have EC := aK (show Crc.turn true W (Crc.regs true W P I B) ^^^ O = Crc.crc true W P I O B from rfl)
   have hcc := HC.out
   subst hcc
   clear ei ey
   go_wp2_with (first | (go_at_call 50; refine (crc_told_refl W K y O p q P I wr HK.out HY.out HO.out HH.out).mono ?_; rintro e w4 ⟨rfl, hb⟩; rw [EY.out, EC.out]; have n0_ := aK (below_step HB.out hb); clear HB; have HB := n0_; clear n0_; clear hb))
   go_ret2
   exact ⟨rfl, HB.out⟩
  | succ k1 =>
   have hj : decide (i < L.length) = true := decide_eq_true (by have := HN.out; omega)
   have hil := of_decide_eq_true hj
   have HIL := Aside0.mk hil
   have hj0 : decide (0 ≤ (i : Int)) = true := decide_eq_true (by omega)
   have ti : (i < L.length) = True := eq_true hil
   obtain ⟨ad, ea, hx⟩ := Kd.at_int HR1.out (i : Int) (by omega) (by omega)
   cases ea
   obtain ⟨x, hxx⟩ : ∃ x, x = B.getD i 0 := ⟨_, rfl⟩
   have hv : rd L (i : Int) = (x : Int) := by rw [HL.out, Crc.rd_ints, hxx]
   have hx0 := (HB.out.cell (World.block_lt_of_cell? w _ hx)).trans hx
   rw [hv, Int.toNat_natCast] at hx0
   have HXX := Aside0.mk hxx
   have HX := aK (show x < 256 by rw [hxx]; exact Crc.getD_lt HBY.out i)
   clear hx hv hil hxx
   have hch_wr_0 : wr.cell? ⟨w2.heap.size, 0, none⟩ = some (.int .i64 (W : Int)) := (blk_cell BKh.out 0).trans rfl; have hfh_wr_0 := blk_frozen BKh.out 0; have hch_wr_1 : wr.cell? ⟨w2.heap.size, 1, none⟩ = some (.int .u32 (P : Int)) := (blk_cell BKh.out 1).trans rfl; have hfh_wr_1 := blk_frozen BKh.out 1; have hch_wr_2 : wr.cell? ⟨w2.heap.size, 2, none⟩ = some (.int .u32 (I : Int)) := (blk_cell BKh.out 2).trans rfl; have hfh_wr_2 := blk_frozen BKh.out 2; have hch_wr_3 : wr.cell? ⟨w2.heap.size, 3, none⟩ = some (.int .u32 (O : Int)) := (blk_cell BKh.out 3).trans rfl; have hfh_wr_3 := blk_frozen BKh.out 3; have hch_wr_4 : wr.cell? ⟨w2.heap.size, 4, none⟩ = some (.bool true) := (blk_cell BKh.out 4).trans rfl; have hfh_wr_4 := blk_frozen BKh.out 4; have hch_wr_5 : wr.cell? ⟨w2.heap.size, 5, none⟩ = some (.func (.func 54) #[] #[]) := (blk_cell BKh.out 5).trans rfl; have hfh_wr_5 := blk_frozen BKh.out 5; have hch_wr_6 : wr.cell? ⟨w2.heap.size, 6, none⟩ = some (.func (.func 55) #[] #[.pointer (some ⟨p, 0, none⟩)]) := (blk_cell BKh.out 6).trans rfl; have hfh_wr_6 := blk_frozen BKh.out 6; have hch_wr_7 : wr.cell? ⟨w2.heap.size, 7, none⟩ = some (.func (.func 57) #[] #[.pointer (some ⟨q, 0, none⟩)]) := (blk_cell BKh.out 7).trans rfl; have hfh_wr_7 := blk_frozen BKh.out 7
   have hcx : c < 4294967296 := by rw [HC.out]; exact Crc.up_lt HK.out HY.out
   have EX : Aside0 (Go.bits .xor .u32 (c : Int) (IntKind.u32.wrap (IntKind.u32.wrap ((Crc.rev x 8 : Nat) : Int) * 16777216)) = ((c ^^^ Crc.rev x 8 * 2 ^ 24 : Nat) : Int)) := ⟨Crc.xor24 hcx (Crc.rev_lt x 8)⟩
   have HCX := aK (show c ^^^ Crc.rev x 8 * 2 ^ 24 < 4294967296 from Nat.xor_lt_two_pow (n := 32) hcx (by have := Crc.rev_lt x 8; omega))
   have RV : Aside0 (bits_Reverse8.f (x : Int) = some ((Crc.rev x 8 : Nat) : Int)) := ⟨by unfold bits_Reverse8.f; rw [if_pos (by have := HX.out; omega), Int.toNat_natCast]⟩
   clear hcx
   go_wp2
   go_region_held3 (fun w' => w'.cell? ⟨w2.heap.size, 0, none⟩ = some (.int .i64 (W : Int)) ∧ w'.cell? ⟨w2.heap.size, 1, none⟩ = some (.int .u32 (P : Int)) ∧ w'.cell? ⟨w2.heap.size, 2, none⟩ = some (.int .u32 (I : Int)) ∧ w'.cell? ⟨w2.heap.size, 3, none⟩ = some (.int .u32 (O : Int)) ∧ w'.cell? ⟨w2.heap.size, 4, none⟩ = some (.bool true) ∧ w'.cell? ⟨w2.heap.size, 5, none⟩ = some (.func (.func 54) #[] #[]) ∧ w'.cell? ⟨w2.heap.size, 6, none⟩ = some (.func (.func 55) #[] #[.pointer (some ⟨p, 0, none⟩)]) ∧ w'.cell? ⟨w2.heap.size, 7, none⟩ = some (.func (.func 57) #[] #[.pointer (some ⟨q, 0, none⟩)]) ∧ Aside0 (Below w.heap.size w w') ∧ Aside0 (w'.heap[w2.heap.size]? = some (.cells #[.int .i64 (W : Int), .int .u32 (P : Int), .int .u32 (I : Int), .int .u32 (O : Int), .bool true, .func (.func 54) #[] #[], .func (.func 55) #[] #[.pointer (some ⟨p, 0, none⟩)], .func (.func 57) #[] #[.pointer (some ⟨q, 0, none⟩)]] 79 (0, 0))) ∧ Aside0 (crc_Held W P I O true p q w')) ((first | (with_reducible assumption) | (with_reducible exact crc_Sr_mk (below_drew1 HB.out) (blk_drew BKh.out) (crc_Held_drew HH.out)) | (exact HS5) | (exact HS6))) (first | (go_at_call 54; refine (bits_Reverse8.calls (x : Int) ((Crc.rev x 8 : Nat) : Int) _ RV.out).mono ?_; rintro e w5 ⟨rfl, hd⟩; have HS5 := crc_Sr_step (crc_Sr_mk (below_drew1 HB.out) (blk_drew BKh.out) (crc_Held_drew HH.out)) hd.below) | (go_at_call 49; rw [EX.out]; refine (crc_step_calls W K P _ _ _ _ _ _ _ _ _ _ _ HK.out HP.out HCX.out).mono ?_; rintro e w6 ⟨rfl, hb⟩; have HS6 := crc_Sr_step HS5 hb))
   have HS6' := Aside0.mk HS6
   clear HS6
   go_wp2
   go_roundg k1
   case measure => omega
   case rel =>
    have hh := HS6'.out.2.2.2.2.2.2.2.2
    have hl2 : L.length = B.length := by rw [HL.out, Crc.ints_length]
    have hst := Crc.step_byte (R := true) HK.out HW.out HX.out HP.out HY.out
    refine ⟨_, Crc.feeds W P y (Crc.bitsOf true x), i + 1, rfl, congrArg (Value.int .i64) ?_, ⟨by have := HN.out; omega⟩, ⟨?_⟩, ⟨Crc.feeds_lt HP.out _ HY.out⟩, ⟨?_⟩, hh.2.1, hh.2.2, hh.1⟩
    ·have h1 := HIL.out
     have h2 := Kd.C_max HR1.out
     first | omega | (unfold wrap64; omega)
    ·rw [HC.out]
     exact hst
    ·have h1 := HV.out
     rw [Crc.drop_get (by have := HIL.out; omega), ← HXX.out] at h1
     exact h1
set_option maxHeartbeats 8000000 in
set_option maxRecDepth 100000 in
theorem crc_Sum_bad (A1 : Option Addr) (n1 c1 : Nat) (W P I O : Int) (R : Bool) (w : World) (hs : Crc.okI W P I O = false) :
  Calls Try.prog 41 #[.agg #[.int .i64 W, .int .u32 P, .int .u32 I, .int .u32 O, .bool R], .slice A1 n1 c1] w fun e w' => e = .returned (.tuple #[.int .u32 0, .int .i64 30]) ∧ Below w.heap.size w w' := by
 have hu24 := Try.underlying24
 have HB := aK (Below.refl w.heap.size w)
 have HS := Aside0.mk hs
 clear hs
 go_enter Try.func41, Try.ntmps41
 go_wp2_with (first | ((with_reducible refine gate_dst (N := 2) rfl ?_); refine box_event ?hg (N := 2) ?hd (cs := #[.int .i64 W, .int .u32 P, .int .u32 I, .int .u32 O, .bool R]) (t := 24) ?hr ?_; (case hd => rfl); (case hg => rfl); (case hr => first | (go_simp; done) | (go_simp; rfl)); intro g hg_ wg hbox_ hb_; have n0_ := aK (below_step HB.out hb_); have n1_ := Aside0.mk hbox_; have n2_ := aK ((by rw [hg_]; exact below_size HB.out) : w.heap.size ≤ g); clear HB; have HB := n0_; have BKg := n1_; have GEg := n2_; clear n0_ n1_ n2_; clear hb_ hbox_ hg_; have hcg_0 : wg.cell? ⟨g, 0, none⟩ = some (.int .i64 W) := (blk_cell BKg.out 0).trans rfl; have hfg_0 := blk_frozen BKg.out 0; have hcg_1 : wg.cell? ⟨g, 1, none⟩ = some (.int .u32 P) := (blk_cell BKg.out 1).trans rfl; have hfg_1 := blk_frozen BKg.out 1; have hcg_2 : wg.cell? ⟨g, 2, none⟩ = some (.int .u32 I) := (blk_cell BKg.out 2).trans rfl; have hfg_2 := blk_frozen BKg.out 2; have hcg_3 : wg.cell? ⟨g, 3, none⟩ = some (.int .u32 O) := (blk_cell BKg.out 3).trans rfl; have hfg_3 := blk_frozen BKg.out 3; have hcg_4 : wg.cell? ⟨g, 4, none⟩ = some (.bool R) := (blk_cell BKg.out 4).trans rfl; have hfg_4 := blk_frozen BKg.out 4) | (go_at_call 30; refine (crc_Check_bad W P I O R _ HS.out).mono ?_; rintro e w1 ⟨rfl, hb⟩; have n0_ := aK (below_step HB.out hb); clear HB; have HB := n0_; clear n0_; clear hb))
 go_ret2
 exact ⟨rfl, HB.out⟩
def crc_Sum.f (a0_0 a0_1 a0_2 a0_3 : Int) (a0_4 : Bool) (l1 : List Int) : Option (Int × Int) :=
 if Crc.okI a0_0 a0_1 a0_2 a0_3 then (if Crc.good a0_1 a0_2 a0_3 l1 then some (((Crc.crc a0_4 a0_0.toNat a0_1.toNat a0_2.toNat a0_3.toNat (l1.map Int.toNat) : Nat) : Int), 0) else none) else some (0, 30)
theorem crc_Sum.calls (a0_0 a0_1 a0_2 a0_3 : Int) (a0_4 : Bool) (A1 : Option Addr) (c1 : Nat) (l1 : List Int) (r1 r2 : Int) (w : World) (hr1 : Kd.C (Kd.int .u8) w A1 l1.length l1) (hc1 : l1.length ≤ c1) (h : crc_Sum.f a0_0 a0_1 a0_2 a0_3 a0_4 l1 = some (r1, r2)) :
  Calls Try.prog 41 #[.agg #[.int .i64 a0_0, .int .u32 a0_1, .int .u32 a0_2, .int .u32 a0_3, .bool a0_4], .slice A1 l1.length c1] w fun e w' => e = .returned (.tuple #[.int .u32 r1, .int .i64 r2]) ∧ Below w.heap.size w w' := by
 unfold crc_Sum.f at h
 cases hk : Crc.okI a0_0 a0_1 a0_2 a0_3 with
 | false =>
  simp only [hk, Bool.false_eq_true, if_false, Option.some.injEq, Prod.mk.injEq] at h
  obtain ⟨rfl, rfl⟩ := h
  exact crc_Sum_bad A1 l1.length c1 a0_0 a0_1 a0_2 a0_3 a0_4 w hk
 | true =>
  rw [hk, if_pos rfl] at h
  by_cases hg : Crc.good a0_1 a0_2 a0_3 l1
  ·rw [if_pos hg] at h
   simp only [Option.some.injEq, Prod.mk.injEq] at h
   obtain ⟨rfl, rfl⟩ := h
   obtain ⟨g1, g2, g3, g4⟩ := hg
   obtain ⟨W, rfl⟩ : ∃ n : Nat, a0_0 = (n : Int) := ⟨a0_0.toNat, by have := Crc.okI_width hk; omega⟩
   obtain ⟨P, rfl⟩ : ∃ n : Nat, a0_1 = (n : Int) := ⟨a0_1.toNat, by omega⟩
   obtain ⟨I, rfl⟩ : ∃ n : Nat, a0_2 = (n : Int) := ⟨a0_2.toNat, by omega⟩
   obtain ⟨O, rfl⟩ : ∃ n : Nat, a0_3 = (n : Int) := ⟨a0_3.toNat, by omega⟩
   obtain ⟨B, rfl, hB⟩ := Crc.bytes_of g4
   have hn := (Crc.okI_nat W P I O).1 hk
   have e : (Crc.ints B).map Int.toNat = B := Crc.toNat_ints B
   rw [e]
   simp only [Int.toNat_natCast]
   cases a0_4
   ·exact crc_Sum_plain A1 c1 W P I O B w hn hB hr1
   ·exact crc_Sum_refl A1 c1 W P I O B w hn hB hr1
  ·rw [if_neg hg] at h
   exact absurd h (by simp)

end Go.Proofs.Ytaoeehnnboegnaa.P

-- squeezed
