-- written by mk.sh, a program of this session, over the kit's print
import Derived.Test.YtaoeehnnboegnaaFpPx0
import Derived.Test.YtaoeehnnboegnaaFpPx4
import Derived.Test.YtaoeehnnboegnaaFpPx6
import Derived.Test.YtaoeehnnboegnaaFpPx7
namespace Go.Proofs.Ytaoeehnnboegnaa.P
open Go.RowKit Go.Proofs.YtaoeehnnboegnaaW.PrintWords Go.Proofs.YtaoeehnnboegnaaW.PrintLast Go.Proofs.YtaoeehnnboegnaaW.PrintMore
attribute [local go_sem] max2_int min2_int max_two min_two max_three min_three max_four min_four   -- for this text's walks alone
set_option linter.unusedVariables false
set_option linter.unusedSimpArgs false

/-! ### outpostref03_Unseal: function 39, given -/
@[reducible] def ref_Su (a0_0 a0_1 a0_2 a0_3 : Int) (a0_4 : Bool) (g : Nat) (A : Option Addr) (xs : List Int) (w w' : World) : Prop :=
 w'.cell? ⟨g, 0, none⟩ = some (.int .i64 a0_0) ∧ w'.cell? ⟨g, 1, none⟩ = some (.int .u32 a0_1) ∧ w'.cell? ⟨g, 2, none⟩ = some (.int .u32 a0_2) ∧ w'.cell? ⟨g, 3, none⟩ = some (.int .u32 a0_3) ∧ w'.cell? ⟨g, 4, none⟩ = some (.bool a0_4) ∧ Aside0 (Kd.C (Kd.int .u8) w' A xs.length xs)
theorem ref_Su_mk {a0_0 a0_1 a0_2 a0_3 : Int} {a0_4 : Bool} {g : Nat} {A : Option Addr} {xs : List Int} {w w' : World} (hk : w'.heap[g]? = some (.cells #[.int .i64 a0_0, .int .u32 a0_1, .int .u32 a0_2, .int .u32 a0_3, .bool a0_4] 24 (0, 0))) (hc : Kd.C (Kd.int .u8) w A xs.length xs) (hb : Below w.heap.size w w') : ref_Su a0_0 a0_1 a0_2 a0_3 a0_4 g A xs w w' :=
 ⟨(blk_cell hk 0).trans rfl, (blk_cell hk 1).trans rfl, (blk_cell hk 2).trans rfl, (blk_cell hk 3).trans rfl, (blk_cell hk 4).trans rfl, ⟨Kd.C_below hc hb⟩⟩
def outpostref03_Unseal.f (k : Nat) (a0_0 a0_1 a0_2 a0_3 : Int) (a0_4 : Bool) (l1 : List Int) : Option (List Int × Int) :=
 (outpostref03_Check.f k a0_0 a0_1 a0_2 a0_3 a0_4).bind fun t => if t = 0 then (if 8 ≤ a0_0 ∧ a0_0 ≤ 32 ∧ l1.length < 140737488355328 then (if l1.length < a0_0.toNat / 8 then some ([], 31) else
  ((outpostref03_Sum.f k a0_0 a0_1 a0_2 a0_3 a0_4 (l1.take (l1.length - a0_0.toNat / 8))).bind fun s => (outpostref03_Laid.f k a0_0 a0_1 a0_2 a0_3 a0_4 s.1).bind fun y =>
   if (strOfNums y).toList = (strOfNums (l1.drop (l1.length - a0_0.toNat / 8))).toList then some (l1.take (l1.length - a0_0.toNat / 8), 0) else some ([], 32))) else none) else some ([], 30)
theorem outpostref03_Unseal.mono : ∀ a0 a1 a2 a3 a4 a5 k, LeO (outpostref03_Unseal.f k a0 a1 a2 a3 a4 a5) (outpostref03_Unseal.f (k + 1) a0 a1 a2 a3 a4 a5) := by
 intro a0 a1 a2 a3 a4 a5 k
 unfold outpostref03_Unseal.f
 repeat' first
   | (with_reducible exact outpostref03_Check.mono _ _ _ _ _ _)
   | (with_reducible exact outpostref03_Sum.mono _ _ _ _ _ _ _)
   | (with_reducible exact outpostref03_Laid.mono _ _ _ _ _ _ _)
   | (with_reducible exact LeO.refl _)
   | (with_reducible exact LeO.none _)
   | (with_reducible refine LeO.ite ?_ ?_)
   | (with_reducible refine LeO.bind ?_ (fun _ => ?_))
set_option maxHeartbeats 16000000 in
set_option maxRecDepth 100000 in
theorem outpostref03_Unseal.calls (k : Nat) (a0_0 a0_1 a0_2 a0_3 : Int) (a0_4 : Bool) (A1 : Option Addr) (c1 : Nat) (l1 : List Int) (r1 : List Int) (r2 : Int) (w : World) (hr1 : Kd.C (Kd.int .u8) w A1 l1.length l1) (hc1 : l1.length ≤ c1) (h : outpostref03_Unseal.f k a0_0 a0_1 a0_2 a0_3 a0_4 l1 = some (r1, r2)) :
  Calls Try.prog 39 #[.agg #[.int .i64 a0_0, .int .u32 a0_1, .int .u32 a0_2, .int .u32 a0_3, .bool a0_4], .slice A1 l1.length c1] w fun e w' => ∃ v0_ : Value, e = .returned (.tuple #[v0_, .int .i64 r2]) ∧ Kd.R (Kd.int .u8) 5 w' w.heap.size (fun _ => True) v0_ r1 ∧ Below w.heap.size w w' := by
 have hu24 := Try.underlying24
 have HB := aK (Below.refl w.heap.size w)
 have HR1 := Aside0.mk hr1
 have HC1 := Aside0.mk hc1
 unfold outpostref03_Unseal.f at h
 obtain ⟨t, ht, h⟩ := Option.bind_eq_some_iff.1 h
 have HT := Aside0.mk ht
 clear hr1 hc1 ht
 by_cases ct : t = 0
 case neg =>
  rw [if_neg ct] at h
  simp only [Option.some.injEq, Prod.mk.injEq] at h
  obtain ⟨rfl, rfl⟩ := h
  have c1b : (t != 0) = true := bne_iff_ne.2 ct
  clear ct
  go_enter Try.func39, Try.ntmps39
  go_wp2_with (first | ((with_reducible refine gate_dst (N := 2) rfl ?_); refine box_event ?hg (N := 2) ?hd (cs := #[.int .i64 a0_0, .int .u32 a0_1, .int .u32 a0_2, .int .u32 a0_3, .bool a0_4]) (t := 24) ?hr ?_; (case hd => rfl); (case hg => rfl); (case hr => first | (go_simp; done) | (go_simp; rfl)); intro g hg_ wg hbox_ hb_; have n0_ := aK (below_step HB.out hb_); have n1_ := Aside0.mk hbox_; have n2_ := aK ((by rw [hg_]; exact below_size HB.out) : w.heap.size ≤ g); clear HB; have HB := n0_; have BKg := n1_; have GEg := n2_; clear n0_ n1_ n2_; clear hb_ hbox_ hg_; have hcg_0 : wg.cell? ⟨g, 0, none⟩ = some (.int .i64 a0_0) := (blk_cell BKg.out 0).trans rfl; have hfg_0 := blk_frozen BKg.out 0; have hcg_1 : wg.cell? ⟨g, 1, none⟩ = some (.int .u32 a0_1) := (blk_cell BKg.out 1).trans rfl; have hfg_1 := blk_frozen BKg.out 1; have hcg_2 : wg.cell? ⟨g, 2, none⟩ = some (.int .u32 a0_2) := (blk_cell BKg.out 2).trans rfl; have hfg_2 := blk_frozen BKg.out 2; have hcg_3 : wg.cell? ⟨g, 3, none⟩ = some (.int .u32 a0_3) := (blk_cell BKg.out 3).trans rfl; have hfg_3 := blk_frozen BKg.out 3; have hcg_4 : wg.cell? ⟨g, 4, none⟩ = some (.bool a0_4) := (blk_cell BKg.out 4).trans rfl; have hfg_4 := blk_frozen BKg.out 4) | (go_at_call 31; refine (outpostref03_Check.calls k _ _ _ _ _ t _ HT.out).mono ?_; rintro e w1 ⟨rfl, hb⟩; have n0_ := aK (below_step HB.out hb); clear HB; have HB := n0_; clear n0_; clear hb))
  go_ret2
  exact ⟨_, rfl, Kd.R_nil _ _ _ _ _, HB.out⟩
 subst ct
 rw [if_pos rfl] at h
 by_cases cg : 8 ≤ a0_0 ∧ a0_0 ≤ 32 ∧ l1.length < 140737488355328
 case neg =>
  rw [if_neg cg] at h
  exact absurd h (by simp)
 rw [if_pos cg] at h
 obtain ⟨g8, g32, gl⟩ := cg
 obtain ⟨W, rfl⟩ : ∃ n : Nat, a0_0 = (n : Int) := ⟨a0_0.toNat, by omega⟩
 rw [Int.toNat_natCast] at h
 have hll : (l1.length : Int) ≤ 140737488355328 := by omega
 have HLEN := Aside0.mk gl
 have HW := aK (show 8 ≤ W by omega)
 by_cases hn : l1.length < W / 8
 ·rw [if_pos hn] at h
  simp only [Option.some.injEq, Prod.mk.injEq] at h
  obtain ⟨rfl, rfl⟩ := h
  have hn1 : decide ((l1.length : Int) - (W : Int) / 8 < 0) = true := decide_eq_true (by omega)
  clear hn
  go_enter Try.func39, Try.ntmps39
  go_wp2_with (first | ((with_reducible refine gate_dst (N := 2) rfl ?_); refine box_event ?hg (N := 2) ?hd (cs := #[.int .i64 (W : Int), .int .u32 a0_1, .int .u32 a0_2, .int .u32 a0_3, .bool a0_4]) (t := 24) ?hr ?_; (case hd => rfl); (case hg => rfl); (case hr => first | (go_simp; done) | (go_simp; rfl)); intro g hg_ wg hbox_ hb_; have n0_ := aK (below_step HB.out hb_); have n1_ := Aside0.mk hbox_; have n2_ := aK ((by rw [hg_]; exact below_size HB.out) : w.heap.size ≤ g); clear HB; have HB := n0_; have BKg := n1_; have GEg := n2_; clear n0_ n1_ n2_; clear hb_ hbox_ hg_; have hcg_0 : wg.cell? ⟨g, 0, none⟩ = some (.int .i64 (W : Int)) := (blk_cell BKg.out 0).trans rfl; have hfg_0 := blk_frozen BKg.out 0; have hcg_1 : wg.cell? ⟨g, 1, none⟩ = some (.int .u32 a0_1) := (blk_cell BKg.out 1).trans rfl; have hfg_1 := blk_frozen BKg.out 1; have hcg_2 : wg.cell? ⟨g, 2, none⟩ = some (.int .u32 a0_2) := (blk_cell BKg.out 2).trans rfl; have hfg_2 := blk_frozen BKg.out 2; have hcg_3 : wg.cell? ⟨g, 3, none⟩ = some (.int .u32 a0_3) := (blk_cell BKg.out 3).trans rfl; have hfg_3 := blk_frozen BKg.out 3; have hcg_4 : wg.cell? ⟨g, 4, none⟩ = some (.bool a0_4) := (blk_cell BKg.out 4).trans rfl; have hfg_4 := blk_frozen BKg.out 4) | (go_at_call 31; refine (outpostref03_Check.calls k _ _ _ _ _ 0 _ HT.out).mono ?_; rintro e w1 ⟨rfl, hb⟩; have n0_ := aK (below_step HB.out hb); clear HB; have HB := n0_; clear n0_; have n0_ := aK (blk_below BKg.out hb); clear BKg; have BKg := n0_; clear n0_; have hcg_w1_0 : w1.cell? ⟨g, 0, none⟩ = some (.int .i64 (W : Int)) := (blk_cell BKg.out 0).trans rfl; have hfg_w1_0 := blk_frozen BKg.out 0; have hcg_w1_1 : w1.cell? ⟨g, 1, none⟩ = some (.int .u32 a0_1) := (blk_cell BKg.out 1).trans rfl; have hfg_w1_1 := blk_frozen BKg.out 1; have hcg_w1_2 : w1.cell? ⟨g, 2, none⟩ = some (.int .u32 a0_2) := (blk_cell BKg.out 2).trans rfl; have hfg_w1_2 := blk_frozen BKg.out 2; have hcg_w1_3 : w1.cell? ⟨g, 3, none⟩ = some (.int .u32 a0_3) := (blk_cell BKg.out 3).trans rfl; have hfg_w1_3 := blk_frozen BKg.out 3; have hcg_w1_4 : w1.cell? ⟨g, 4, none⟩ = some (.bool a0_4) := (blk_cell BKg.out 4).trans rfl; have hfg_w1_4 := blk_frozen BKg.out 4; clear hb))
  go_ret2
  exact ⟨_, rfl, Kd.R_nil _ _ _ _ _, HB.out⟩
 rw [if_neg hn] at h
 have hn1 : decide ((l1.length : Int) - (W : Int) / 8 < 0) = false := decide_eq_false (by omega)
 obtain ⟨n, hnn⟩ : ∃ n, n = l1.length - W / 8 := ⟨_, rfl⟩
 rw [← hnn] at h
 have HNN := aK (show n ≤ l1.length by omega)
 have HNI : Aside0 ((l1.length : Int) - (W : Int) / 8 = (n : Int)) := ⟨by omega⟩
 clear hn hnn
 obtain ⟨⟨s, s2⟩, hs, h⟩ := Option.bind_eq_some_iff.1 h
 obtain ⟨y, hy, h⟩ := Option.bind_eq_some_iff.1 h
 simp only at hy h
 have HSU := Aside0.mk hs
 have HY := Aside0.mk hy
 have HE := Aside0.mk h
 obtain ⟨i0, hi0, _, hsz0, _⟩ := info_parts info5
 have hcut := cut_to (P := Try.prog) 27 5 .i64 Try.underlying27 hi0 A1 l1.length c1 (n : Int) (Int.natCast_nonneg _) (by have := HNN.out; omega) HC1.out
 have hcutf := cut_from (P := Try.prog) 27 5 .i64 Try.underlying27 hi0 1 hsz0 A1 l1.length c1 (n : Int) (Int.natCast_nonneg _) (by have := HNN.out; omega)
 have hrd := Kd.C_drop (c := c1) (m := n) HR1.out HNN.out HC1.out
 rw [show (Kd.int .u8).sz = 1 from rfl] at hrd
 simp only [Int.toNat_natCast] at hcut hcutf
 obtain ⟨A2, hA2⟩ : ∃ A2 : Option Addr, A2 = (if c1 = n then A1 else A1.map (·.add (n * 1))) := ⟨_, rfl⟩
 rw [← hA2] at hcutf hrd
 have hld : (l1.drop n).length = l1.length - n := List.length_drop
 rw [← hld] at hcutf
 have HCUT := Aside0.mk hcut
 have HCUTF := Aside0.mk hcutf
 have HRD := Aside0.mk hrd
 clear hs hy h hi0 hA2 hld hrd hcutf hsz0
 go_enter Try.func39, Try.ntmps39
 go_wp2_with (first | ((with_reducible refine gate_dst (N := 2) rfl ?_); refine box_event ?hg (N := 2) ?hd (cs := #[.int .i64 (W : Int), .int .u32 a0_1, .int .u32 a0_2, .int .u32 a0_3, .bool a0_4]) (t := 24) ?hr ?_; (case hd => rfl); (case hg => rfl); (case hr => first | (go_simp; done) | (go_simp; rfl)); intro g hg_ wg hbox_ hb_; have n0_ := aK (below_step HB.out hb_); have n1_ := Aside0.mk hbox_; have n2_ := aK ((by rw [hg_]; exact below_size HB.out) : w.heap.size ≤ g); clear HB; have HB := n0_; have BKg := n1_; have GEg := n2_; clear n0_ n1_ n2_; clear hb_ hbox_ hg_; have hcg_0 : wg.cell? ⟨g, 0, none⟩ = some (.int .i64 (W : Int)) := (blk_cell BKg.out 0).trans rfl; have hfg_0 := blk_frozen BKg.out 0; have hcg_1 : wg.cell? ⟨g, 1, none⟩ = some (.int .u32 a0_1) := (blk_cell BKg.out 1).trans rfl; have hfg_1 := blk_frozen BKg.out 1; have hcg_2 : wg.cell? ⟨g, 2, none⟩ = some (.int .u32 a0_2) := (blk_cell BKg.out 2).trans rfl; have hfg_2 := blk_frozen BKg.out 2; have hcg_3 : wg.cell? ⟨g, 3, none⟩ = some (.int .u32 a0_3) := (blk_cell BKg.out 3).trans rfl; have hfg_3 := blk_frozen BKg.out 3; have hcg_4 : wg.cell? ⟨g, 4, none⟩ = some (.bool a0_4) := (blk_cell BKg.out 4).trans rfl; have hfg_4 := blk_frozen BKg.out 4) | (go_at_call 31; refine (outpostref03_Check.calls k _ _ _ _ _ 0 _ HT.out).mono ?_; rintro e w1 ⟨rfl, hb⟩; have n0_ := aK (below_step HB.out hb); clear HB; have HB := n0_; clear n0_; have n0_ := aK (blk_below BKg.out hb); clear BKg; have BKg := n0_; clear n0_; have hcg_w1_0 : w1.cell? ⟨g, 0, none⟩ = some (.int .i64 (W : Int)) := (blk_cell BKg.out 0).trans rfl; have hfg_w1_0 := blk_frozen BKg.out 0; have hcg_w1_1 : w1.cell? ⟨g, 1, none⟩ = some (.int .u32 a0_1) := (blk_cell BKg.out 1).trans rfl; have hfg_w1_1 := blk_frozen BKg.out 1; have hcg_w1_2 : w1.cell? ⟨g, 2, none⟩ = some (.int .u32 a0_2) := (blk_cell BKg.out 2).trans rfl; have hfg_w1_2 := blk_frozen BKg.out 2; have hcg_w1_3 : w1.cell? ⟨g, 3, none⟩ = some (.int .u32 a0_3) := (blk_cell BKg.out 3).trans rfl; have hfg_w1_3 := blk_frozen BKg.out 3; have hcg_w1_4 : w1.cell? ⟨g, 4, none⟩ = some (.bool a0_4) := (blk_cell BKg.out 4).trans rfl; have hfg_w1_4 := blk_frozen BKg.out 4; clear hb))
 rw [HNI.out]
 clear hn1
 refine start_ (n := 10) (S := ref_Su W a0_1 a0_2 a0_3 a0_4 g A2 (l1.drop n) w) (ds := []) #[false, false, false, false, false, false, false, false, false, false] (by kernel_rfl) rfl rfl (ref_Su_mk (blk_drew BKg.out) HRD.out (below_drew1 HB.out)) (fun hHeld => ?_)
 refine take_ (i := 0) (N := some 21) (v := ?_) (a' := ?_) #[true, false, false, false, false, false, false, false, false, false] rfl rfl (by kernel_rfl) (fun _ _ _ h => h) (Or.inl ⟨by rfl, ?_⟩) hHeld ?_ ?_
 rotate_left
 ·rintro w' ⟨hq0, hq1, hq2, hq3, hq4, _⟩
  go_simp
  with_reducible rfl
 rotate_left
 ·simp only [Act.put, List.setIfInBounds_toArray, List.set_cons_zero, List.set_cons_succ, i64_w, i32_w]
  rfl
 refine pure_ (i := 1) (N := some 22) (v := ?_) (a' := ?_) #[true, true, false, false, false, false, false, false, false, false] rfl rfl (by kernel_rfl) (fun _ _ _ h => h) (Or.inl ⟨by rfl, ?_⟩) ?_ ?_
 rotate_left
 ·intro w'
  go_simp
  with_reducible rfl
 rotate_left
 ·simp only [Act.put, List.setIfInBounds_toArray, List.set_cons_zero, List.set_cons_succ, i64_w, i32_w]
  rfl
 refine pure_ (i := 2) (N := some 23) (v := ?_) (a' := ?_) #[true, true, true, false, false, false, false, false, false, false] rfl rfl (by kernel_rfl) (fun _ _ _ h => h) (Or.inl ⟨by rfl, ?_⟩) ?_ ?_
 rotate_left
 ·intro w'
  go_simp
  with_reducible rfl
 rotate_left
 ·simp only [Act.put, List.setIfInBounds_toArray, List.set_cons_zero, List.set_cons_succ, i64_w, i32_w]
  rfl
 refine pure_ (i := 3) (N := some 24) (v := ?_) (a' := ?_) #[true, true, true, true, false, false, false, false, false, false] rfl rfl (by kernel_rfl) (fun _ _ _ h => h) (Or.inl ⟨by rfl, ?_⟩) ?_ ?_
 rotate_left
 ·intro w'
  go_simp
  with_reducible rfl
 rotate_left
 ·simp only [Act.put, List.setIfInBounds_toArray, List.set_cons_zero, List.set_cons_succ, i64_w, i32_w]
  rfl
 refine one_ (i := 4) (N := some 25) #[true, true, true, true, true, false, false, false, false, false] rfl rfl (by kernel_rfl) (by decide) (fun K hK => ?_)
 refine call_ 43 #[.agg #[.int .i64 (W : Int), .int .u32 a0_1, .int .u32 a0_2, .int .u32 a0_3, .bool a0_4], .slice A1 n c1] (by rfl) rfl ?hrun ?_
 case hrun =>
  have he := enters_ Try.func43 (by kernel_rfl) rfl #[.agg #[.int .i64 (W : Int), .int .u32 a0_1, .int .u32 a0_2, .int .u32 a0_3, .bool a0_4], .slice A1 n c1] w1.drew
  unfold execOp
  simp [resolve, Deferred.ofValue, invoke, Act.eval, he]
 have hcs := outpostref03_Sum.calls k W a0_1 a0_2 a0_3 a0_4 A1 c1 (l1.take n) s s2 w1.drew (Kd.C_below (Kd.C_take (m := n) HR1.out HNN.out) (below_drew1 HB.out)) (by rw [List.length_take]; have := HNN.out; have := HC1.out; omega) HSU.out
 rw [show (l1.take n).length = n by rw [List.length_take]; have := HNN.out; omega] at hcs
 refine hcs.mono ?_
 rintro e w4 ⟨rfl, hb4⟩
 have HB4 := aK (below_step (below_drew1 HB.out) hb4)
 have BK4 := aK (blk_below (blk_drew BKg.out) hb4)
 refine ⟨_, rfl, hK.out _ _ (ref_Su_mk BK4.out HRD.out HB4.out) (fun hHeld4 => ?_)⟩
 clear hK K hcs hb4 hHeld
 try simp only [Act.put, List.setIfInBounds_toArray, List.set_cons_zero, List.set_cons_succ]
 refine pure_ (i := 5) (N := some 20) (v := ?_) (a' := ?_) #[true, true, true, true, true, true, false, false, false, false] rfl rfl (by kernel_rfl) (fun _ _ _ h => h) (Or.inl ⟨by rfl, ?_⟩) ?_ ?_
 rotate_left
 ·intro w'
  go_simp
  with_reducible rfl
 rotate_left
 ·simp only [Act.put, List.setIfInBounds_toArray, List.set_cons_zero, List.set_cons_succ, i64_w, i32_w]
  rfl
 refine pure_ (i := 6) (N := some 26) (v := ?_) (a' := ?_) #[true, true, true, true, true, true, true, false, false, false] rfl rfl (by kernel_rfl) (fun _ _ _ h => h) (Or.inl ⟨by rfl, ?_⟩) ?_ ?_
 rotate_left
 ·intro w'
  go_simp
  with_reducible rfl
 rotate_left
 ·simp only [Act.put, List.setIfInBounds_toArray, List.set_cons_zero, List.set_cons_succ, i64_w, i32_w]
  rfl
 refine pure_ (i := 7) (N := some 27) (v := ?_) (a' := ?_) #[true, true, true, true, true, true, true, true, false, false] rfl rfl (by kernel_rfl) (fun _ _ _ h => h) (Or.inl ⟨by rfl, ?_⟩) ?_ ?_
 rotate_left
 ·intro w'
  go_simp
  with_reducible rfl
 rotate_left
 ·simp only [Act.put, List.setIfInBounds_toArray, List.set_cons_zero, List.set_cons_succ, i64_w, i32_w]
  rfl
 refine pure_ (i := 8) (N := some 7) (v := ?_) (a' := ?_) #[true, true, true, true, true, true, true, true, true, false] rfl rfl (by kernel_rfl) (fun _ _ _ h => h) (Or.inl ⟨by rfl, ?_⟩) ?_ ?_
 rotate_left
 ·intro w'
  go_simp
  with_reducible rfl
 rotate_left
 ·simp only [Act.put, List.setIfInBounds_toArray, List.set_cons_zero, List.set_cons_succ, i64_w, i32_w]
  rfl
 refine pure_ (i := 9) (N := some 8) (v := ?_) (a' := ?_) #[true, true, true, true, true, true, true, true, true, true] rfl rfl (by kernel_rfl) (fun _ _ _ h => h) (Or.inl ⟨by rfl, ?_⟩) ?_ ?_
 rotate_left
 ·intro w'
  go_simp
  with_reducible rfl
 rotate_left
 ·simp only [Act.put, List.setIfInBounds_toArray, List.set_cons_zero, List.set_cons_succ, i64_w, i32_w]
  rfl
 refine done_ (by kernel_rfl) ?_
 clear hcut BKg HB
 have BKg := BK4
 have HB := HB4
 clear BK4 HB4
 have hcg_w4_0 : w4.cell? ⟨g, 0, none⟩ = some (.int .i64 (W : Int)) := (blk_cell BKg.out 0).trans rfl; have hfg_w4_0 := blk_frozen BKg.out 0; have hcg_w4_1 : w4.cell? ⟨g, 1, none⟩ = some (.int .u32 a0_1) := (blk_cell BKg.out 1).trans rfl; have hfg_w4_1 := blk_frozen BKg.out 1; have hcg_w4_2 : w4.cell? ⟨g, 2, none⟩ = some (.int .u32 a0_2) := (blk_cell BKg.out 2).trans rfl; have hfg_w4_2 := blk_frozen BKg.out 2; have hcg_w4_3 : w4.cell? ⟨g, 3, none⟩ = some (.int .u32 a0_3) := (blk_cell BKg.out 3).trans rfl; have hfg_w4_3 := blk_frozen BKg.out 3; have hcg_w4_4 : w4.cell? ⟨g, 4, none⟩ = some (.bool a0_4) := (blk_cell BKg.out 4).trans rfl; have hfg_w4_4 := blk_frozen BKg.out 4
 go_wp2
 have hcutf := HCUTF.out
 by_cases ce : (strOfNums y).toList = (strOfNums (l1.drop n)).toList
 ·have he := HE.out
  rw [if_pos ce] at he
  simp only [Option.some.injEq, Prod.mk.injEq] at he
  obtain ⟨rfl, rfl⟩ := he
  have ce0 : ((strOfNums y).toList == (strOfNums (l1.drop n)).toList) = true := beq_iff_eq.2 ce
  have ce1 : ((strOfNums y).toList != (strOfNums (l1.drop n)).toList) = false := bne_eq_false_iff_eq.2 ce
  clear ce
  refine start_ (n := 9) (S := ref_Su W a0_1 a0_2 a0_3 a0_4 g A2 (l1.drop n) w) (ds := []) #[false, false, false, false, false, false, false, false, false] (by kernel_rfl) rfl rfl (ref_Su_mk (blk_drew BKg.out) HRD.out (below_drew1 HB.out)) (fun hHeld => ?_)
  refine take_ (i := 0) (N := some 28) (v := ?_) (a' := ?_) #[true, false, false, false, false, false, false, false, false] rfl rfl (by kernel_rfl) (fun _ _ _ h => h) (Or.inl ⟨by rfl, ?_⟩) hHeld ?_ ?_
  rotate_left
  ·rintro w' ⟨hq0, hq1, hq2, hq3, hq4, hqc⟩
   go_simp
   with_reducible rfl
  rotate_left
  ·simp only [Act.put, List.setIfInBounds_toArray, List.set_cons_zero, List.set_cons_succ, i64_w, i32_w]
   rfl
  refine pure_ (i := 1) (N := some 29) (v := ?_) (a' := ?_) #[true, true, false, false, false, false, false, false, false] rfl rfl (by kernel_rfl) (fun _ _ _ h => h) (Or.inl ⟨by rfl, ?_⟩) ?_ ?_
  rotate_left
  ·intro w'
   go_simp
   with_reducible rfl
  rotate_left
  ·simp only [Act.put, List.setIfInBounds_toArray, List.set_cons_zero, List.set_cons_succ, i64_w, i32_w]
   rfl
  refine pure_ (i := 4) (N := some 32) (v := ?_) (a' := ?_) #[true, true, false, false, true, false, false, false, false] rfl rfl (by kernel_rfl) (fun _ _ _ h => h) (Or.inl ⟨by rfl, ?_⟩) ?_ ?_
  rotate_left
  ·intro w'
   go_simp
   with_reducible rfl
  rotate_left
  ·simp only [Act.put, List.setIfInBounds_toArray, List.set_cons_zero, List.set_cons_succ, i64_w, i32_w]
   rfl
  refine pure_ (i := 5) (N := some 33) (v := ?_) (a' := ?_) #[true, true, false, false, true, true, false, false, false] rfl rfl (by kernel_rfl) (fun _ _ _ h => h) (Or.inl ⟨by rfl, ?_⟩) ?_ ?_
  rotate_left
  ·intro w'
   go_simp
   with_reducible rfl
  rotate_left
  ·simp only [Act.put, List.setIfInBounds_toArray, List.set_cons_zero, List.set_cons_succ, i64_w, i32_w]
   rfl
  refine pure_ (i := 6) (N := some 34) (v := ?_) (a' := ?_) #[true, true, false, false, true, true, true, false, false] rfl rfl (by kernel_rfl) (fun _ _ _ h => h) (Or.inl ⟨by rfl, ?_⟩) ?_ ?_
  rotate_left
  ·intro w'
   go_simp
   with_reducible rfl
  rotate_left
  ·simp only [Act.put, List.setIfInBounds_toArray, List.set_cons_zero, List.set_cons_succ, i64_w, i32_w]
   rfl
  refine take_ (i := 7) (N := some 35) (v := ?_) (a' := ?_) #[true, true, false, false, true, true, true, true, false] rfl rfl (by kernel_rfl) (fun _ _ _ h => h) (Or.inl ⟨by rfl, ?_⟩) hHeld ?_ ?_
  rotate_left
  ·rintro w' ⟨hq0, hq1, hq2, hq3, hq4, hqc⟩
   have hcv7 := Kd.C_string (P := Try.prog) (A := A2) (c := c1 - n) Try.underlying27 Try.underlying5 Try.underlying9 hqc.out
   rw [List.length_drop] at hcv7
   go_simp
   with_reducible rfl
  rotate_left
  ·simp only [Act.put, List.setIfInBounds_toArray, List.set_cons_zero, List.set_cons_succ, i64_w, i32_w]
   rfl
  refine one_ (i := 2) (N := some 30) #[true, true, true, false, true, true, true, true, false] rfl rfl (by kernel_rfl) (by decide) (fun K hK => ?_)
  refine call_ 44 #[.agg #[.int .i64 (W : Int), .int .u32 a0_1, .int .u32 a0_2, .int .u32 a0_3, .bool a0_4], .int .u32 s] (by rfl) rfl ?hrun ?_
  case hrun =>
   have he := enters_ Try.func44 (by kernel_rfl) rfl #[.agg #[.int .i64 (W : Int), .int .u32 a0_1, .int .u32 a0_2, .int .u32 a0_3, .bool a0_4], .int .u32 s] w4.drew
   unfold execOp
   simp [resolve, Deferred.ofValue, invoke, Act.eval, he]
  refine (outpostref03_Laid.calls k W a0_1 a0_2 a0_3 a0_4 s y w4.drew HY.out).mono ?_
  rintro e w5 ⟨v30, rfl, hr30, hb5⟩
  have HR30 := Aside0.mk hr30
  have HB5 := aK (below_step (below_drew1 HB.out) hb5)
  have BK5 := aK (blk_below (blk_drew BKg.out) hb5)
  refine ⟨_, rfl, hK.out _ _ (ref_Su_mk BK5.out HRD.out HB5.out) (fun hHeld5 => ?_)⟩
  clear hK K hr30 hb5 hHeld
  refine norm_ (a' := ?_) ?_ ?_
  rotate_left
  ·show Act.put _ (some 30) _ = _
   simp only [Act.put, List.setIfInBounds_toArray, List.set_cons_zero, List.set_cons_succ, i64_w, i32_w]
   rfl
  refine one_ (i := 3) (N := some 31) #[true, true, true, true, true, true, true, true, false] rfl rfl (by kernel_rfl) (by decide) (fun K hK => ?_)
  have hcv31 := own_string (P := Try.prog) Try.underlying27 Try.underlying5 Try.underlying9 (Kd.own_of_R HR30.out)
  refine value_ (w1 := ?_) (v := ?_) (by rfl) rfl ?_ ?_
  rotate_left 2
  ·go_simp
   constructor
   ·rfl
   ·rfl
  clear hcv31
  refine hK.out _ _ (ref_Su_mk BK5.out HRD.out HB5.out) (fun hHeld6 => ?_)
  clear hK K hHeld5
  refine norm_ (a' := ?_) ?_ ?_
  rotate_left
  ·show Act.put _ (some 31) _ = _
   simp only [Act.put, List.setIfInBounds_toArray, List.set_cons_zero, List.set_cons_succ, i64_w, i32_w]
   rfl
  refine pure_ (i := 8) (N := some 36) (v := ?_) (a' := ?_) #[true, true, true, true, true, true, true, true, true] rfl rfl (by kernel_rfl) (fun _ _ _ h => h) (Or.inl ⟨by rfl, ?_⟩) ?_ ?_
  rotate_left
  ·intro w'
   go_simp
   with_reducible rfl
  rotate_left
  ·simp only [Act.put, List.setIfInBounds_toArray, List.set_cons_zero, List.set_cons_succ, i64_w, i32_w]
   rfl
  refine done_ (by kernel_rfl) ?_
  clear hcutf BKg HB
  have BKg := BK5
  have HB := HB5
  clear BK5 HB5
  have hcut := HCUT.out
  have hrt := Kd.C_take (m := n) HR1.out HNN.out
  rw [show (l1.take n).length = n by rw [List.length_take]; have := HNN.out; omega] at hrt
  have HRT := aK (Kd.C_below hrt HB.out)
  clear hrt
  go_wp2_with (first | ((with_reducible refine gate_dst (N := 37) rfl ?_); refine Kd.R_lit (Kd.int .u8) _ 5 ?hg (N := 37) ?hd (xs := ([] : List Int)) (inner := []) (ok := fun _ => True) (okp := fun _ => True) ?hr ?hp (fun _ hk => hk) trivial (Below.refl _ _) (Nat.le_refl _) (by simp) ?_; (case hd => rfl); (case hg => rfl); (case hr => first | (go_simp; done) | (go_simp; rfl)); (case hp => exact (Reps.none _ _)); intro v37 w7 ho7 hb hg_ hnew_; clear hg_ hnew_; have HO7 := aK (Kd.R_lower ho7 (below_size HB.out)); have n0_ := aK (below_step HB.out hb); have n1_ := aK (Kd.C_below HRT.out hb); clear HB HRT; have HB := n0_; have HRT := n1_; clear n0_ n1_ hb ho7) | ((with_reducible refine gate_builtin (b := .append) (xs := #[.tmp 37, .tmp 40]) rfl ?_); at_builtin; refine Kd.R_append_rows (Kd.int .u8) (w0 := w) w.heap.size rfl (.tmp 37) (.tmp 40) 27 5 (.int .u8 0) 1 rfl Try.underlying27 info5 rfl (by decide) (by omega) v37 [] (l1.take n) A1 n c1 (fun _ => True) (fun _ => False) rfl rfl ?aO ?aR (fun _ _ h => h) (fun _ h => h.elim) ?aF ?aB ?aS ?aL ?_; (case aR => exact HRT.out); (case aB => exact HB.out); (case aF => exact (fun _ _ => trivial)); (case aO => exact HO7.out); (case aS => exact below_size HB.out); (case aL => have := HNN.out; have := HLEN.out; simp only [List.length_nil]; omega); intro v105 w8 ho hb hg hat; rw [List.nil_append] at ho; have HO := Aside0.mk ho; have HB8 := Aside0.mk hb; clear ho hb hg hat))
  go_ret2
  exact ⟨_, rfl, HO.out, HB8.out⟩
 ·have he := HE.out
  rw [if_neg ce] at he
  simp only [Option.some.injEq, Prod.mk.injEq] at he
  obtain ⟨rfl, rfl⟩ := he
  have ce0 : ((strOfNums y).toList == (strOfNums (l1.drop n)).toList) = false := beq_eq_false_iff_ne.2 ce
  have ce1 : ((strOfNums y).toList != (strOfNums (l1.drop n)).toList) = true := bne_iff_ne.2 ce
  clear ce
  refine start_ (n := 9) (S := ref_Su W a0_1 a0_2 a0_3 a0_4 g A2 (l1.drop n) w) (ds := []) #[false, false, false, false, false, false, false, false, false] (by kernel_rfl) rfl rfl (ref_Su_mk (blk_drew BKg.out) HRD.out (below_drew1 HB.out)) (fun hHeld => ?_)
  refine take_ (i := 0) (N := some 28) (v := ?_) (a' := ?_) #[true, false, false, false, false, false, false, false, false] rfl rfl (by kernel_rfl) (fun _ _ _ h => h) (Or.inl ⟨by rfl, ?_⟩) hHeld ?_ ?_
  rotate_left
  ·rintro w' ⟨hq0, hq1, hq2, hq3, hq4, hqc⟩
   go_simp
   with_reducible rfl
  rotate_left
  ·simp only [Act.put, List.setIfInBounds_toArray, List.set_cons_zero, List.set_cons_succ, i64_w, i32_w]
   rfl
  refine pure_ (i := 1) (N := some 29) (v := ?_) (a' := ?_) #[true, true, false, false, false, false, false, false, false] rfl rfl (by kernel_rfl) (fun _ _ _ h => h) (Or.inl ⟨by rfl, ?_⟩) ?_ ?_
  rotate_left
  ·intro w'
   go_simp
   with_reducible rfl
  rotate_left
  ·simp only [Act.put, List.setIfInBounds_toArray, List.set_cons_zero, List.set_cons_succ, i64_w, i32_w]
   rfl
  refine pure_ (i := 4) (N := some 32) (v := ?_) (a' := ?_) #[true, true, false, false, true, false, false, false, false] rfl rfl (by kernel_rfl) (fun _ _ _ h => h) (Or.inl ⟨by rfl, ?_⟩) ?_ ?_
  rotate_left
  ·intro w'
   go_simp
   with_reducible rfl
  rotate_left
  ·simp only [Act.put, List.setIfInBounds_toArray, List.set_cons_zero, List.set_cons_succ, i64_w, i32_w]
   rfl
  refine pure_ (i := 5) (N := some 33) (v := ?_) (a' := ?_) #[true, true, false, false, true, true, false, false, false] rfl rfl (by kernel_rfl) (fun _ _ _ h => h) (Or.inl ⟨by rfl, ?_⟩) ?_ ?_
  rotate_left
  ·intro w'
   go_simp
   with_reducible rfl
  rotate_left
  ·simp only [Act.put, List.setIfInBounds_toArray, List.set_cons_zero, List.set_cons_succ, i64_w, i32_w]
   rfl
  refine pure_ (i := 6) (N := some 34) (v := ?_) (a' := ?_) #[true, true, false, false, true, true, true, false, false] rfl rfl (by kernel_rfl) (fun _ _ _ h => h) (Or.inl ⟨by rfl, ?_⟩) ?_ ?_
  rotate_left
  ·intro w'
   go_simp
   with_reducible rfl
  rotate_left
  ·simp only [Act.put, List.setIfInBounds_toArray, List.set_cons_zero, List.set_cons_succ, i64_w, i32_w]
   rfl
  refine take_ (i := 7) (N := some 35) (v := ?_) (a' := ?_) #[true, true, false, false, true, true, true, true, false] rfl rfl (by kernel_rfl) (fun _ _ _ h => h) (Or.inl ⟨by rfl, ?_⟩) hHeld ?_ ?_
  rotate_left
  ·rintro w' ⟨hq0, hq1, hq2, hq3, hq4, hqc⟩
   have hcv7 := Kd.C_string (P := Try.prog) (A := A2) (c := c1 - n) Try.underlying27 Try.underlying5 Try.underlying9 hqc.out
   rw [List.length_drop] at hcv7
   go_simp
   with_reducible rfl
  rotate_left
  ·simp only [Act.put, List.setIfInBounds_toArray, List.set_cons_zero, List.set_cons_succ, i64_w, i32_w]
   rfl
  refine one_ (i := 2) (N := some 30) #[true, true, true, false, true, true, true, true, false] rfl rfl (by kernel_rfl) (by decide) (fun K hK => ?_)
  refine call_ 44 #[.agg #[.int .i64 (W : Int), .int .u32 a0_1, .int .u32 a0_2, .int .u32 a0_3, .bool a0_4], .int .u32 s] (by rfl) rfl ?hrun ?_
  case hrun =>
   have he := enters_ Try.func44 (by kernel_rfl) rfl #[.agg #[.int .i64 (W : Int), .int .u32 a0_1, .int .u32 a0_2, .int .u32 a0_3, .bool a0_4], .int .u32 s] w4.drew
   unfold execOp
   simp [resolve, Deferred.ofValue, invoke, Act.eval, he]
  refine (outpostref03_Laid.calls k W a0_1 a0_2 a0_3 a0_4 s y w4.drew HY.out).mono ?_
  rintro e w5 ⟨v30, rfl, hr30, hb5⟩
  have HR30 := Aside0.mk hr30
  have HB5 := aK (below_step (below_drew1 HB.out) hb5)
  have BK5 := aK (blk_below (blk_drew BKg.out) hb5)
  refine ⟨_, rfl, hK.out _ _ (ref_Su_mk BK5.out HRD.out HB5.out) (fun hHeld5 => ?_)⟩
  clear hK K hr30 hb5 hHeld
  refine norm_ (a' := ?_) ?_ ?_
  rotate_left
  ·show Act.put _ (some 30) _ = _
   simp only [Act.put, List.setIfInBounds_toArray, List.set_cons_zero, List.set_cons_succ, i64_w, i32_w]
   rfl
  refine one_ (i := 3) (N := some 31) #[true, true, true, true, true, true, true, true, false] rfl rfl (by kernel_rfl) (by decide) (fun K hK => ?_)
  have hcv31 := own_string (P := Try.prog) Try.underlying27 Try.underlying5 Try.underlying9 (Kd.own_of_R HR30.out)
  refine value_ (w1 := ?_) (v := ?_) (by rfl) rfl ?_ ?_
  rotate_left 2
  ·go_simp
   constructor
   ·rfl
   ·rfl
  clear hcv31
  refine hK.out _ _ (ref_Su_mk BK5.out HRD.out HB5.out) (fun hHeld6 => ?_)
  clear hK K hHeld5
  refine norm_ (a' := ?_) ?_ ?_
  rotate_left
  ·show Act.put _ (some 31) _ = _
   simp only [Act.put, List.setIfInBounds_toArray, List.set_cons_zero, List.set_cons_succ, i64_w, i32_w]
   rfl
  refine pure_ (i := 8) (N := some 36) (v := ?_) (a' := ?_) #[true, true, true, true, true, true, true, true, true] rfl rfl (by kernel_rfl) (fun _ _ _ h => h) (Or.inl ⟨by rfl, ?_⟩) ?_ ?_
  rotate_left
  ·intro w'
   go_simp
   with_reducible rfl
  rotate_left
  ·simp only [Act.put, List.setIfInBounds_toArray, List.set_cons_zero, List.set_cons_succ, i64_w, i32_w]
   rfl
  refine done_ (by kernel_rfl) ?_
  clear hcutf BKg HB
  have BKg := BK5
  have HB := HB5
  clear BK5 HB5
  go_wp2
  go_ret2
  exact ⟨_, rfl, Kd.R_nil _ _ _ _ _, HB.out⟩


/-! ### outpostref24_number: function 40 -/
def outpostref24_number.f (l0 : List Int) : Option (Int) := if 0 < (l0.length : Int) then (if 1 < (l0.length : Int) then (if 2 < (l0.length : Int) then (if 3 < (l0.length : Int) then (some (Go.bits .or .u32 (Go.bits .or .u32 (Go.bits .or .u32 ((((rd l0 0) % 4294967296) * 16777216) % 4294967296) ((((rd l0 1) % 4294967296) * 65536) % 4294967296)) ((((rd l0 2) % 4294967296) * 256) % 4294967296)) ((rd l0 3) % 4294967296))) else (none)) else (none)) else (none)) else (none)
set_option maxHeartbeats 8000000 in
set_option maxRecDepth 100000 in
theorem outpostref24_number.calls (A0 : Option Addr) (c0 : Nat) (l0 : List Int) (r : Int) (w : World) (hr0 : Kd.C (Kd.int .u8) w A0 l0.length l0) (hc0 : l0.length ≤ c0) (h : outpostref24_number.f l0 = some r) :
  Calls Try.prog 40 #[.slice A0 l0.length c0] w fun e w' => e = .returned (.int .u32 r) ∧ Drawn0 w w' := by
 have HR0 := Aside0.mk hr0
 have HC0 := Aside0.mk hc0
 clear hr0 hc0
 have H : (if 0 < (l0.length : Int) then (if 1 < (l0.length : Int) then (if 2 < (l0.length : Int) then (if 3 < (l0.length : Int) then (some (Go.bits .or .u32 (Go.bits .or .u32 (Go.bits .or .u32 ((((rd l0 0) % 4294967296) * 16777216) % 4294967296) ((((rd l0 1) % 4294967296) * 65536) % 4294967296)) ((((rd l0 2) % 4294967296) * 256) % 4294967296)) ((rd l0 3) % 4294967296))) else (none)) else (none)) else (none)) else (none)) = some r := h
 clear h
 by_cases c2 : 0 < (l0.length : Int)
 ·rw [if_pos c2] at H
  have c2b0 : decide (0 < (l0.length : Int)) = true := decide_eq_true c2
  have c2b1 : decide (0 < l0.length) = true := decide_eq_true (by omega)
  clear c2
  by_cases c3 : 1 < (l0.length : Int)
  ·rw [if_pos c3] at H
   have c3b0 : decide (1 < (l0.length : Int)) = true := decide_eq_true c3
   have c3b1 : decide (1 < l0.length) = true := decide_eq_true (by omega)
   clear c3
   by_cases c4 : 2 < (l0.length : Int)
   ·rw [if_pos c4] at H
    have c4b0 : decide (2 < (l0.length : Int)) = true := decide_eq_true c4
    have c4b1 : decide (2 < l0.length) = true := decide_eq_true (by omega)
    clear c4
    by_cases c5 : 3 < (l0.length : Int)
    ·rw [if_pos c5] at H
     have c5b0 : decide (3 < (l0.length : Int)) = true := decide_eq_true c5
     have c5b1 : decide (3 < l0.length) = true := decide_eq_true (by omega)
     clear c5
     obtain rfl := Option.some.inj H
     have p379 : 0 ≤ (0 : Int) := (by omega)
     have q379 : 0 < (l0.length : Int) := of_decide_eq_true (by first | (with_reducible assumption) | assumption)
     obtain ⟨ad379, e379, hx379_0⟩ := Kd.at_int HR0.out 0 p379 q379
     cases e379
     have qi379 : (0 < l0.length) = True := eq_true (by omega)
     (try rw [show ((0 : Int)).toNat = 0 from rfl] at hx379_0)
     (try rw [Addr.add_zero'] at hx379_0)
     replace p379 := eq_true p379
     replace q379 := eq_true q379
     have p380 : 0 ≤ (1 : Int) := (by omega)
     have q380 : 1 < (l0.length : Int) := of_decide_eq_true (by first | (with_reducible assumption) | assumption)
     obtain ⟨ad380, e380, hx380_0⟩ := Kd.at_int HR0.out 1 p380 q380
     obtain rfl : ad379 = ad380 := (by injection e380)
     (try simp only [show (1 : Int).toNat = 1 from rfl, Nat.reduceMul, Nat.reduceEqDiff, Go.Addr.add, ↓reduceIte] at hx380_0)
     have qi380 : (1 < l0.length) = True := eq_true (by omega)
     (try rw [show ((1 : Int)).toNat = 1 from rfl] at hx380_0)
     replace p380 := eq_true p380
     replace q380 := eq_true q380
     have p381 : 0 ≤ (2 : Int) := (by omega)
     have q381 : 2 < (l0.length : Int) := of_decide_eq_true (by first | (with_reducible assumption) | assumption)
     obtain ⟨ad381, e381, hx381_0⟩ := Kd.at_int HR0.out 2 p381 q381
     obtain rfl : ad379 = ad381 := (by injection e381)
     (try simp only [show (2 : Int).toNat = 2 from rfl, Nat.reduceMul, Nat.reduceEqDiff, Go.Addr.add, ↓reduceIte] at hx381_0)
     have qi381 : (2 < l0.length) = True := eq_true (by omega)
     (try rw [show ((2 : Int)).toNat = 2 from rfl] at hx381_0)
     replace p381 := eq_true p381
     replace q381 := eq_true q381
     have p382 : 0 ≤ (3 : Int) := (by omega)
     have q382 : 3 < (l0.length : Int) := of_decide_eq_true (by first | (with_reducible assumption) | assumption)
     obtain ⟨ad382, e382, hx382_0⟩ := Kd.at_int HR0.out 3 p382 q382
     obtain rfl : ad379 = ad382 := (by injection e382)
     (try simp only [show (3 : Int).toNat = 3 from rfl, Nat.reduceMul, Nat.reduceEqDiff, Go.Addr.add, ↓reduceIte] at hx382_0)
     have qi382 : (3 < l0.length) = True := eq_true (by omega)
     (try rw [show ((3 : Int)).toNat = 3 from rfl] at hx382_0)
     replace p382 := eq_true p382
     replace q382 := eq_true q382
     go_enter Try.func40, Try.ntmps40
     go_wp2
     repeat (go_quiet (fail); try go_wp2)
     go_ret
     exact ⟨by first | rfl | (simp; done) | (simp [*]; done) | (simp [wrap64]; done), by repeat (first | exact Drawn0.refl _ | apply Drawn0.step)⟩
    ·rw [if_neg c5] at H
     exact absurd H (by simp)
   ·rw [if_neg c4] at H
    exact absurd H (by simp)
  ·rw [if_neg c3] at H
   exact absurd H (by simp)
 ·rw [if_neg c2] at H
  exact absurd H (by simp)

end Go.Proofs.Ytaoeehnnboegnaa.P

-- squeezed
