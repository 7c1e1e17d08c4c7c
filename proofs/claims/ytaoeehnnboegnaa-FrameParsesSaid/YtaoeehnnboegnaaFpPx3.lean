-- written by mk.sh, a program of this session, over the kit's print
import Derived.Test.YtaoeehnnboegnaaFpPx0
import Derived.Test.YtaoeehnnboegnaaFpPx2
namespace Go.Proofs.Ytaoeehnnboegnaa.P
open Go.RowKit Go.Proofs.YtaoeehnnboegnaaW.PrintWords Go.Proofs.YtaoeehnnboegnaaW.PrintLast Go.Proofs.YtaoeehnnboegnaaW.PrintMore
attribute [local go_sem] max2_int min2_int max_two min_two max_three min_three max_four min_four   -- for this text's walks alone
set_option linter.unusedVariables false
set_option linter.unusedSimpArgs false

/-! ### crc_Seal: function 25, given -/
theorem crc_field3 (a0 a1 a2 a3 a4 a5 a6 a7 : Value) (W' : World) : (Instr.field 79 (.agg #[a0, a1, a2, a3, a4, a5, a6, a7]) 3).run Try.prog W' = .ok a7 W' := by
 kernel_rfl
@[reducible] def crc_SqP (W P I O g : Nat) (w w' : World) : Prop :=
 w'.cell? ⟨g, 0, none⟩ = some (.int .i64 (W : Int)) ∧ w'.cell? ⟨g, 1, none⟩ = some (.int .u32 (P : Int)) ∧ w'.cell? ⟨g, 2, none⟩ = some (.int .u32 (I : Int)) ∧ w'.cell? ⟨g, 3, none⟩ = some (.int .u32 (O : Int)) ∧ w'.cell? ⟨g, 4, none⟩ = some (.bool false) ∧ Aside0 (w'.heap[g]? = some (.cells #[.int .i64 (W : Int), .int .u32 (P : Int), .int .u32 (I : Int), .int .u32 (O : Int), .bool false] 24 (0, 0))) ∧ Aside0 (Below w.heap.size w w')
theorem crc_SqP_mk {W P I O g : Nat} {w w' : World} (hk : w'.heap[g]? = some (.cells #[.int .i64 (W : Int), .int .u32 (P : Int), .int .u32 (I : Int), .int .u32 (O : Int), .bool false] 24 (0, 0))) (hb : Below w.heap.size w w') : crc_SqP W P I O g w w' :=
 ⟨(blk_cell hk 0).trans rfl, (blk_cell hk 1).trans rfl, (blk_cell hk 2).trans rfl, (blk_cell hk 3).trans rfl, (blk_cell hk 4).trans rfl, ⟨hk⟩, ⟨hb⟩⟩
theorem crc_SqP_step {W P I O g : Nat} {w w' w2 : World} (h : crc_SqP W P I O g w w') (hb : Below w'.heap.size w' w2) : crc_SqP W P I O g w w2 :=
 crc_SqP_mk (blk_below h.2.2.2.2.2.1.out hb) (below_step h.2.2.2.2.2.2.out hb)
set_option maxHeartbeats 16000000 in
set_option maxRecDepth 100000 in
theorem crc_Seal_P (A1 : Option Addr) (c1 W P I O : Nat) (B : List Nat) (w : World) (hs : Crc.okN W P I O) (hB : ∀ x ∈ B, x < 256) (hlen : B.length + 8 < 140737488355328) (hr1 : Kd.C (Kd.int .u8) w A1 (Crc.ints B).length (Crc.ints B)) :
  Calls Try.prog 25 #[.agg #[.int .i64 (W : Int), .int .u32 (P : Int), .int .u32 (I : Int), .int .u32 (O : Int), .bool false], .slice A1 (Crc.ints B).length c1] w fun e w' => ∃ v0_ : Value, e = .returned (.tuple #[v0_, .int .i64 0]) ∧ Kd.R (Kd.int .u8) 5 w' w.heap.size (fun _ => True) v0_ (Crc.ints B ++ Crc.ints (Crc.layl false (W / 8) (Crc.crc false W P I O B))) ∧ Below w.heap.size w w' := by
 have hu24 := Try.underlying24
 have hu55 := Try.underlying79
 have HB := aK (Below.refl w.heap.size w)
 have hfd := crc_field3
 have HR1 := Aside0.mk hr1
 have HBY := Aside0.mk hB
 have HS := Aside0.mk hs
 have HLEN := Aside0.mk hlen
 have hw8 : (W : Int) ≤ 32 := by have := hs.1; omega
 obtain ⟨x, hx⟩ : ∃ x, x = Crc.crc false W P I O B := ⟨_, rfl⟩
 have hx32 : x < 4294967296 := by rw [hx]; exact Nat.lt_of_lt_of_le (Crc.crc_lt hs B) (show 2 ^ W ≤ 2 ^ 32 from Nat.pow_le_pow_right (by omega) (by have := hs.1; omega))
 rw [← hx]
 have HX := Aside0.mk hx
 have HX32 := Aside0.mk hx32
 obtain ⟨L, hL⟩ : ∃ L, L = Crc.ints B := ⟨_, rfl⟩
 have hlb : L.length = B.length := by rw [hL, Crc.ints_length]
 have HLB := Aside0.mk hlb
 rw [← hL] at HR1 ⊢
 have HL := Aside0.mk hL
 have hll : (L.length : Int) ≤ 140737488355328 := by omega
 have hm : W / 8 ≤ 4 := by omega
 have HM := Aside0.mk hm
 clear hr1 hB hs hL hx hx32 hlb hlen hm
 go_enter Try.func25, Try.ntmps25
 go_wp2_with (first | ((with_reducible refine gate_dst (N := 2) rfl ?_); refine box_event ?hg (N := 2) ?hd (cs := #[.int .i64 (W : Int), .int .u32 (P : Int), .int .u32 (I : Int), .int .u32 (O : Int), .bool false]) (t := 24) ?hr ?_; (case hd => rfl); (case hg => rfl); (case hr => first | (go_simp; done) | (go_simp; rfl)); intro g hg_ wg hbox_ hb_; have n0_ := aK (below_step HB.out hb_); have n1_ := Aside0.mk hbox_; have n2_ := aK ((by rw [hg_]; exact below_size HB.out) : w.heap.size ≤ g); clear HB; have HB := n0_; have BKg := n1_; have GEg := n2_; clear n0_ n1_ n2_; clear hb_ hbox_ hg_; have hcg_0 : wg.cell? ⟨g, 0, none⟩ = some (.int .i64 (W : Int)) := (blk_cell BKg.out 0).trans rfl; have hfg_0 := blk_frozen BKg.out 0; have hcg_1 : wg.cell? ⟨g, 1, none⟩ = some (.int .u32 (P : Int)) := (blk_cell BKg.out 1).trans rfl; have hfg_1 := blk_frozen BKg.out 1; have hcg_2 : wg.cell? ⟨g, 2, none⟩ = some (.int .u32 (I : Int)) := (blk_cell BKg.out 2).trans rfl; have hfg_2 := blk_frozen BKg.out 2; have hcg_3 : wg.cell? ⟨g, 3, none⟩ = some (.int .u32 (O : Int)) := (blk_cell BKg.out 3).trans rfl; have hfg_3 := blk_frozen BKg.out 3; have hcg_4 : wg.cell? ⟨g, 4, none⟩ = some (.bool false) := (blk_cell BKg.out 4).trans rfl; have hfg_4 := blk_frozen BKg.out 4) | (go_at_call 41; rw [HL.out]; refine (crc_Sum_plain A1 c1 W P I O B _ HS.out HBY.out (by rw [← HL.out]; exact Kd.C_below HR1.out HB.out)).mono ?_; rintro e w1 ⟨rfl, hb⟩; rw [← HX.out, ← HL.out]; have n0_ := aK (below_step HB.out hb); clear HB; have HB := n0_; clear n0_; have n0_ := aK (blk_below BKg.out hb); clear BKg; have BKg := n0_; clear n0_; have hcg_w1_0 : w1.cell? ⟨g, 0, none⟩ = some (.int .i64 (W : Int)) := (blk_cell BKg.out 0).trans rfl; have hfg_w1_0 := blk_frozen BKg.out 0; have hcg_w1_1 : w1.cell? ⟨g, 1, none⟩ = some (.int .u32 (P : Int)) := (blk_cell BKg.out 1).trans rfl; have hfg_w1_1 := blk_frozen BKg.out 1; have hcg_w1_2 : w1.cell? ⟨g, 2, none⟩ = some (.int .u32 (I : Int)) := (blk_cell BKg.out 2).trans rfl; have hfg_w1_2 := blk_frozen BKg.out 2; have hcg_w1_3 : w1.cell? ⟨g, 3, none⟩ = some (.int .u32 (O : Int)) := (blk_cell BKg.out 3).trans rfl; have hfg_w1_3 := blk_frozen BKg.out 3; have hcg_w1_4 : w1.cell? ⟨g, 4, none⟩ = some (.bool false) := (blk_cell BKg.out 4).trans rfl; have hfg_w1_4 := blk_frozen BKg.out 4; clear hb))
 have HCAP : Aside0 (wrap64 ((L.length : Int) + wrap64 ((W : Int) / 8)) = ((L.length + W / 8 : Nat) : Int)) := ⟨by unfold wrap64; omega⟩
 refine start_ (n := 17) (S := crc_SqP W P I O g w) (ds := []) #[false, false, false, false, false, false, false, false, false, false, false, false, false, false, false, false, false] (by kernel_rfl) rfl rfl (crc_SqP_mk (blk_drew BKg.out) (below_drew1 HB.out)) (fun hHeld => ?_)
 refine pure_ (i := 0) (N := some 17) (v := ?_) (a' := ?_) #[true, false, false, false, false, false, false, false, false, false, false, false, false, false, false, false, false] rfl rfl (by kernel_rfl) (fun _ _ _ h => h) (Or.inl ⟨by rfl, ?_⟩) ?_ ?_
 rotate_left
 ·intro w'
  go_simp
  with_reducible rfl
 rotate_left
 ·simp only [Act.put, List.setIfInBounds_toArray, List.set_cons_zero, List.set_cons_succ, i64_w, i32_w]
  rfl
 refine pure_ (i := 1) (N := some 18) (v := ?_) (a' := ?_) #[true, true, false, false, false, false, false, false, false, false, false, false, false, false, false, false, false] rfl rfl (by kernel_rfl) (fun _ _ _ h => h) (Or.inl ⟨by rfl, ?_⟩) ?_ ?_
 rotate_left
 ·intro w'
  go_simp
  with_reducible rfl
 rotate_left
 ·simp only [Act.put, List.setIfInBounds_toArray, List.set_cons_zero, List.set_cons_succ, i64_w, i32_w]
  rfl
 refine pure_ (i := 2) (N := some 19) (v := ?_) (a' := ?_) #[true, true, true, false, false, false, false, false, false, false, false, false, false, false, false, false, false] rfl rfl (by kernel_rfl) (fun _ _ _ h => h) (Or.inl ⟨by rfl, ?_⟩) ?_ ?_
 rotate_left
 ·intro w'
  go_simp
  with_reducible rfl
 rotate_left
 ·simp only [Act.put, List.setIfInBounds_toArray, List.set_cons_zero, List.set_cons_succ, i64_w, i32_w]
  rfl
 refine take_ (i := 3) (N := some 20) (v := ?_) (a' := ?_) #[true, true, true, true, false, false, false, false, false, false, false, false, false, false, false, false, false] rfl rfl (by kernel_rfl) (fun _ _ _ h => h) (Or.inl ⟨by rfl, ?_⟩) hHeld ?_ ?_
 rotate_left
 ·rintro w' ⟨hq0, hq1, hq2, hq3, hq4, _⟩
  go_simp
  with_reducible rfl
 rotate_left
 ·simp only [Act.put, List.setIfInBounds_toArray, List.set_cons_zero, List.set_cons_succ, i64_w, i32_w]
  rfl
 refine pure_ (i := 4) (N := some 21) (v := ?_) (a' := ?_) #[true, true, true, true, true, false, false, false, false, false, false, false, false, false, false, false, false] rfl rfl (by kernel_rfl) (fun _ _ _ h => h) (Or.inl ⟨by rfl, ?_⟩) ?_ ?_
 rotate_left
 ·intro w'
  go_simp
  with_reducible rfl
 rotate_left
 ·simp only [Act.put, List.setIfInBounds_toArray, List.set_cons_zero, List.set_cons_succ, i64_w, i32_w]
  rfl
 refine pure_ (i := 5) (N := some 22) (v := ?_) (a' := ?_) #[true, true, true, true, true, true, false, false, false, false, false, false, false, false, false, false, false] rfl rfl (by kernel_rfl) (fun _ _ _ h => h) (Or.inl ⟨by rfl, ?_⟩) ?_ ?_
 rotate_left
 ·intro w'
  go_simp
  with_reducible rfl
 rotate_left
 ·simp only [Act.put, List.setIfInBounds_toArray, List.set_cons_zero, List.set_cons_succ, i64_w, i32_w]
  rfl
 refine pure_ (i := 7) (N := some 24) (v := ?_) (a' := ?_) #[true, true, true, true, true, true, false, true, false, false, false, false, false, false, false, false, false] rfl rfl (by kernel_rfl) (fun _ _ _ h => h) (Or.inl ⟨by rfl, ?_⟩) ?_ ?_
 rotate_left
 ·intro w'
  go_simp
  with_reducible rfl
 rotate_left
 ·simp only [Act.put, List.setIfInBounds_toArray, List.set_cons_zero, List.set_cons_succ, i64_w, i32_w]
  rfl
 refine take_ (i := 9) (N := some 26) (v := ?_) (a' := ?_) #[true, true, true, true, true, true, false, true, false, true, false, false, false, false, false, false, false] rfl rfl (by kernel_rfl) (fun _ _ _ h => h) (Or.inl ⟨by rfl, ?_⟩) hHeld ?_ ?_
 rotate_left
 ·rintro w' ⟨hq0, hq1, hq2, hq3, hq4, _⟩
  go_simp
  with_reducible rfl
 rotate_left
 ·simp only [Act.put, List.setIfInBounds_toArray, List.set_cons_zero, List.set_cons_succ, i64_w, i32_w]
  rfl
 refine pure_ (i := 12) (N := some 29) (v := ?_) (a' := ?_) #[true, true, true, true, true, true, false, true, false, true, false, false, true, false, false, false, false] rfl rfl (by kernel_rfl) (fun _ _ _ h => h) (Or.inl ⟨by rfl, ?_⟩) ?_ ?_
 rotate_left
 ·intro w'
  go_simp
  with_reducible rfl
 rotate_left
 ·simp only [Act.put, List.setIfInBounds_toArray, List.set_cons_zero, List.set_cons_succ, i64_w, i32_w]
  rfl
 refine one_ (i := 6) (N := some 23) #[true, true, true, true, true, true, true, true, false, true, false, false, true, false, false, false, false] rfl rfl (by kernel_rfl) (by decide) (fun K hK => ?_)
 refine Kd.R_make0_step (Kd.int .u8) (w0 := w) w.heap.size 5 (by rfl) (N := 23) rfl 27 _ _ rfl (wrap64 ((L.length : Int) + wrap64 ((W : Int) / 8))) rfl rfl Try.underlying27 (.int .u8 0) 1 info5 rfl (by decide) (ok := fun _ => True) (okp := fun _ => True) (fun _ hk => hk) trivial (by rw [HCAP.out]; exact Int.natCast_nonneg _) (by rw [HCAP.out, Int.toNat_natCast]; have := HLEN.out; have := HLB.out; have := HM.out; omega) (below_drew1 HB.out) (below_size (below_drew1 HB.out)) ?_
 intro v23 w6 ho6 hb6 hg_ hnew_
 have HO6 := Aside0.mk ho6
 have HB6 := Aside0.mk hb6
 have BK6 := aK (blk_grown (blk_drew BKg.out) hg_ (by simp))
 refine hK.out _ _ (crc_SqP_mk BK6.out HB6.out) (fun hHeld6 => ?_)
 clear hK K hg_ hnew_ ho6 hb6 hHeld
 try simp only [Act.put, List.setIfInBounds_toArray, List.set_cons_zero, List.set_cons_succ]
 refine one_ (i := 8) (N := some 25) #[true, true, true, true, true, true, true, true, true, true, false, false, true, false, false, false, false] rfl rfl (by kernel_rfl) (by decide) (fun K hK => ?_)
 refine Kd.R_append_rows_at (Kd.int .u8) (w0 := w) w.heap.size (by rfl) (N := some 25) rfl (.tmp 23) (.tmp 24) 27 5 (.int .u8 0) 1 rfl Try.underlying27 info5 rfl (by decide) (by omega) v23 [] L A1 L.length c1 (fun _ => True) (fun _ => False) rfl rfl HO6.out (Kd.C_below HR1.out HB6.out) (fun _ _ h => h) (fun _ h => h.elim) (fun _ _ => trivial) HB6.out (below_size HB6.out) (by have := HLEN.out; have := HLB.out; simp only [List.length_nil]; omega) ?_
 intro v25 w8 ho8 hb8 hg8 hat8
 have HO8 := Aside0.mk ho8
 have HB8 := Aside0.mk hb8
 have BK8 := aK (blk_grown BK6.out hg8 (Kd.R_ne HO6.out BK6.out (by decide)))
 refine hK.out _ _ (crc_SqP_mk BK8.out HB8.out) (fun hHeld8 => ?_)
 clear hK K hg8 hat8 ho8 hb8 hHeld6
 try simp only [Act.put, List.setIfInBounds_toArray, List.set_cons_zero, List.set_cons_succ]
 refine one_ (i := 10) (N := some 27) #[true, true, true, true, true, true, true, true, true, true, true, false, true, false, false, false, false] rfl rfl (by kernel_rfl) (by decide) (fun K hK => ?_)
 refine call_ 42 #[.agg #[.int .i64 (W : Int), .int .u32 (P : Int), .int .u32 (I : Int), .int .u32 (O : Int), .bool false]] (by rfl) rfl ?hrun ?_
 case hrun =>
  have he := enters_ Try.func42 (by kernel_rfl) rfl #[.agg #[.int .i64 (W : Int), .int .u32 (P : Int), .int .u32 (I : Int), .int .u32 (O : Int), .bool false]] w8
  unfold execOp
  simp [resolve, Deferred.ofValue, invoke, Act.eval, he]
 refine (crc_fit_plain W P I O _ (by have := HS.out.1; omega)).mono ?_
 rintro e w10 ⟨p, q, rfl, hh, hb10⟩
 simp only [crc_wv, if_true, if_false, Bool.false_eq_true]
 have HH := Aside0.mk hh
 have HB10 := aK (below_step HB8.out hb10)
 have BK10 := aK (blk_below BK8.out hb10)
 have HO10 := aK (Kd.R_below HO8.out hb10)
 refine ⟨_, rfl, hK.out _ _ (crc_SqP_mk BK10.out HB10.out) (fun hHeld10 => ?_)⟩
 clear hK K hh hb10 hHeld8
 try simp only [Act.put, List.setIfInBounds_toArray, List.set_cons_zero, List.set_cons_succ]
 refine pure_ (i := 11) (N := some 28) (v := ?_) (a' := ?_) #[true, true, true, true, true, true, true, true, true, true, true, true, true, false, false, false, false] rfl rfl (by kernel_rfl) (fun _ _ _ h => h) (Or.inl ⟨by rfl, ?_⟩) ?_ ?_
 rotate_left
 ·intro w'
  go_simp
  with_reducible rfl
 rotate_left
 ·simp only [Act.put, List.setIfInBounds_toArray, List.set_cons_zero, List.set_cons_succ, i64_w, i32_w]
  rfl
 refine one_ (i := 13) (N := some 30) #[true, true, true, true, true, true, true, true, true, true, true, true, true, true, false, false, false] rfl rfl (by kernel_rfl) (by decide) (fun K hK => ?_)
 refine call_ 53 #[.int .u32 (x : Int), .pointer (some ⟨q, 0, none⟩)] (by rfl) rfl ?hrun ?_
 case hrun =>
  have he := enters_ Try.func53 (by kernel_rfl) rfl #[.int .u32 (x : Int), .pointer (some ⟨q, 0, none⟩)] w10
  unfold execOp
  simp [resolve, Deferred.ofValue, invoke, Act.eval, he]
 refine (crc_lay3_calls q (W / 8) x w10 HX32.out HM.out HH.out.2).mono ?_
 rintro e w13 ⟨v30, rfl, hr30, hb13⟩
 obtain ⟨Ao, co, eo⟩ := Kd.R_slice hr30
 subst eo
 have HR30 := aK (Kd.R_reads' hr30).2.2
 have HB13 := aK (below_step HB10.out hb13)
 have BK13 := aK (blk_below BK10.out hb13)
 have HO13 := aK (Kd.R_below HO10.out hb13)
 refine ⟨_, rfl, hK.out _ _ (crc_SqP_mk BK13.out HB13.out) (fun hHeld13 => ?_)⟩
 clear hK K hr30 hb13 hHeld10
 try simp only [Act.put, List.setIfInBounds_toArray, List.set_cons_zero, List.set_cons_succ]
 refine one_ (i := 14) (N := some 31) #[true, true, true, true, true, true, true, true, true, true, true, true, true, true, true, false, false] rfl rfl (by kernel_rfl) (by decide) (fun K hK => ?_)
 refine Kd.R_append_rows_at (Kd.int .u8) (w0 := w) w.heap.size (by rfl) (N := some 31) rfl (.tmp 25) (.tmp 30) 27 5 (.int .u8 0) 1 rfl Try.underlying27 info5 rfl (by decide) (by omega) v25 ([] ++ L) ((Crc.layl false (W / 8) x).map (fun n : Nat => (n : Int))) Ao _ co (fun _ => True) (fun _ => False) rfl rfl HO13.out HR30.out (fun _ _ h => h) (fun _ h => h.elim) (fun _ _ => trivial) HB13.out (below_size HB13.out) (by have := HLEN.out; have := HLB.out; have := HM.out; simp only [List.nil_append, List.length_map, Crc.layl_length]; omega) ?_
 intro v31 w14 ho14 hb14 hg14 hat14
 have HO14 := Aside0.mk ho14
 have HB14 := Aside0.mk hb14
 have BK14 := aK (blk_grown BK13.out hg14 (Kd.R_ne HO13.out BK13.out (by decide)))
 refine hK.out _ _ (crc_SqP_mk BK14.out HB14.out) (fun hHeld14 => ?_)
 clear hK K hg14 hat14 ho14 hb14 hHeld13
 refine pure_ (i := 15) (N := some 4) (v := ?_) (a' := ?_) #[true, true, true, true, true, true, true, true, true, true, true, true, true, true, true, true, false] rfl rfl (by kernel_rfl) (fun _ _ _ h => h) (Or.inl ⟨by rfl, ?_⟩) ?_ ?_
 rotate_left
 ·intro w'
  go_simp
  with_reducible rfl
 rotate_left
 ·simp only [Act.put, List.setIfInBounds_toArray, List.set_cons_zero, List.set_cons_succ, i64_w, i32_w]
  rfl
 refine pure_ (i := 16) (N := some 5) (v := ?_) (a' := ?_) #[true, true, true, true, true, true, true, true, true, true, true, true, true, true, true, true, true] rfl rfl (by kernel_rfl) (fun _ _ _ h => h) (Or.inl ⟨by rfl, ?_⟩) ?_ ?_
 rotate_left
 ·intro w'
  go_simp
  with_reducible rfl
 rotate_left
 ·simp only [Act.put, List.setIfInBounds_toArray, List.set_cons_zero, List.set_cons_succ, i64_w, i32_w]
  rfl
 refine done_ (by kernel_rfl) ?_
 go_wp2
 go_ret2
 exact ⟨_, rfl, HO14.out, HB14.out⟩
@[reducible] def crc_SqR (W P I O g : Nat) (w w' : World) : Prop :=
 w'.cell? ⟨g, 0, none⟩ = some (.int .i64 (W : Int)) ∧ w'.cell? ⟨g, 1, none⟩ = some (.int .u32 (P : Int)) ∧ w'.cell? ⟨g, 2, none⟩ = some (.int .u32 (I : Int)) ∧ w'.cell? ⟨g, 3, none⟩ = some (.int .u32 (O : Int)) ∧ w'.cell? ⟨g, 4, none⟩ = some (.bool true) ∧ Aside0 (w'.heap[g]? = some (.cells #[.int .i64 (W : Int), .int .u32 (P : Int), .int .u32 (I : Int), .int .u32 (O : Int), .bool true] 24 (0, 0))) ∧ Aside0 (Below w.heap.size w w')
theorem crc_SqR_mk {W P I O g : Nat} {w w' : World} (hk : w'.heap[g]? = some (.cells #[.int .i64 (W : Int), .int .u32 (P : Int), .int .u32 (I : Int), .int .u32 (O : Int), .bool true] 24 (0, 0))) (hb : Below w.heap.size w w') : crc_SqR W P I O g w w' :=
 ⟨(blk_cell hk 0).trans rfl, (blk_cell hk 1).trans rfl, (blk_cell hk 2).trans rfl, (blk_cell hk 3).trans rfl, (blk_cell hk 4).trans rfl, ⟨hk⟩, ⟨hb⟩⟩
theorem crc_SqR_step {W P I O g : Nat} {w w' w2 : World} (h : crc_SqR W P I O g w w') (hb : Below w'.heap.size w' w2) : crc_SqR W P I O g w w2 :=
 crc_SqR_mk (blk_below h.2.2.2.2.2.1.out hb) (below_step h.2.2.2.2.2.2.out hb)
set_option maxHeartbeats 16000000 in
set_option maxRecDepth 100000 in
theorem crc_Seal_R (A1 : Option Addr) (c1 W P I O : Nat) (B : List Nat) (w : World) (hs : Crc.okN W P I O) (hB : ∀ x ∈ B, x < 256) (hlen : B.length + 8 < 140737488355328) (hr1 : Kd.C (Kd.int .u8) w A1 (Crc.ints B).length (Crc.ints B)) :
  Calls Try.prog 25 #[.agg #[.int .i64 (W : Int), .int .u32 (P : Int), .int .u32 (I : Int), .int .u32 (O : Int), .bool true], .slice A1 (Crc.ints B).length c1] w fun e w' => ∃ v0_ : Value, e = .returned (.tuple #[v0_, .int .i64 0]) ∧ Kd.R (Kd.int .u8) 5 w' w.heap.size (fun _ => True) v0_ (Crc.ints B ++ Crc.ints (Crc.layl true (W / 8) (Crc.crc true W P I O B))) ∧ Below w.heap.size w w' := by
 have hu24 := Try.underlying24
 have hu55 := Try.underlying79
 have HB := aK (Below.refl w.heap.size w)
 have hfd := crc_field3
 have HR1 := Aside0.mk hr1
 have HBY := Aside0.mk hB
 have HS := Aside0.mk hs
 have HLEN := Aside0.mk hlen
 have hw8 : (W : Int) ≤ 32 := by have := hs.1; omega
 obtain ⟨x, hx⟩ : ∃ x, x = Crc.crc true W P I O B := ⟨_, rfl⟩
 have hx32 : x < 4294967296 := by rw [hx]; exact Nat.lt_of_lt_of_le (Crc.crc_lt hs B) (show 2 ^ W ≤ 2 ^ 32 from Nat.pow_le_pow_right (by omega) (by have := hs.1; omega))
 rw [← hx]
 have HX := Aside0.mk hx
 have HX32 := Aside0.mk hx32
 obtain ⟨L, hL⟩ : ∃ L, L = Crc.ints B := ⟨_, rfl⟩
 have hlb : L.length = B.length := by rw [hL, Crc.ints_length]
 have HLB := Aside0.mk hlb
 rw [← hL] at HR1 ⊢
 have HL := Aside0.mk hL
 have hll : (L.length : Int) ≤ 140737488355328 := by omega
 have hm : W / 8 ≤ 4 := by omega
 have HM := Aside0.mk hm
 clear hr1 hB hs hL hx hx32 hlb hlen hm
 go_enter Try.func25, Try.ntmps25
 go_wp2_with (first | ((with_reducible refine gate_dst (N := 2) rfl ?_); refine box_event ?hg (N := 2) ?hd (cs := #[.int .i64 (W : Int), .int .u32 (P : Int), .int .u32 (I : Int), .int .u32 (O : Int), .bool true]) (t := 24) ?hr ?_; (case hd => rfl); (case hg => rfl); (case hr => first | (go_simp; done) | (go_simp; rfl)); intro g hg_ wg hbox_ hb_; have n0_ := aK (below_step HB.out hb_); have n1_ := Aside0.mk hbox_; have n2_ := aK ((by rw [hg_]; exact below_size HB.out) : w.heap.size ≤ g); clear HB; have HB := n0_; have BKg := n1_; have GEg := n2_; clear n0_ n1_ n2_; clear hb_ hbox_ hg_; have hcg_0 : wg.cell? ⟨g, 0, none⟩ = some (.int .i64 (W : Int)) := (blk_cell BKg.out 0).trans rfl; have hfg_0 := blk_frozen BKg.out 0; have hcg_1 : wg.cell? ⟨g, 1, none⟩ = some (.int .u32 (P : Int)) := (blk_cell BKg.out 1).trans rfl; have hfg_1 := blk_frozen BKg.out 1; have hcg_2 : wg.cell? ⟨g, 2, none⟩ = some (.int .u32 (I : Int)) := (blk_cell BKg.out 2).trans rfl; have hfg_2 := blk_frozen BKg.out 2; have hcg_3 : wg.cell? ⟨g, 3, none⟩ = some (.int .u32 (O : Int)) := (blk_cell BKg.out 3).trans rfl; have hfg_3 := blk_frozen BKg.out 3; have hcg_4 : wg.cell? ⟨g, 4, none⟩ = some (.bool true) := (blk_cell BKg.out 4).trans rfl; have hfg_4 := blk_frozen BKg.out 4) | (go_at_call 41; rw [HL.out]; refine (crc_Sum_refl A1 c1 W P I O B _ HS.out HBY.out (by rw [← HL.out]; exact Kd.C_below HR1.out HB.out)).mono ?_; rintro e w1 ⟨rfl, hb⟩; rw [← HX.out, ← HL.out]; have n0_ := aK (below_step HB.out hb); clear HB; have HB := n0_; clear n0_; have n0_ := aK (blk_below BKg.out hb); clear BKg; have BKg := n0_; clear n0_; have hcg_w1_0 : w1.cell? ⟨g, 0, none⟩ = some (.int .i64 (W : Int)) := (blk_cell BKg.out 0).trans rfl; have hfg_w1_0 := blk_frozen BKg.out 0; have hcg_w1_1 : w1.cell? ⟨g, 1, none⟩ = some (.int .u32 (P : Int)) := (blk_cell BKg.out 1).trans rfl; have hfg_w1_1 := blk_frozen BKg.out 1; have hcg_w1_2 : w1.cell? ⟨g, 2, none⟩ = some (.int .u32 (I : Int)) := (blk_cell BKg.out 2).trans rfl; have hfg_w1_2 := blk_frozen BKg.out 2; have hcg_w1_3 : w1.cell? ⟨g, 3, none⟩ = some (.int .u32 (O : Int)) := (blk_cell BKg.out 3).trans rfl; have hfg_w1_3 := blk_frozen BKg.out 3; have hcg_w1_4 : w1.cell? ⟨g, 4, none⟩ = some (.bool true) := (blk_cell BKg.out 4).trans rfl; have hfg_w1_4 := blk_frozen BKg.out 4; clear hb))
 have HCAP : Aside0 (wrap64 ((L.length : Int) + wrap64 ((W : Int) / 8)) = ((L.length + W / 8 : Nat) : Int)) := ⟨by unfold wrap64; omega⟩
 refine start_ (n := 17) (S := crc_SqR W P I O g w) (ds := []) #[false, false, false, false, false, false, false, false, false, false, false, false, false, false, false, false, false] (by kernel_rfl) rfl rfl (crc_SqR_mk (blk_drew BKg.out) (below_drew1 HB.out)) (fun hHeld => ?_)
 refine pure_ (i := 0) (N := some 17) (v := ?_) (a' := ?_) #[true, false, false, false, false, false, false, false, false, false, false, false, false, false, false, false, false] rfl rfl (by kernel_rfl) (fun _ _ _ h => h) (Or.inl ⟨by rfl, ?_⟩) ?_ ?_
 rotate_left
 ·intro w'
  go_simp
  with_reducible rfl
 rotate_left
 ·simp only [Act.put, List.setIfInBounds_toArray, List.set_cons_zero, List.set_cons_succ, i64_w, i32_w]
  rfl
 refine pure_ (i := 1) (N := some 18) (v := ?_) (a' := ?_) #[true, true, false, false, false, false, false, false, false, false, false, false, false, false, false, false, false] rfl rfl (by kernel_rfl) (fun _ _ _ h => h) (Or.inl ⟨by rfl, ?_⟩) ?_ ?_
 rotate_left
 ·intro w'
  go_simp
  with_reducible rfl
 rotate_left
 ·simp only [Act.put, List.setIfInBounds_toArray, List.set_cons_zero, List.set_cons_succ, i64_w, i32_w]
  rfl
 refine pure_ (i := 2) (N := some 19) (v := ?_) (a' := ?_) #[true, true, true, false, false, false, false, false, false, false, false, false, false, false, false, false, false] rfl rfl (by kernel_rfl) (fun _ _ _ h => h) (Or.inl ⟨by rfl, ?_⟩) ?_ ?_
 rotate_left
 ·intro w'
  go_simp
  with_reducible rfl
 rotate_left
 ·simp only [Act.put, List.setIfInBounds_toArray, List.set_cons_zero, List.set_cons_succ, i64_w, i32_w]
  rfl
 refine take_ (i := 3) (N := some 20) (v := ?_) (a' := ?_) #[true, true, true, true, false, false, false, false, false, false, false, false, false, false, false, false, false] rfl rfl (by kernel_rfl) (fun _ _ _ h => h) (Or.inl ⟨by rfl, ?_⟩) hHeld ?_ ?_
 rotate_left
 ·rintro w' ⟨hq0, hq1, hq2, hq3, hq4, _⟩
  go_simp
  with_reducible rfl
 rotate_left
 ·simp only [Act.put, List.setIfInBounds_toArray, List.set_cons_zero, List.set_cons_succ, i64_w, i32_w]
  rfl
 refine pure_ (i := 4) (N := some 21) (v := ?_) (a' := ?_) #[true, true, true, true, true, false, false, false, false, false, false, false, false, false, false, false, false] rfl rfl (by kernel_rfl) (fun _ _ _ h => h) (Or.inl ⟨by rfl, ?_⟩) ?_ ?_
 rotate_left
 ·intro w'
  go_simp
  with_reducible rfl
 rotate_left
 ·simp only [Act.put, List.setIfInBounds_toArray, List.set_cons_zero, List.set_cons_succ, i64_w, i32_w]
  rfl
 refine pure_ (i := 5) (N := some 22) (v := ?_) (a' := ?_) #[true, true, true, true, true, true, false, false, false, false, false, false, false, false, false, false, false] rfl rfl (by kernel_rfl) (fun _ _ _ h => h) (Or.inl ⟨by rfl, ?_⟩) ?_ ?_
 rotate_left
 ·intro w'
  go_simp
  with_reducible rfl
 rotate_left
 ·simp only [Act.put, List.setIfInBounds_toArray, List.set_cons_zero, List.set_cons_succ, i64_w, i32_w]
  rfl
 refine pure_ (i := 7) (N := some 24) (v := ?_) (a' := ?_) #[true, true, true, true, true, true, false, true, false, false, false, false, false, false, false, false, false] rfl rfl (by kernel_rfl) (fun _ _ _ h => h) (Or.inl ⟨by rfl, ?_⟩) ?_ ?_
 rotate_left
 ·intro w'
  go_simp
  with_reducible rfl
 rotate_left
 ·simp only [Act.put, List.setIfInBounds_toArray, List.set_cons_zero, List.set_cons_succ, i64_w, i32_w]
  rfl
 refine take_ (i := 9) (N := some 26) (v := ?_) (a' := ?_) #[true, true, true, true, true, true, false, true, false, true, false, false, false, false, false, false, false] rfl rfl (by kernel_rfl) (fun _ _ _ h => h) (Or.inl ⟨by rfl, ?_⟩) hHeld ?_ ?_
 rotate_left
 ·rintro w' ⟨hq0, hq1, hq2, hq3, hq4, _⟩
  go_simp
  with_reducible rfl
 rotate_left
 ·simp only [Act.put, List.setIfInBounds_toArray, List.set_cons_zero, List.set_cons_succ, i64_w, i32_w]
  rfl
 refine pure_ (i := 12) (N := some 29) (v := ?_) (a' := ?_) #[true, true, true, true, true, true, false, true, false, true, false, false, true, false, false, false, false] rfl rfl (by kernel_rfl) (fun _ _ _ h => h) (Or.inl ⟨by rfl, ?_⟩) ?_ ?_
 rotate_left
 ·intro w'
  go_simp
  with_reducible rfl
 rotate_left
 ·simp only [Act.put, List.setIfInBounds_toArray, List.set_cons_zero, List.set_cons_succ, i64_w, i32_w]
  rfl
 refine one_ (i := 6) (N := some 23) #[true, true, true, true, true, true, true, true, false, true, false, false, true, false, false, false, false] rfl rfl (by kernel_rfl) (by decide) (fun K hK => ?_)
 refine Kd.R_make0_step (Kd.int .u8) (w0 := w) w.heap.size 5 (by rfl) (N := 23) rfl 27 _ _ rfl (wrap64 ((L.length : Int) + wrap64 ((W : Int) / 8))) rfl rfl Try.underlying27 (.int .u8 0) 1 info5 rfl (by decide) (ok := fun _ => True) (okp := fun _ => True) (fun _ hk => hk) trivial (by rw [HCAP.out]; exact Int.natCast_nonneg _) (by rw [HCAP.out, Int.toNat_natCast]; have := HLEN.out; have := HLB.out; have := HM.out; omega) (below_drew1 HB.out) (below_size (below_drew1 HB.out)) ?_
 intro v23 w6 ho6 hb6 hg_ hnew_
 have HO6 := Aside0.mk ho6
 have HB6 := Aside0.mk hb6
 have BK6 := aK (blk_grown (blk_drew BKg.out) hg_ (by simp))
 refine hK.out _ _ (crc_SqR_mk BK6.out HB6.out) (fun hHeld6 => ?_)
 clear hK K hg_ hnew_ ho6 hb6 hHeld
 try simp only [Act.put, List.setIfInBounds_toArray, List.set_cons_zero, List.set_cons_succ]
 refine one_ (i := 8) (N := some 25) #[true, true, true, true, true, true, true, true, true, true, false, false, true, false, false, false, false] rfl rfl (by kernel_rfl) (by decide) (fun K hK => ?_)
 refine Kd.R_append_rows_at (Kd.int .u8) (w0 := w) w.heap.size (by rfl) (N := some 25) rfl (.tmp 23) (.tmp 24) 27 5 (.int .u8 0) 1 rfl Try.underlying27 info5 rfl (by decide) (by omega) v23 [] L A1 L.length c1 (fun _ => True) (fun _ => False) rfl rfl HO6.out (Kd.C_below HR1.out HB6.out) (fun _ _ h => h) (fun _ h => h.elim) (fun _ _ => trivial) HB6.out (below_size HB6.out) (by have := HLEN.out; have := HLB.out; simp only [List.length_nil]; omega) ?_
 intro v25 w8 ho8 hb8 hg8 hat8
 have HO8 := Aside0.mk ho8
 have HB8 := Aside0.mk hb8
 have BK8 := aK (blk_grown BK6.out hg8 (Kd.R_ne HO6.out BK6.out (by decide)))
 refine hK.out _ _ (crc_SqR_mk BK8.out HB8.out) (fun hHeld8 => ?_)
 clear hK K hg8 hat8 ho8 hb8 hHeld6
 try simp only [Act.put, List.setIfInBounds_toArray, List.set_cons_zero, List.set_cons_succ]
 refine one_ (i := 10) (N := some 27) #[true, true, true, true, true, true, true, true, true, true, true, false, true, false, false, false, false] rfl rfl (by kernel_rfl) (by decide) (fun K hK => ?_)
 refine call_ 42 #[.agg #[.int .i64 (W : Int), .int .u32 (P : Int), .int .u32 (I : Int), .int .u32 (O : Int), .bool true]] (by rfl) rfl ?hrun ?_
 case hrun =>
  have he := enters_ Try.func42 (by kernel_rfl) rfl #[.agg #[.int .i64 (W : Int), .int .u32 (P : Int), .int .u32 (I : Int), .int .u32 (O : Int), .bool true]] w8
  unfold execOp
  simp [resolve, Deferred.ofValue, invoke, Act.eval, he]
 refine (crc_fit_refl W P I O _ (by have := HS.out.1; omega)).mono ?_
 rintro e w10 ⟨p, q, rfl, hh, hb10⟩
 simp only [crc_wv, if_true, if_false, Bool.false_eq_true]
 have HH := Aside0.mk hh
 have HB10 := aK (below_step HB8.out hb10)
 have BK10 := aK (blk_below BK8.out hb10)
 have HO10 := aK (Kd.R_below HO8.out hb10)
 refine ⟨_, rfl, hK.out _ _ (crc_SqR_mk BK10.out HB10.out) (fun hHeld10 => ?_)⟩
 clear hK K hh hb10 hHeld8
 try simp only [Act.put, List.setIfInBounds_toArray, List.set_cons_zero, List.set_cons_succ]
 refine pure_ (i := 11) (N := some 28) (v := ?_) (a' := ?_) #[true, true, true, true, true, true, true, true, true, true, true, true, true, false, false, false, false] rfl rfl (by kernel_rfl) (fun _ _ _ h => h) (Or.inl ⟨by rfl, ?_⟩) ?_ ?_
 rotate_left
 ·intro w'
  go_simp
  with_reducible rfl
 rotate_left
 ·simp only [Act.put, List.setIfInBounds_toArray, List.set_cons_zero, List.set_cons_succ, i64_w, i32_w]
  rfl
 refine one_ (i := 13) (N := some 30) #[true, true, true, true, true, true, true, true, true, true, true, true, true, true, false, false, false] rfl rfl (by kernel_rfl) (by decide) (fun K hK => ?_)
 refine call_ 57 #[.int .u32 (x : Int), .pointer (some ⟨q, 0, none⟩)] (by rfl) rfl ?hrun ?_
 case hrun =>
  have he := enters_ Try.func57 (by kernel_rfl) rfl #[.int .u32 (x : Int), .pointer (some ⟨q, 0, none⟩)] w10
  unfold execOp
  simp [resolve, Deferred.ofValue, invoke, Act.eval, he]
 refine (crc_lay5_calls q (W / 8) x w10 HX32.out HM.out HH.out.2).mono ?_
 rintro e w13 ⟨v30, rfl, hr30, hb13⟩
 obtain ⟨Ao, co, eo⟩ := Kd.R_slice hr30
 subst eo
 have HR30 := aK (Kd.R_reads' hr30).2.2
 have HB13 := aK (below_step HB10.out hb13)
 have BK13 := aK (blk_below BK10.out hb13)
 have HO13 := aK (Kd.R_below HO10.out hb13)
 refine ⟨_, rfl, hK.out _ _ (crc_SqR_mk BK13.out HB13.out) (fun hHeld13 => ?_)⟩
 clear hK K hr30 hb13 hHeld10
 try simp only [Act.put, List.setIfInBounds_toArray, List.set_cons_zero, List.set_cons_succ]
 refine one_ (i := 14) (N := some 31) #[true, true, true, true, true, true, true, true, true, true, true, true, true, true, true, false, false] rfl rfl (by kernel_rfl) (by decide) (fun K hK => ?_)
 refine Kd.R_append_rows_at (Kd.int .u8) (w0 := w) w.heap.size (by rfl) (N := some 31) rfl (.tmp 25) (.tmp 30) 27 5 (.int .u8 0) 1 rfl Try.underlying27 info5 rfl (by decide) (by omega) v25 ([] ++ L) ((Crc.layl true (W / 8) x).map (fun n : Nat => (n : Int))) Ao _ co (fun _ => True) (fun _ => False) rfl rfl HO13.out HR30.out (fun _ _ h => h) (fun _ h => h.elim) (fun _ _ => trivial) HB13.out (below_size HB13.out) (by have := HLEN.out; have := HLB.out; have := HM.out; simp only [List.nil_append, List.length_map, Crc.layl_length]; omega) ?_
 intro v31 w14 ho14 hb14 hg14 hat14
 have HO14 := Aside0.mk ho14
 have HB14 := Aside0.mk hb14
 have BK14 := aK (blk_grown BK13.out hg14 (Kd.R_ne HO13.out BK13.out (by decide)))
 refine hK.out _ _ (crc_SqR_mk BK14.out HB14.out) (fun hHeld14 => ?_)
 clear hK K hg14 hat14 ho14 hb14 hHeld13
 refine pure_ (i := 15) (N := some 4) (v := ?_) (a' := ?_) #[true, true, true, true, true, true, true, true, true, true, true, true, true, true, true, true, false] rfl rfl (by kernel_rfl) (fun _ _ _ h => h) (Or.inl ⟨by rfl, ?_⟩) ?_ ?_
 rotate_left
 ·intro w'
  go_simp
  with_reducible rfl
 rotate_left
 ·simp only [Act.put, List.setIfInBounds_toArray, List.set_cons_zero, List.set_cons_succ, i64_w, i32_w]
  rfl
 refine pure_ (i := 16) (N := some 5) (v := ?_) (a' := ?_) #[true, true, true, true, true, true, true, true, true, true, true, true, true, true, true, true, true] rfl rfl (by kernel_rfl) (fun _ _ _ h => h) (Or.inl ⟨by rfl, ?_⟩) ?_ ?_
 rotate_left
 ·intro w'
  go_simp
  with_reducible rfl
 rotate_left
 ·simp only [Act.put, List.setIfInBounds_toArray, List.set_cons_zero, List.set_cons_succ, i64_w, i32_w]
  rfl
 refine done_ (by kernel_rfl) ?_
 go_wp2
 go_ret2
 exact ⟨_, rfl, HO14.out, HB14.out⟩

set_option maxHeartbeats 8000000 in
set_option maxRecDepth 100000 in
theorem crc_Seal_bad (A1 : Option Addr) (n1 c1 : Nat) (W P I O : Int) (R : Bool) (w : World) (hs : Crc.okI W P I O = false) :
  Calls Try.prog 25 #[.agg #[.int .i64 W, .int .u32 P, .int .u32 I, .int .u32 O, .bool R], .slice A1 n1 c1] w fun e w' => ∃ v0_ : Value, e = .returned (.tuple #[v0_, .int .i64 30]) ∧ Kd.R (Kd.int .u8) 5 w' w.heap.size (fun _ => True) v0_ [] ∧ Below w.heap.size w w' := by
 have hu24 := Try.underlying24
 have HB := aK (Below.refl w.heap.size w)
 have HS := Aside0.mk hs
 clear hs
 go_enter Try.func25, Try.ntmps25
 go_wp2_with (first | ((with_reducible refine gate_dst (N := 2) rfl ?_); refine box_event ?hg (N := 2) ?hd (cs := #[.int .i64 W, .int .u32 P, .int .u32 I, .int .u32 O, .bool R]) (t := 24) ?hr ?_; (case hd => rfl); (case hg => rfl); (case hr => first | (go_simp; done) | (go_simp; rfl)); intro g hg_ wg hbox_ hb_; have n0_ := aK (below_step HB.out hb_); have n1_ := Aside0.mk hbox_; have n2_ := aK ((by rw [hg_]; exact below_size HB.out) : w.heap.size ≤ g); clear HB; have HB := n0_; have BKg := n1_; have GEg := n2_; clear n0_ n1_ n2_; clear hb_ hbox_ hg_; have hcg_0 : wg.cell? ⟨g, 0, none⟩ = some (.int .i64 W) := (blk_cell BKg.out 0).trans rfl; have hfg_0 := blk_frozen BKg.out 0; have hcg_1 : wg.cell? ⟨g, 1, none⟩ = some (.int .u32 P) := (blk_cell BKg.out 1).trans rfl; have hfg_1 := blk_frozen BKg.out 1; have hcg_2 : wg.cell? ⟨g, 2, none⟩ = some (.int .u32 I) := (blk_cell BKg.out 2).trans rfl; have hfg_2 := blk_frozen BKg.out 2; have hcg_3 : wg.cell? ⟨g, 3, none⟩ = some (.int .u32 O) := (blk_cell BKg.out 3).trans rfl; have hfg_3 := blk_frozen BKg.out 3; have hcg_4 : wg.cell? ⟨g, 4, none⟩ = some (.bool R) := (blk_cell BKg.out 4).trans rfl; have hfg_4 := blk_frozen BKg.out 4) | (go_at_call 41; refine (crc_Sum_bad A1 n1 c1 W P I O R _ HS.out).mono ?_; rintro e w1 ⟨rfl, hb⟩; have n0_ := aK (below_step HB.out hb); clear HB; have HB := n0_; clear n0_; clear hb))
 go_ret2
 exact ⟨_, rfl, Kd.R_nil _ _ _ _ _, HB.out⟩
def crc_Seal.f (a0_0 a0_1 a0_2 a0_3 : Int) (a0_4 : Bool) (l1 : List Int) : Option (List Int × Int) :=
 if Crc.okI a0_0 a0_1 a0_2 a0_3 then (if Crc.good a0_1 a0_2 a0_3 l1 ∧ l1.length + 8 < 140737488355328 then some (l1 ++ Crc.ints (Crc.layl a0_4 (a0_0.toNat / 8) (Crc.crc a0_4 a0_0.toNat a0_1.toNat a0_2.toNat a0_3.toNat (l1.map Int.toNat))), 0) else none) else some ([], 30)
theorem crc_Seal.calls (a0_0 a0_1 a0_2 a0_3 : Int) (a0_4 : Bool) (A1 : Option Addr) (c1 : Nat) (l1 : List Int) (r1 : List Int) (r2 : Int) (w : World) (hr1 : Kd.C (Kd.int .u8) w A1 l1.length l1) (hc1 : l1.length ≤ c1) (h : crc_Seal.f a0_0 a0_1 a0_2 a0_3 a0_4 l1 = some (r1, r2)) :
  Calls Try.prog 25 #[.agg #[.int .i64 a0_0, .int .u32 a0_1, .int .u32 a0_2, .int .u32 a0_3, .bool a0_4], .slice A1 l1.length c1] w fun e w' => ∃ v0_ : Value, e = .returned (.tuple #[v0_, .int .i64 r2]) ∧ Kd.R (Kd.int .u8) 5 w' w.heap.size (fun _ => True) v0_ r1 ∧ Below w.heap.size w w' := by
 unfold crc_Seal.f at h
 cases hk : Crc.okI a0_0 a0_1 a0_2 a0_3 with
 | false =>
  simp only [hk, Bool.false_eq_true, if_false, Option.some.injEq, Prod.mk.injEq] at h
  obtain ⟨rfl, rfl⟩ := h
  exact crc_Seal_bad A1 l1.length c1 a0_0 a0_1 a0_2 a0_3 a0_4 w hk
 | true =>
  rw [hk, if_pos rfl] at h
  by_cases hg : Crc.good a0_1 a0_2 a0_3 l1 ∧ l1.length + 8 < 140737488355328
  ·rw [if_pos hg] at h
   simp only [Option.some.injEq, Prod.mk.injEq] at h
   obtain ⟨rfl, rfl⟩ := h
   obtain ⟨⟨g1, g2, g3, g4⟩, g5⟩ := hg
   obtain ⟨W, rfl⟩ : ∃ n : Nat, a0_0 = (n : Int) := ⟨a0_0.toNat, by have := Crc.okI_width hk; omega⟩
   obtain ⟨P, rfl⟩ : ∃ n : Nat, a0_1 = (n : Int) := ⟨a0_1.toNat, by omega⟩
   obtain ⟨I, rfl⟩ : ∃ n : Nat, a0_2 = (n : Int) := ⟨a0_2.toNat, by omega⟩
   obtain ⟨O, rfl⟩ : ∃ n : Nat, a0_3 = (n : Int) := ⟨a0_3.toNat, by omega⟩
   obtain ⟨B, rfl, hB⟩ := Crc.bytes_of g4
   have hn := (Crc.okI_nat W P I O).1 hk
   have e : (Crc.ints B).map Int.toNat = B := Crc.toNat_ints B
   rw [e]
   simp only [Int.toNat_natCast]
   rw [Crc.ints_length] at g5
   cases a0_4
   ·exact crc_Seal_P A1 c1 W P I O B w hn hB g5 hr1
   ·exact crc_Seal_R A1 c1 W P I O B w hn hB g5 hr1
  ·rw [if_neg hg] at h
   exact absurd h (by simp)

/-! ### bitrow_Unpack: function 26 -/
mutual
def bitrow_Unpack.j0 : Nat → List Int → Int → Bool → Option (List Int × Int)
 | 0, _, _, _ => none
 | k + 1, x0, x1, x22 => if x22 = true then (some (([] : List Int), 31)) else (if 0 ≤ x1 then (if (x1 : Int).toNat ≤ 281474976710656 then (bitrow_Unpack.l0 k x0 (List.replicate (x1 : Int).toNat 0) x1 0) else (none)) else (none))
def bitrow_Unpack.l0 : Nat → List Int → List Int → Int → Int → Option (List Int × Int)
 | 0, _, _, _, _ => none
 | k + 1, x0, x6, x25, x26 => if x26 < x25 then (if 0 ≤ (wrap64 (Int.tdiv x26 8)) then (if (wrap64 (Int.tdiv x26 8)) < (x0.length : Int) then (if 0 ≤ (wrap64 (7 - (Int.tmod x26 8))) then (if 0 ≤ x26 then (if x26 < (x6.length : Int) then (bitrow_Unpack.l0 k x0 (x6.set (x26 : Int).toNat (Go.bits .and .u8 (shr .u8 (rd x0 (wrap64 (Int.tdiv x26 8))) (wrap64 (7 - (Int.tmod x26 8)))) 1)) x25 (wrap64 (x26 + 1))) else (none)) else (none)) else (none)) else (none)) else (none)) else (some (x6, 0))
end
def bitrow_Unpack.f (k : Nat) (l0 : List Int) (a1 : Int) : Option (List Int × Int) := if a1 < 0 then (some (([] : List Int), 1)) else (if (wrap64 (Int.tdiv a1 8)) > (l0.length : Int) then (bitrow_Unpack.j0 k l0 a1 true) else (bitrow_Unpack.j0 k l0 a1 (decide ((wrap64 (Int.tdiv (wrap64 (a1 + 7)) 8)) > (l0.length : Int)))))
theorem bitrow_Unpack.mono_l : ∀ k, (∀ y0 y1 y2, LeO (bitrow_Unpack.j0 k y0 y1 y2) (bitrow_Unpack.j0 (k + 1) y0 y1 y2)) ∧ (∀ y0 y1 y2 y3, LeO (bitrow_Unpack.l0 k y0 y1 y2 y3) (bitrow_Unpack.l0 (k + 1) y0 y1 y2 y3))
 | 0 => ⟨fun _ _ _ r h => by simp [bitrow_Unpack.j0] at h, fun _ _ _ _ r h => by simp [bitrow_Unpack.l0] at h⟩
 | k + 1 => by
  obtain ⟨ih0, ih1⟩ := bitrow_Unpack.mono_l k
  refine ⟨?_, ?_⟩
  ·intro y0 y1 y2
   unfold bitrow_Unpack.j0
   repeat' first
   | (with_reducible exact ih0 _ _ _)
   | (with_reducible exact ih1 _ _ _ _)
   | (with_reducible exact LeO.refl _)
   | (with_reducible exact LeO.none _)
   | (with_reducible refine LeO.ite ?_ ?_)
   | (with_reducible refine LeO.bind ?_ (fun _ => ?_))
   | exact ih0 _ _ _
   | exact ih1 _ _ _ _
   | exact LeO.none _
   | refine LeO.ite ?_ ?_
   | refine LeO.bind ?_ (fun _ => ?_)
  ·intro y0 y1 y2 y3
   unfold bitrow_Unpack.l0
   repeat' first
   | (with_reducible exact ih0 _ _ _)
   | (with_reducible exact ih1 _ _ _ _)
   | (with_reducible exact LeO.refl _)
   | (with_reducible exact LeO.none _)
   | (with_reducible refine LeO.ite ?_ ?_)
   | (with_reducible refine LeO.bind ?_ (fun _ => ?_))
   | exact ih0 _ _ _
   | exact ih1 _ _ _ _
   | exact LeO.none _
   | refine LeO.ite ?_ ?_
   | refine LeO.bind ?_ (fun _ => ?_)
theorem bitrow_Unpack.mono : ∀ a0 a1 k, LeO (bitrow_Unpack.f k a0 a1) (bitrow_Unpack.f (k + 1) a0 a1) := by
 intro a0 a1 k
 obtain ⟨ih0, ih1⟩ := bitrow_Unpack.mono_l k
 unfold bitrow_Unpack.f
 repeat' first
   | (with_reducible exact ih0 _ _ _)
   | (with_reducible exact ih1 _ _ _ _)
   | (with_reducible exact LeO.refl _)
   | (with_reducible exact LeO.none _)
   | (with_reducible refine LeO.ite ?_ ?_)
   | (with_reducible refine LeO.bind ?_ (fun _ => ?_))
   | exact ih0 _ _ _
   | exact ih1 _ _ _ _
   | exact LeO.none _
   | refine LeO.ite ?_ ?_
   | refine LeO.bind ?_ (fun _ => ?_)
set_option maxHeartbeats 8000000 in
set_option maxRecDepth 100000 in
theorem bitrow_Unpack.calls (k : Nat) (A0 : Option Addr) (c0 : Nat) (l0 : List Int) (a1 : Int) (r1 : List Int) (r2 : Int) (w : World) (hr0 : Kd.C (Kd.int .u8) w A0 l0.length l0) (hc0 : l0.length ≤ c0) (h : bitrow_Unpack.f k l0 a1 = some (r1, r2)) :
  Calls Try.prog 26 #[.slice A0 l0.length c0, .int .i64 a1] w fun e w' => ∃ v0_ : Value, e = .returned (.tuple #[v0_, .int .i64 r2]) ∧ Kd.R (Kd.int .u8) 5 w' w.heap.size (fun _ => True) v0_ r1 ∧ Below w.heap.size w w' := by
 have HR0 := Aside0.mk hr0
 have HC0 := Aside0.mk hc0
 clear hr0 hc0
 have HB := aK (Below.refl w.heap.size w)
 have H : (if a1 < 0 then (some (([] : List Int), 1)) else (if (wrap64 (Int.tdiv a1 8)) > (l0.length : Int) then (bitrow_Unpack.j0 k l0 a1 true) else (bitrow_Unpack.j0 k l0 a1 (decide ((wrap64 (Int.tdiv (wrap64 (a1 + 7)) 8)) > (l0.length : Int)))))) = some (r1, r2) := h
 clear h
 by_cases c3 : a1 < 0
 ·rw [if_pos c3] at H
  have c3b0 : decide (a1 < 0) = true := decide_eq_true c3
  clear c3
  simp only [Option.some.injEq, Prod.mk.injEq] at H
  obtain ⟨rfl, rfl⟩ := H
  go_enter Try.func26, Try.ntmps26
  go_wp2
  go_ret2
  exact ⟨_, by first | rfl | (simp [errW_none, errW_some] <;> rfl) | (simp [*, errW_none, errW_some] <;> rfl), by first | exact Kd.R_nil _ _ _ _ _ | exact Kd.N_nil _ _ _ _ _ | exact Kd.V_nil _ _ _ _ _ | exact Kd.Q_nil _ _ _ _ _ | exact Kd.S_nil _ _ _ _ _, mvh HB.out⟩
 ·rw [if_neg c3] at H
  have c3b0 : decide (a1 < 0) = false := decide_eq_false c3
  clear c3
  have HC4 := Aside0.mk H
  clear H
  go_enter Try.func26, Try.ntmps26
  go_upto_region 3 with (fail)
  go_cut [22] (fun v22 wc => ∃ (kq : Nat) (x22_3 : Bool), v22 = .bool x22_3 ∧ Aside0 (bitrow_Unpack.j0 kq l0 a1 x22_3 = some (r1, r2)) ∧ Aside0 (kq ≤ k) ∧ Aside0 (Below w.heap.size w wc))
  case first =>
   have H := HC4.out
   clear HC4
   by_cases c5 : (wrap64 (Int.tdiv a1 8)) > (l0.length : Int)
   ·rw [if_pos c5] at H
    have c5b0 : decide ((l0.length : Int) < (wrap64 (Int.tdiv a1 8))) = true := decide_eq_true c5
    clear c5
    (first | rw [c5b0] | (simp only [i64_w, i32_w]; rw [c5b0]) | rw [c5b1] | skip)
    have H' := Aside0.mk H
    clear H
    go_wp2
    go_meet
    case rel => exact ⟨_, (true), (by first | rfl | (simp; done) | (simp [*]; done) | (simp [wrap64]; done)), H', ⟨by first | omega | exact Nat.le_refl _⟩, ⟨mvh HB.out⟩⟩
   ·rw [if_neg c5] at H
    have c5b0 : decide ((l0.length : Int) < (wrap64 (Int.tdiv a1 8))) = false := decide_eq_false c5
    clear c5
    (first | rw [c5b0] | (simp only [i64_w, i32_w]; rw [c5b0]) | rw [c5b1] | skip)
    have H' := Aside0.mk H
    clear H
    go_wp2
    go_meet
    case rel => exact ⟨_, (decide ((wrap64 (Int.tdiv (wrap64 (a1 + 7)) 8)) > (l0.length : Int))), (by first | rfl | (simp; done) | (simp [*]; done) | (simp [wrap64]; done)), H', ⟨by first | omega | exact Nat.le_refl _⟩, ⟨mvh HB.out⟩⟩
  case rest =>
   clear HC4
   (try clear c2); (try clear p2); (try clear c3); (try clear c3b0); (try clear c5); (try clear c5b0); (try clear c5b1)
   obtain ⟨kq, x22_3, rfl, HA, HJ3, HB⟩ := hcut
   cases kq with
   | zero => exact absurd HA.out (by simp [bitrow_Unpack.j0])
   | succ kj3 =>
    have H := HA.out
    clear HA
    simp only [bitrow_Unpack.j0] at H
    by_cases c6 : x22_3 = true
    ·subst c6
     have H1 : (some (([] : List Int), 31)) = some (r1, r2) := by rw [if_pos rfl] at H; exact H
     clear H
     have H := H1
     clear H1
     simp only [Option.some.injEq, Prod.mk.injEq] at H
     obtain ⟨rfl, rfl⟩ := H
     go_wp2
     go_ret2
     exact ⟨_, by first | rfl | (simp [errW_none, errW_some] <;> rfl) | (simp [*, errW_none, errW_some] <;> rfl), by first | exact Kd.R_nil _ _ _ _ _ | exact Kd.N_nil _ _ _ _ _ | exact Kd.V_nil _ _ _ _ _ | exact Kd.Q_nil _ _ _ _ _ | exact Kd.S_nil _ _ _ _ _, mvh HB.out⟩
    ·replace c6 := Bool.eq_false_iff.mpr c6
     subst c6
     have H1 : (if 0 ≤ a1 then (if (a1 : Int).toNat ≤ 281474976710656 then (bitrow_Unpack.l0 kj3 l0 (List.replicate (a1 : Int).toNat 0) a1 0) else (none)) else (none)) = some (r1, r2) := by rw [if_neg (show ¬ (false = true) by decide)] at H; exact H
     clear H
     have H := H1
     clear H1
     by_cases c7 : 0 ≤ a1
     ·rw [if_pos c7] at H
      have c7b0 := eq_true c7
      have c7b1 : decide (0 ≤ a1) = true := decide_eq_true c7
      clear c7
      by_cases c8 : (a1 : Int).toNat ≤ 281474976710656
      ·rw [if_pos c8] at H
       have c8b0 := eq_true c8
       have c8b1 : decide ((a1 : Int).toNat ≤ 281474976710656) = true := decide_eq_true c8
       clear c8
       obtain ⟨y116, hy116⟩ : ∃ y_ : List Int, y_ = (List.replicate (a1 : Int).toNat 0) := ⟨_, rfl⟩
       replace H : (bitrow_Unpack.l0 kj3 l0 y116 a1 0) = some (r1, r2) := by first | (rw [hy116]; with_reducible exact H) | (have H2_ := (Option.bind_some _ _).symm.trans H; rw [hy116]; with_reducible exact H2_) | (have H2_ := (Option.bind_some _ _).symm.trans H; with_reducible exact H2_) | with_reducible exact H | (rw [hy116]; exact H) | exact H
       have Ny116 := Aside0.mk hy116
       clear hy116
       have H' := Aside0.mk H
       clear H
       go_wp2_with (first | ((with_reducible refine gate_dst (N := 24) rfl ?_); (try (refine gate_guard (by rfl) ?_; dsimp only)); refine Kd.R_make (Kd.int .u8) _ 5 rfl (N := 24) rfl 27 _ _ rfl a1 rfl rfl Try.underlying27 (.int .u8 0) 1 info5 rfl (by decide) (by omega) 0 (ok := fun _ => True) (okp := fun _ => True) rfl (fun _ hk => hk) trivial (of_decide_eq_true (by first | (with_reducible assumption) | assumption)) (Nat.le_trans (Nat.mul_le_mul_right _ (of_decide_eq_true (by first | (with_reducible assumption) | assumption) : a1.toNat ≤ 281474976710656)) (by omega)) (Below.refl _ _) (Nat.le_refl _) ?_; intro v117 w9 ho10 hb hg_ hnew_; clear hg_ hnew_; (first | rw [← Ny116.out] at ho10 | (simp only [Int.reduceToNat] at ho10; rw [← Ny116.out] at ho10)); have n0_ := aK (Kd.R_lower ho10 (below_size (mvh HB.out))); have n1_ := aK (below_step (mvh HB.out) hb); clear HB; have HO118 := n0_; have HB := n1_; clear n0_ n1_; clear hb ho10))
       go_loopg [26] kj3 (fun kq v26 w' => ∃ (x6_2 : List Int) (x26_2 : Int), v26 = .int .i64 x26_2 ∧ Aside0 (bitrow_Unpack.l0 kq l0 x6_2 a1 x26_2 = some (r1, r2)) ∧ Aside0 (kq ≤ kj3) ∧ Aside0 (Kd.R (Kd.int .u8) 5 w' w.heap.size (fun _ => True) v117 x6_2) ∧ Aside0 (Below w.heap.size w w'))
       case atStart => exact ⟨(y116), (0), (by first | rfl | (simp; done) | (simp [*]; done) | (simp [wrap64]; done)), H', ⟨Nat.le_refl _⟩, ⟨mvR HO118.out⟩, ⟨mvh HB.out⟩⟩
       case round =>
        clear H'
        (try clear c2); (try clear p2); (try clear c3); (try clear c3b0); (try clear c5); (try clear c5b0); (try clear c5b1); (try clear c6); (try clear p6); (try clear c7); (try clear c7b0); (try clear c7b1); (try clear c8); (try clear c8b0); (try clear c8b1); (try clear p2)
        obtain ⟨x6_2, x26_2, rfl, HA, HK2, HO_6, HB⟩ := hrel
        cases gk with
        | zero => exact absurd HA.out (by simp [bitrow_Unpack.l0])
        | succ k2 =>
         have H := HA.out
         clear HA
         simp only [bitrow_Unpack.l0] at H
         by_cases c11 : x26_2 < a1
         ·rw [if_pos c11] at H
          have c11b0 : decide (x26_2 < a1) = true := decide_eq_true c11
          clear c11
          obtain ⟨ji12, hji12⟩ : ∃ j_ : Int, (wrap64 (Int.tdiv x26_2 8)) = j_ := ⟨_, rfl⟩
          replace H : (if 0 ≤ (ji12) then (if (ji12) < (l0.length : Int) then (if 0 ≤ (wrap64 (7 - (Int.tmod x26_2 8))) then (if 0 ≤ x26_2 then (if x26_2 < (x6_2.length : Int) then (bitrow_Unpack.l0 k2 l0 (x6_2.set (x26_2 : Int).toNat (Go.bits .and .u8 (shr .u8 (rd l0 (ji12)) (wrap64 (7 - (Int.tmod x26_2 8)))) 1)) a1 (wrap64 (x26_2 + 1))) else (none)) else (none)) else (none)) else (none)) else (none)) = some (r1, r2) := by first | (rw [hji12] at H; exact H) | (simp only [hji12] at H ⊢; exact H)
          have hji12w : (IntKind.i64.wrap (Int.tdiv x26_2 8)) = ji12 := (i64_w _).trans hji12
          by_cases c13 : 0 ≤ (ji12)
          ·rw [if_pos c13] at H
           have c13b0 : decide (0 ≤ (ji12)) = true := decide_eq_true c13
           clear c13
           by_cases c14 : (ji12) < (l0.length : Int)
           ·rw [if_pos c14] at H
            have c14b0 : decide ((ji12) < (l0.length : Int)) = true := decide_eq_true c14
            clear c14
            obtain ⟨ji15, hji15⟩ : ∃ j_ : Int, (wrap64 (7 - (Int.tmod x26_2 8))) = j_ := ⟨_, rfl⟩
            replace H : (if 0 ≤ (ji15) then (if 0 ≤ x26_2 then (if x26_2 < (x6_2.length : Int) then (bitrow_Unpack.l0 k2 l0 (x6_2.set (x26_2 : Int).toNat (Go.bits .and .u8 (shr .u8 (rd l0 (ji12)) (ji15)) 1)) a1 (wrap64 (x26_2 + 1))) else (none)) else (none)) else (none)) = some (r1, r2) := by first | (rw [hji15] at H; exact H) | (simp only [hji15] at H ⊢; exact H)
            have hji15w : (IntKind.i64.wrap (7 - (Int.tmod x26_2 8))) = ji15 := (i64_w _).trans hji15
            by_cases c16 : 0 ≤ (ji15)
            ·rw [if_pos c16] at H
             have c16b0 := eq_true c16
             have c16b1 : decide (0 ≤ (ji15)) = true := decide_eq_true c16
             clear c16
             obtain ⟨ji17, hji17⟩ : ∃ j_ : Int, (shr .u8 (rd l0 (ji12)) (ji15)) = j_ := ⟨_, rfl⟩
             replace H : (if 0 ≤ x26_2 then (if x26_2 < (x6_2.length : Int) then (bitrow_Unpack.l0 k2 l0 (x6_2.set (x26_2 : Int).toNat (Go.bits .and .u8 (ji17) 1)) a1 (wrap64 (x26_2 + 1))) else (none)) else (none)) = some (r1, r2) := by first | (rw [hji17] at H; exact H) | (simp only [hji17] at H ⊢; exact H)
             have hji17_ : ((rd l0 (ji12)) / 2 ^ min (ji15).toNat 8) = ji17 := hji17
             have hji17z : (ji15) ≤ 8 → ((rd l0 (ji12)) / 2 ^ (ji15).toNat) = ji17 := shr_small hji17
             by_cases c18 : 0 ≤ x26_2
             ·rw [if_pos c18] at H
              have c18b0 : decide (0 ≤ x26_2) = true := decide_eq_true c18
              clear c18
              by_cases c19 : x26_2 < (x6_2.length : Int)
              ·rw [if_pos c19] at H
               have c19b0 : decide (x26_2 < (x6_2.length : Int)) = true := decide_eq_true c19
               clear c19
               obtain ⟨y120, hy120⟩ : ∃ y_ : List Int, y_ = (x6_2.set (x26_2 : Int).toNat (Go.bits .and .u8 (ji17) 1)) := ⟨_, rfl⟩
               replace H : (bitrow_Unpack.l0 k2 l0 y120 a1 (wrap64 (x26_2 + 1))) = some (r1, r2) := by first | (rw [hy120]; with_reducible exact H) | (have H2_ := (Option.bind_some _ _).symm.trans H; rw [hy120]; with_reducible exact H2_) | (have H2_ := (Option.bind_some _ _).symm.trans H; with_reducible exact H2_) | with_reducible exact H | (rw [hy120]; exact H) | exact H
               have Ny120 := Aside0.mk hy120
               clear hy120
               have H' := Aside0.mk H
               clear H
               have p119 : 0 ≤ ((ji12) : Int) := of_decide_eq_true (by first | (with_reducible assumption) | assumption)
               have q119 : (ji12) < (l0.length : Int) := of_decide_eq_true (by first | (with_reducible assumption) | assumption)
               obtain ⟨ad119, e119, hx119_0⟩ := Kd.at_int HR0.out (ji12) p119 q119
               cases e119
               replace hx119_0 := (HB.out.cell (World.block_lt_of_cell? w _ hx119_0)).trans hx119_0
               replace p119 := eq_true p119
               replace q119 := eq_true q119
               have p20 : 0 ≤ (x26_2 : Int) := of_decide_eq_true (by first | (with_reducible assumption) | assumption)
               have q20 : (x26_2 : Int) < ((x6_2.length : Int) : Int) := of_decide_eq_true (by first | (with_reducible assumption) | assumption)
               obtain ⟨go20, co20, eo20, gb20, gl20, cl20, HG20⟩ := Kd.R_form HO_6.out (by omega)
               (first | cases eo20 | (injection eo20 with ea_ en_ ec_; (first | subst ea_ | (injection ea_ with ea_; subst ea_)); subst ec_; clear en_))
               have GB20 := Aside0.mk gb20
               have GG20 := Aside0.mk HG20
               clear gb20 gl20 HG20
               obtain ⟨hx20_0, hf20_0⟩ := Kd.R_celln 0 HO_6.out (x26_2 : Int) p20 q20
               replace p20 := eq_true p20
               replace q20 := eq_true q20
               have HP21 := Kd.R_putg HO_6.out (x26_2 : Int) (Go.bits .and .u8 (ji17) 1)
               go_wp2_with (first | ((with_reducible refine gate_store (t := 5) (p := 41) rfl ?_); refine store_event (t := 5) (p := 41) (v := ?vo_w22) (w1 := (wr.setCell ⟨go20, (x26_2 : Int).toNat, none⟩ (.int .u8 (Go.bits .and .u8 (ji17) 1)))) ?hg ?ho ?hn ?hr ?_; (case ho => rfl); (case hg => rfl); (case hn => rfl); (case hr => first | (go_simp; done) | (go_simp; rfl)); intro w22 hw; have hg : wr.grownBy w22 (some go20) := (by rw [hw]; exact HP21.2); have hp_ : Kd.R (Kd.int .u8) 5 w22 w.heap.size (fun _ => True) (.slice (some ⟨go20, 0, none⟩) x6_2.length co20) y120 := (by rw [hw, Ny120.out]; exact HP21.1); clear HP21; have n0_ := aK (hp_); have n1_ := aK ((by rw [hw]; exact below_set (HB.out) GB20.out : Below w.heap.size w w22)); clear HO_6 HB; have HO_6 := n0_; have HB := n1_; clear n0_ n1_; clear hg hw hp_))
               go_roundg k2
               case measure => have := HJ3.out; have := HK2.out; omega
               case rel => exact ⟨(y120), (wrap64 (x26_2 + 1)), (by first | rfl | (simp; done) | (simp [*]; done) | (simp [wrap64]; done)), H', ⟨by have := HJ3.out; have := HK2.out; omega⟩, ⟨mvR HO_6.out⟩, ⟨mvh HB.out⟩⟩
              ·rw [if_neg c19] at H
               exact absurd H (by simp)
             ·rw [if_neg c18] at H
              exact absurd H (by simp)
            ·rw [if_neg c16] at H
             exact absurd H (by simp)
           ·rw [if_neg c14] at H
            exact absurd H (by simp)
          ·rw [if_neg c13] at H
           exact absurd H (by simp)
         ·rw [if_neg c11] at H
          have c11b0 : decide (x26_2 < a1) = false := decide_eq_false c11
          clear c11
          simp only [Option.some.injEq, Prod.mk.injEq] at H
          obtain ⟨rfl, rfl⟩ := H
          go_wp2
          go_ret2
          exact ⟨_, by first | rfl | (simp [errW_none, errW_some] <;> rfl) | (simp [*, errW_none, errW_some] <;> rfl), by (with_reducible repeat (first | apply Kd.R_alloc | apply Kd.R_drewN | apply Kd.R_drew)); exact HO_6.out, mvh HB.out⟩
      ·rw [if_neg c8] at H
       exact absurd H (by simp)
     ·rw [if_neg c7] at H
      exact absurd H (by simp)

end Go.Proofs.Ytaoeehnnboegnaa.P

-- squeezed
