-- written by mk.sh, a program of this session, over the kit's print
import Derived.Test.YtejlmodoghglbaaCjPx0
import Derived.Test.YtejlmodoghglbaaCjPx3
namespace Go.Proofs.Ytejlmodoghglbaa.P
open Go.RowKit Go.Proofs.YtejlmodoghglbaaW.PrintWords Go.Proofs.YtejlmodoghglbaaW.PrintLast Go.Proofs.YtejlmodoghglbaaW.PrintMore
attribute [local go_sem] max2_int min2_int max_two min_two max_three min_three max_four min_four   -- for this text's walks alone
set_option linter.unusedVariables false
set_option linter.unusedSimpArgs false

/-! ### crc_Seal: function 22, given -/
theorem crc_field3 (a0 a1 a2 a3 a4 a5 a6 a7 : Value) (W' : World) : (Instr.field 55 (.agg #[a0, a1, a2, a3, a4, a5, a6, a7]) 3).run Try.prog W' = .ok a7 W' := by
  kernel_rfl
@[reducible] def crc_SqP (W P I O g : Nat) (w w' : World) : Prop :=
  w'.cell? ⟨g, 0, none⟩ = some (.int .i64 (W : Int)) ∧ w'.cell? ⟨g, 1, none⟩ = some (.int .u32 (P : Int)) ∧ w'.cell? ⟨g, 2, none⟩ = some (.int .u32 (I : Int)) ∧ w'.cell? ⟨g, 3, none⟩ = some (.int .u32 (O : Int)) ∧ w'.cell? ⟨g, 4, none⟩ = some (.bool false) ∧ Aside0 (w'.heap[g]? = some (.cells #[.int .i64 (W : Int), .int .u32 (P : Int), .int .u32 (I : Int), .int .u32 (O : Int), .bool false] 24 (0, 0))) ∧ Aside0 (Below w.heap.size w w')
theorem crc_SqP_mk {W P I O g : Nat} {w w' : World} (hk : w'.heap[g]? = some (.cells #[.int .i64 (W : Int), .int .u32 (P : Int), .int .u32 (I : Int), .int .u32 (O : Int), .bool false] 24 (0, 0))) (hb : Below w.heap.size w w') : crc_SqP W P I O g w w' :=
  ⟨(blk_cell hk 0).trans rfl, (blk_cell hk 1).trans rfl, (blk_cell hk 2).trans rfl, (blk_cell hk 3).trans rfl, (blk_cell hk 4).trans rfl, ⟨hk⟩, ⟨hb⟩⟩
theorem crc_SqP_step {W P I O g : Nat} {w w' w2 : World} (h : crc_SqP W P I O g w w') (hb : Below w'.heap.size w' w2) : crc_SqP W P I O g w w2 :=
  crc_SqP_mk (blk_below h.2.2.2.2.2.1.out hb) (below_step h.2.2.2.2.2.2.out hb)
set_option maxHeartbeats 16000000 in
set_option maxRecDepth 100000 in
theorem crc_Seal_P (A1 : Option Addr) (c1 W P I O : Nat) (B : List Nat) (w : World) (hs : Crc.okN W P I O) (hB : ∀ x ∈ B, x < 256) (hlen : B.length + 8 < 140737488355328) (hr1 : Kd.C (Kd.int .u8) w A1 (Crc.ints B).length (Crc.ints B)) :
    Calls Try.prog 22 #[.agg #[.int .i64 (W : Int), .int .u32 (P : Int), .int .u32 (I : Int), .int .u32 (O : Int), .bool false], .slice A1 (Crc.ints B).length c1] w fun e w' => ∃ v0_ : Value, e = .returned (.tuple #[v0_, .int .i64 0]) ∧ Kd.R (Kd.int .u8) 5 w' w.heap.size (fun _ => True) v0_ (Crc.ints B ++ Crc.ints (Crc.layl false (W / 8) (Crc.crc false W P I O B))) ∧ Below w.heap.size w w' := by
  have hu24 := Try.underlying24
  have hu55 := Try.underlying55
  have HB := Aside0.mk (Below.refl w.heap.size w)
  have hfd := crc_field3
  have HR1 := Aside0.mk hr1
  have HBY := Aside0.mk hB
  have HS := Aside0.mk hs
  have HLEN := Aside0.mk hlen
  have hw8 : (W : Int) ≤ 32 := by have := hs.1; omega
  obtain ⟨x, hx⟩ : ∃ x, x = Crc.crc false W P I O B := ⟨_, rfl⟩
  have hx32 : x < 4294967296 := by rw [hx]; exact Nat.lt_of_lt_of_le (Crc.crc_lt hs B) (show 2 ^ W ≤ 2 ^ 32 from Nat.pow_le_pow_right (by omega) (by have := hs.1; omega))
  rw [← hx]
  have HX := Aside0.mk hx
  have HX32 := Aside0.mk hx32
  obtain ⟨L, hL⟩ : ∃ L, L = Crc.ints B := ⟨_, rfl⟩
  have hlb : L.length = B.length := by rw [hL, Crc.ints_length]
  have HLB := Aside0.mk hlb
  rw [← hL] at HR1 ⊢
  have HL := Aside0.mk hL
  have hll : (L.length : Int) ≤ 140737488355328 := by omega
  have hm : W / 8 ≤ 4 := by omega
  have HM := Aside0.mk hm
  clear hr1 hB hs hL hx hx32 hlb hlen hm
  go_enter Try.func22, Try.ntmps22
  go_wp2_with (first | ((with_reducible refine gate_dst (N := 2) rfl ?_); refine box_event ?hg (N := 2) ?hd (cs := #[.int .i64 (W : Int), .int .u32 (P : Int), .int .u32 (I : Int), .int .u32 (O : Int), .bool false]) (t := 24) ?hr ?_; (case hd => rfl); (case hg => rfl); (case hr => first | (go_simp; done) | (go_simp; rfl)); intro g hg_ wg hbox_ hb_; have n0_ := Aside0.mk (below_step HB.out hb_); have n1_ := Aside0.mk hbox_; have n2_ := Aside0.mk ((by rw [hg_]; exact below_size HB.out) : w.heap.size ≤ g); clear HB; have HB := n0_; have BKg := n1_; have GEg := n2_; clear n0_ n1_ n2_; clear hb_ hbox_ hg_; have hcg_0 : wg.cell? ⟨g, 0, none⟩ = some (.int .i64 (W : Int)) := (blk_cell BKg.out 0).trans rfl; have hfg_0 := blk_frozen BKg.out 0; have hcg_1 : wg.cell? ⟨g, 1, none⟩ = some (.int .u32 (P : Int)) := (blk_cell BKg.out 1).trans rfl; have hfg_1 := blk_frozen BKg.out 1; have hcg_2 : wg.cell? ⟨g, 2, none⟩ = some (.int .u32 (I : Int)) := (blk_cell BKg.out 2).trans rfl; have hfg_2 := blk_frozen BKg.out 2; have hcg_3 : wg.cell? ⟨g, 3, none⟩ = some (.int .u32 (O : Int)) := (blk_cell BKg.out 3).trans rfl; have hfg_3 := blk_frozen BKg.out 3; have hcg_4 : wg.cell? ⟨g, 4, none⟩ = some (.bool false) := (blk_cell BKg.out 4).trans rfl; have hfg_4 := blk_frozen BKg.out 4) | (go_at_call 20; rw [HL.out]; refine (crc_Sum_plain A1 c1 W P I O B _ HS.out HBY.out (by rw [← HL.out]; exact Kd.C_below HR1.out HB.out)).mono ?_; rintro e w1 ⟨rfl, hb⟩; rw [← HX.out, ← HL.out]; have n0_ := Aside0.mk (below_step HB.out hb); clear HB; have HB := n0_; clear n0_; have n0_ := Aside0.mk (blk_below BKg.out hb); clear BKg; have BKg := n0_; clear n0_; have hcg_w1_0 : w1.cell? ⟨g, 0, none⟩ = some (.int .i64 (W : Int)) := (blk_cell BKg.out 0).trans rfl; have hfg_w1_0 := blk_frozen BKg.out 0; have hcg_w1_1 : w1.cell? ⟨g, 1, none⟩ = some (.int .u32 (P : Int)) := (blk_cell BKg.out 1).trans rfl; have hfg_w1_1 := blk_frozen BKg.out 1; have hcg_w1_2 : w1.cell? ⟨g, 2, none⟩ = some (.int .u32 (I : Int)) := (blk_cell BKg.out 2).trans rfl; have hfg_w1_2 := blk_frozen BKg.out 2; have hcg_w1_3 : w1.cell? ⟨g, 3, none⟩ = some (.int .u32 (O : Int)) := (blk_cell BKg.out 3).trans rfl; have hfg_w1_3 := blk_frozen BKg.out 3; have hcg_w1_4 : w1.cell? ⟨g, 4, none⟩ = some (.bool false) := (blk_cell BKg.out 4).trans rfl; have hfg_w1_4 := blk_frozen BKg.out 4; clear hb))
  have HCAP : Aside0 (wrap64 ((L.length : Int) + wrap64 ((W : Int) / 8)) = ((L.length + W / 8 : Nat) : Int)) := ⟨by unfold wrap64; omega⟩
  refine start_ (n := 17) (S := crc_SqP W P I O g w) (ds := []) #[false, false, false, false, false, false, false, false, false, false, false, false, false, false, false, false, false] (by kernel_rfl) rfl rfl (crc_SqP_mk (blk_drew BKg.out) (below_drew1 HB.out)) (fun hHeld => ?_)
  refine pure_ (i := 0) (N := some 17) (v := ?_) (a' := ?_) #[true, false, false, false, false, false, false, false, false, false, false, false, false, false, false, false, false] rfl rfl (by kernel_rfl) (fun _ _ _ h => h) (Or.inl ⟨by rfl, ?_⟩) ?_ ?_
  rotate_left
  · intro w'
    go_simp
    with_reducible rfl
  rotate_left
  · simp only [Act.put, List.setIfInBounds_toArray, List.set_cons_zero, List.set_cons_succ, i64_w, i32_w]
    rfl
  refine pure_ (i := 1) (N := some 18) (v := ?_) (a' := ?_) #[true, true, false, false, false, false, false, false, false, false, false, false, false, false, false, false, false] rfl rfl (by kernel_rfl) (fun _ _ _ h => h) (Or.inl ⟨by rfl, ?_⟩) ?_ ?_
  rotate_left
  · intro w'
    go_simp
    with_reducible rfl
  rotate_left
  · simp only [Act.put, List.setIfInBounds_toArray, List.set_cons_zero, List.set_cons_succ, i64_w, i32_w]
    rfl
  refine pure_ (i := 2) (N := some 19) (v := ?_) (a' := ?_) #[true, true, true, false, false, false, false, false, false, false, false, false, false, false, false, false, false] rfl rfl (by kernel_rfl) (fun _ _ _ h => h) (Or.inl ⟨by rfl, ?_⟩) ?_ ?_
  rotate_left
  · intro w'
    go_simp
    with_reducible rfl
  rotate_left
  · simp only [Act.put, List.setIfInBounds_toArray, List.set_cons_zero, List.set_cons_succ, i64_w, i32_w]
    rfl
  refine take_ (i := 3) (N := some 20) (v := ?_) (a' := ?_) #[true, true, true, true, false, false, false, false, false, false, false, false, false, false, false, false, false] rfl rfl (by kernel_rfl) (fun _ _ _ h => h) (Or.inl ⟨by rfl, ?_⟩) hHeld ?_ ?_
  rotate_left
  · rintro w' ⟨hq0, hq1, hq2, hq3, hq4, _⟩
    go_simp
    with_reducible rfl
  rotate_left
  · simp only [Act.put, List.setIfInBounds_toArray, List.set_cons_zero, List.set_cons_succ, i64_w, i32_w]
    rfl
  refine pure_ (i := 4) (N := some 21) (v := ?_) (a' := ?_) #[true, true, true, true, true, false, false, false, false, false, false, false, false, false, false, false, false] rfl rfl (by kernel_rfl) (fun _ _ _ h => h) (Or.inl ⟨by rfl, ?_⟩) ?_ ?_
  rotate_left
  · intro w'
    go_simp
    with_reducible rfl
  rotate_left
  · simp only [Act.put, List.setIfInBounds_toArray, List.set_cons_zero, List.set_cons_succ, i64_w, i32_w]
    rfl
  refine pure_ (i := 5) (N := some 22) (v := ?_) (a' := ?_) #[true, true, true, true, true, true, false, false, false, false, false, false, false, false, false, false, false] rfl rfl (by kernel_rfl) (fun _ _ _ h => h) (Or.inl ⟨by rfl, ?_⟩) ?_ ?_
  rotate_left
  · intro w'
    go_simp
    with_reducible rfl
  rotate_left
  · simp only [Act.put, List.setIfInBounds_toArray, List.set_cons_zero, List.set_cons_succ, i64_w, i32_w]
    rfl
  refine pure_ (i := 7) (N := some 24) (v := ?_) (a' := ?_) #[true, true, true, true, true, true, false, true, false, false, false, false, false, false, false, false, false] rfl rfl (by kernel_rfl) (fun _ _ _ h => h) (Or.inl ⟨by rfl, ?_⟩) ?_ ?_
  rotate_left
  · intro w'
    go_simp
    with_reducible rfl
  rotate_left
  · simp only [Act.put, List.setIfInBounds_toArray, List.set_cons_zero, List.set_cons_succ, i64_w, i32_w]
    rfl
  refine take_ (i := 9) (N := some 26) (v := ?_) (a' := ?_) #[true, true, true, true, true, true, false, true, false, true, false, false, false, false, false, false, false] rfl rfl (by kernel_rfl) (fun _ _ _ h => h) (Or.inl ⟨by rfl, ?_⟩) hHeld ?_ ?_
  rotate_left
  · rintro w' ⟨hq0, hq1, hq2, hq3, hq4, _⟩
    go_simp
    with_reducible rfl
  rotate_left
  · simp only [Act.put, List.setIfInBounds_toArray, List.set_cons_zero, List.set_cons_succ, i64_w, i32_w]
    rfl
  refine pure_ (i := 12) (N := some 29) (v := ?_) (a' := ?_) #[true, true, true, true, true, true, false, true, false, true, false, false, true, false, false, false, false] rfl rfl (by kernel_rfl) (fun _ _ _ h => h) (Or.inl ⟨by rfl, ?_⟩) ?_ ?_
  rotate_left
  · intro w'
    go_simp
    with_reducible rfl
  rotate_left
  · simp only [Act.put, List.setIfInBounds_toArray, List.set_cons_zero, List.set_cons_succ, i64_w, i32_w]
    rfl
  refine one_ (i := 6) (N := some 23) #[true, true, true, true, true, true, true, true, false, true, false, false, true, false, false, false, false] rfl rfl (by kernel_rfl) (by decide) (fun K hK => ?_)
  refine Kd.R_make0_step (Kd.int .u8) (w0 := w) w.heap.size 5 (by rfl) (N := 23) rfl 35 _ _ rfl (wrap64 ((L.length : Int) + wrap64 ((W : Int) / 8))) rfl rfl Try.underlying35 (.int .u8 0) 1 info5 rfl (by decide) (ok := fun _ => True) (okp := fun _ => True) (fun _ hk => hk) trivial (by rw [HCAP.out]; exact Int.natCast_nonneg _) (by rw [HCAP.out, Int.toNat_natCast]; have := HLEN.out; have := HLB.out; have := HM.out; omega) (below_drew1 HB.out) (below_size (below_drew1 HB.out)) ?_
  intro v23 w6 ho6 hb6 hg_ hnew_
  have HO6 := Aside0.mk ho6
  have HB6 := Aside0.mk hb6
  have BK6 := Aside0.mk (blk_grown (blk_drew BKg.out) hg_ (by simp))
  refine hK.out _ _ (crc_SqP_mk BK6.out HB6.out) (fun hHeld6 => ?_)
  clear hK K hg_ hnew_ ho6 hb6 hHeld
  try simp only [Act.put, List.setIfInBounds_toArray, List.set_cons_zero, List.set_cons_succ]
  refine one_ (i := 8) (N := some 25) #[true, true, true, true, true, true, true, true, true, true, false, false, true, false, false, false, false] rfl rfl (by kernel_rfl) (by decide) (fun K hK => ?_)
  refine Kd.R_append_rows_at (Kd.int .u8) (w0 := w) w.heap.size (by rfl) (N := some 25) rfl (.tmp 23) (.tmp 24) 35 5 (.int .u8 0) 1 rfl Try.underlying35 info5 rfl (by decide) (by omega) v23 [] L A1 L.length c1 (fun _ => True) (fun _ => False) rfl rfl HO6.out (Kd.C_below HR1.out HB6.out) (fun _ _ h => h) (fun _ h => h.elim) (fun _ _ => trivial) HB6.out (below_size HB6.out) (by have := HLEN.out; have := HLB.out; simp only [List.length_nil]; omega) ?_
  intro v25 w8 ho8 hb8 hg8 hat8
  have HO8 := Aside0.mk ho8
  have HB8 := Aside0.mk hb8
  have BK8 := Aside0.mk (blk_grown BK6.out hg8 (Kd.R_ne HO6.out BK6.out (by decide)))
  refine hK.out _ _ (crc_SqP_mk BK8.out HB8.out) (fun hHeld8 => ?_)
  clear hK K hg8 hat8 ho8 hb8 hHeld6
  try simp only [Act.put, List.setIfInBounds_toArray, List.set_cons_zero, List.set_cons_succ]
  refine one_ (i := 10) (N := some 27) #[true, true, true, true, true, true, true, true, true, true, true, false, true, false, false, false, false] rfl rfl (by kernel_rfl) (by decide) (fun K hK => ?_)
  refine call_ 40 #[.agg #[.int .i64 (W : Int), .int .u32 (P : Int), .int .u32 (I : Int), .int .u32 (O : Int), .bool false]] (by rfl) rfl ?hrun ?_
  case hrun =>
    have he := enters_ Try.func40 (by kernel_rfl) rfl #[.agg #[.int .i64 (W : Int), .int .u32 (P : Int), .int .u32 (I : Int), .int .u32 (O : Int), .bool false]] w8
    unfold execOp
    simp [resolve, Deferred.ofValue, invoke, Act.eval, he]
  refine (crc_fit_plain W P I O _ (by have := HS.out.1; omega)).mono ?_
  rintro e w10 ⟨p, q, rfl, hh, hb10⟩
  simp only [crc_wv, if_true, if_false, Bool.false_eq_true]
  have HH := Aside0.mk hh
  have HB10 := Aside0.mk (below_step HB8.out hb10)
  have BK10 := Aside0.mk (blk_below BK8.out hb10)
  have HO10 := Aside0.mk (Kd.R_below HO8.out hb10)
  refine ⟨_, rfl, hK.out _ _ (crc_SqP_mk BK10.out HB10.out) (fun hHeld10 => ?_)⟩
  clear hK K hh hb10 hHeld8
  try simp only [Act.put, List.setIfInBounds_toArray, List.set_cons_zero, List.set_cons_succ]
  refine pure_ (i := 11) (N := some 28) (v := ?_) (a' := ?_) #[true, true, true, true, true, true, true, true, true, true, true, true, true, false, false, false, false] rfl rfl (by kernel_rfl) (fun _ _ _ h => h) (Or.inl ⟨by rfl, ?_⟩) ?_ ?_
  rotate_left
  · intro w'
    go_simp
    with_reducible rfl
  rotate_left
  · simp only [Act.put, List.setIfInBounds_toArray, List.set_cons_zero, List.set_cons_succ, i64_w, i32_w]
    rfl
  refine one_ (i := 13) (N := some 30) #[true, true, true, true, true, true, true, true, true, true, true, true, true, true, false, false, false] rfl rfl (by kernel_rfl) (by decide) (fun K hK => ?_)
  refine call_ 59 #[.int .u32 (x : Int), .pointer (some ⟨q, 0, none⟩)] (by rfl) rfl ?hrun ?_
  case hrun =>
    have he := enters_ Try.func59 (by kernel_rfl) rfl #[.int .u32 (x : Int), .pointer (some ⟨q, 0, none⟩)] w10
    unfold execOp
    simp [resolve, Deferred.ofValue, invoke, Act.eval, he]
  refine (crc_lay3_calls q (W / 8) x w10 HX32.out HM.out HH.out.2).mono ?_
  rintro e w13 ⟨v30, rfl, hr30, hb13⟩
  obtain ⟨Ao, co, eo⟩ := Kd.R_slice hr30
  subst eo
  have HR30 := Aside0.mk (Kd.R_reads' hr30).2.2
  have HB13 := Aside0.mk (below_step HB10.out hb13)
  have BK13 := Aside0.mk (blk_below BK10.out hb13)
  have HO13 := Aside0.mk (Kd.R_below HO10.out hb13)
  refine ⟨_, rfl, hK.out _ _ (crc_SqP_mk BK13.out HB13.out) (fun hHeld13 => ?_)⟩
  clear hK K hr30 hb13 hHeld10
  try simp only [Act.put, List.setIfInBounds_toArray, List.set_cons_zero, List.set_cons_succ]
  refine one_ (i := 14) (N := some 31) #[true, true, true, true, true, true, true, true, true, true, true, true, true, true, true, false, false] rfl rfl (by kernel_rfl) (by decide) (fun K hK => ?_)
  refine Kd.R_append_rows_at (Kd.int .u8) (w0 := w) w.heap.size (by rfl) (N := some 31) rfl (.tmp 25) (.tmp 30) 35 5 (.int .u8 0) 1 rfl Try.underlying35 info5 rfl (by decide) (by omega) v25 ([] ++ L) ((Crc.layl false (W / 8) x).map (fun n : Nat => (n : Int))) Ao _ co (fun _ => True) (fun _ => False) rfl rfl HO13.out HR30.out (fun _ _ h => h) (fun _ h => h.elim) (fun _ _ => trivial) HB13.out (below_size HB13.out) (by have := HLEN.out; have := HLB.out; have := HM.out; simp only [List.nil_append, List.length_map, Crc.layl_length]; omega) ?_
  intro v31 w14 ho14 hb14 hg14 hat14
  have HO14 := Aside0.mk ho14
  have HB14 := Aside0.mk hb14
  have BK14 := Aside0.mk (blk_grown BK13.out hg14 (Kd.R_ne HO13.out BK13.out (by decide)))
  refine hK.out _ _ (crc_SqP_mk BK14.out HB14.out) (fun hHeld14 => ?_)
  clear hK K hg14 hat14 ho14 hb14 hHeld13
  refine pure_ (i := 15) (N := some 4) (v := ?_) (a' := ?_) #[true, true, true, true, true, true, true, true, true, true, true, true, true, true, true, true, false] rfl rfl (by kernel_rfl) (fun _ _ _ h => h) (Or.inl ⟨by rfl, ?_⟩) ?_ ?_
  rotate_left
  · intro w'
    go_simp
    with_reducible rfl
  rotate_left
  · simp only [Act.put, List.setIfInBounds_toArray, List.set_cons_zero, List.set_cons_succ, i64_w, i32_w]
    rfl
  refine pure_ (i := 16) (N := some 5) (v := ?_) (a' := ?_) #[true, true, true, true, true, true, true, true, true, true, true, true, true, true, true, true, true] rfl rfl (by kernel_rfl) (fun _ _ _ h => h) (Or.inl ⟨by rfl, ?_⟩) ?_ ?_
  rotate_left
  · intro w'
    go_simp
    with_reducible rfl
  rotate_left
  · simp only [Act.put, List.setIfInBounds_toArray, List.set_cons_zero, List.set_cons_succ, i64_w, i32_w]
    rfl
  refine done_ (by kernel_rfl) ?_
  go_wp2
  go_ret2
  exact ⟨_, rfl, HO14.out, HB14.out⟩
@[reducible] def crc_SqR (W P I O g : Nat) (w w' : World) : Prop :=
  w'.cell? ⟨g, 0, none⟩ = some (.int .i64 (W : Int)) ∧ w'.cell? ⟨g, 1, none⟩ = some (.int .u32 (P : Int)) ∧ w'.cell? ⟨g, 2, none⟩ = some (.int .u32 (I : Int)) ∧ w'.cell? ⟨g, 3, none⟩ = some (.int .u32 (O : Int)) ∧ w'.cell? ⟨g, 4, none⟩ = some (.bool true) ∧ Aside0 (w'.heap[g]? = some (.cells #[.int .i64 (W : Int), .int .u32 (P : Int), .int .u32 (I : Int), .int .u32 (O : Int), .bool true] 24 (0, 0))) ∧ Aside0 (Below w.heap.size w w')
theorem crc_SqR_mk {W P I O g : Nat} {w w' : World} (hk : w'.heap[g]? = some (.cells #[.int .i64 (W : Int), .int .u32 (P : Int), .int .u32 (I : Int), .int .u32 (O : Int), .bool true] 24 (0, 0))) (hb : Below w.heap.size w w') : crc_SqR W P I O g w w' :=
  ⟨(blk_cell hk 0).trans rfl, (blk_cell hk 1).trans rfl, (blk_cell hk 2).trans rfl, (blk_cell hk 3).trans rfl, (blk_cell hk 4).trans rfl, ⟨hk⟩, ⟨hb⟩⟩
theorem crc_SqR_step {W P I O g : Nat} {w w' w2 : World} (h : crc_SqR W P I O g w w') (hb : Below w'.heap.size w' w2) : crc_SqR W P I O g w w2 :=
  crc_SqR_mk (blk_below h.2.2.2.2.2.1.out hb) (below_step h.2.2.2.2.2.2.out hb)
set_option maxHeartbeats 16000000 in
set_option maxRecDepth 100000 in
theorem crc_Seal_R (A1 : Option Addr) (c1 W P I O : Nat) (B : List Nat) (w : World) (hs : Crc.okN W P I O) (hB : ∀ x ∈ B, x < 256) (hlen : B.length + 8 < 140737488355328) (hr1 : Kd.C (Kd.int .u8) w A1 (Crc.ints B).length (Crc.ints B)) :
    Calls Try.prog 22 #[.agg #[.int .i64 (W : Int), .int .u32 (P : Int), .int .u32 (I : Int), .int .u32 (O : Int), .bool true], .slice A1 (Crc.ints B).length c1] w fun e w' => ∃ v0_ : Value, e = .returned (.tuple #[v0_, .int .i64 0]) ∧ Kd.R (Kd.int .u8) 5 w' w.heap.size (fun _ => True) v0_ (Crc.ints B ++ Crc.ints (Crc.layl true (W / 8) (Crc.crc true W P I O B))) ∧ Below w.heap.size w w' := by
  have hu24 := Try.underlying24
  have hu55 := Try.underlying55
  have HB := Aside0.mk (Below.refl w.heap.size w)
  have hfd := crc_field3
  have HR1 := Aside0.mk hr1
  have HBY := Aside0.mk hB
  have HS := Aside0.mk hs
  have HLEN := Aside0.mk hlen
  have hw8 : (W : Int) ≤ 32 := by have := hs.1; omega
  obtain ⟨x, hx⟩ : ∃ x, x = Crc.crc true W P I O B := ⟨_, rfl⟩
  have hx32 : x < 4294967296 := by rw [hx]; exact Nat.lt_of_lt_of_le (Crc.crc_lt hs B) (show 2 ^ W ≤ 2 ^ 32 from Nat.pow_le_pow_right (by omega) (by have := hs.1; omega))
  rw [← hx]
  have HX := Aside0.mk hx
  have HX32 := Aside0.mk hx32
  obtain ⟨L, hL⟩ : ∃ L, L = Crc.ints B := ⟨_, rfl⟩
  have hlb : L.length = B.length := by rw [hL, Crc.ints_length]
  have HLB := Aside0.mk hlb
  rw [← hL] at HR1 ⊢
  have HL := Aside0.mk hL
  have hll : (L.length : Int) ≤ 140737488355328 := by omega
  have hm : W / 8 ≤ 4 := by omega
  have HM := Aside0.mk hm
  clear hr1 hB hs hL hx hx32 hlb hlen hm
  go_enter Try.func22, Try.ntmps22
  go_wp2_with (first | ((with_reducible refine gate_dst (N := 2) rfl ?_); refine box_event ?hg (N := 2) ?hd (cs := #[.int .i64 (W : Int), .int .u32 (P : Int), .int .u32 (I : Int), .int .u32 (O : Int), .bool true]) (t := 24) ?hr ?_; (case hd => rfl); (case hg => rfl); (case hr => first | (go_simp; done) | (go_simp; rfl)); intro g hg_ wg hbox_ hb_; have n0_ := Aside0.mk (below_step HB.out hb_); have n1_ := Aside0.mk hbox_; have n2_ := Aside0.mk ((by rw [hg_]; exact below_size HB.out) : w.heap.size ≤ g); clear HB; have HB := n0_; have BKg := n1_; have GEg := n2_; clear n0_ n1_ n2_; clear hb_ hbox_ hg_; have hcg_0 : wg.cell? ⟨g, 0, none⟩ = some (.int .i64 (W : Int)) := (blk_cell BKg.out 0).trans rfl; have hfg_0 := blk_frozen BKg.out 0; have hcg_1 : wg.cell? ⟨g, 1, none⟩ = some (.int .u32 (P : Int)) := (blk_cell BKg.out 1).trans rfl; have hfg_1 := blk_frozen BKg.out 1; have hcg_2 : wg.cell? ⟨g, 2, none⟩ = some (.int .u32 (I : Int)) := (blk_cell BKg.out 2).trans rfl; have hfg_2 := blk_frozen BKg.out 2; have hcg_3 : wg.cell? ⟨g, 3, none⟩ = some (.int .u32 (O : Int)) := (blk_cell BKg.out 3).trans rfl; have hfg_3 := blk_frozen BKg.out 3; have hcg_4 : wg.cell? ⟨g, 4, none⟩ = some (.bool true) := (blk_cell BKg.out 4).trans rfl; have hfg_4 := blk_frozen BKg.out 4) | (go_at_call 20; rw [HL.out]; refine (crc_Sum_refl A1 c1 W P I O B _ HS.out HBY.out (by rw [← HL.out]; exact Kd.C_below HR1.out HB.out)).mono ?_; rintro e w1 ⟨rfl, hb⟩; rw [← HX.out, ← HL.out]; have n0_ := Aside0.mk (below_step HB.out hb); clear HB; have HB := n0_; clear n0_; have n0_ := Aside0.mk (blk_below BKg.out hb); clear BKg; have BKg := n0_; clear n0_; have hcg_w1_0 : w1.cell? ⟨g, 0, none⟩ = some (.int .i64 (W : Int)) := (blk_cell BKg.out 0).trans rfl; have hfg_w1_0 := blk_frozen BKg.out 0; have hcg_w1_1 : w1.cell? ⟨g, 1, none⟩ = some (.int .u32 (P : Int)) := (blk_cell BKg.out 1).trans rfl; have hfg_w1_1 := blk_frozen BKg.out 1; have hcg_w1_2 : w1.cell? ⟨g, 2, none⟩ = some (.int .u32 (I : Int)) := (blk_cell BKg.out 2).trans rfl; have hfg_w1_2 := blk_frozen BKg.out 2; have hcg_w1_3 : w1.cell? ⟨g, 3, none⟩ = some (.int .u32 (O : Int)) := (blk_cell BKg.out 3).trans rfl; have hfg_w1_3 := blk_frozen BKg.out 3; have hcg_w1_4 : w1.cell? ⟨g, 4, none⟩ = some (.bool true) := (blk_cell BKg.out 4).trans rfl; have hfg_w1_4 := blk_frozen BKg.out 4; clear hb))
  have HCAP : Aside0 (wrap64 ((L.length : Int) + wrap64 ((W : Int) / 8)) = ((L.length + W / 8 : Nat) : Int)) := ⟨by unfold wrap64; omega⟩
  refine start_ (n := 17) (S := crc_SqR W P I O g w) (ds := []) #[false, false, false, false, false, false, false, false, false, false, false, false, false, false, false, false, false] (by kernel_rfl) rfl rfl (crc_SqR_mk (blk_drew BKg.out) (below_drew1 HB.out)) (fun hHeld => ?_)
  refine pure_ (i := 0) (N := some 17) (v := ?_) (a' := ?_) #[true, false, false, false, false, false, false, false, false, false, false, false, false, false, false, false, false] rfl rfl (by kernel_rfl) (fun _ _ _ h => h) (Or.inl ⟨by rfl, ?_⟩) ?_ ?_
  rotate_left
  · intro w'
    go_simp
    with_reducible rfl
  rotate_left
  · simp only [Act.put, List.setIfInBounds_toArray, List.set_cons_zero, List.set_cons_succ, i64_w, i32_w]
    rfl
  refine pure_ (i := 1) (N := some 18) (v := ?_) (a' := ?_) #[true, true, false, false, false, false, false, false, false, false, false, false, false, false, false, false, false] rfl rfl (by kernel_rfl) (fun _ _ _ h => h) (Or.inl ⟨by rfl, ?_⟩) ?_ ?_
  rotate_left
  · intro w'
    go_simp
    with_reducible rfl
  rotate_left
  · simp only [Act.put, List.setIfInBounds_toArray, List.set_cons_zero, List.set_cons_succ, i64_w, i32_w]
    rfl
  refine pure_ (i := 2) (N := some 19) (v := ?_) (a' := ?_) #[true, true, true, false, false, false, false, false, false, false, false, false, false, false, false, false, false] rfl rfl (by kernel_rfl) (fun _ _ _ h => h) (Or.inl ⟨by rfl, ?_⟩) ?_ ?_
  rotate_left
  · intro w'
    go_simp
    with_reducible rfl
  rotate_left
  · simp only [Act.put, List.setIfInBounds_toArray, List.set_cons_zero, List.set_cons_succ, i64_w, i32_w]
    rfl
  refine take_ (i := 3) (N := some 20) (v := ?_) (a' := ?_) #[true, true, true, true, false, false, false, false, false, false, false, false, false, false, false, false, false] rfl rfl (by kernel_rfl) (fun _ _ _ h => h) (Or.inl ⟨by rfl, ?_⟩) hHeld ?_ ?_
  rotate_left
  · rintro w' ⟨hq0, hq1, hq2, hq3, hq4, _⟩
    go_simp
    with_reducible rfl
  rotate_left
  · simp only [Act.put, List.setIfInBounds_toArray, List.set_cons_zero, List.set_cons_succ, i64_w, i32_w]
    rfl
  refine pure_ (i := 4) (N := some 21) (v := ?_) (a' := ?_) #[true, true, true, true, true, false, false, false, false, false, false, false, false, false, false, false, false] rfl rfl (by kernel_rfl) (fun _ _ _ h => h) (Or.inl ⟨by rfl, ?_⟩) ?_ ?_
  rotate_left
  · intro w'
    go_simp
    with_reducible rfl
  rotate_left
  · simp only [Act.put, List.setIfInBounds_toArray, List.set_cons_zero, List.set_cons_succ, i64_w, i32_w]
    rfl
  refine pure_ (i := 5) (N := some 22) (v := ?_) (a' := ?_) #[true, true, true, true, true, true, false, false, false, false, false, false, false, false, false, false, false] rfl rfl (by kernel_rfl) (fun _ _ _ h => h) (Or.inl ⟨by rfl, ?_⟩) ?_ ?_
  rotate_left
  · intro w'
    go_simp
    with_reducible rfl
  rotate_left
  · simp only [Act.put, List.setIfInBounds_toArray, List.set_cons_zero, List.set_cons_succ, i64_w, i32_w]
    rfl
  refine pure_ (i := 7) (N := some 24) (v := ?_) (a' := ?_) #[true, true, true, true, true, true, false, true, false, false, false, false, false, false, false, false, false] rfl rfl (by kernel_rfl) (fun _ _ _ h => h) (Or.inl ⟨by rfl, ?_⟩) ?_ ?_
  rotate_left
  · intro w'
    go_simp
    with_reducible rfl
  rotate_left
  · simp only [Act.put, List.setIfInBounds_toArray, List.set_cons_zero, List.set_cons_succ, i64_w, i32_w]
    rfl
  refine take_ (i := 9) (N := some 26) (v := ?_) (a' := ?_) #[true, true, true, true, true, true, false, true, false, true, false, false, false, false, false, false, false] rfl rfl (by kernel_rfl) (fun _ _ _ h => h) (Or.inl ⟨by rfl, ?_⟩) hHeld ?_ ?_
  rotate_left
  · rintro w' ⟨hq0, hq1, hq2, hq3, hq4, _⟩
    go_simp
    with_reducible rfl
  rotate_left
  · simp only [Act.put, List.setIfInBounds_toArray, List.set_cons_zero, List.set_cons_succ, i64_w, i32_w]
    rfl
  refine pure_ (i := 12) (N := some 29) (v := ?_) (a' := ?_) #[true, true, true, true, true, true, false, true, false, true, false, false, true, false, false, false, false] rfl rfl (by kernel_rfl) (fun _ _ _ h => h) (Or.inl ⟨by rfl, ?_⟩) ?_ ?_
  rotate_left
  · intro w'
    go_simp
    with_reducible rfl
  rotate_left
  · simp only [Act.put, List.setIfInBounds_toArray, List.set_cons_zero, List.set_cons_succ, i64_w, i32_w]
    rfl
  refine one_ (i := 6) (N := some 23) #[true, true, true, true, true, true, true, true, false, true, false, false, true, false, false, false, false] rfl rfl (by kernel_rfl) (by decide) (fun K hK => ?_)
  refine Kd.R_make0_step (Kd.int .u8) (w0 := w) w.heap.size 5 (by rfl) (N := 23) rfl 35 _ _ rfl (wrap64 ((L.length : Int) + wrap64 ((W : Int) / 8))) rfl rfl Try.underlying35 (.int .u8 0) 1 info5 rfl (by decide) (ok := fun _ => True) (okp := fun _ => True) (fun _ hk => hk) trivial (by rw [HCAP.out]; exact Int.natCast_nonneg _) (by rw [HCAP.out, Int.toNat_natCast]; have := HLEN.out; have := HLB.out; have := HM.out; omega) (below_drew1 HB.out) (below_size (below_drew1 HB.out)) ?_
  intro v23 w6 ho6 hb6 hg_ hnew_
  have HO6 := Aside0.mk ho6
  have HB6 := Aside0.mk hb6
  have BK6 := Aside0.mk (blk_grown (blk_drew BKg.out) hg_ (by simp))
  refine hK.out _ _ (crc_SqR_mk BK6.out HB6.out) (fun hHeld6 => ?_)
  clear hK K hg_ hnew_ ho6 hb6 hHeld
  try simp only [Act.put, List.setIfInBounds_toArray, List.set_cons_zero, List.set_cons_succ]
  refine one_ (i := 8) (N := some 25) #[true, true, true, true, true, true, true, true, true, true, false, false, true, false, false, false, false] rfl rfl (by kernel_rfl) (by decide) (fun K hK => ?_)
  refine Kd.R_append_rows_at (Kd.int .u8) (w0 := w) w.heap.size (by rfl) (N := some 25) rfl (.tmp 23) (.tmp 24) 35 5 (.int .u8 0) 1 rfl Try.underlying35 info5 rfl (by decide) (by omega) v23 [] L A1 L.length c1 (fun _ => True) (fun _ => False) rfl rfl HO6.out (Kd.C_below HR1.out HB6.out) (fun _ _ h => h) (fun _ h => h.elim) (fun _ _ => trivial) HB6.out (below_size HB6.out) (by have := HLEN.out; have := HLB.out; simp only [List.length_nil]; omega) ?_
  intro v25 w8 ho8 hb8 hg8 hat8
  have HO8 := Aside0.mk ho8
  have HB8 := Aside0.mk hb8
  have BK8 := Aside0.mk (blk_grown BK6.out hg8 (Kd.R_ne HO6.out BK6.out (by decide)))
  refine hK.out _ _ (crc_SqR_mk BK8.out HB8.out) (fun hHeld8 => ?_)
  clear hK K hg8 hat8 ho8 hb8 hHeld6
  try simp only [Act.put, List.setIfInBounds_toArray, List.set_cons_zero, List.set_cons_succ]
  refine one_ (i := 10) (N := some 27) #[true, true, true, true, true, true, true, true, true, true, true, false, true, false, false, false, false] rfl rfl (by kernel_rfl) (by decide) (fun K hK => ?_)
  refine call_ 40 #[.agg #[.int .i64 (W : Int), .int .u32 (P : Int), .int .u32 (I : Int), .int .u32 (O : Int), .bool true]] (by rfl) rfl ?hrun ?_
  case hrun =>
    have he := enters_ Try.func40 (by kernel_rfl) rfl #[.agg #[.int .i64 (W : Int), .int .u32 (P : Int), .int .u32 (I : Int), .int .u32 (O : Int), .bool true]] w8
    unfold execOp
    simp [resolve, Deferred.ofValue, invoke, Act.eval, he]
  refine (crc_fit_refl W P I O _ (by have := HS.out.1; omega)).mono ?_
  rintro e w10 ⟨p, q, rfl, hh, hb10⟩
  simp only [crc_wv, if_true, if_false, Bool.false_eq_true]
  have HH := Aside0.mk hh
  have HB10 := Aside0.mk (below_step HB8.out hb10)
  have BK10 := Aside0.mk (blk_below BK8.out hb10)
  have HO10 := Aside0.mk (Kd.R_below HO8.out hb10)
  refine ⟨_, rfl, hK.out _ _ (crc_SqR_mk BK10.out HB10.out) (fun hHeld10 => ?_)⟩
  clear hK K hh hb10 hHeld8
  try simp only [Act.put, List.setIfInBounds_toArray, List.set_cons_zero, List.set_cons_succ]
  refine pure_ (i := 11) (N := some 28) (v := ?_) (a' := ?_) #[true, true, true, true, true, true, true, true, true, true, true, true, true, false, false, false, false] rfl rfl (by kernel_rfl) (fun _ _ _ h => h) (Or.inl ⟨by rfl, ?_⟩) ?_ ?_
  rotate_left
  · intro w'
    go_simp
    with_reducible rfl
  rotate_left
  · simp only [Act.put, List.setIfInBounds_toArray, List.set_cons_zero, List.set_cons_succ, i64_w, i32_w]
    rfl
  refine one_ (i := 13) (N := some 30) #[true, true, true, true, true, true, true, true, true, true, true, true, true, true, false, false, false] rfl rfl (by kernel_rfl) (by decide) (fun K hK => ?_)
  refine call_ 63 #[.int .u32 (x : Int), .pointer (some ⟨q, 0, none⟩)] (by rfl) rfl ?hrun ?_
  case hrun =>
    have he := enters_ Try.func63 (by kernel_rfl) rfl #[.int .u32 (x : Int), .pointer (some ⟨q, 0, none⟩)] w10
    unfold execOp
    simp [resolve, Deferred.ofValue, invoke, Act.eval, he]
  refine (crc_lay5_calls q (W / 8) x w10 HX32.out HM.out HH.out.2).mono ?_
  rintro e w13 ⟨v30, rfl, hr30, hb13⟩
  obtain ⟨Ao, co, eo⟩ := Kd.R_slice hr30
  subst eo
  have HR30 := Aside0.mk (Kd.R_reads' hr30).2.2
  have HB13 := Aside0.mk (below_step HB10.out hb13)
  have BK13 := Aside0.mk (blk_below BK10.out hb13)
  have HO13 := Aside0.mk (Kd.R_below HO10.out hb13)
  refine ⟨_, rfl, hK.out _ _ (crc_SqR_mk BK13.out HB13.out) (fun hHeld13 => ?_)⟩
  clear hK K hr30 hb13 hHeld10
  try simp only [Act.put, List.setIfInBounds_toArray, List.set_cons_zero, List.set_cons_succ]
  refine one_ (i := 14) (N := some 31) #[true, true, true, true, true, true, true, true, true, true, true, true, true, true, true, false, false] rfl rfl (by kernel_rfl) (by decide) (fun K hK => ?_)
  refine Kd.R_append_rows_at (Kd.int .u8) (w0 := w) w.heap.size (by rfl) (N := some 31) rfl (.tmp 25) (.tmp 30) 35 5 (.int .u8 0) 1 rfl Try.underlying35 info5 rfl (by decide) (by omega) v25 ([] ++ L) ((Crc.layl true (W / 8) x).map (fun n : Nat => (n : Int))) Ao _ co (fun _ => True) (fun _ => False) rfl rfl HO13.out HR30.out (fun _ _ h => h) (fun _ h => h.elim) (fun _ _ => trivial) HB13.out (below_size HB13.out) (by have := HLEN.out; have := HLB.out; have := HM.out; simp only [List.nil_append, List.length_map, Crc.layl_length]; omega) ?_
  intro v31 w14 ho14 hb14 hg14 hat14
  have HO14 := Aside0.mk ho14
  have HB14 := Aside0.mk hb14
  have BK14 := Aside0.mk (blk_grown BK13.out hg14 (Kd.R_ne HO13.out BK13.out (by decide)))
  refine hK.out _ _ (crc_SqR_mk BK14.out HB14.out) (fun hHeld14 => ?_)
  clear hK K hg14 hat14 ho14 hb14 hHeld13
  refine pure_ (i := 15) (N := some 4) (v := ?_) (a' := ?_) #[true, true, true, true, true, true, true, true, true, true, true, true, true, true, true, true, false] rfl rfl (by kernel_rfl) (fun _ _ _ h => h) (Or.inl ⟨by rfl, ?_⟩) ?_ ?_
  rotate_left
  · intro w'
    go_simp
    with_reducible rfl
  rotate_left
  · simp only [Act.put, List.setIfInBounds_toArray, List.set_cons_zero, List.set_cons_succ, i64_w, i32_w]
    rfl
  refine pure_ (i := 16) (N := some 5) (v := ?_) (a' := ?_) #[true, true, true, true, true, true, true, true, true, true, true, true, true, true, true, true, true] rfl rfl (by kernel_rfl) (fun _ _ _ h => h) (Or.inl ⟨by rfl, ?_⟩) ?_ ?_
  rotate_left
  · intro w'
    go_simp
    with_reducible rfl
  rotate_left
  · simp only [Act.put, List.setIfInBounds_toArray, List.set_cons_zero, List.set_cons_succ, i64_w, i32_w]
    rfl
  refine done_ (by kernel_rfl) ?_
  go_wp2
  go_ret2
  exact ⟨_, rfl, HO14.out, HB14.out⟩

set_option maxHeartbeats 8000000 in
set_option maxRecDepth 100000 in
theorem crc_Seal_bad (A1 : Option Addr) (n1 c1 : Nat) (W P I O : Int) (R : Bool) (w : World) (hs : Crc.okI W P I O = false) :
    Calls Try.prog 22 #[.agg #[.int .i64 W, .int .u32 P, .int .u32 I, .int .u32 O, .bool R], .slice A1 n1 c1] w fun e w' => ∃ v0_ : Value, e = .returned (.tuple #[v0_, .int .i64 30]) ∧ Kd.R (Kd.int .u8) 5 w' w.heap.size (fun _ => True) v0_ [] ∧ Below w.heap.size w w' := by
  have hu24 := Try.underlying24
  have HB := Aside0.mk (Below.refl w.heap.size w)
  have HS := Aside0.mk hs
  clear hs
  go_enter Try.func22, Try.ntmps22
  go_wp2_with (first | ((with_reducible refine gate_dst (N := 2) rfl ?_); refine box_event ?hg (N := 2) ?hd (cs := #[.int .i64 W, .int .u32 P, .int .u32 I, .int .u32 O, .bool R]) (t := 24) ?hr ?_; (case hd => rfl); (case hg => rfl); (case hr => first | (go_simp; done) | (go_simp; rfl)); intro g hg_ wg hbox_ hb_; have n0_ := Aside0.mk (below_step HB.out hb_); have n1_ := Aside0.mk hbox_; have n2_ := Aside0.mk ((by rw [hg_]; exact below_size HB.out) : w.heap.size ≤ g); clear HB; have HB := n0_; have BKg := n1_; have GEg := n2_; clear n0_ n1_ n2_; clear hb_ hbox_ hg_; have hcg_0 : wg.cell? ⟨g, 0, none⟩ = some (.int .i64 W) := (blk_cell BKg.out 0).trans rfl; have hfg_0 := blk_frozen BKg.out 0; have hcg_1 : wg.cell? ⟨g, 1, none⟩ = some (.int .u32 P) := (blk_cell BKg.out 1).trans rfl; have hfg_1 := blk_frozen BKg.out 1; have hcg_2 : wg.cell? ⟨g, 2, none⟩ = some (.int .u32 I) := (blk_cell BKg.out 2).trans rfl; have hfg_2 := blk_frozen BKg.out 2; have hcg_3 : wg.cell? ⟨g, 3, none⟩ = some (.int .u32 O) := (blk_cell BKg.out 3).trans rfl; have hfg_3 := blk_frozen BKg.out 3; have hcg_4 : wg.cell? ⟨g, 4, none⟩ = some (.bool R) := (blk_cell BKg.out 4).trans rfl; have hfg_4 := blk_frozen BKg.out 4) | (go_at_call 20; refine (crc_Sum_bad A1 n1 c1 W P I O R _ HS.out).mono ?_; rintro e w1 ⟨rfl, hb⟩; have n0_ := Aside0.mk (below_step HB.out hb); clear HB; have HB := n0_; clear n0_; clear hb))
  go_ret2
  exact ⟨_, rfl, Kd.R_nil _ _ _ _ _, HB.out⟩
def crc_Seal.f (a0_0 a0_1 a0_2 a0_3 : Int) (a0_4 : Bool) (l1 : List Int) : Option (List Int × Int) :=
  if Crc.okI a0_0 a0_1 a0_2 a0_3 then (if Crc.good a0_1 a0_2 a0_3 l1 ∧ l1.length + 8 < 140737488355328 then some (l1 ++ Crc.ints (Crc.layl a0_4 (a0_0.toNat / 8) (Crc.crc a0_4 a0_0.toNat a0_1.toNat a0_2.toNat a0_3.toNat (l1.map Int.toNat))), 0) else none) else some ([], 30)
theorem crc_Seal.calls (a0_0 a0_1 a0_2 a0_3 : Int) (a0_4 : Bool) (A1 : Option Addr) (c1 : Nat) (l1 : List Int) (r1 : List Int) (r2 : Int) (w : World) (hr1 : Kd.C (Kd.int .u8) w A1 l1.length l1) (hc1 : l1.length ≤ c1) (h : crc_Seal.f a0_0 a0_1 a0_2 a0_3 a0_4 l1 = some (r1, r2)) :
    Calls Try.prog 22 #[.agg #[.int .i64 a0_0, .int .u32 a0_1, .int .u32 a0_2, .int .u32 a0_3, .bool a0_4], .slice A1 l1.length c1] w fun e w' => ∃ v0_ : Value, e = .returned (.tuple #[v0_, .int .i64 r2]) ∧ Kd.R (Kd.int .u8) 5 w' w.heap.size (fun _ => True) v0_ r1 ∧ Below w.heap.size w w' := by
  unfold crc_Seal.f at h
  cases hk : Crc.okI a0_0 a0_1 a0_2 a0_3 with
  | false =>
    simp only [hk, Bool.false_eq_true, if_false, Option.some.injEq, Prod.mk.injEq] at h
    obtain ⟨rfl, rfl⟩ := h
    exact crc_Seal_bad A1 l1.length c1 a0_0 a0_1 a0_2 a0_3 a0_4 w hk
  | true =>
    rw [hk, if_pos rfl] at h
    by_cases hg : Crc.good a0_1 a0_2 a0_3 l1 ∧ l1.length + 8 < 140737488355328
    · rw [if_pos hg] at h
      simp only [Option.some.injEq, Prod.mk.injEq] at h
      obtain ⟨rfl, rfl⟩ := h
      obtain ⟨⟨g1, g2, g3, g4⟩, g5⟩ := hg
      obtain ⟨W, rfl⟩ : ∃ n : Nat, a0_0 = (n : Int) := ⟨a0_0.toNat, by have := Crc.okI_width hk; omega⟩
      obtain ⟨P, rfl⟩ : ∃ n : Nat, a0_1 = (n : Int) := ⟨a0_1.toNat, by omega⟩
      obtain ⟨I, rfl⟩ : ∃ n : Nat, a0_2 = (n : Int) := ⟨a0_2.toNat, by omega⟩
      obtain ⟨O, rfl⟩ : ∃ n : Nat, a0_3 = (n : Int) := ⟨a0_3.toNat, by omega⟩
      obtain ⟨B, rfl, hB⟩ := Crc.bytes_of g4
      have hn := (Crc.okI_nat W P I O).1 hk
      have e : (Crc.ints B).map Int.toNat = B := Crc.toNat_ints B
      rw [e]
      simp only [Int.toNat_natCast]
      rw [Crc.ints_length] at g5
      cases a0_4
      · exact crc_Seal_P A1 c1 W P I O B w hn hB g5 hr1
      · exact crc_Seal_R A1 c1 W P I O B w hn hB g5 hr1
    · rw [if_neg hg] at h
      exact absurd h (by simp)

end Go.Proofs.Ytejlmodoghglbaa.P
