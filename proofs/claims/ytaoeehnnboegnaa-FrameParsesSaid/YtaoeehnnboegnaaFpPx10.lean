-- written by mk.sh, a program of this session, over the kit's print
import Derived.Test.YtaoeehnnboegnaaFpPx0
import Derived.Test.YtaoeehnnboegnaaFpPx1
import Derived.Test.YtaoeehnnboegnaaFpPx9
namespace Go.Proofs.Ytaoeehnnboegnaa.P
open Go.RowKit Go.Proofs.YtaoeehnnboegnaaW.PrintWords Go.Proofs.YtaoeehnnboegnaaW.PrintLast Go.Proofs.YtaoeehnnboegnaaW.PrintMore
attribute [local go_sem] max2_int min2_int max_two min_two max_three min_three max_four min_four   -- for this text's walks alone
set_option linter.unusedVariables false
set_option linter.unusedSimpArgs false

/-! ### frame_told: function 36 -/
mutual
def frame_told.j0 : Nat → List Int → Int → Bool → Int → Int → Int → Int → Int → Bool → Int → Int → Int → Option (Int × Int × Int × List Int × Int)
 | 0, _, _, _, _, _, _, _, _, _, _, _, _ => none
 | k + 1, x1, x7, x33, x254000, x254001, x254002, x254003, x254004, x254005, x261000, x261001, x261002 => if x33 = true then (some (0, 0, 0, ([] : List Int), 241)) else (if x7 > x254000 then (some (0, 0, 0, ([] : List Int), 6)) else (if 10 ≤ (wrap64 (10 + x7)) then (if (wrap64 (10 + x7)) ≤ (x1.length : Int) then (if ([] : List Int).length + ((x1.take ((wrap64 (10 + x7)) : Int).toNat).drop 10).length < 140737488355328 then (if 0 ≤ (wrap64 (10 + x7)) then (frame_told.l0 k (x1.drop ((wrap64 (10 + x7)) : Int).toNat) ((x1.drop ((wrap64 (10 + x7)) : Int).toNat).length : Int) 0 x261000 x261001 x261002 (([] : List Int) ++ ((x1.take ((wrap64 (10 + x7)) : Int).toNat).drop 10))) else (none)) else (none)) else (none)) else (none)))
def frame_told.l0 : Nat → List Int → Int → Int → Int → Int → Int → List Int → Option (Int × Int × Int × List Int × Int)
 | 0, _, _, _, _, _, _, _ => none
 | k + 1, x49, x50, x51, x261000, x261001, x261002, x261003 => if x51 < x50 then (if 0 ≤ x51 then (if x51 < (x49.length : Int) then (if (rd x49 x51) = 0 then (frame_told.l0 k x49 x50 (wrap64 (x51 + 1)) x261000 x261001 x261002 x261003) else (some (0, 0, 0, ([] : List Int), 240))) else (none)) else (none)) else ((frame_kinded.f x261000 x261001 x261002 x261003).bind fun t268 => (if t268 = 0 then (some (x261000, x261001, x261002, x261003, 0)) else (some (0, 0, 0, ([] : List Int), t268))))
end
def frame_told.f (k : Nat) (a0_0 : Int) (a0_1 : Int) (a0_2 : Int) (a0_3 : Int) (a0_4 : Int) (a0_5 : Bool) (l1 : List Int) : Option (Int × Int × Int × List Int × Int) := if 0 < (l1.length : Int) then (if 1 ≤ (l1.length : Int) then ((frame_read.f (l1.drop 1)).bind fun t257 => (if 5 ≤ (l1.length : Int) then ((frame_read.f (l1.drop 5)).bind fun t259 => (if 9 < (l1.length : Int) then (if (wrap64 (rd l1 0)) = 1 then (frame_told.j0 k l1 (wrap64 (rd l1 9)) false a0_0 a0_1 a0_2 a0_3 a0_4 a0_5 (wrap64 (rd l1 0)) t257 t259) else (frame_told.j0 k l1 (wrap64 (rd l1 9)) ((wrap64 (rd l1 0)) != 2) a0_0 a0_1 a0_2 a0_3 a0_4 a0_5 (wrap64 (rd l1 0)) t257 t259)) else (none))) else (none))) else (none)) else (none)
theorem frame_told.mono_l : ∀ k, (∀ y0 y1 y2 y3 y4 y5 y6 y7 y8 y9 y10 y11, LeO (frame_told.j0 k y0 y1 y2 y3 y4 y5 y6 y7 y8 y9 y10 y11) (frame_told.j0 (k + 1) y0 y1 y2 y3 y4 y5 y6 y7 y8 y9 y10 y11)) ∧ (∀ y0 y1 y2 y3 y4 y5 y6, LeO (frame_told.l0 k y0 y1 y2 y3 y4 y5 y6) (frame_told.l0 (k + 1) y0 y1 y2 y3 y4 y5 y6))
 | 0 => ⟨fun _ _ _ _ _ _ _ _ _ _ _ _ r h => by simp [frame_told.j0] at h, fun _ _ _ _ _ _ _ r h => by simp [frame_told.l0] at h⟩
 | k + 1 => by
  obtain ⟨ih0, ih1⟩ := frame_told.mono_l k
  refine ⟨?_, ?_⟩
  ·intro y0 y1 y2 y3 y4 y5 y6 y7 y8 y9 y10 y11
   unfold frame_told.j0
   repeat' first
   | (with_reducible exact ih0 _ _ _ _ _ _ _ _ _ _ _ _)
   | (with_reducible exact ih1 _ _ _ _ _ _ _)
   | (with_reducible exact LeO.refl _)
   | (with_reducible exact LeO.none _)
   | (with_reducible refine LeO.ite ?_ ?_)
   | (with_reducible refine LeO.bind ?_ (fun _ => ?_))
   | exact ih0 _ _ _ _ _ _ _ _ _ _ _ _
   | exact ih1 _ _ _ _ _ _ _
   | exact LeO.none _
   | refine LeO.ite ?_ ?_
   | refine LeO.bind ?_ (fun _ => ?_)
  ·intro y0 y1 y2 y3 y4 y5 y6
   unfold frame_told.l0
   repeat' first
   | (with_reducible exact ih0 _ _ _ _ _ _ _ _ _ _ _ _)
   | (with_reducible exact ih1 _ _ _ _ _ _ _)
   | (with_reducible exact LeO.refl _)
   | (with_reducible exact LeO.none _)
   | (with_reducible refine LeO.ite ?_ ?_)
   | (with_reducible refine LeO.bind ?_ (fun _ => ?_))
   | exact ih0 _ _ _ _ _ _ _ _ _ _ _ _
   | exact ih1 _ _ _ _ _ _ _
   | exact LeO.none _
   | refine LeO.ite ?_ ?_
   | refine LeO.bind ?_ (fun _ => ?_)
theorem frame_told.mono : ∀ a0 a1 a2 a3 a4 a5 a6 k, LeO (frame_told.f k a0 a1 a2 a3 a4 a5 a6) (frame_told.f (k + 1) a0 a1 a2 a3 a4 a5 a6) := by
 intro a0 a1 a2 a3 a4 a5 a6 k
 obtain ⟨ih0, ih1⟩ := frame_told.mono_l k
 unfold frame_told.f
 repeat' first
   | (with_reducible exact ih0 _ _ _ _ _ _ _ _ _ _ _ _)
   | (with_reducible exact ih1 _ _ _ _ _ _ _)
   | (with_reducible exact LeO.refl _)
   | (with_reducible exact LeO.none _)
   | (with_reducible refine LeO.ite ?_ ?_)
   | (with_reducible refine LeO.bind ?_ (fun _ => ?_))
   | exact ih0 _ _ _ _ _ _ _ _ _ _ _ _
   | exact ih1 _ _ _ _ _ _ _
   | exact LeO.none _
   | refine LeO.ite ?_ ?_
   | refine LeO.bind ?_ (fun _ => ?_)
def frame_told.T1 : Bool × List (List Nat × List Nat) := (true, [([], []), ([0], [0]), ([1], [1]), ([2], [2]), ([], []), ([4], [4]), ([5], [5]), ([], []), ([7], [7]), ([8, 6], [8]), ([3, 6, 9], [3, 6, 9]), ([], []), ([11, 10, 9, 0, 1, 2, 3, 4, 5, 6, 7, 8, 9, 10, 11], [10, 11])])
def frame_told.B1 : List Nat := [0, 1, 3, 7, 0, 16, 48, 0, 128, 496, 1023, 0, 4095]
theorem frame_told.tab1 : rtab .any (opsOf Try.f36 1) = frame_told.T1 := by kernel_rfl
theorem frame_told.bits1 : waitsOk frame_told.T1.2 frame_told.B1 = true := by kernel_rfl
set_option maxHeartbeats 8000000 in
set_option maxRecDepth 100000 in
theorem frame_told.calls (k : Nat) (a0_0 : Int) (a0_1 : Int) (a0_2 : Int) (a0_3 : Int) (a0_4 : Int) (a0_5 : Bool) (A1 : Option Addr) (c1 : Nat) (l1 : List Int) (r1 : Int) (r2 : Int) (r3 : Int) (r4 : List Int) (r5 : Int) (w : World) (hr1 : Kd.C (Kd.int .u8) w A1 l1.length l1) (hc1 : l1.length ≤ c1) (h : frame_told.f k a0_0 a0_1 a0_2 a0_3 a0_4 a0_5 l1 = some (r1, r2, r3, r4, r5)) :
  Calls Try.prog 36 #[.agg #[.int .i64 a0_0, .int .i64 a0_1, .int .u32 a0_2, .int .u32 a0_3, .int .u32 a0_4, .bool a0_5], .slice A1 l1.length c1] w fun e w' => ∃ v3_ : Value, e = .returned (.tuple #[.agg #[.int .i64 r1, .int .u32 r2, .int .u32 r3, v3_], .int .i64 r5]) ∧ Kd.R (Kd.int .u8) 5 w' w.heap.size (fun _ => True) v3_ r4 ∧ Below w.heap.size w w' := by
 have hu26 := Try.underlying26
 have hu29 := Try.underlying29
 have HR1 := Aside0.mk hr1
 have HC1 := Aside0.mk hc1
 clear hr1 hc1
 have HB := aK (Below.refl w.heap.size w)
 have H : (if 0 < (l1.length : Int) then (if 1 ≤ (l1.length : Int) then ((frame_read.f (l1.drop 1)).bind fun t257 => (if 5 ≤ (l1.length : Int) then ((frame_read.f (l1.drop 5)).bind fun t259 => (if 9 < (l1.length : Int) then (if (wrap64 (rd l1 0)) = 1 then (frame_told.j0 k l1 (wrap64 (rd l1 9)) false a0_0 a0_1 a0_2 a0_3 a0_4 a0_5 (wrap64 (rd l1 0)) t257 t259) else (frame_told.j0 k l1 (wrap64 (rd l1 9)) ((wrap64 (rd l1 0)) != 2) a0_0 a0_1 a0_2 a0_3 a0_4 a0_5 (wrap64 (rd l1 0)) t257 t259)) else (none))) else (none))) else (none)) else (none)) = some (r1, r2, r3, r4, r5) := h
 clear h
 by_cases c3 : 0 < (l1.length : Int)
 ·rw [if_pos c3] at H
  have c3b0 : decide (0 < (l1.length : Int)) = true := decide_eq_true c3
  have c3b1 : decide (0 < l1.length) = true := decide_eq_true (by omega)
  clear c3
  by_cases c4 : 1 ≤ (l1.length : Int)
  ·rw [if_pos c4] at H
   have c4b0 := eq_true c4
   have c4b1 : decide (1 ≤ (l1.length : Int)) = true := decide_eq_true c4
   clear c4
   replace H := Option.bind_eq_some_iff.mp H
   obtain ⟨t257, A50, H⟩ := H
   replace H : (if 5 ≤ (l1.length : Int) then ((frame_read.f (l1.drop 5)).bind fun t259 => (if 9 < (l1.length : Int) then (if (wrap64 (rd l1 0)) = 1 then (frame_told.j0 k l1 (wrap64 (rd l1 9)) false a0_0 a0_1 a0_2 a0_3 a0_4 a0_5 (wrap64 (rd l1 0)) t257 t259) else (frame_told.j0 k l1 (wrap64 (rd l1 9)) ((wrap64 (rd l1 0)) != 2) a0_0 a0_1 a0_2 a0_3 a0_4 a0_5 (wrap64 (rd l1 0)) t257 t259)) else (none))) else (none)) = some (r1, r2, r3, r4, r5) := H
   have A5 := Aside0.mk A50
   clear A50
   by_cases c6 : 5 ≤ (l1.length : Int)
   ·rw [if_pos c6] at H
    have c6b0 := eq_true c6
    have c6b1 : decide (5 ≤ (l1.length : Int)) = true := decide_eq_true c6
    clear c6
    replace H := Option.bind_eq_some_iff.mp H
    obtain ⟨t259, A70, H⟩ := H
    replace H : (if 9 < (l1.length : Int) then (if (wrap64 (rd l1 0)) = 1 then (frame_told.j0 k l1 (wrap64 (rd l1 9)) false a0_0 a0_1 a0_2 a0_3 a0_4 a0_5 (wrap64 (rd l1 0)) t257 t259) else (frame_told.j0 k l1 (wrap64 (rd l1 9)) ((wrap64 (rd l1 0)) != 2) a0_0 a0_1 a0_2 a0_3 a0_4 a0_5 (wrap64 (rd l1 0)) t257 t259)) else (none)) = some (r1, r2, r3, r4, r5) := H
    have A7 := Aside0.mk A70
    clear A70
    by_cases c8 : 9 < (l1.length : Int)
    ·rw [if_pos c8] at H
     have c8b0 : decide (9 < (l1.length : Int)) = true := decide_eq_true c8
     have c8b1 : decide (9 < l1.length) = true := decide_eq_true (by omega)
     clear c8
     have HC9 := Aside0.mk H
     clear H
     go_enter Try.func36, Try.ntmps36
     try go_wp2_with (first | ((with_reducible refine gate_dst (N := 2) rfl ?_); refine box_event ?hg (N := 2) ?hd (cs := #[.int .i64 a0_0, .int .i64 a0_1, .int .u32 a0_2, .int .u32 a0_3, .int .u32 a0_4, .bool a0_5]) (t := 26) ?hr ?_; (case hd => rfl); (case hg => rfl); (case hr => first | (go_simp; done) | (go_simp; rfl)); intro gb253 hg w10 hbox hb; have n0_ := aK (below_step (mvh HB.out) hb); have n1_ := aK (hbox); have n2_ := aK ((by rw [hg]; exact (below_size (mvh HB.out)) : w.heap.size ≤ gb253)); have n3_ := aK ((by rw [hg]; exact (below_size (mvh HB.out)) : w.heap.size ≤ gb253)); clear HB; have HB := n0_; have BK253 := n1_; have GW253 := n2_; have GE253 := n3_; clear n0_ n1_ n2_ n3_; clear hb hbox hg) | ((with_reducible refine gate_dst (N := 4) rfl ?_); refine box_event ?hg (N := 4) ?hd (cs := #[.int .i64 0, .int .u32 0, .int .u32 0, .slice none 0 0]) (t := 29) ?hr ?_; (case hd => rfl); (case hg => rfl); (case hr => first | (go_simp; done) | (go_simp; rfl)); intro gb254 hg w11 hbox hb; have n0_ := aK (kb BK253.out hb); have n1_ := aK (below_step (by repeat (first | (with_reducible first | exact HB.out | apply hA | apply hN | apply hD | refine below_set ?_ GE253.out) | exact HB.out)) hb); have n2_ := aK (hbox); have n3_ := aK ((by rw [hg]; exact (below_size (by repeat (first | (with_reducible first | exact HB.out | apply hA | apply hN | apply hD | refine below_set ?_ GE253.out) | exact HB.out))) : w.heap.size ≤ gb254)); have n4_ := aK ((by rw [hg]; exact (below_size (by repeat (first | (with_reducible first | exact HB.out | apply hA | apply hN | apply hD | refine below_set ?_ GE253.out) | exact HB.out))) : w.heap.size ≤ gb254)); have n5_ := aK ((by rw [hg]; exact Nat.ne_of_lt (kl BK253.out) : gb253 ≠ gb254)); have n6_ := aK ((by rw [hg]; exact Nat.ne_of_gt (kl BK253.out) : gb254 ≠ gb253)); clear BK253 HB; have BK253 := n0_; have HB := n1_; have BK254 := n2_; have GW254 := n3_; have GE254 := n4_; have NB253_254 := n5_; have NB254_253 := n6_; clear n0_ n1_ n2_ n3_ n4_ n5_ n6_; clear hb hbox hg))
     have n0_ := aK (blk_drew BK253.out)
     have n1_ := aK (blk_drew BK254.out)
     have n2_ := aK (below_drew1 HB.out)
     clear BK253 BK254 HB
     have BK253 := n0_
     have BK254 := n1_
     have HB := n2_
     clear n0_ n1_ n2_
     have p255 : 0 ≤ (0 : Int) := (by omega)
     have q255 : 0 < (l1.length : Int) := of_decide_eq_true (by first | (with_reducible assumption) | assumption)
     obtain ⟨ad255, e255, hx255_0⟩ := Kd.at_int HR1.out 0 p255 q255
     have hw255_0 := hx255_0
     (try rw [show ((0 : Int)).toNat = 0 from rfl] at hw255_0)
     (try rw [show 0 * 1 = 0 from rfl] at hw255_0)
     (try rw [Addr.add_zero'] at hw255_0)
     cases e255
     have qi255 : (0 < l1.length) = True := eq_true (by omega)
     (try rw [show ((0 : Int)).toNat = 0 from rfl] at hx255_0)
     (try rw [Addr.add_zero'] at hx255_0)
     replace hx255_0 := (HB.out.cell (World.block_lt_of_cell? w _ hx255_0)).trans hx255_0
     replace p255 := eq_true p255
     replace q255 := eq_true q255
     obtain ⟨i013, hi013, _, hsz13, _⟩ := info_parts info5
     obtain ⟨A13, hcut13, hA13, hC13⟩ := print_drop_of (P := Try.prog) (Value.int .u8) 0 27 5 .i64 Try.underlying27 hi013 hsz13 (some ad255) c1 l1 1 (by omega) (of_decide_eq_true (by first | (with_reducible assumption) | assumption)) HC1.out
     have HR256 := aK (Kd.C_of_reads (h1 := fun _ => rfl) (hA13 _ (Kd.reads_of_C HR1.out)))
     have HC256 := Aside0.mk hC13
     clear hA13 hC13 hi013 hsz13
     obtain ⟨i014, hi014, _, hsz14, _⟩ := info_parts info5
     obtain ⟨A14, hcut14, hA14, hC14⟩ := print_drop_of (P := Try.prog) (Value.int .u8) 0 27 5 .i64 Try.underlying27 hi014 hsz14 (some ad255) c1 l1 5 (by omega) (of_decide_eq_true (by first | (with_reducible assumption) | assumption)) HC1.out
     have HR258 := aK (Kd.C_of_reads (h1 := fun _ => rfl) (hA14 _ (Kd.reads_of_C HR1.out)))
     have HC258 := Aside0.mk hC14
     clear hA14 hC14 hi014 hsz14
     refine start_ (n := 13) (S := fun w' => w'.cell? ad255 = some (.int .u8 (rd l1 0))) (ds := []) #[false, false, false, false, false, false, false, false, false, false, false, false, false] (by kernel_rfl) rfl rfl (((HB.out.cell (World.block_lt_of_cell? w _ hw255_0)).trans hw255_0)) (fun hHeld => ?_); refine with_tabW frame_told.tab1 frame_told.bits1 (fun HT_ HW_ => ?_)
     generalize w11.drew = w12 at BK253 BK254 HB HR256 HR258 hx255_0 hHeld ⊢
     refine pure_ (i := 0) (N := some 11) (v := ?_) (a' := ?_) #[true, false, false, false, false, false, false, false, false, false, false, false, false] rfl rfl (any_of HT_.out (by kernel_rfl)) (fun _ _ _ h => h) (Or.inl ⟨by rfl, ?_⟩) ?_ ?_
     rotate_left
     ·intro w'
      go_simp
      with_reducible rfl
     rotate_left
     ·simp only [Act.put, List.setIfInBounds_toArray, List.set_cons_zero, List.set_cons_succ, i64_w, i32_w]
      rfl
     refine pure_ (i := 1) (N := some 12) (v := ?_) (a' := ?_) #[true, true, false, false, false, false, false, false, false, false, false, false, false] rfl rfl (any_of HT_.out (by kernel_rfl)) (fun _ _ _ h => h) (Or.inl ⟨by rfl, ?_⟩) ?_ ?_
     rotate_left
     ·intro w'
      go_simp
      with_reducible rfl
     rotate_left
     ·simp only [Act.put, List.setIfInBounds_toArray, List.set_cons_zero, List.set_cons_succ, i64_w, i32_w]
      rfl
     refine pure_ (i := 4) (N := some 15) (v := ?_) (a' := ?_) #[true, true, false, false, true, false, false, false, false, false, false, false, false] rfl rfl (any_of HT_.out (by kernel_rfl)) (fun _ _ _ h => h) (Or.inl ⟨by rfl, ?_⟩) ?_ ?_
     rotate_left
     ·intro w'
      go_simp
      with_reducible rfl
     rotate_left
     ·simp only [Act.put, List.setIfInBounds_toArray, List.set_cons_zero, List.set_cons_succ, i64_w, i32_w]
      rfl
     refine pure_ (i := 5) (N := some 16) (v := ?_) (a' := ?_) #[true, true, false, false, true, true, false, false, false, false, false, false, false] rfl rfl (any_of HT_.out (by kernel_rfl)) (fun _ _ _ h => h) (Or.inl ⟨by rfl, ?_⟩) ?_ ?_
     rotate_left
     ·intro w'
      go_simp
      with_reducible rfl
     rotate_left
     ·simp only [Act.put, List.setIfInBounds_toArray, List.set_cons_zero, List.set_cons_succ, i64_w, i32_w]
      rfl
     refine pure_ (i := 7) (N := some 18) (v := ?_) (a' := ?_) #[true, true, false, false, true, true, false, true, false, false, false, false, false] rfl rfl (any_of HT_.out (by kernel_rfl)) (fun _ _ _ h => h) (Or.inl ⟨by rfl, ?_⟩) ?_ ?_
     rotate_left
     ·intro w'
      go_simp
      with_reducible rfl
     rotate_left
     ·simp only [Act.put, List.setIfInBounds_toArray, List.set_cons_zero, List.set_cons_succ, i64_w, i32_w]
      rfl
     refine pure_ (i := 8) (N := some 19) (v := ?_) (a' := ?_) #[true, true, false, false, true, true, false, true, true, false, false, false, false] rfl rfl (any_of HT_.out (by kernel_rfl)) (fun _ _ _ h => h) (Or.inl ⟨by rfl, ?_⟩) ?_ ?_
     rotate_left
     ·intro w'
      go_simp
      with_reducible rfl
     rotate_left
     ·simp only [Act.put, List.setIfInBounds_toArray, List.set_cons_zero, List.set_cons_succ, i64_w, i32_w]
      rfl
     refine take_ (i := 2) (N := some 13) (v := ?_) (a' := ?_) #[true, true, true, false, true, true, false, true, true, false, false, false, false] rfl rfl (take_ofW HT_.out HW_.out (by kernel_rfl)) (fun _ _ _ h => h) (Or.inl ⟨by rfl, ?_⟩) hHeld ?_ ?_
     rotate_left
     ·intro w' s0
      go_simp
      with_reducible rfl
     rotate_left
     ·simp only [Act.put, List.setIfInBounds_toArray, List.set_cons_zero, List.set_cons_succ, i64_w, i32_w]
      rfl
     refine pure_ (i := 3) (N := some 14) (v := ?_) (a' := ?_) #[true, true, true, true, true, true, false, true, true, false, false, false, false] rfl rfl (any_of HT_.out (by kernel_rfl)) (fun _ _ _ h => h) (Or.inl ⟨by rfl, ?_⟩) ?_ ?_
     rotate_left
     ·intro w'
      go_simp
      with_reducible rfl
     rotate_left
     ·simp only [Act.put, List.setIfInBounds_toArray, List.set_cons_zero, List.set_cons_succ, i64_w, i32_w]
      rfl
     refine join_ (σ := Nat) 1 #[true, true, true, true, true, true, true, true, true, true, true, true, false] (fun s_ => [(17, .int .u32 t257), (20, .int .u32 t259), (6, .pointer (some ⟨s_, 0, none⟩)), (21, .agg #[.int .i64 (wrap64 (rd l1 0)), .int .u32 t257, .int .u32 t259, .slice none 0 0])]) (fun s_ w' => (w'.cell? ad255 = some (.int .u8 (rd l1 0))) ∧ (w'.heap[gb253]? = some (.cells #[.int .i64 a0_0, .int .i64 a0_1, .int .u32 a0_2, .int .u32 a0_3, .int .u32 a0_4, .bool a0_5] 26 (0, 0))) ∧ (w'.heap[gb254]? = some (.cells #[.int .i64 0, .int .u32 0, .int .u32 0, .slice none 0 0] 29 (0, 0))) ∧ (w'.heap[s_]? = some (.cells #[.int .i64 0, .int .u32 0, .int .u32 0, .slice none 0 0] 29 (0, 0))) ∧ (w.heap.size ≤ s_) ∧ (w.heap.size ≤ s_) ∧ (gb253 ≠ s_) ∧ (s_ ≠ gb253) ∧ (gb254 ≠ s_) ∧ (s_ ≠ gb254) ∧ (Below w.heap.size w w')) ?_ ?_
     rotate_left
     ·intro hCont
      refine two_ (i := 6) (j := 11) (Ni := some 17) (Nj := some 6) #[true, true, true, true, true, true, true, true, true, false, false, false, false] #[true, true, true, true, true, true, false, true, true, false, false, true, false] rfl rfl rfl rfl (two_of HT_.out (by kernel_rfl)) (by decide) (by decide) (fun K hK => ?_) (fun K hK => ?_)
      ·skip
       refine goes_ Try.func47 (by kernel_rfl) rfl #[.slice A13 (l1.drop 1).length (c1 - 1)] (by rfl) rfl rfl (by (try simp only [List.map_toArray, List.map_cons, List.map_nil]); first | done | (rw [show (l1.drop 1).length = (l1.length - 1) from List.length_drop] <;> rfl) | rfl | (simp only [List.length_drop, List.length_take]; rfl) | (simp [Act.eval, IntKind.wrap_u8, IntKind.wrap_u32]; done)) ?_
       with_reducible refine (frame_read.calls _ _ (l1.drop 1) t257 _ ?side1 ?side2 A5.out).mono ?_
       (case side1 => repeat (first | exact (Kd.C_below HR256.out HB.out) | (with_reducible refine Kd.C_alloc ?_ _) | (with_reducible refine Kd.C_drewN ?_ _) | (with_reducible refine Kd.C_drew ?_)))
       (case side2 => exact HC256.out)
       rintro e w' ⟨rfl, ⟨nd, rfl⟩⟩
       refine ⟨_, rfl, ?_⟩
       refine hK.out _ _ (((HB.out.cell (World.block_lt_of_cell? w _ hw255_0)).trans hw255_0)) (fun hHeld => ?_)
       clear hK K
       refine norm_ (a' := ?_) ?_ ?_
       rotate_left
       ·show Act.put _ (some 17) _ = _
        simp only [Act.put, List.setIfInBounds_toArray, List.set_cons_zero, List.set_cons_succ, i64_w, i32_w]
        rfl
       refine two_ (i := 9) (j := 11) (Ni := some 20) (Nj := some 6) #[true, true, true, true, true, true, true, true, true, true, false, false, false] #[true, true, true, true, true, true, true, true, true, false, false, true, false] rfl rfl rfl rfl (two_of HT_.out (by kernel_rfl)) (by decide) (by decide) (fun K hK => ?_) (fun K hK => ?_)
       ·skip
        refine goes_ Try.func47 (by kernel_rfl) rfl #[.slice A14 (l1.drop 5).length (c1 - 5)] (by rfl) rfl rfl (by (try simp only [List.map_toArray, List.map_cons, List.map_nil]); first | done | (rw [show (l1.drop 5).length = (l1.length - 5) from List.length_drop] <;> rfl) | rfl | (simp only [List.length_drop, List.length_take]; rfl) | (simp [Act.eval, IntKind.wrap_u8, IntKind.wrap_u32]; done)) ?_
        with_reducible refine (frame_read.calls _ _ (l1.drop 5) t259 _ ?side1 ?side2 A7.out).mono ?_
        (case side1 => repeat (first | exact (Kd.C_below HR258.out (by repeat (first | (with_reducible first | exact HB.out | apply hA | apply hN | apply hD | refine below_set ?_ GE253.out | refine below_set ?_ GE254.out) | exact HB.out))) | (with_reducible refine Kd.C_alloc ?_ _) | (with_reducible refine Kd.C_drewN ?_ _) | (with_reducible refine Kd.C_drew ?_)))
        (case side2 => exact HC258.out)
        rintro e w' ⟨rfl, ⟨nd, rfl⟩⟩
        refine ⟨_, rfl, ?_⟩
        refine hK.out _ _ (((HB.out.cell (World.block_lt_of_cell? w _ hw255_0)).trans hw255_0)) (fun hHeld => ?_)
        clear hK K
        refine norm_ (a' := ?_) ?_ ?_
        rotate_left
        ·show Act.put _ (some 20) _ = _
         simp only [Act.put, List.setIfInBounds_toArray, List.set_cons_zero, List.set_cons_succ, i64_w, i32_w]
         rfl
        refine pure_ (i := 10) (N := some 21) (v := ?_) (a' := ?_) #[true, true, true, true, true, true, true, true, true, true, true, false, false] rfl rfl (any_of HT_.out (by kernel_rfl)) (fun _ _ _ h => h) (Or.inl ⟨by rfl, ?_⟩) ?_ ?_
        rotate_left
        ·intro w'
         go_simp
         with_reducible rfl
        rotate_left
        ·simp only [Act.put, List.setIfInBounds_toArray, List.set_cons_zero, List.set_cons_succ, i64_w, i32_w]
         rfl
        refine one_ (i := 11) (N := some 6) #[true, true, true, true, true, true, true, true, true, true, true, true, false] rfl rfl (one_of HT_.out (by kernel_rfl)) (by decide) (fun K hK => ?_)
        refine box_step ?hg (N := 6) ?hd (cs := #[.int .i64 0, .int .u32 0, .int .u32 0, .slice none 0 0]) (t := 29) ?hr ?_; (case hd => rfl); (case hg => rfl); (case hr => first | (go_simp; done) | (go_simp; rfl))
        intro gb260 hg w15 hbox hb
        have n0_ := aK (kb BK253.out hb)
        have n1_ := aK (kb BK254.out hb)
        have n2_ := aK (below_step (by repeat (first | (with_reducible first | exact HB.out | apply hA | apply hN | apply hD | refine below_set ?_ GE253.out | refine below_set ?_ GE254.out) | exact HB.out)) hb)
        have n3_ := aK (hbox)
        have n4_ := aK ((by rw [hg]; exact (below_size (by repeat (first | (with_reducible first | exact HB.out | apply hA | apply hN | apply hD | refine below_set ?_ GE253.out | refine below_set ?_ GE254.out) | exact HB.out))) : w.heap.size ≤ gb260))
        have n5_ := aK ((by rw [hg]; exact (below_size (by repeat (first | (with_reducible first | exact HB.out | apply hA | apply hN | apply hD | refine below_set ?_ GE253.out | refine below_set ?_ GE254.out) | exact HB.out))) : w.heap.size ≤ gb260))
        have n6_ := aK ((by rw [hg]; exact Nat.ne_of_lt (kl BK253.out) : gb253 ≠ gb260))
        have n7_ := aK ((by rw [hg]; exact Nat.ne_of_gt (kl BK253.out) : gb260 ≠ gb253))
        have n8_ := aK ((by rw [hg]; exact Nat.ne_of_lt (kl BK254.out) : gb254 ≠ gb260))
        have n9_ := aK ((by rw [hg]; exact Nat.ne_of_gt (kl BK254.out) : gb260 ≠ gb254))
        clear BK253 BK254 HB
        have BK253 := n0_
        have BK254 := n1_
        have HB := n2_
        have BK260 := n3_
        have GW260 := n4_
        have GE260 := n5_
        have NB253_260 := n6_
        have NB260_253 := n7_
        have NB254_260 := n8_
        have NB260_254 := n9_
        clear n0_ n1_ n2_ n3_ n4_ n5_ n6_ n7_ n8_ n9_ hb hbox hg
        refine hK.out _ _ (((HB.out.cell (World.block_lt_of_cell? w _ hw255_0)).trans hw255_0)) (fun hHeld => ?_)
        clear hK K
        refine norm_ (a' := ?_) ?_ ?_
        rotate_left
        ·show Act.put _ (some 6) _ = _
         simp only [Act.put, List.setIfInBounds_toArray, List.set_cons_zero, List.set_cons_succ, i64_w, i32_w]
         rfl
        exact norm_ (by simp only [putAll, Act.put, List.setIfInBounds_toArray, List.set_cons_zero, List.set_cons_succ]) (hCont (gb260) _ ⟨hHeld, (mvb BK253.out), (mvb BK254.out), (mvb BK260.out), GW260.out, GE260.out, NB253_260.out, NB260_253.out, NB254_260.out, NB260_254.out, (by repeat (first | (with_reducible first | exact HB.out | apply hA | apply hN | apply hD | refine below_set ?_ GE253.out | refine below_set ?_ GE254.out | refine below_set ?_ GE260.out) | exact HB.out))⟩)
       ·skip
        refine box_step ?hg (N := 6) ?hd (cs := #[.int .i64 0, .int .u32 0, .int .u32 0, .slice none 0 0]) (t := 29) ?hr ?_; (case hd => rfl); (case hg => rfl); (case hr => first | (go_simp; done) | (go_simp; rfl))
        intro gb260 hg w15 hbox hb
        have n0_ := aK (kb BK253.out hb)
        have n1_ := aK (kb BK254.out hb)
        have n2_ := aK (below_step (by repeat (first | (with_reducible first | exact HB.out | apply hA | apply hN | apply hD | refine below_set ?_ GE253.out | refine below_set ?_ GE254.out) | exact HB.out)) hb)
        have n3_ := aK (hbox)
        have n4_ := aK ((by rw [hg]; exact (below_size (by repeat (first | (with_reducible first | exact HB.out | apply hA | apply hN | apply hD | refine below_set ?_ GE253.out | refine below_set ?_ GE254.out) | exact HB.out))) : w.heap.size ≤ gb260))
        have n5_ := aK ((by rw [hg]; exact (below_size (by repeat (first | (with_reducible first | exact HB.out | apply hA | apply hN | apply hD | refine below_set ?_ GE253.out | refine below_set ?_ GE254.out) | exact HB.out))) : w.heap.size ≤ gb260))
        have n6_ := aK ((by rw [hg]; exact Nat.ne_of_lt (kl BK253.out) : gb253 ≠ gb260))
        have n7_ := aK ((by rw [hg]; exact Nat.ne_of_gt (kl BK253.out) : gb260 ≠ gb253))
        have n8_ := aK ((by rw [hg]; exact Nat.ne_of_lt (kl BK254.out) : gb254 ≠ gb260))
        have n9_ := aK ((by rw [hg]; exact Nat.ne_of_gt (kl BK254.out) : gb260 ≠ gb254))
        clear BK253 BK254 HB
        have BK253 := n0_
        have BK254 := n1_
        have HB := n2_
        have BK260 := n3_
        have GW260 := n4_
        have GE260 := n5_
        have NB253_260 := n6_
        have NB260_253 := n7_
        have NB254_260 := n8_
        have NB260_254 := n9_
        clear n0_ n1_ n2_ n3_ n4_ n5_ n6_ n7_ n8_ n9_ hb hbox hg
        refine hK.out _ _ (((HB.out.cell (World.block_lt_of_cell? w _ hw255_0)).trans hw255_0)) (fun hHeld => ?_)
        clear hK K
        refine norm_ (a' := ?_) ?_ ?_
        rotate_left
        ·show Act.put _ (some 6) _ = _
         simp only [Act.put, List.setIfInBounds_toArray, List.set_cons_zero, List.set_cons_succ, i64_w, i32_w]
         rfl
        refine one_ (i := 9) (N := some 20) #[true, true, true, true, true, true, true, true, true, true, false, true, false] rfl rfl (one_of HT_.out (by kernel_rfl)) (by decide) (fun K hK => ?_)
        refine goes_ Try.func47 (by kernel_rfl) rfl #[.slice A14 (l1.drop 5).length (c1 - 5)] (by rfl) rfl rfl (by (try simp only [List.map_toArray, List.map_cons, List.map_nil]); first | done | (rw [show (l1.drop 5).length = (l1.length - 5) from List.length_drop] <;> rfl) | rfl | (simp only [List.length_drop, List.length_take]; rfl) | (simp [Act.eval, IntKind.wrap_u8, IntKind.wrap_u32]; done)) ?_
        with_reducible refine (frame_read.calls _ _ (l1.drop 5) t259 _ ?side1 ?side2 A7.out).mono ?_
        (case side1 => repeat (first | exact (Kd.C_below HR258.out HB.out) | (with_reducible refine Kd.C_alloc ?_ _) | (with_reducible refine Kd.C_drewN ?_ _) | (with_reducible refine Kd.C_drew ?_)))
        (case side2 => exact HC258.out)
        rintro e w' ⟨rfl, ⟨nd, rfl⟩⟩
        refine ⟨_, rfl, ?_⟩
        refine hK.out _ _ (((HB.out.cell (World.block_lt_of_cell? w _ hw255_0)).trans hw255_0)) (fun hHeld => ?_)
        clear hK K
        refine norm_ (a' := ?_) ?_ ?_
        rotate_left
        ·show Act.put _ (some 20) _ = _
         simp only [Act.put, List.setIfInBounds_toArray, List.set_cons_zero, List.set_cons_succ, i64_w, i32_w]
         rfl
        refine pure_ (i := 10) (N := some 21) (v := ?_) (a' := ?_) #[true, true, true, true, true, true, true, true, true, true, true, true, false] rfl rfl (any_of HT_.out (by kernel_rfl)) (fun _ _ _ h => h) (Or.inl ⟨by rfl, ?_⟩) ?_ ?_
        rotate_left
        ·intro w'
         go_simp
         with_reducible rfl
        rotate_left
        ·simp only [Act.put, List.setIfInBounds_toArray, List.set_cons_zero, List.set_cons_succ, i64_w, i32_w]
         rfl
        exact norm_ (by simp only [putAll, Act.put, List.setIfInBounds_toArray, List.set_cons_zero, List.set_cons_succ]) (hCont (gb260) _ ⟨hHeld, (mvb BK253.out), (mvb BK254.out), (mvb BK260.out), GW260.out, GE260.out, NB253_260.out, NB260_253.out, NB254_260.out, NB260_254.out, (by repeat (first | (with_reducible first | exact HB.out | apply hA | apply hN | apply hD | refine below_set ?_ GE253.out | refine below_set ?_ GE254.out | refine below_set ?_ GE260.out) | exact HB.out))⟩)
      ·skip
       refine box_step ?hg (N := 6) ?hd (cs := #[.int .i64 0, .int .u32 0, .int .u32 0, .slice none 0 0]) (t := 29) ?hr ?_; (case hd => rfl); (case hg => rfl); (case hr => first | (go_simp; done) | (go_simp; rfl))
       intro gb260 hg w15 hbox hb
       have n0_ := aK (kb BK253.out hb)
       have n1_ := aK (kb BK254.out hb)
       have n2_ := aK (below_step (by repeat (first | (with_reducible first | exact HB.out | apply hA | apply hN | apply hD | refine below_set ?_ GE253.out | refine below_set ?_ GE254.out) | exact HB.out)) hb)
       have n3_ := aK (hbox)
       have n4_ := aK ((by rw [hg]; exact (below_size (by repeat (first | (with_reducible first | exact HB.out | apply hA | apply hN | apply hD | refine below_set ?_ GE253.out | refine below_set ?_ GE254.out) | exact HB.out))) : w.heap.size ≤ gb260))
       have n5_ := aK ((by rw [hg]; exact (below_size (by repeat (first | (with_reducible first | exact HB.out | apply hA | apply hN | apply hD | refine below_set ?_ GE253.out | refine below_set ?_ GE254.out) | exact HB.out))) : w.heap.size ≤ gb260))
       have n6_ := aK ((by rw [hg]; exact Nat.ne_of_lt (kl BK253.out) : gb253 ≠ gb260))
       have n7_ := aK ((by rw [hg]; exact Nat.ne_of_gt (kl BK253.out) : gb260 ≠ gb253))
       have n8_ := aK ((by rw [hg]; exact Nat.ne_of_lt (kl BK254.out) : gb254 ≠ gb260))
       have n9_ := aK ((by rw [hg]; exact Nat.ne_of_gt (kl BK254.out) : gb260 ≠ gb254))
       clear BK253 BK254 HB
       have BK253 := n0_
       have BK254 := n1_
       have HB := n2_
       have BK260 := n3_
       have GW260 := n4_
       have GE260 := n5_
       have NB253_260 := n6_
       have NB260_253 := n7_
       have NB254_260 := n8_
       have NB260_254 := n9_
       clear n0_ n1_ n2_ n3_ n4_ n5_ n6_ n7_ n8_ n9_ hb hbox hg
       refine hK.out _ _ (((HB.out.cell (World.block_lt_of_cell? w _ hw255_0)).trans hw255_0)) (fun hHeld => ?_)
       clear hK K
       refine norm_ (a' := ?_) ?_ ?_
       rotate_left
       ·show Act.put _ (some 6) _ = _
        simp only [Act.put, List.setIfInBounds_toArray, List.set_cons_zero, List.set_cons_succ, i64_w, i32_w]
        rfl
       refine one_ (i := 6) (N := some 17) #[true, true, true, true, true, true, true, true, true, false, false, true, false] rfl rfl (one_of HT_.out (by kernel_rfl)) (by decide) (fun K hK => ?_)
       refine goes_ Try.func47 (by kernel_rfl) rfl #[.slice A13 (l1.drop 1).length (c1 - 1)] (by rfl) rfl rfl (by (try simp only [List.map_toArray, List.map_cons, List.map_nil]); first | done | (rw [show (l1.drop 1).length = (l1.length - 1) from List.length_drop] <;> rfl) | rfl | (simp only [List.length_drop, List.length_take]; rfl) | (simp [Act.eval, IntKind.wrap_u8, IntKind.wrap_u32]; done)) ?_
       with_reducible refine (frame_read.calls _ _ (l1.drop 1) t257 _ ?side1 ?side2 A5.out).mono ?_
       (case side1 => repeat (first | exact (Kd.C_below HR256.out HB.out) | (with_reducible refine Kd.C_alloc ?_ _) | (with_reducible refine Kd.C_drewN ?_ _) | (with_reducible refine Kd.C_drew ?_)))
       (case side2 => exact HC256.out)
       rintro e w' ⟨rfl, ⟨nd, rfl⟩⟩
       refine ⟨_, rfl, ?_⟩
       refine hK.out _ _ (((HB.out.cell (World.block_lt_of_cell? w _ hw255_0)).trans hw255_0)) (fun hHeld => ?_)
       clear hK K
       refine norm_ (a' := ?_) ?_ ?_
       rotate_left
       ·show Act.put _ (some 17) _ = _
        simp only [Act.put, List.setIfInBounds_toArray, List.set_cons_zero, List.set_cons_succ, i64_w, i32_w]
        rfl
       refine one_ (i := 9) (N := some 20) #[true, true, true, true, true, true, true, true, true, true, false, true, false] rfl rfl (one_of HT_.out (by kernel_rfl)) (by decide) (fun K hK => ?_)
       refine goes_ Try.func47 (by kernel_rfl) rfl #[.slice A14 (l1.drop 5).length (c1 - 5)] (by rfl) rfl rfl (by (try simp only [List.map_toArray, List.map_cons, List.map_nil]); first | done | (rw [show (l1.drop 5).length = (l1.length - 5) from List.length_drop] <;> rfl) | rfl | (simp only [List.length_drop, List.length_take]; rfl) | (simp [Act.eval, IntKind.wrap_u8, IntKind.wrap_u32]; done)) ?_
       with_reducible refine (frame_read.calls _ _ (l1.drop 5) t259 _ ?side1 ?side2 A7.out).mono ?_
       (case side1 => repeat (first | exact (Kd.C_below HR258.out (by repeat (first | (with_reducible first | exact HB.out | apply hA | apply hN | apply hD | refine below_set ?_ GE253.out | refine below_set ?_ GE254.out | refine below_set ?_ GE260.out) | exact HB.out))) | (with_reducible refine Kd.C_alloc ?_ _) | (with_reducible refine Kd.C_drewN ?_ _) | (with_reducible refine Kd.C_drew ?_)))
       (case side2 => exact HC258.out)
       rintro e w' ⟨rfl, ⟨nd, rfl⟩⟩
       refine ⟨_, rfl, ?_⟩
       refine hK.out _ _ (((HB.out.cell (World.block_lt_of_cell? w _ hw255_0)).trans hw255_0)) (fun hHeld => ?_)
       clear hK K
       refine norm_ (a' := ?_) ?_ ?_
       rotate_left
       ·show Act.put _ (some 20) _ = _
        simp only [Act.put, List.setIfInBounds_toArray, List.set_cons_zero, List.set_cons_succ, i64_w, i32_w]
        rfl
       refine pure_ (i := 10) (N := some 21) (v := ?_) (a' := ?_) #[true, true, true, true, true, true, true, true, true, true, true, true, false] rfl rfl (any_of HT_.out (by kernel_rfl)) (fun _ _ _ h => h) (Or.inl ⟨by rfl, ?_⟩) ?_ ?_
       rotate_left
       ·intro w'
        go_simp
        with_reducible rfl
       rotate_left
       ·simp only [Act.put, List.setIfInBounds_toArray, List.set_cons_zero, List.set_cons_succ, i64_w, i32_w]
        rfl
       exact norm_ (by simp only [putAll, Act.put, List.setIfInBounds_toArray, List.set_cons_zero, List.set_cons_succ]) (hCont (gb260) _ ⟨hHeld, (mvb BK253.out), (mvb BK254.out), (mvb BK260.out), GW260.out, GE260.out, NB253_260.out, NB260_253.out, NB254_260.out, NB260_254.out, (by repeat (first | (with_reducible first | exact HB.out | apply hA | apply hN | apply hD | refine below_set ?_ GE253.out | refine below_set ?_ GE254.out | refine below_set ?_ GE260.out) | exact HB.out))⟩)
     rintro gb260 w16 ⟨hS_, h0_, h1_, h2_, h3_, h4_, h5_, h6_, h7_, h8_, h9_⟩
     have n0_ : Aside0 (w16.heap[gb253]? = some (.cells #[.int .i64 a0_0, .int .i64 a0_1, .int .u32 a0_2, .int .u32 a0_3, .int .u32 a0_4, .bool a0_5] 26 (0, 0))) := ⟨h0_⟩
     have n1_ : Aside0 (w16.heap[gb254]? = some (.cells #[.int .i64 0, .int .u32 0, .int .u32 0, .slice none 0 0] 29 (0, 0))) := ⟨h1_⟩
     have n2_ : Aside0 (w16.heap[gb260]? = some (.cells #[.int .i64 0, .int .u32 0, .int .u32 0, .slice none 0 0] 29 (0, 0))) := ⟨h2_⟩
     have n3_ : Aside0 (w.heap.size ≤ gb260) := ⟨h3_⟩
     have n4_ : Aside0 (w.heap.size ≤ gb260) := ⟨h4_⟩
     have n5_ : Aside0 (gb253 ≠ gb260) := ⟨h5_⟩
     have n6_ : Aside0 (gb260 ≠ gb253) := ⟨h6_⟩
     have n7_ : Aside0 (gb254 ≠ gb260) := ⟨h7_⟩
     have n8_ : Aside0 (gb260 ≠ gb254) := ⟨h8_⟩
     have n9_ : Aside0 (Below w.heap.size w w16) := ⟨h9_⟩
     clear BK253 BK254 HB h0_ h1_ h2_ h3_ h4_ h5_ h6_ h7_ h8_ h9_
     have BK253 := n0_
     have BK254 := n1_
     have BK260 := n2_
     have GW260 := n3_
     have GE260 := n4_
     have NB253_260 := n5_
     have NB260_253 := n6_
     have NB254_260 := n7_
     have NB260_254 := n8_
     have HB := n9_
     clear n0_ n1_ n2_ n3_ n4_ n5_ n6_ n7_ n8_ n9_
     have hHeld : w16.cell? ad255 = some (.int .u8 (rd l1 0)) := hS_
     refine norm_ (a' := ?_) ?_ ?_
     rotate_left
     ·simp only [putAll, Act.put, List.setIfInBounds_toArray, List.set_cons_zero, List.set_cons_succ]
      rfl
     refine one_ (i := 12) (N := none) #[true, true, true, true, true, true, true, true, true, true, true, true, true] rfl rfl (one_of HT_.out (by kernel_rfl)) (by decide) (fun K hK => ?_)
     have hs17 : w16.cell? ⟨gb260, 0, none⟩ = some (.int .i64 0) := (blk_cell BK260.out 0).trans rfl
     have hfs17 := blk_frozen BK260.out 0
     have hns17_0 := NB253_260.out
     have hns17_1 := NB254_260.out
     have hms17_0 := NB260_253.out
     have hms17_1 := NB260_254.out
     have hs18 : w16.cell? ⟨gb260, 1, none⟩ = some (.int .u32 0) := (blk_cell BK260.out 1).trans rfl
     have hfs18 := blk_frozen BK260.out 1
     have hns18_0 := NB253_260.out
     have hns18_1 := NB254_260.out
     have hms18_0 := NB260_253.out
     have hms18_1 := NB260_254.out
     have hs19 : w16.cell? ⟨gb260, 2, none⟩ = some (.int .u32 0) := (blk_cell BK260.out 2).trans rfl
     have hfs19 := blk_frozen BK260.out 2
     have hns19_0 := NB253_260.out
     have hns19_1 := NB254_260.out
     have hms19_0 := NB260_253.out
     have hms19_1 := NB260_254.out
     have hs20 : w16.cell? ⟨gb260, 3, none⟩ = some (.slice none 0 0) := (blk_cell BK260.out 3).trans rfl
     have hfs20 := blk_frozen BK260.out 3
     have hns20_0 := NB253_260.out
     have hns20_1 := NB254_260.out
     have hms20_0 := NB260_253.out
     have hms20_1 := NB260_254.out
     refine skip_ (w1 := ?_) (by rfl) rfl ?_ ?_
     rotate_left
     ·go_simp
      rfl
     refine hK.out _ _ (((cell_far (p := ⟨gb260, _, none⟩) (by first | exact Nat.ne_of_lt (Nat.lt_of_lt_of_le (by have := World.block_lt_of_cell? _ _ hw255_0; first | rwa [add_block] at this | exact this) GW260.out) | (rw [add_block]; exact Nat.ne_of_lt (Nat.lt_of_lt_of_le (by have := World.block_lt_of_cell? _ _ hw255_0; first | rwa [add_block] at this | exact this) GW260.out)) | (show (Addr.add _ _).block ≠ _; rw [add_block]; exact Nat.ne_of_lt (Nat.lt_of_lt_of_le (by have := World.block_lt_of_cell? _ _ hw255_0; first | rwa [add_block] at this | exact this) GW260.out)) | (dsimp only; exact Nat.ne_of_lt (Nat.lt_of_lt_of_le (by have := World.block_lt_of_cell? _ _ hw255_0; first | rwa [add_block] at this | exact this) GW260.out))) _).trans (((cell_far (p := ⟨gb260, _, none⟩) (by first | exact Nat.ne_of_lt (Nat.lt_of_lt_of_le (by have := World.block_lt_of_cell? _ _ hw255_0; first | rwa [add_block] at this | exact this) GW260.out) | (rw [add_block]; exact Nat.ne_of_lt (Nat.lt_of_lt_of_le (by have := World.block_lt_of_cell? _ _ hw255_0; first | rwa [add_block] at this | exact this) GW260.out)) | (show (Addr.add _ _).block ≠ _; rw [add_block]; exact Nat.ne_of_lt (Nat.lt_of_lt_of_le (by have := World.block_lt_of_cell? _ _ hw255_0; first | rwa [add_block] at this | exact this) GW260.out)) | (dsimp only; exact Nat.ne_of_lt (Nat.lt_of_lt_of_le (by have := World.block_lt_of_cell? _ _ hw255_0; first | rwa [add_block] at this | exact this) GW260.out))) _).trans (((cell_far (p := ⟨gb260, _, none⟩) (by first | exact Nat.ne_of_lt (Nat.lt_of_lt_of_le (by have := World.block_lt_of_cell? _ _ hw255_0; first | rwa [add_block] at this | exact this) GW260.out) | (rw [add_block]; exact Nat.ne_of_lt (Nat.lt_of_lt_of_le (by have := World.block_lt_of_cell? _ _ hw255_0; first | rwa [add_block] at this | exact this) GW260.out)) | (show (Addr.add _ _).block ≠ _; rw [add_block]; exact Nat.ne_of_lt (Nat.lt_of_lt_of_le (by have := World.block_lt_of_cell? _ _ hw255_0; first | rwa [add_block] at this | exact this) GW260.out)) | (dsimp only; exact Nat.ne_of_lt (Nat.lt_of_lt_of_le (by have := World.block_lt_of_cell? _ _ hw255_0; first | rwa [add_block] at this | exact this) GW260.out))) _).trans (((cell_far (p := ⟨gb260, _, none⟩) (by first | exact Nat.ne_of_lt (Nat.lt_of_lt_of_le (by have := World.block_lt_of_cell? _ _ hw255_0; first | rwa [add_block] at this | exact this) GW260.out) | (rw [add_block]; exact Nat.ne_of_lt (Nat.lt_of_lt_of_le (by have := World.block_lt_of_cell? _ _ hw255_0; first | rwa [add_block] at this | exact this) GW260.out)) | (show (Addr.add _ _).block ≠ _; rw [add_block]; exact Nat.ne_of_lt (Nat.lt_of_lt_of_le (by have := World.block_lt_of_cell? _ _ hw255_0; first | rwa [add_block] at this | exact this) GW260.out)) | (dsimp only; exact Nat.ne_of_lt (Nat.lt_of_lt_of_le (by have := World.block_lt_of_cell? _ _ hw255_0; first | rwa [add_block] at this | exact this) GW260.out))) _).trans (hHeld))))))))) (fun hHeld => ?_)
     clear hK K
     refine done_ (done_of HT_.out (by kernel_rfl)) ?_
     have p261 : 0 ≤ (9 : Int) := (by omega)
     have q261 : 9 < (l1.length : Int) := of_decide_eq_true (by first | (with_reducible assumption) | assumption)
     obtain ⟨ad261, e261, hx261_0⟩ := Kd.at_int HR1.out 9 p261 q261
     obtain rfl : ad255 = ad261 := (by injection e261)
     (try simp only [show (9 : Int).toNat = 9 from rfl, Nat.reduceMul, Nat.reduceEqDiff, Go.Addr.add, ↓reduceIte] at hx261_0)
     have qi261 : (9 < l1.length) = True := eq_true (by omega)
     (try rw [show ((9 : Int)).toNat = 9 from rfl] at hx261_0)
     have hn261_0 : ad255.block ≠ gb260 := Nat.ne_of_lt (Nat.lt_of_lt_of_le (by have := World.block_lt_of_cell? _ _ hx261_0; first | rwa [add_block] at this | exact this) GW260.out)
     have hn261_1 : ad255.block ≠ gb260 := Nat.ne_of_lt (Nat.lt_of_lt_of_le (by have := World.block_lt_of_cell? _ _ hx261_0; first | rwa [add_block] at this | exact this) GW260.out)
     have hn261_2 : ad255.block ≠ gb260 := Nat.ne_of_lt (Nat.lt_of_lt_of_le (by have := World.block_lt_of_cell? _ _ hx261_0; first | rwa [add_block] at this | exact this) GW260.out)
     have hn261_3 : ad255.block ≠ gb260 := Nat.ne_of_lt (Nat.lt_of_lt_of_le (by have := World.block_lt_of_cell? _ _ hx261_0; first | rwa [add_block] at this | exact this) GW260.out)
     replace hx261_0 := (HB.out.cell (World.block_lt_of_cell? w _ hx261_0)).trans hx261_0
     replace hx261_0 := (cell_far (p := ⟨gb260, 0, none⟩) (by first | (rw [add_block]; exact hn261_0) | (show (Addr.add _ _).block ≠ _; rw [add_block]; exact hn261_0) | exact hn261_0) (.int .i64 (wrap64 (rd l1 0)))).trans hx261_0
     replace hx261_0 := (cell_far (p := ⟨gb260, 1, none⟩) (by first | (rw [add_block]; exact hn261_1) | (show (Addr.add _ _).block ≠ _; rw [add_block]; exact hn261_1) | exact hn261_1) (.int .u32 t257)).trans hx261_0
     replace hx261_0 := (cell_far (p := ⟨gb260, 2, none⟩) (by first | (rw [add_block]; exact hn261_2) | (show (Addr.add _ _).block ≠ _; rw [add_block]; exact hn261_2) | exact hn261_2) (.int .u32 t259)).trans hx261_0
     replace hx261_0 := (cell_far (p := ⟨gb260, 3, none⟩) (by first | (rw [add_block]; exact hn261_3) | (show (Addr.add _ _).block ≠ _; rw [add_block]; exact hn261_3) | exact hn261_3) (.slice none 0 0)).trans hx261_0
     clear hn261_0 hn261_1 hn261_2 hn261_3
     replace p261 := eq_true p261
     replace q261 := eq_true q261
     go_upto_region 3 with (fail)
     go_cut [33] (fun v33 wc => ∃ (kq : Nat) (x33_8 : Bool), v33 = .bool x33_8 ∧ Aside0 (frame_told.j0 kq l1 (wrap64 (rd l1 9)) x33_8 a0_0 a0_1 a0_2 a0_3 a0_4 a0_5 (wrap64 (rd l1 0)) t257 t259 = some (r1, r2, r3, r4, r5)) ∧ Aside0 (kq ≤ k) ∧ Aside0 (wc.heap[gb253]? = some (.cells #[.int .i64 a0_0, .int .i64 a0_1, .int .u32 a0_2, .int .u32 a0_3, .int .u32 a0_4, .bool a0_5] 26 (0, 0))) ∧ Aside0 (wc.heap[gb254]? = some (.cells #[.int .i64 0, .int .u32 0, .int .u32 0, (.slice none 0 0)] 29 (0, 0))) ∧ Aside0 (wc.heap[gb260]? = some (.cells #[.int .i64 (wrap64 (rd l1 0)), .int .u32 t257, .int .u32 t259, (.slice none 0 0)] 29 (0, 0))) ∧ Aside0 (Below w.heap.size w wc))
     case first =>
      have H := HC9.out
      clear HC9
      by_cases c21 : (wrap64 (rd l1 0)) = 1
      ·rw [if_pos c21] at H
       have c21b0 : ((wrap64 (rd l1 0)) == 1) = true := beq_iff_eq.mpr c21
       have c21b1 : ((wrap64 (rd l1 0)) != 1) = false := bne_eq_false_iff_eq.mpr c21
       clear c21
       (first | rw [c21b0] | (simp only [i64_w, i32_w]; rw [c21b0]) | rw [c21b1] | skip)
       have H' := Aside0.mk H
       clear H
       have hnb22 := NB260_253.out
       have hnc22 := NB253_260.out
       have hnb23 := NB260_254.out
       have hnc23 := NB254_260.out
       obtain ⟨hcz24_0, hcz24_1, hcz24_2, hcz24_3, hfz24_0, hfz24_1, hfz24_2, hfz24_3⟩ := cf4 BK260.out
       go_wp2
       go_meet
       case rel => exact ⟨_, (false), (by first | rfl | (simp; done) | (simp [*]; done) | (simp [wrap64]; done)), H', ⟨by first | omega | exact Nat.le_refl _⟩, ⟨by (with_reducible repeat (first | apply bN | apply bD | apply bA)); refine blk_far ?_ NB253_260.out _; (with_reducible repeat (first | apply bN | apply bD | apply bA)); refine blk_far ?_ NB253_260.out _; (with_reducible repeat (first | apply bN | apply bD | apply bA)); refine blk_far ?_ NB253_260.out _; (with_reducible repeat (first | apply bN | apply bD | apply bA)); refine blk_far ?_ NB253_260.out _; exact mvb BK253.out⟩, ⟨by (with_reducible repeat (first | apply bN | apply bD | apply bA)); refine blk_far ?_ NB254_260.out _; (with_reducible repeat (first | apply bN | apply bD | apply bA)); refine blk_far ?_ NB254_260.out _; (with_reducible repeat (first | apply bN | apply bD | apply bA)); refine blk_far ?_ NB254_260.out _; (with_reducible repeat (first | apply bN | apply bD | apply bA)); refine blk_far ?_ NB254_260.out _; exact mvb BK254.out⟩, ⟨by (with_reducible repeat (first | apply bN | apply bD | apply bA)); refine blk_put (cs := #[.int .i64 (wrap64 (rd l1 0)), .int .u32 t257, .int .u32 t259, .slice none 0 0]) ?_ 3 _ rfl; (with_reducible repeat (first | apply bN | apply bD | apply bA)); refine blk_put (cs := #[.int .i64 (wrap64 (rd l1 0)), .int .u32 t257, .int .u32 0, .slice none 0 0]) ?_ 2 _ rfl; (with_reducible repeat (first | apply bN | apply bD | apply bA)); refine blk_put (cs := #[.int .i64 (wrap64 (rd l1 0)), .int .u32 0, .int .u32 0, .slice none 0 0]) ?_ 1 _ rfl; (with_reducible repeat (first | apply bN | apply bD | apply bA)); refine blk_put (cs := #[.int .i64 0, .int .u32 0, .int .u32 0, .slice none 0 0]) ?_ 0 _ rfl; exact mvb BK260.out⟩, ⟨by repeat (first | (with_reducible first | exact HB.out | apply hA | apply hN | apply hD | refine below_set ?_ GE253.out | refine below_set ?_ GE254.out | refine below_set ?_ GE260.out) | exact HB.out)⟩⟩
      ·rw [if_neg c21] at H
       have c21b0 : ((wrap64 (rd l1 0)) == 1) = false := beq_eq_false_iff_ne.mpr c21
       have c21b1 : ((wrap64 (rd l1 0)) != 1) = true := bne_iff_ne.mpr c21
       clear c21
       (first | rw [c21b0] | (simp only [i64_w, i32_w]; rw [c21b0]) | rw [c21b1] | skip)
       have H' := Aside0.mk H
       clear H
       have hnb25 := NB260_253.out
       have hnc25 := NB253_260.out
       have hnb26 := NB260_254.out
       have hnc26 := NB254_260.out
       obtain ⟨hcz27_0, hcz27_1, hcz27_2, hcz27_3, hfz27_0, hfz27_1, hfz27_2, hfz27_3⟩ := cf4 BK260.out
       go_wp2
       go_meet
       case rel => exact ⟨_, (((wrap64 (rd l1 0)) != 2)), (by first | rfl | (simp; done) | (simp [*]; done) | (simp [wrap64]; done)), H', ⟨by first | omega | exact Nat.le_refl _⟩, ⟨by (with_reducible repeat (first | apply bN | apply bD | apply bA)); refine blk_far ?_ NB253_260.out _; (with_reducible repeat (first | apply bN | apply bD | apply bA)); refine blk_far ?_ NB253_260.out _; (with_reducible repeat (first | apply bN | apply bD | apply bA)); refine blk_far ?_ NB253_260.out _; (with_reducible repeat (first | apply bN | apply bD | apply bA)); refine blk_far ?_ NB253_260.out _; exact mvb BK253.out⟩, ⟨by (with_reducible repeat (first | apply bN | apply bD | apply bA)); refine blk_far ?_ NB254_260.out _; (with_reducible repeat (first | apply bN | apply bD | apply bA)); refine blk_far ?_ NB254_260.out _; (with_reducible repeat (first | apply bN | apply bD | apply bA)); refine blk_far ?_ NB254_260.out _; (with_reducible repeat (first | apply bN | apply bD | apply bA)); refine blk_far ?_ NB254_260.out _; exact mvb BK254.out⟩, ⟨by (with_reducible repeat (first | apply bN | apply bD | apply bA)); refine blk_put (cs := #[.int .i64 (wrap64 (rd l1 0)), .int .u32 t257, .int .u32 t259, .slice none 0 0]) ?_ 3 _ rfl; (with_reducible repeat (first | apply bN | apply bD | apply bA)); refine blk_put (cs := #[.int .i64 (wrap64 (rd l1 0)), .int .u32 t257, .int .u32 0, .slice none 0 0]) ?_ 2 _ rfl; (with_reducible repeat (first | apply bN | apply bD | apply bA)); refine blk_put (cs := #[.int .i64 (wrap64 (rd l1 0)), .int .u32 0, .int .u32 0, .slice none 0 0]) ?_ 1 _ rfl; (with_reducible repeat (first | apply bN | apply bD | apply bA)); refine blk_put (cs := #[.int .i64 0, .int .u32 0, .int .u32 0, .slice none 0 0]) ?_ 0 _ rfl; exact mvb BK260.out⟩, ⟨by repeat (first | (with_reducible first | exact HB.out | apply hA | apply hN | apply hD | refine below_set ?_ GE253.out | refine below_set ?_ GE254.out | refine below_set ?_ GE260.out) | exact HB.out)⟩⟩
     case rest =>
      clear HC9
      (try clear c1); (try clear c2); (try clear p2); (try clear q2); (try clear hx2); (try clear qi2); (try clear c3); (try clear c3b0); (try clear c3b1); (try clear c4); (try clear c4b0); (try clear c4b1); (try clear c6); (try clear c6b0); (try clear c6b1); (try clear p6); (try clear c8); (try clear c8b0)
      (try clear c8b1); (try clear c21); (try clear c21b0); (try clear c21b1); (try clear c22); (try clear c23); (try clear c25); (try clear p25); (try clear q25); (try clear hx25); (try clear qi25); (try clear c26); (try clear p26); (try clear q26); (try clear hx26); (try clear qi26); (try clear hcz24_0)
      (try clear hcz24_1); (try clear hcz24_2); (try clear hcz24_3); (try clear hcz27_0); (try clear hcz27_1); (try clear hcz27_2); (try clear hcz27_3); (try clear hfz24_0); (try clear hfz24_1); (try clear hfz24_2); (try clear hfz24_3); (try clear hfz27_0); (try clear hfz27_1); (try clear hfz27_2); (try clear hfz27_3)
      (try clear hx255_0); (try clear hx261_0); (try clear p255); (try clear p261); (try clear q255); (try clear q261)
      obtain ⟨kq, x33_8, rfl, HA, HJ8, BK253, BK254, BK260, HB⟩ := hcut
      cases kq with
      | zero => exact absurd HA.out (by simp [frame_told.j0])
      | succ kj8 =>
       have H := HA.out
       clear HA
       simp only [frame_told.j0] at H
       by_cases c28 : x33_8 = true
       ·subst c28
        have H1 : (some (0, 0, 0, ([] : List Int), 241)) = some (r1, r2, r3, r4, r5) := by rw [if_pos rfl] at H; exact H
        clear H
        have H := H1
        clear H1
        simp only [Option.some.injEq, Prod.mk.injEq] at H
        obtain ⟨rfl, rfl, rfl, rfl, rfl⟩ := H
        have hnb29 := NB254_253.out
        have hnc29 := NB253_254.out
        have hnb30 := NB254_260.out
        have hnc30 := NB260_254.out
        obtain ⟨hcz31_0, hcz31_1, hcz31_2, hcz31_3, hfz31_0, hfz31_1, hfz31_2, hfz31_3⟩ := cf4 BK254.out
        go_wp2
        refine bodyPost_ret (results_ct rfl _ _ gb254 29 #[.int .i64 0, .int .u32 0, .int .u32 0, .slice none 0 0] (0, 0) _ rfl (by (with_reducible repeat (first | apply bN | apply bD | apply bA)); refine blk_put (cs := #[.int .i64 0, .int .u32 0, .int .u32 0, .slice none 0 0]) ?_ 3 _ rfl; (with_reducible repeat (first | apply bN | apply bD | apply bA)); refine blk_put (cs := #[.int .i64 0, .int .u32 0, .int .u32 0, .slice none 0 0]) ?_ 2 _ rfl; (with_reducible repeat (first | apply bN | apply bD | apply bA)); refine blk_put (cs := #[.int .i64 0, .int .u32 0, .int .u32 0, .slice none 0 0]) ?_ 1 _ rfl; (with_reducible repeat (first | apply bN | apply bD | apply bA)); refine blk_put (cs := #[.int .i64 0, .int .u32 0, .int .u32 0, .slice none 0 0]) ?_ 0 _ rfl; exact mvb BK254.out) Try.underlying29 rfl (by kernel_rfl)) rfl ?_
        exact ⟨_, by first | rfl | (simp [errW_none, errW_some] <;> rfl) | (simp [*, errW_none, errW_some] <;> rfl), by first | exact Kd.R_nil _ _ _ _ _ | exact Kd.N_nil _ _ _ _ _ | exact Kd.V_nil _ _ _ _ _ | exact Kd.Q_nil _ _ _ _ _ | exact Kd.S_nil _ _ _ _ _, by repeat (first | (with_reducible first | exact HB.out | apply hA | apply hN | apply hD | refine below_set ?_ GE253.out | refine below_set ?_ GE254.out | refine below_set ?_ GE260.out) | exact HB.out)⟩
       ·replace c28 := Bool.eq_false_iff.mpr c28
        subst c28
        have H1 : (if (wrap64 (rd l1 9)) > a0_0 then (some (0, 0, 0, ([] : List Int), 6)) else (if 10 ≤ (wrap64 (10 + (wrap64 (rd l1 9)))) then (if (wrap64 (10 + (wrap64 (rd l1 9)))) ≤ (l1.length : Int) then (if ([] : List Int).length + ((l1.take ((wrap64 (10 + (wrap64 (rd l1 9)))) : Int).toNat).drop 10).length < 140737488355328 then (if 0 ≤ (wrap64 (10 + (wrap64 (rd l1 9)))) then (frame_told.l0 kj8 (l1.drop ((wrap64 (10 + (wrap64 (rd l1 9)))) : Int).toNat) ((l1.drop ((wrap64 (10 + (wrap64 (rd l1 9)))) : Int).toNat).length : Int) 0 (wrap64 (rd l1 0)) t257 t259 (([] : List Int) ++ ((l1.take ((wrap64 (10 + (wrap64 (rd l1 9)))) : Int).toNat).drop 10))) else (none)) else (none)) else (none)) else (none))) = some (r1, r2, r3, r4, r5) := by rw [if_neg (show ¬ (false = true) by decide)] at H; exact H
        clear H
        have H := H1
        clear H1
        by_cases c32 : (wrap64 (rd l1 9)) > a0_0
        ·rw [if_pos c32] at H
         have c32b0 : decide (a0_0 < (wrap64 (rd l1 9))) = true := decide_eq_true c32
         clear c32
         simp only [Option.some.injEq, Prod.mk.injEq] at H
         obtain ⟨rfl, rfl, rfl, rfl, rfl⟩ := H
         have hnb33 := NB253_254.out
         have hnc33 := NB254_253.out
         have hnb34 := NB253_260.out
         have hnc34 := NB260_253.out
         obtain ⟨hcz35_0, hcz35_1, hcz35_2, hcz35_3, hcz35_4, hcz35_5, hfz35_0, hfz35_1, hfz35_2, hfz35_3, hfz35_4, hfz35_5⟩ := cf6 BK253.out
         have hnb36 := NB254_260.out
         have hnc36 := NB260_254.out
         obtain ⟨hcz37_0, hcz37_1, hcz37_2, hcz37_3, hfz37_0, hfz37_1, hfz37_2, hfz37_3⟩ := cf4 BK254.out
         go_wp2
         refine bodyPost_ret (results_ct rfl _ _ gb254 29 #[.int .i64 0, .int .u32 0, .int .u32 0, .slice none 0 0] (0, 0) _ rfl (by (with_reducible repeat (first | apply bN | apply bD | apply bA)); refine blk_put (cs := #[.int .i64 0, .int .u32 0, .int .u32 0, .slice none 0 0]) ?_ 3 _ rfl; (with_reducible repeat (first | apply bN | apply bD | apply bA)); refine blk_put (cs := #[.int .i64 0, .int .u32 0, .int .u32 0, .slice none 0 0]) ?_ 2 _ rfl; (with_reducible repeat (first | apply bN | apply bD | apply bA)); refine blk_put (cs := #[.int .i64 0, .int .u32 0, .int .u32 0, .slice none 0 0]) ?_ 1 _ rfl; (with_reducible repeat (first | apply bN | apply bD | apply bA)); refine blk_put (cs := #[.int .i64 0, .int .u32 0, .int .u32 0, .slice none 0 0]) ?_ 0 _ rfl; exact mvb BK254.out) Try.underlying29 rfl (by kernel_rfl)) rfl ?_
         exact ⟨_, by first | rfl | (simp [errW_none, errW_some] <;> rfl) | (simp [*, errW_none, errW_some] <;> rfl), by first | exact Kd.R_nil _ _ _ _ _ | exact Kd.N_nil _ _ _ _ _ | exact Kd.V_nil _ _ _ _ _ | exact Kd.Q_nil _ _ _ _ _ | exact Kd.S_nil _ _ _ _ _, by repeat (first | (with_reducible first | exact HB.out | apply hA | apply hN | apply hD | refine below_set ?_ GE253.out | refine below_set ?_ GE254.out | refine below_set ?_ GE260.out) | exact HB.out)⟩
        ·rw [if_neg c32] at H
         have c32b0 : decide (a0_0 < (wrap64 (rd l1 9))) = false := decide_eq_false c32
         clear c32
         by_cases c38 : 10 ≤ (wrap64 (10 + (wrap64 (rd l1 9))))
         ·rw [if_pos c38] at H
          have c38b0 := eq_true c38
          have c38b1 : decide (10 ≤ (wrap64 (10 + (wrap64 (rd l1 9))))) = true := decide_eq_true c38
          by_cases c39 : (wrap64 (10 + (wrap64 (rd l1 9)))) ≤ (l1.length : Int)
          ·rw [if_pos c39] at H
           have c39b0 := eq_true c39
           have c39b1 : decide ((wrap64 (10 + (wrap64 (rd l1 9)))) ≤ (l1.length : Int)) = true := decide_eq_true c39
           by_cases c40 : ([] : List Int).length + ((l1.take ((wrap64 (10 + (wrap64 (rd l1 9)))) : Int).toNat).drop 10).length < 140737488355328
           ·rw [if_pos c40] at H
            have LMc40 := Aside0.mk c40
            clear c40
            obtain ⟨y263, hy263⟩ : ∃ y_ : List Int, y_ = (([] : List Int) ++ ((l1.take ((wrap64 (10 + (wrap64 (rd l1 9)))) : Int).toNat).drop 10)) := ⟨_, rfl⟩
            replace H : (if 0 ≤ (wrap64 (10 + (wrap64 (rd l1 9)))) then (frame_told.l0 kj8 (l1.drop ((wrap64 (10 + (wrap64 (rd l1 9)))) : Int).toNat) ((l1.drop ((wrap64 (10 + (wrap64 (rd l1 9)))) : Int).toNat).length : Int) 0 (wrap64 (rd l1 0)) t257 t259 y263) else (none)) = some (r1, r2, r3, r4, r5) := by first | (rw [hy263]; with_reducible exact H) | (have H2_ := (Option.bind_some _ _).symm.trans H; rw [hy263]; with_reducible exact H2_) | (have H2_ := (Option.bind_some _ _).symm.trans H; with_reducible exact H2_) | with_reducible exact H | (rw [hy263]; exact H) | exact H
            have Ny263 := Aside0.mk hy263
            clear hy263
            obtain ⟨ji41, hji41⟩ : ∃ j_ : Int, (wrap64 (10 + (wrap64 (rd l1 9)))) = j_ := ⟨_, rfl⟩
            replace H : (if 0 ≤ (ji41) then (frame_told.l0 kj8 (l1.drop ((ji41) : Int).toNat) ((l1.drop ((ji41) : Int).toNat).length : Int) 0 (wrap64 (rd l1 0)) t257 t259 y263) else (none)) = some (r1, r2, r3, r4, r5) := by first | (rw [hji41] at H; exact H) | (simp only [hji41] at H ⊢; exact H)
            (try rw [hji41] at c38b0)
            (try rw [hji41] at c38b1)
            (try rw [hji41] at c38)
            (try rw [hji41] at c39b0)
            (try rw [hji41] at c39b1)
            (try rw [hji41] at c39)
            (try rw [hji41] at Ny263)
            (try rw [hji41] at Ny263)
            have hji41w : (IntKind.i64.wrap (10 + (wrap64 (rd l1 9)))) = ji41 := (i64_w _).trans hji41
            by_cases c42 : 0 ≤ (ji41)
            ·rw [if_pos c42] at H
             have c42b0 := eq_true c42
             have c42b1 : decide (0 ≤ (ji41)) = true := decide_eq_true c42
             clear c42
             have c43b0 := eq_true (of_decide_eq_true (by first | (with_reducible assumption) | assumption) : (ji41) ≤ (l1.length : Int))
             have H' := Aside0.mk H
             clear H
             have hnb44 := NB253_254.out
             have hnc44 := NB254_253.out
             have hnb45 := NB253_260.out
             have hnc45 := NB260_253.out
             obtain ⟨hcz46_0, hcz46_1, hcz46_2, hcz46_3, hcz46_4, hcz46_5, hfz46_0, hfz46_1, hfz46_2, hfz46_3, hfz46_4, hfz46_5⟩ := cf6 BK253.out
             obtain ⟨i047, hi047, _, hsz47, _⟩ := info_parts info5
             obtain ⟨A47, hcut47, hA47, hC47⟩ := print_mid_of (P := Try.prog) (Value.int .u8) 0 27 5 .i64 .i64 Try.underlying27 hi047 hsz47 (some ad255) c1 l1 10 (ji41) (by omega) (by first | omega | exact of_decide_eq_true (by first | (with_reducible assumption) | assumption)) (of_decide_eq_true (by first | (with_reducible assumption) | assumption)) HC1.out
             have HR262 := aK (Kd.C_of_reads (h1 := fun _ => rfl) (hA47 _ (Kd.reads_of_C HR1.out)))
             have HC262 := Aside0.mk hC47
             clear hA47 hC47 hi047 hsz47
             go_wp2_with (first | ((with_reducible refine gate_builtin (b := .append) (xs := #[.const (.slice none 0 0), .tmp 43]) rfl ?_); at_builtin; refine Kd.R_append_rows (Kd.int .u8) (w0 := w) w.heap.size rfl (.const (.slice none 0 0)) (.tmp 43) 27 5 (.int .u8 0) 1 rfl Try.underlying27 info5 rfl (by decide) (by omega) (.slice none 0 0) ([] : List Int) ((l1.take ((ji41) : Int).toNat).drop 10) _ _ _ (fun _ => True) (fun _ => False) rfl rfl ?aO ?aR (fun _ _ h => h) (fun _ h => h.elim) ?aF ?aB ?aS ?aL ?_; (case aR => first | (rw [← show ((l1.take ((ji41) : Int).toNat).drop 10).length = ((ji41).toNat - 10) from (by rw [List.length_drop, List.length_take]; have h_ : ((ji41) : Int) ≤ (l1.length : Int) := of_decide_eq_true (by first | (with_reducible assumption) | assumption); omega)]; repeat (first | exact (Kd.C_below HR262.out HB.out) | (with_reducible refine Kd.C_alloc ?_ _) | (with_reducible refine Kd.C_drewN ?_ _) | (with_reducible refine Kd.C_drew ?_))) | (repeat (first | exact (Kd.C_below HR262.out HB.out) | (with_reducible refine Kd.C_alloc ?_ _) | (with_reducible refine Kd.C_drewN ?_ _) | (with_reducible refine Kd.C_drew ?_)))); (case aB => exact (by repeat (first | (with_reducible first | exact HB.out | apply hA | apply hN | apply hD | refine below_set ?_ GE253.out | refine below_set ?_ GE254.out | refine below_set ?_ GE260.out) | exact HB.out))); (case aF => exact (fun _ _ => trivial)); (case aO => exact ((Kd.R_nil _ _ _ _ (fun _ => True)))); (case aS => exact (below_size (by repeat (first | (with_reducible first | exact HB.out | apply hA | apply hN | apply hD | refine below_set ?_ GE253.out | refine below_set ?_ GE254.out | refine below_set ?_ GE260.out) | exact HB.out)))); (case aL => have := LMc40.out; (try simp only [hji41] at this); have hlx_ := (show ((l1.take ((ji41) : Int).toNat).drop 10).length = ((ji41).toNat - 10) from (by rw [List.length_drop, List.length_take]; have h_ : ((ji41) : Int) ≤ (l1.length : Int) := of_decide_eq_true (by first | (with_reducible assumption) | assumption); omega)); (try clear hji41w); (try clear hji41); omega); intro v264 w48 ho hb hg hat; rw [← Ny263.out] at ho; have n0_ := aK (blk_grown (g := gb253) (o := .cells #[.int .i64 a0_0, .int .i64 a0_1, .int .u32 a0_2, .int .u32 a0_3, .int .u32 a0_4, .bool a0_5] 26 (0, 0)) (mvb BK253.out) hg (by simp [Value.ownBlock])); have n1_ := aK (blk_grown (g := gb254) (o := .cells #[.int .i64 0, .int .u32 0, .int .u32 0, .slice none 0 0] 29 (0, 0)) (mvb BK254.out) hg (by simp [Value.ownBlock])); have n2_ := aK (blk_grown (g := gb260) (o := .cells #[.int .i64 (wrap64 (rd l1 0)), .int .u32 t257, .int .u32 t259, .slice none 0 0] 29 (0, 0)) (mvb BK260.out) hg (by simp [Value.ownBlock])); have n3_ := aK (hb); have n4_ := aK (ho); clear BK253 BK254 BK260 HB; have BK253 := n0_; have BK254 := n1_; have BK260 := n2_; have HB := n3_; have HO265 := n4_; clear n0_ n1_ n2_ n3_ n4_; clear ho hb hg hat; obtain ⟨Ao49, co49, eo49⟩ := Kd.R_slice HO265.out; subst eo49; have hnb50 := NB260_254.out; have hnc50 := NB254_260.out; obtain ⟨hcz51_0, hcz51_1, hcz51_2, hcz51_3, hfz51_0, hfz51_1, hfz51_2, hfz51_3⟩ := cf4 BK260.out; obtain ⟨i052, hi052, _, hsz52, _⟩ := info_parts info5; obtain ⟨A52, hcut52, hA52, hC52⟩ := print_drop_of (P := Try.prog) (Value.int .u8) 0 27 5 .i64 Try.underlying27 hi052 hsz52 (some ad255) c1 l1 (ji41) (of_decide_eq_true (by first | (with_reducible assumption) | assumption)) (of_decide_eq_true (by first | (with_reducible assumption) | assumption)) HC1.out; have HR266 := aK (Kd.C_of_reads (h1 := fun _ => rfl) (hA52 _ (Kd.reads_of_C HR1.out))); have HC266 := Aside0.mk hC52; clear hA52 hC52 hi052 hsz52))
             go_loopg [51] kj8 (fun kq v51 w' => ∃ (x51_2 : Int) (x255000_2 : Int) (x255001_2 : Int) (x255002_2 : Int), v51 = .int .i64 x51_2 ∧ Aside0 (frame_told.l0 kq (l1.drop ((ji41) : Int).toNat) ((l1.drop ((ji41) : Int).toNat).length : Int) x51_2 (wrap64 (rd l1 0)) t257 t259 y263 = some (r1, r2, r3, r4, r5)) ∧ Aside0 (kq ≤ kj8) ∧ Aside0 (Kd.R (Kd.int .u8) 5 w' w.heap.size (fun _ => True) (.slice Ao49 y263.length co49) y263) ∧ Aside0 (w'.heap[gb253]? = some (.cells #[.int .i64 a0_0, .int .i64 a0_1, .int .u32 a0_2, .int .u32 a0_3, .int .u32 a0_4, .bool a0_5] 26 (0, 0))) ∧ Aside0 (w'.heap[gb254]? = some (.cells #[.int .i64 x255000_2, .int .u32 x255001_2, .int .u32 x255002_2, (.slice none 0 0)] 29 (0, 0))) ∧ Aside0 (w'.heap[gb260]? = some (.cells #[.int .i64 (wrap64 (rd l1 0)), .int .u32 t257, .int .u32 t259, (.slice Ao49 y263.length co49)] 29 (0, 0))) ∧ Aside0 (Below w.heap.size w w'))
             case atStart => exact ⟨(0), (0), (0), (0), (by first | rfl | (simp; done) | (simp [*]; done) | (simp [wrap64]; done)), H', ⟨Nat.le_refl _⟩, ⟨by (with_reducible repeat (first | apply Kd.R_alloc | apply Kd.R_drewN | apply Kd.R_drew)); exact Kd.R_mono (Kd.R_far (p := ⟨gb260, 3, none⟩) (Kd.R_types HO265.out BK260.out (by decide)) (fun _ hk => hk.2) (.slice Ao49 y263.length co49)) (fun _ hk => trivial)⟩, ⟨by (with_reducible repeat (first | apply bN | apply bD | apply bA)); refine blk_far ?_ NB253_260.out _; exact mvb BK253.out⟩, ⟨by (with_reducible repeat (first | apply bN | apply bD | apply bA)); refine blk_far ?_ NB254_260.out _; exact mvb BK254.out⟩, ⟨by (with_reducible repeat (first | apply bN | apply bD | apply bA)); refine blk_put (cs := #[.int .i64 (wrap64 (rd l1 0)), .int .u32 t257, .int .u32 t259, .slice none 0 0]) ?_ 3 _ rfl; exact mvb BK260.out⟩, ⟨by repeat (first | (with_reducible first | exact HB.out | apply hA | apply hN | apply hD | refine below_set ?_ GE253.out | refine below_set ?_ GE254.out | refine below_set ?_ GE260.out) | exact HB.out)⟩⟩
             case round =>
              (try clear hHeld); (try clear hs17); (try clear hfs17); (try clear hns17_0); (try clear hns17_1); (try clear hms17_0); (try clear hms17_1); (try clear hs18); (try clear hfs18); (try clear hns18_0); (try clear hns18_1); (try clear hms18_0); (try clear hms18_1); (try clear hs19); (try clear hfs19); (try clear hns19_0); (try clear hns19_1); (try clear hms19_0); (try clear hms19_1); (try clear hs20); (try clear hfs20); (try clear hns20_0); (try clear hns20_1); (try clear hms20_0); (try clear hms20_1)
              clear H'
              (try clear c1); (try clear c2); (try clear p2); (try clear q2); (try clear hx2); (try clear qi2); (try clear c3); (try clear c3b0); (try clear c3b1); (try clear c4); (try clear c4b0); (try clear c4b1); (try clear c5); (try clear c6); (try clear c6b0); (try clear c6b1); (try clear p6); (try clear c8)
              (try clear c8b0); (try clear c8b1); (try clear c21); (try clear c21b0); (try clear c21b1); (try clear c22); (try clear c23); (try clear c25); (try clear p25); (try clear q25); (try clear hx25); (try clear qi25); (try clear c26); (try clear p26); (try clear q26); (try clear hx26); (try clear qi26)
              (try clear c28); (try clear c29); (try clear c30); (try clear c32); (try clear c32b0); (try clear c33); (try clear c34); (try clear c36); (try clear c38); (try clear c38b0); (try clear c38b1); (try clear c39); (try clear c39b0); (try clear c39b1); (try clear c40); (try clear c42); (try clear c42b0)
              (try clear c42b1); (try clear c43); (try clear c43b0); (try clear c44); (try clear c45); (try clear c47); (try clear c50); (try clear hcz24_0); (try clear hcz24_1); (try clear hcz24_2); (try clear hcz24_3); (try clear hcz27_0); (try clear hcz27_1); (try clear hcz27_2); (try clear hcz27_3)
              (try clear hcz31_0); (try clear hcz31_1); (try clear hcz31_2); (try clear hcz31_3); (try clear hcz35_0); (try clear hcz35_1); (try clear hcz35_2); (try clear hcz35_3); (try clear hcz35_4); (try clear hcz35_5); (try clear hcz37_0); (try clear hcz37_1); (try clear hcz37_2); (try clear hcz37_3)
              (try clear hcz46_0); (try clear hcz46_1); (try clear hcz46_2); (try clear hcz46_3); (try clear hcz46_4); (try clear hcz46_5); (try clear hcz51_0); (try clear hcz51_1); (try clear hcz51_2); (try clear hcz51_3); (try clear hfz24_0); (try clear hfz24_1); (try clear hfz24_2); (try clear hfz24_3)
              (try clear hfz27_0); (try clear hfz27_1); (try clear hfz27_2); (try clear hfz27_3); (try clear hfz31_0); (try clear hfz31_1); (try clear hfz31_2); (try clear hfz31_3); (try clear hfz35_0); (try clear hfz35_1); (try clear hfz35_2); (try clear hfz35_3); (try clear hfz35_4); (try clear hfz35_5)
              (try clear hfz37_0); (try clear hfz37_1); (try clear hfz37_2); (try clear hfz37_3); (try clear hfz46_0); (try clear hfz46_1); (try clear hfz46_2); (try clear hfz46_3); (try clear hfz46_4); (try clear hfz46_5); (try clear hfz51_0); (try clear hfz51_1); (try clear hfz51_2); (try clear hfz51_3)
              (try clear hx255_0); (try clear hx261_0); (try clear p2); (try clear p25); (try clear p255); (try clear p26); (try clear p261); (try clear p6); (try clear q2); (try clear q25); (try clear q255); (try clear q26); (try clear q261)
              obtain ⟨x51_2, x255000_2, x255001_2, x255002_2, rfl, HA, HK2, HO_261003, BK253, BK254, BK260, HB⟩ := hrel
              cases gk with
              | zero => exact absurd HA.out (by simp [frame_told.l0])
              | succ k2 =>
               have H := HA.out
               clear HA
               simp only [frame_told.l0] at H
               by_cases c53 : x51_2 < ((l1.drop ((ji41) : Int).toNat).length : Int)
               ·rw [if_pos c53] at H
                have c53b0 : decide (x51_2 < ((l1.drop ((ji41) : Int).toNat).length : Int)) = true := decide_eq_true c53
                (try (have c53b0l := c53b0; simp only [List.length_drop] at c53b0l))
                clear c53
                by_cases c54 : 0 ≤ x51_2
                ·rw [if_pos c54] at H
                 have c54b0 : decide (0 ≤ x51_2) = true := decide_eq_true c54
                 clear c54
                 by_cases c55 : x51_2 < ((l1.drop ((ji41) : Int).toNat).length : Int)
                 ·rw [if_pos c55] at H
                  have c55b0 : decide (x51_2 < ((l1.drop ((ji41) : Int).toNat).length : Int)) = true := decide_eq_true c55
                  (try (have c55b0l := c55b0; simp only [List.length_drop] at c55b0l))
                  clear c55
                  by_cases c56 : (rd (l1.drop ((ji41) : Int).toNat) x51_2) = 0
                  ·rw [if_pos c56] at H
                   have c56b0 : ((rd (l1.drop ((ji41) : Int).toNat) x51_2) == 0) = true := beq_iff_eq.mpr c56
                   have c56b1 : ((rd (l1.drop ((ji41) : Int).toNat) x51_2) != 0) = false := bne_eq_false_iff_eq.mpr c56
                   clear c56
                   have H' := Aside0.mk H
                   clear H
                   have p267 : 0 ≤ (x51_2 : Int) := of_decide_eq_true (by first | (with_reducible assumption) | assumption)
                   have q267 : x51_2 < ((l1.drop ((ji41) : Int).toNat).length : Int) := of_decide_eq_true (by first | (with_reducible assumption) | assumption)
                   obtain ⟨ad267, e267, hx267_0⟩ := Kd.at_int HR266.out x51_2 p267 q267
                   cases e267
                   replace hx267_0 := (HB.out.cell (World.block_lt_of_cell? w _ hx267_0)).trans hx267_0
                   replace p267 := eq_true p267
                   replace q267 := eq_true q267
                   (try (have q267l := q267; simp only [List.length_drop] at q267l))
                   go_wp2
                   go_roundg k2
                   case measure => have := HJ8.out; have := HK2.out; omega
                   case rel => exact ⟨(wrap64 (x51_2 + 1)), (x255000_2), (x255001_2), (x255002_2), (by first | rfl | (simp; done) | (simp [*]; done) | (simp [wrap64]; done)), H', ⟨by have := HJ8.out; have := HK2.out; omega⟩, ⟨mvR HO_261003.out⟩, ⟨mvb BK253.out⟩, ⟨mvb BK254.out⟩, ⟨mvb BK260.out⟩, ⟨by repeat (first | (with_reducible first | exact HB.out | apply hA | apply hN | apply hD | refine below_set ?_ GE253.out | refine below_set ?_ GE254.out | refine below_set ?_ GE260.out) | exact HB.out)⟩⟩
                  ·rw [if_neg c56] at H
                   have c56b0 : ((rd (l1.drop ((ji41) : Int).toNat) x51_2) == 0) = false := beq_eq_false_iff_ne.mpr c56
                   have c56b1 : ((rd (l1.drop ((ji41) : Int).toNat) x51_2) != 0) = true := bne_iff_ne.mpr c56
                   simp only [Option.some.injEq, Prod.mk.injEq] at H
                   obtain ⟨rfl, rfl, rfl, rfl, rfl⟩ := H
                   have p267 : 0 ≤ (x51_2 : Int) := of_decide_eq_true (by first | (with_reducible assumption) | assumption)
                   have q267 : x51_2 < ((l1.drop ((ji41) : Int).toNat).length : Int) := of_decide_eq_true (by first | (with_reducible assumption) | assumption)
                   obtain ⟨ad267, e267, hx267_0⟩ := Kd.at_int HR266.out x51_2 p267 q267
                   cases e267
                   replace hx267_0 := (HB.out.cell (World.block_lt_of_cell? w _ hx267_0)).trans hx267_0
                   replace p267 := eq_true p267
                   replace q267 := eq_true q267
                   (try (have q267l := q267; simp only [List.length_drop] at q267l))
                   have hnb57 := NB254_253.out
                   have hnc57 := NB253_254.out
                   have hnb58 := NB254_260.out
                   have hnc58 := NB260_254.out
                   obtain ⟨hcz59_0, hcz59_1, hcz59_2, hcz59_3, hfz59_0, hfz59_1, hfz59_2, hfz59_3⟩ := cf4 BK254.out
                   go_wp2
                   refine bodyPost_ret (results_ct rfl _ _ gb254 29 #[.int .i64 0, .int .u32 0, .int .u32 0, .slice none 0 0] (0, 0) _ rfl (by (with_reducible repeat (first | apply bN | apply bD | apply bA)); refine blk_put (cs := #[.int .i64 0, .int .u32 0, .int .u32 0, .slice none 0 0]) ?_ 3 _ rfl; (with_reducible repeat (first | apply bN | apply bD | apply bA)); refine blk_put (cs := #[.int .i64 0, .int .u32 0, .int .u32 x255002_2, .slice none 0 0]) ?_ 2 _ rfl; (with_reducible repeat (first | apply bN | apply bD | apply bA)); refine blk_put (cs := #[.int .i64 0, .int .u32 x255001_2, .int .u32 x255002_2, .slice none 0 0]) ?_ 1 _ rfl; (with_reducible repeat (first | apply bN | apply bD | apply bA)); refine blk_put (cs := #[.int .i64 x255000_2, .int .u32 x255001_2, .int .u32 x255002_2, .slice none 0 0]) ?_ 0 _ rfl; exact mvb BK254.out) Try.underlying29 rfl (by kernel_rfl)) rfl ?_
                   exact ⟨_, by first | rfl | (simp [errW_none, errW_some] <;> rfl) | (simp only [← hji41]; first | rfl | (simp [errW_none, errW_some] <;> rfl)) | (simp [*, errW_none, errW_some] <;> rfl), by first | exact Kd.R_nil _ _ _ _ _ | exact Kd.N_nil _ _ _ _ _ | exact Kd.V_nil _ _ _ _ _ | exact Kd.Q_nil _ _ _ _ _ | exact Kd.S_nil _ _ _ _ _, by repeat (first | (with_reducible first | exact HB.out | apply hA | apply hN | apply hD | refine below_set ?_ GE253.out | refine below_set ?_ GE254.out | refine below_set ?_ GE260.out) | exact HB.out)⟩
                 ·rw [if_neg c55] at H
                  exact absurd H (by simp)
                ·rw [if_neg c54] at H
                 exact absurd H (by simp)
               ·rw [if_neg c53] at H
                have c53b0 : decide (x51_2 < ((l1.drop ((ji41) : Int).toNat).length : Int)) = false := decide_eq_false c53
                (try (have c53b0l := c53b0; simp only [List.length_drop] at c53b0l))
                clear c53
                replace H := Option.bind_eq_some_iff.mp H
                obtain ⟨t268, A600, H⟩ := H
                replace H : (if t268 = 0 then (some ((wrap64 (rd l1 0)), t257, t259, y263, 0)) else (some (0, 0, 0, ([] : List Int), t268))) = some (r1, r2, r3, r4, r5) := H
                have A60 := Aside0.mk A600
                clear A600
                by_cases c61 : t268 = 0
                ·rw [if_pos c61] at H
                 have c61b0 : (t268 == 0) = true := beq_iff_eq.mpr c61
                 have c61b1 : (t268 != 0) = false := bne_eq_false_iff_eq.mpr c61
                 clear c61
                 simp only [Option.some.injEq, Prod.mk.injEq] at H
                 obtain ⟨rfl, rfl, rfl, rfl, rfl⟩ := H
                 have hnb62 := NB260_253.out
                 have hnc62 := NB253_260.out
                 have hnb63 := NB260_254.out
                 have hnc63 := NB254_260.out
                 obtain ⟨hcz64_0, hcz64_1, hcz64_2, hcz64_3, hfz64_0, hfz64_1, hfz64_2, hfz64_3⟩ := cf4 BK260.out
                 go_wp2_with (first | ((with_reducible refine gate_callee (f := 32) rfl ?_); refine goesL_ (some 60) rfl rfl Try.func32 (by kernel_rfl) rfl #[.agg #[.int .i64 (wrap64 (rd l1 0)), .int .u32 t257, .int .u32 t259, .slice Ao49 y263.length co49]] rfl (by (try simp only [List.map_toArray, List.map_cons, List.map_nil]) <;> rfl) ?_; (with_reducible refine (frame_kinded.calls (wrap64 (rd l1 0)) t257 t259 _ _ y263 t268 _ ?side1 ?side2 A60.out).mono ?_); (case side1 => repeat (first | exact (Kd.R_reads' HO_261003.out).2.2 | (with_reducible refine Kd.C_alloc ?_ _) | (with_reducible refine Kd.C_drewN ?_ _) | (with_reducible refine Kd.C_drew ?_))); (case side2 => exact (Kd.R_reads' HO_261003.out).2.1); rintro e w65 ⟨rfl, hb⟩; refine ⟨_, rfl, ?_⟩; have n0_ := aK (Kd.R_below (mvR HO_261003.out) hb); have n1_ := aK (kb BK253.out hb); have n2_ := aK (kb BK254.out hb); have n3_ := aK (kb BK260.out hb); have n4_ := aK (below_step (by repeat (first | (with_reducible first | exact HB.out | apply hA | apply hN | apply hD | refine below_set ?_ GE253.out | refine below_set ?_ GE254.out | refine below_set ?_ GE260.out) | exact HB.out)) hb); clear HO_261003 BK253 BK254 BK260 HB; have HO_261003 := n0_; have BK253 := n1_; have BK254 := n2_; have BK260 := n3_; have HB := n4_; clear n0_ n1_ n2_ n3_ n4_; (try clear hb); obtain ⟨hcz66_0, hcz66_1, hcz66_2, hcz66_3, hfz66_0, hfz66_1, hfz66_2, hfz66_3⟩ := cf4 BK260.out; have hnb67 := NB254_253.out; have hnc67 := NB253_254.out; obtain ⟨hcz68_0, hcz68_1, hcz68_2, hcz68_3, hfz68_0, hfz68_1, hfz68_2, hfz68_3⟩ := cf4 BK254.out))
                 refine bodyPost_ret (results_ct rfl _ _ gb254 29 #[.int .i64 (wrap64 (rd l1 0)), .int .u32 t257, .int .u32 t259, .slice Ao49 y263.length co49] (0, 0) _ rfl (by (with_reducible repeat (first | apply bN | apply bD | apply bA)); refine blk_put (cs := #[.int .i64 (wrap64 (rd l1 0)), .int .u32 t257, .int .u32 t259, .slice none 0 0]) ?_ 3 _ rfl; (with_reducible repeat (first | apply bN | apply bD | apply bA)); refine blk_put (cs := #[.int .i64 (wrap64 (rd l1 0)), .int .u32 t257, .int .u32 x255002_2, .slice none 0 0]) ?_ 2 _ rfl; (with_reducible repeat (first | apply bN | apply bD | apply bA)); refine blk_put (cs := #[.int .i64 (wrap64 (rd l1 0)), .int .u32 x255001_2, .int .u32 x255002_2, .slice none 0 0]) ?_ 1 _ rfl; (with_reducible repeat (first | apply bN | apply bD | apply bA)); refine blk_put (cs := #[.int .i64 x255000_2, .int .u32 x255001_2, .int .u32 x255002_2, .slice none 0 0]) ?_ 0 _ rfl; exact mvb BK254.out) Try.underlying29 rfl (by kernel_rfl)) rfl ?_
                 exact ⟨_, by first | rfl | (simp [errW_none, errW_some] <;> rfl) | (simp only [← hji41]; first | rfl | (simp [errW_none, errW_some] <;> rfl)) | (simp [*, errW_none, errW_some] <;> rfl), by (with_reducible repeat (first | apply Kd.R_alloc | apply Kd.R_drewN | apply Kd.R_drew)); exact Kd.R_mono (Kd.R_far (p := ⟨gb254, 3, none⟩) (Kd.R_far (p := ⟨gb254, 2, none⟩) (Kd.R_far (p := ⟨gb254, 1, none⟩) (Kd.R_far (p := ⟨gb254, 0, none⟩) (Kd.R_types HO_261003.out BK254.out (by decide)) (fun _ hk => hk.2) (.int .i64 (wrap64 (rd l1 0)))) (fun _ hk => hk.2) (.int .u32 t257)) (fun _ hk => hk.2) (.int .u32 t259)) (fun _ hk => hk.2) (.slice Ao49 y263.length co49)) (fun _ hk => trivial), by repeat (first | (with_reducible first | exact HB.out | apply hA | apply hN | apply hD | refine below_set ?_ GE253.out | refine below_set ?_ GE254.out | refine below_set ?_ GE260.out) | exact HB.out)⟩
                ·rw [if_neg c61] at H
                 have c61b0 : (t268 == 0) = false := beq_eq_false_iff_ne.mpr c61
                 have c61b1 : (t268 != 0) = true := bne_iff_ne.mpr c61
                 simp only [Option.some.injEq, Prod.mk.injEq] at H
                 obtain ⟨rfl, rfl, rfl, rfl, rfl⟩ := H
                 have hnb69 := NB260_253.out
                 have hnc69 := NB253_260.out
                 have hnb70 := NB260_254.out
                 have hnc70 := NB254_260.out
                 obtain ⟨hcz71_0, hcz71_1, hcz71_2, hcz71_3, hfz71_0, hfz71_1, hfz71_2, hfz71_3⟩ := cf4 BK260.out
                 go_wp2_with (first | ((with_reducible refine gate_callee (f := 32) rfl ?_); refine goesL_ (some 60) rfl rfl Try.func32 (by kernel_rfl) rfl #[.agg #[.int .i64 (wrap64 (rd l1 0)), .int .u32 t257, .int .u32 t259, .slice Ao49 y263.length co49]] rfl (by (try simp only [List.map_toArray, List.map_cons, List.map_nil]) <;> rfl) ?_; (with_reducible refine (frame_kinded.calls (wrap64 (rd l1 0)) t257 t259 _ _ y263 t268 _ ?side1 ?side2 A60.out).mono ?_); (case side1 => repeat (first | exact (Kd.R_reads' HO_261003.out).2.2 | (with_reducible refine Kd.C_alloc ?_ _) | (with_reducible refine Kd.C_drewN ?_ _) | (with_reducible refine Kd.C_drew ?_))); (case side2 => exact (Kd.R_reads' HO_261003.out).2.1); rintro e w72 ⟨rfl, hb⟩; refine ⟨_, rfl, ?_⟩; have n0_ := aK (Kd.R_below (mvR HO_261003.out) hb); have n1_ := aK (kb BK253.out hb); have n2_ := aK (kb BK254.out hb); have n3_ := aK (kb BK260.out hb); have n4_ := aK (below_step (by repeat (first | (with_reducible first | exact HB.out | apply hA | apply hN | apply hD | refine below_set ?_ GE253.out | refine below_set ?_ GE254.out | refine below_set ?_ GE260.out) | exact HB.out)) hb); clear HO_261003 BK253 BK254 BK260 HB; have HO_261003 := n0_; have BK253 := n1_; have BK254 := n2_; have BK260 := n3_; have HB := n4_; clear n0_ n1_ n2_ n3_ n4_; (try clear hb); have hnb73 := NB254_253.out; have hnc73 := NB253_254.out; obtain ⟨hcz74_0, hcz74_1, hcz74_2, hcz74_3, hfz74_0, hfz74_1, hfz74_2, hfz74_3⟩ := cf4 BK254.out))
                 refine bodyPost_ret (results_ct rfl _ _ gb254 29 #[.int .i64 0, .int .u32 0, .int .u32 0, .slice none 0 0] (0, 0) _ rfl (by (with_reducible repeat (first | apply bN | apply bD | apply bA)); refine blk_put (cs := #[.int .i64 0, .int .u32 0, .int .u32 0, .slice none 0 0]) ?_ 3 _ rfl; (with_reducible repeat (first | apply bN | apply bD | apply bA)); refine blk_put (cs := #[.int .i64 0, .int .u32 0, .int .u32 x255002_2, .slice none 0 0]) ?_ 2 _ rfl; (with_reducible repeat (first | apply bN | apply bD | apply bA)); refine blk_put (cs := #[.int .i64 0, .int .u32 x255001_2, .int .u32 x255002_2, .slice none 0 0]) ?_ 1 _ rfl; (with_reducible repeat (first | apply bN | apply bD | apply bA)); refine blk_put (cs := #[.int .i64 x255000_2, .int .u32 x255001_2, .int .u32 x255002_2, .slice none 0 0]) ?_ 0 _ rfl; exact mvb BK254.out) Try.underlying29 rfl (by kernel_rfl)) rfl ?_
                 exact ⟨_, by first | rfl | (simp [errW_none, errW_some] <;> rfl) | (simp only [← hji41]; first | rfl | (simp [errW_none, errW_some] <;> rfl)) | (simp [*, errW_none, errW_some] <;> rfl), by first | exact Kd.R_nil _ _ _ _ _ | exact Kd.N_nil _ _ _ _ _ | exact Kd.V_nil _ _ _ _ _ | exact Kd.Q_nil _ _ _ _ _ | exact Kd.S_nil _ _ _ _ _, by repeat (first | (with_reducible first | exact HB.out | apply hA | apply hN | apply hD | refine below_set ?_ GE253.out | refine below_set ?_ GE254.out | refine below_set ?_ GE260.out) | exact HB.out)⟩
            ·rw [if_neg c42] at H
             exact absurd H (by simp)
           ·rw [if_neg c40] at H
            exact absurd H (by simp)
          ·rw [if_neg c39] at H
           exact absurd H (by simp)
         ·rw [if_neg c38] at H
          exact absurd H (by simp)
    ·rw [if_neg c8] at H
     exact absurd H (by simp)
   ·rw [if_neg c6] at H
    exact absurd H (by simp)
  ·rw [if_neg c4] at H
   exact absurd H (by simp)
 ·rw [if_neg c3] at H
  exact absurd H (by simp)

end Go.Proofs.Ytaoeehnnboegnaa.P

-- squeezed
