-- written by mk.sh, a program of this session, over the kit's print
import Derived.Test.YtjdkamhnbheofaaGpPx0
import Derived.Test.YtjdkamhnbheofaaGpPx7
import Derived.Test.YtjdkamhnbheofaaGpPx14
import Derived.Test.YtjdkamhnbheofaaGpPx17
namespace Go.Proofs.Ytjdkamhnbheofaa.P
open Go.RowKit Go.Proofs.YtjdkamhnbheofaaW.PrintWords Go.Proofs.YtjdkamhnbheofaaW.PrintLast Go.Proofs.YtjdkamhnbheofaaW.PrintMore
attribute [local go_sem] max2_int min2_int max_two min_two max_three min_three max_four min_four   -- for this text's walks alone
set_option linter.unusedVariables false
set_option linter.unusedSimpArgs false

mutual
def r3_divide.l0 : Nat → List Int → List Int → Int → List Int → Int → Int → Option (List Int × List Int)
 | 0, _, _, _, _, _, _ => none
 | k + 1, x2, x8, x9, x11, x543000, x543001 => if (x8.length : Int) ≥ (x2.length : Int) then (if 0 < (x8.length : Int) then ((r3_quick.f k x543000 x543001 (rd x8 0) x9).bind fun t559 => (if x11.length < 140737488355328 then (r3_divide.l1 k x2 x8 x9 (x11 ++ [t559]) t559 0 x543000 x543001) else (none))) else (none)) else ((r3_Trim.f k x11).bind fun t552 => ((r3_Trim.f k x8).bind fun t555 => (some (t552, t555))))
def r3_divide.l1 : Nat → List Int → List Int → Int → List Int → Int → Int → Int → Int → Option (List Int × List Int)
 | 0, _, _, _, _, _, _, _, _ => none
 | k + 1, x2, x8, x9, x11, x12, x13, x543000, x543001 => if x13 < (x2.length : Int) then (if 0 ≤ x13 then (if x13 < (x8.length : Int) then ((r3_quick.f k x543000 x543001 x12 (rd x2 x13)).bind fun t565 => (r3_divide.l1 k x2 (x8.set (x13 : Int).toNat (Go.bits .xor .u8 (rd x8 x13) t565)) x9 x11 x12 (wrap64 (x13 + 1)) x543000 x543001)) else (none)) else (none)) else (if 1 ≤ (x8.length : Int) then (r3_divide.l0 k x2 (x8.drop (1 : Int).toNat) x9 x11 x543000 x543001) else (none))
end
def r3_divide.f (k : Nat) (a0_0 : Int) (a0_1 : Int) (l1 : List Int) (l2 : List Int) : Option (List Int × List Int) := (r3_Trim.f k l1).bind fun t543 => ((r3_Trim.f k l2).bind fun t546 => (if 0 < (t546.length : Int) then ((r3_Inv.f k a0_0 a0_1 (rd t546 0)).bind fun bt550 => (r3_divide.l0 k t546 t543 bt550.1 ([] : List Int) a0_0 a0_1)) else (none)))
theorem r3_divide.mono_l : ∀ k, (∀ y0 y1 y2 y3 y4 y5, LeO (r3_divide.l0 k y0 y1 y2 y3 y4 y5) (r3_divide.l0 (k + 1) y0 y1 y2 y3 y4 y5)) ∧ (∀ y0 y1 y2 y3 y4 y5 y6 y7, LeO (r3_divide.l1 k y0 y1 y2 y3 y4 y5 y6 y7) (r3_divide.l1 (k + 1) y0 y1 y2 y3 y4 y5 y6 y7))
 | 0 => ⟨fun _ _ _ _ _ _ r h => by simp [r3_divide.l0] at h, fun _ _ _ _ _ _ _ _ r h => by simp [r3_divide.l1] at h⟩
 | k + 1 => by
  obtain ⟨ih0, ih1⟩ := r3_divide.mono_l k
  refine ⟨?_, ?_⟩
  ·intro y0 y1 y2 y3 y4 y5
   unfold r3_divide.l0
   repeat' first
   | (with_reducible exact ih0 _ _ _ _ _ _)
   | (with_reducible exact ih1 _ _ _ _ _ _ _ _)
   | (with_reducible exact r3_Inv.mono _ _ _ _)
   | (with_reducible exact r3_Trim.mono _ _)
   | (with_reducible exact r3_quick.mono _ _ _ _ _)
   | (with_reducible exact LeO.refl _)
   | (with_reducible exact LeO.none _)
   | (with_reducible refine LeO.ite ?_ ?_)
   | (with_reducible refine LeO.bind ?_ (fun _ => ?_))
  ·intro y0 y1 y2 y3 y4 y5 y6 y7
   unfold r3_divide.l1
   repeat' first
   | (with_reducible exact ih0 _ _ _ _ _ _)
   | (with_reducible exact ih1 _ _ _ _ _ _ _ _)
   | (with_reducible exact r3_Inv.mono _ _ _ _)
   | (with_reducible exact r3_Trim.mono _ _)
   | (with_reducible exact r3_quick.mono _ _ _ _ _)
   | (with_reducible exact LeO.refl _)
   | (with_reducible exact LeO.none _)
   | (with_reducible refine LeO.ite ?_ ?_)
   | (with_reducible refine LeO.bind ?_ (fun _ => ?_))
theorem r3_divide.mono : ∀ a0 a1 a2 a3 k, LeO (r3_divide.f k a0 a1 a2 a3) (r3_divide.f (k + 1) a0 a1 a2 a3) := by
 intro a0 a1 a2 a3 k
 obtain ⟨ih0, ih1⟩ := r3_divide.mono_l k
 unfold r3_divide.f
 repeat' first
   | (with_reducible exact ih0 _ _ _ _ _ _)
   | (with_reducible exact ih1 _ _ _ _ _ _ _ _)
   | (with_reducible exact r3_Inv.mono _ _ _ _)
   | (with_reducible exact r3_Trim.mono _ _)
   | (with_reducible exact r3_quick.mono _ _ _ _ _)
   | (with_reducible exact LeO.refl _)
   | (with_reducible exact LeO.none _)
   | (with_reducible refine LeO.ite ?_ ?_)
   | (with_reducible refine LeO.bind ?_ (fun _ => ?_))
def r3_divide.T3 : Bool × List (List Nat × List Nat) := (true, [([], []), ([], []), ([1], [1]), ([2], [2]), ([0, 3], [0, 3]), ([4], [4]), ([5], [5]), ([5], [5]), ([6, 4, 0, 1, 2, 3, 4, 5, 6], [6]), ([7, 8, 0, 1, 2, 3, 4, 5, 6, 7, 8], [7])])
def r3_divide.B3 : List Nat := [0, 0, 2, 6, 15, 31, 63, 63, 127, 511]
theorem r3_divide.tab3 : rtab .any (opsOf Try.f55 3) = r3_divide.T3 := by kernel_rfl
theorem r3_divide.bits3 : waitsOk r3_divide.T3.2 r3_divide.B3 = true := by kernel_rfl
def r3_divide.T11 : Bool × List (List Nat × List Nat) := (true, [([], []), ([], []), ([], []), ([], []), ([2, 3], [2, 3]), ([4], [4]), ([], []), ([], []), ([], []), ([], []), ([8, 9], [8, 9]), ([10], [10]), ([6, 7, 11], [6, 7, 11]), ([5, 12], [5, 12]), ([0, 1, 0, 1, 2, 3, 4, 5, 6, 7, 8, 9, 10, 11, 12, 13], [0, 1]), ([14, 13, 12, 0, 1, 2, 3, 4, 5, 6, 7, 8, 9, 10, 11, 12, 13], [13, 14])])
def r3_divide.B11 : List Nat := [0, 0, 0, 0, 12, 28, 0, 0, 0, 0, 768, 1792, 4032, 8188, 16383, 32767]
theorem r3_divide.tab11 : rtab .any (opsOf Try.f55 11) = r3_divide.T11 := by kernel_rfl
theorem r3_divide.bits11 : waitsOk r3_divide.T11.2 r3_divide.B11 = true := by kernel_rfl
set_option maxHeartbeats 8000000 in
set_option maxRecDepth 100000 in
theorem r3_divide.calls (k : Nat) (a0_0 : Int) (a0_1 : Int) (A1 : Option Addr) (c1 : Nat) (l1 : List Int) (A2 : Option Addr) (c2 : Nat) (l2 : List Int) (r1 : List Int) (r2 : List Int) (w : World) (hr1 : Kd.C (Kd.int .u8) w A1 l1.length l1) (hc1 : l1.length ≤ c1) (hr2 : Kd.C (Kd.int .u8) w A2 l2.length l2) (hc2 : l2.length ≤ c2) (h : r3_divide.f k a0_0 a0_1 l1 l2 = some (r1, r2)) :
  Calls Try.prog 55 #[.agg #[.int .i64 a0_0, .int .u64 a0_1], .slice A1 l1.length c1, .slice A2 l2.length c2] w fun e w' => ∃ v0_ v1_ : Value, e = .returned (.tuple #[v0_, v1_]) ∧ Kd.R (Kd.int .u8) 5 w' w.heap.size (fun k_ => some k_ ≠ (v1_ : Value).ownBlock) v0_ r1 ∧ Kd.R (Kd.int .u8) 5 w' w.heap.size (fun k_ => some k_ ≠ (v0_ : Value).ownBlock) v1_ r2 ∧ Below w.heap.size w w' := by
 have hu24 := Try.underlying24
 have HR1 := Aside0.mk hr1
 have HC1 := Aside0.mk hc1
 clear hr1 hc1
 have HR2 := Aside0.mk hr2
 have HC2 := Aside0.mk hc2
 clear hr2 hc2
 have HB := aK (Below.refl w.heap.size w)
 have H : ((r3_Trim.f k l1).bind fun t543 => ((r3_Trim.f k l2).bind fun t546 => (if 0 < (t546.length : Int) then ((r3_Inv.f k a0_0 a0_1 (rd t546 0)).bind fun bt550 => (r3_divide.l0 k t546 t543 bt550.1 ([] : List Int) a0_0 a0_1)) else (none)))) = some (r1, r2) := h
 clear h
 replace H := Option.bind_eq_some_iff.mp H
 obtain ⟨t543, A40, H⟩ := H
 try dsimp only at H
 have A4 := Aside0.mk A40
 clear A40
 replace H := Option.bind_eq_some_iff.mp H
 obtain ⟨t546, A50, H⟩ := H
 try dsimp only at H
 have A5 := Aside0.mk A50
 clear A50
 by_cases c6 : 0 < (t546.length : Int)
 rotate_left
 ·rw [if_neg c6] at H
  exact absurd H (by simp)

 rw [if_pos c6] at H
 have c6b0 : decide (0 < (t546.length : Int)) = true := decide_eq_true c6
 have c6b1 : decide (0 < t546.length) = true := decide_eq_true (by omega)
 clear c6
 replace H := Option.bind_eq_some_iff.mp H
 obtain ⟨⟨t550, t551⟩, A70, H⟩ := H
 try dsimp only at H
 have A7 := Aside0.mk A70
 clear A70
 have H' := Aside0.mk H
 clear H
 go_enter Try.func55, Try.ntmps55
 try go_wp2_with (first | ((with_reducible refine gate_dst (N := 3) rfl ?_); refine box_event ?hg (N := 3) ?hd (cs := #[.int .i64 a0_0, .int .u64 a0_1]) (t := 24) ?hr ?_; (case hd => rfl); (case hg => rfl); (case hr => first | (go_simp; done) | (go_simp; rfl)); intro gb542 hg w8 hbox hb; have n0_ := aK (below_step (mvh HB.out) hb); have n1_ := aK (hbox); have n2_ := aK ((by rw [hg]; exact (below_size (mvh HB.out)) : w.heap.size ≤ gb542)); have n3_ := aK ((by rw [hg]; exact (below_size (mvh HB.out)) : w.heap.size ≤ gb542)); clear HB; have HB := n0_; have BK542 := n1_; have GW542 := n2_; have GE542 := n3_; clear n0_ n1_ n2_ n3_; clear hb hbox hg) | (go_at_call 16; (with_reducible refine (r3_Trim.calls k (fun k_ => k_ < w.heap.size) _ _ l1 t543 _ ?side1 A4.out).mono ?_); (case side1 => exact Kd.V_mk HC1.out (Kd.F_below (Kd.C_F (Kd.heap_int .u8) HR1.out) (mvh HB.out))); rintro e w9 ⟨v544, rfl, ho0, hb⟩; have n0_ := aK (Kd.R_lower (Kd.R_mono (ok' := fun k_ => True) ho0 (fun _ hk_ => trivial)) (below_size (mvh HB.out))); have n1_ := aK (kb BK542.out hb); have n2_ := aK (below_step (mvh HB.out) hb); clear BK542 HB; have HO545 := n0_; have BK542 := n1_; have HB := n2_; clear n0_ n1_ n2_; (try clear hb); (try clear ho0)) | (go_at_call 16; (with_reducible refine (r3_Trim.calls k (fun k_ => k_ < w.heap.size) _ _ l2 t546 _ ?side1 A5.out).mono ?_); (case side1 => exact Kd.V_mk HC2.out (Kd.F_below (Kd.C_F (Kd.heap_int .u8) HR2.out) (mvh HB.out))); rintro e w10 ⟨v547, rfl, ho0, hb⟩; have n0_ := aK (Kd.R_elder' (mvR HO545.out) (Kd.R_base ho0) hb); have n1_ := aK (Kd.R_lower (Kd.R_new' (Kd.R_mono (ok' := fun k_ => True) ho0 (fun _ hk_ => trivial)) (Kd.R_lt (mvR HO545.out))) (below_size (mvh HB.out))); have n2_ := aK (kb BK542.out hb); have n3_ := aK (below_step (mvh HB.out) hb); clear HO545 BK542 HB; have HO545 := n0_; have HO548 := n1_; have BK542 := n2_; have HB := n3_; clear n0_ n1_ n2_ n3_; (try clear hb); (try clear ho0)))
 have n0_ := aK (Kd.R_drew HO545.out)
 have n1_ := aK (Kd.R_drew HO548.out)
 have n2_ := aK (blk_drew BK542.out)
 have n3_ := aK (below_drew1 HB.out)
 clear HO545 HO548 BK542 HB
 have HO545 := n0_
 have HO548 := n1_
 have BK542 := n2_
 have HB := n3_
 clear n0_ n1_ n2_ n3_
 obtain ⟨Ao12, co12, eo12⟩ := Kd.R_slice HO548.out
 (first | subst eo12 | (injection eo12 with f1_ f2_ f3_; have f4_ := f1_.symm; have f5_ := f3_.symm; clear f1_ f2_ f3_; subst f4_; subst f5_))
 have p549 : 0 ≤ (0 : Int) := (by omega)
 have q549 : 0 < (t546.length : Int) := of_decide_eq_true (by first | (with_reducible assumption) | assumption)
 obtain ⟨ad549, e549, hx549_0⟩ := Kd.at_int (Kd.R_reads' HO548.out).2.2 0 p549 q549
 cases e549
 have qi549 : (0 < t546.length) = True := eq_true (by omega)
 (try rw [show ((0 : Int)).toNat = 0 from rfl] at hx549_0)
 (try rw [Addr.add_zero'] at hx549_0)
 replace p549 := eq_true p549
 replace q549 := eq_true q549
 refine start_ (n := 10) (S := fun w' => w'.cell? ⟨gb542, 0, none⟩ = some (.int .i64 a0_0) ∧ w'.cell? ⟨gb542, 1, none⟩ = some (.int .u64 a0_1) ∧ w'.cell? ad549 = some (.int .u8 (rd t546 0))) (ds := []) #[false, false, false, false, false, false, false, false, false, false] (by kernel_rfl) rfl rfl ⟨(blk_cell BK542.out 0).trans rfl, (blk_cell BK542.out 1).trans rfl, hx549_0⟩ (fun hHeld => ?_); refine with_tabW r3_divide.tab3 r3_divide.bits3 (fun HT_ HW_ => ?_)
 generalize w10.drew = w11 at HO545 HO548 BK542 HB hx549_0 hHeld ⊢
 refine pure_ (i := 1) (N := some 20) (v := ?_) (a' := ?_) #[false, true, false, false, false, false, false, false, false, false] rfl rfl (any_of HT_.out (by kernel_rfl)) (fun _ _ _ h => h) (Or.inl ⟨by rfl, ?_⟩) ?_ ?_
 rotate_left
 ·intro w'
  go_simp
  with_reducible rfl
 rotate_left
 ·simp only [Act.put, List.setIfInBounds_toArray, List.set_cons_zero, List.set_cons_succ, i64_w, i32_w]
  rfl
 refine pure_ (i := 2) (N := some 21) (v := ?_) (a' := ?_) #[false, true, true, false, false, false, false, false, false, false] rfl rfl (any_of HT_.out (by kernel_rfl)) (fun _ _ _ h => h) (Or.inl ⟨by rfl, ?_⟩) ?_ ?_
 rotate_left
 ·intro w'
  go_simp
  with_reducible rfl
 rotate_left
 ·simp only [Act.put, List.setIfInBounds_toArray, List.set_cons_zero, List.set_cons_succ, i64_w, i32_w]
  rfl
 refine take_ (i := 0) (N := some 19) (v := ?_) (a' := ?_) #[true, true, true, false, false, false, false, false, false, false] rfl rfl (take_ofW HT_.out HW_.out (by kernel_rfl)) (fun _ _ _ h => h) (Or.inl ⟨by rfl, ?_⟩) hHeld ?_ ?_
 rotate_left
 ·rintro w' ⟨s0, s1, s2⟩
  go_simp
  with_reducible rfl
 rotate_left
 ·simp only [Act.put, List.setIfInBounds_toArray, List.set_cons_zero, List.set_cons_succ, i64_w, i32_w]
  rfl
 refine take_ (i := 3) (N := some 22) (v := ?_) (a' := ?_) #[true, true, true, true, false, false, false, false, false, false] rfl rfl (take_ofW HT_.out HW_.out (by kernel_rfl)) (fun _ _ _ h => h) (Or.inl ⟨by rfl, ?_⟩) hHeld ?_ ?_
 rotate_left
 ·rintro w' ⟨s0, s1, s2⟩
  go_simp
  with_reducible rfl
 rotate_left
 ·simp only [Act.put, List.setIfInBounds_toArray, List.set_cons_zero, List.set_cons_succ, i64_w, i32_w]
  rfl
 refine one_ (i := 4) (N := some 23) #[true, true, true, true, true, false, false, false, false, false] rfl rfl (one_of HT_.out (by kernel_rfl)) (by decide) (fun K hK => ?_)
 refine goes_ Try.func47 (by kernel_rfl) rfl #[.agg #[.int .i64 a0_0, .int .u64 a0_1], .int .u8 (rd t546 0)] (by rfl) rfl rfl (by (try simp only [List.map_toArray, List.map_cons, List.map_nil]) <;> rfl) ?_
 with_reducible refine (r3_Inv.calls k a0_0 a0_1 (rd t546 0) t550 t551 _ A7.out).mono ?_
 rintro e w13 ⟨rfl, hb⟩
 have HS2_ := (hb.cell (World.block_lt_of_cell? _ _ (hHeld.2.2))).trans (hHeld.2.2)
 refine ⟨_, rfl, ?_⟩
 have n0_ := aK (Kd.R_below (mvR HO545.out) hb)
 have n1_ := aK (Kd.R_below (mvR HO548.out) hb)
 have n2_ := aK (kb BK542.out hb)
 have n3_ := aK (below_step (mvh HB.out) hb)
 clear HO545 HO548 BK542 HB
 have HO545 := n0_
 have HO548 := n1_
 have BK542 := n2_
 have HB := n3_
 clear n0_ n1_ n2_ n3_
 (try clear hb)
 refine hK.out _ _ ⟨(blk_cell BK542.out 0).trans rfl, (blk_cell BK542.out 1).trans rfl, HS2_⟩ (fun hHeld => ?_)
 clear hK K
 refine norm_ (a' := ?_) ?_ ?_
 rotate_left
 ·show Act.put _ (some 23) _ = _
  simp only [Act.put, List.setIfInBounds_toArray, List.set_cons_zero, List.set_cons_succ, i64_w, i32_w]
  rfl
 refine pure_ (i := 5) (N := some 18) (v := ?_) (a' := ?_) #[true, true, true, true, true, true, false, false, false, false] rfl rfl (any_of HT_.out (by kernel_rfl)) (fun _ _ _ h => h) (Or.inl ⟨by rfl, ?_⟩) ?_ ?_
 rotate_left
 ·intro w'
  go_simp
  with_reducible rfl
 rotate_left
 ·simp only [Act.put, List.setIfInBounds_toArray, List.set_cons_zero, List.set_cons_succ, i64_w, i32_w]
  rfl
 refine pure_ (i := 6) (N := some 24) (v := ?_) (a' := ?_) #[true, true, true, true, true, true, true, false, false, false] rfl rfl (any_of HT_.out (by kernel_rfl)) (fun _ _ _ h => h) (Or.inl ⟨by rfl, ?_⟩) ?_ ?_
 rotate_left
 ·intro w'
  go_simp
  with_reducible rfl
 rotate_left
 ·simp only [Act.put, List.setIfInBounds_toArray, List.set_cons_zero, List.set_cons_succ, i64_w, i32_w]
  rfl
 refine pure_ (i := 7) (N := some 25) (v := ?_) (a' := ?_) #[true, true, true, true, true, true, true, true, false, false] rfl rfl (any_of HT_.out (by kernel_rfl)) (fun _ _ _ h => h) (Or.inl ⟨by rfl, ?_⟩) ?_ ?_
 rotate_left
 ·intro w'
  go_simp
  with_reducible rfl
 rotate_left
 ·simp only [Act.put, List.setIfInBounds_toArray, List.set_cons_zero, List.set_cons_succ, i64_w, i32_w]
  rfl
 refine pure_ (i := 8) (N := some 9) (v := ?_) (a' := ?_) #[true, true, true, true, true, true, true, true, true, false] rfl rfl (any_of HT_.out (by kernel_rfl)) (fun _ _ _ h => h) (Or.inl ⟨by rfl, ?_⟩) ?_ ?_
 rotate_left
 ·intro w'
  go_simp
  with_reducible rfl
 rotate_left
 ·simp only [Act.put, List.setIfInBounds_toArray, List.set_cons_zero, List.set_cons_succ, i64_w, i32_w]
  rfl
 refine pure_ (i := 9) (N := some 10) (v := ?_) (a' := ?_) #[true, true, true, true, true, true, true, true, true, true] rfl rfl (any_of HT_.out (by kernel_rfl)) (fun _ _ _ h => h) (Or.inl ⟨by rfl, ?_⟩) ?_ ?_
 rotate_left
 ·intro w'
  go_simp
  with_reducible rfl
 rotate_left
 ·simp only [Act.put, List.setIfInBounds_toArray, List.set_cons_zero, List.set_cons_succ, i64_w, i32_w]
  rfl
 refine done_ (done_of HT_.out (by kernel_rfl)) ?_
 try go_wp2
 go_loopg [8, 11] k (fun kq v8 v11 w' => ∃ (x2_1 : List Int) (x8_1 : List Int) (x11_1 : List Int), Aside0 (r3_divide.l0 kq x2_1 x8_1 t550 x11_1 a0_0 a0_1 = some (r1, r2)) ∧ Aside0 (kq ≤ k) ∧ Aside0 (Kd.R (Kd.int .u8) 5 w' w.heap.size (fun k_ => some k_ ≠ (v8 : Value).ownBlock ∧ some k_ ≠ (v11 : Value).ownBlock) (.slice (some ad549) t546.length co12) x2_1) ∧ Aside0 (Kd.Q (Kd.int .u8) 5 w' w.heap.size (fun k_ => some k_ ≠ ((.slice (some ad549) t546.length co12) : Value).ownBlock ∧ some k_ ≠ (v11 : Value).ownBlock) v8 x8_1) ∧ Aside0 (Kd.R (Kd.int .u8) 5 w' w.heap.size (fun k_ => some k_ ≠ ((.slice (some ad549) t546.length co12) : Value).ownBlock ∧ some k_ ≠ (v8 : Value).ownBlock) v11 x11_1) ∧ Aside0 (w'.heap[gb542]? = some (.cells #[.int .i64 a0_0, .int .u64 a0_1] 24 (0, 0))) ∧ Aside0 (Below w.heap.size w w'))
 case atStart => exact ⟨(t546), (t543), (([] : List Int)), H', ⟨Nat.le_refl _⟩, ⟨by (with_reducible repeat (first | apply Kd.R_alloc | apply Kd.R_drewN | apply Kd.R_drew)); exact Kd.R_mono HO548.out (fun _ hk => ⟨hk.2, (by simp [Value.ownBlock])⟩)⟩, ⟨Kd.Q_of_R (by (with_reducible repeat (first | apply Kd.R_alloc | apply Kd.R_drewN | apply Kd.R_drew)); exact Kd.R_mono HO545.out (fun _ hk => ⟨hk.2, (by simp [Value.ownBlock])⟩))⟩, ⟨by first | exact Kd.R_nil _ _ _ _ _ | exact Kd.N_nil _ _ _ _ _ | exact Kd.V_nil _ _ _ _ _ | exact Kd.Q_nil _ _ _ _ _ | exact Kd.S_nil _ _ _ _ _⟩, ⟨mvb BK542.out⟩, ⟨mvh HB.out⟩⟩
 case round =>
  (try clear hHeld)
  clear H'
  (try clear c1); (try clear c2); (try clear p2); (try clear c4); (try clear c5); (try clear p5); (try clear q5); (try clear hx5); (try clear qi5); (try clear c6); (try clear c6b0); (try clear c6b1); (try clear hx549_0); (try clear p549); (try clear q549)
  obtain ⟨x2_1, x8_1, x11_1, HA, HK1, HO_2, HO_8, HO_11, BK542, HB⟩ := hrel
  have hl2_1 := (Kd.R_reads' HO_2.out).1
  rw [hl2_1] at HO_2
  (try simp only [hl2_1])
  (try simp only [hl2_1] at BK542)
  (try simp only [hl2_1] at HO_8)
  (try simp only [hl2_1] at HO_11)
  cases gk with
  | zero => exact absurd HA.out (by simp [r3_divide.l0])
  | succ k1 =>
   have H := HA.out
   clear HA
   simp only [r3_divide.l0] at H
   by_cases c14 : (x8_1.length : Int) ≥ (x2_1.length : Int)
   rotate_left
   ·rw [if_neg c14] at H
    have c14b0 : decide ((x2_1.length : Int) ≤ (x8_1.length : Int)) = false := decide_eq_false c14
    (try simp only [hl2_1] at c14b0)
    have c14b1 : decide (x2_1.length ≤ x8_1.length) = false := decide_eq_false (fun h => c14 (Int.ofNat_le.mpr h))
    (try simp only [hl2_1] at c14b1)
    clear c14
    replace H := Option.bind_eq_some_iff.mp H
    obtain ⟨t552, A320, H⟩ := H
    try dsimp only at H
    have A32 := Aside0.mk A320
    clear A320
    replace H := Option.bind_eq_some_iff.mp H
    obtain ⟨t555, A330, H⟩ := H
    replace H : (some (t552, t555)) = some (r1, r2) := H
    have A33 := Aside0.mk A330
    clear A330
    simp only [Option.some.injEq, Prod.mk.injEq] at H
    obtain ⟨rfl, rfl⟩ := H
    obtain ⟨Ao34, co34, eo34, _⟩ := Kd.Q_slice HO_8.out
    subst eo34
    obtain ⟨Ao35, co35, eo35⟩ := Kd.R_slice HO_11.out
    subst eo35
    go_wp2_with (first | (go_at_call 16; (with_reducible refine (r3_Trim.calls k1 (fun k_ => some k_ = (.slice Ao35 x11_1.length co35 : Value).ownBlock) _ _ x11_1 t552 _ ?side1 A32.out).mono ?_); (case side1 => exact Kd.R_V (Kd.R_tight rfl (Kd.R_types (HO_11.out) BK542.out (by decide)))); rintro e w36 ⟨v553, rfl, ho0, hb⟩; have n0_ := aK (Kd.R_elder' (mvR HO_2.out) (Kd.R_base ho0) hb); have n1_ := aK (Kd.Q_elder' (by (with_reducible repeat (first | apply Kd.Q_alloc | apply Kd.Q_drewN | apply Kd.Q_drew)); exact HO_8.out) (Kd.R_base ho0) hb); have n2_ := aK (Kd.R_elder' (mvR HO_11.out) (Kd.R_base ho0) hb); have n3_ := aK (Kd.R_lower (Kd.R_new' (Kd.R_new' (Kd.R_new' (Kd.R_mono (ok' := fun k_ => True) ho0 (fun _ hk_ => trivial)) (Kd.R_lt (mvR HO_2.out))) (Kd.Q_lt (by (with_reducible repeat (first | apply Kd.Q_alloc | apply Kd.Q_drewN | apply Kd.Q_drew)); exact HO_8.out))) (Kd.R_lt (mvR HO_11.out))) (below_size (mvh HB.out))); have n4_ := aK (kb BK542.out hb); have n5_ := aK (below_step (mvh HB.out) hb); clear HO_2 HO_8 HO_11 BK542 HB; have HO_2 := n0_; have HO_8 := n1_; have HO_11 := n2_; have HO554 := n3_; have BK542 := n4_; have HB := n5_; clear n0_ n1_ n2_ n3_ n4_ n5_; (try clear hb); (try clear ho0)) | (go_at_call 16; (with_reducible refine (r3_Trim.calls k1 (fun k_ => some k_ = (.slice Ao34 x8_1.length co34 : Value).ownBlock) _ _ x8_1 t555 _ ?side1 A33.out).mono ?_); (case side1 => exact Kd.Q_V (Kd.Q_tight rfl (Kd.Q_types (HO_8.out) BK542.out (by decide)))); rintro e w37 ⟨v556, rfl, ho0, hb⟩; have n0_ := aK (Kd.R_elder' (mvR HO_2.out) (Kd.R_base ho0) hb); have n1_ := aK (Kd.Q_elder' (by (with_reducible repeat (first | apply Kd.Q_alloc | apply Kd.Q_drewN | apply Kd.Q_drew)); exact HO_8.out) (Kd.R_base ho0) hb); have n2_ := aK (Kd.R_elder' (mvR HO_11.out) (Kd.R_base ho0) hb); have n3_ := aK (Kd.R_elder' (mvR HO554.out) (Kd.R_base ho0) hb); have n4_ := aK (Kd.R_lower (Kd.R_new' (Kd.R_new' (Kd.R_new' (Kd.R_new' (Kd.R_mono (ok' := fun k_ => True) ho0 (fun _ hk_ => trivial)) (Kd.R_lt (mvR HO_2.out))) (Kd.Q_lt (by (with_reducible repeat (first | apply Kd.Q_alloc | apply Kd.Q_drewN | apply Kd.Q_drew)); exact HO_8.out))) (Kd.R_lt (mvR HO_11.out))) (Kd.R_lt (mvR HO554.out))) (below_size (mvh HB.out))); have n5_ := aK (kb BK542.out hb); have n6_ := aK (below_step (mvh HB.out) hb); clear HO_2 HO_8 HO_11 HO554 BK542 HB; have HO_2 := n0_; have HO_8 := n1_; have HO_11 := n2_; have HO554 := n3_; have HO557 := n4_; have BK542 := n5_; have HB := n6_; clear n0_ n1_ n2_ n3_ n4_ n5_ n6_; (try clear hb); (try clear ho0)))
    go_ret2
    exact ⟨_, _, by first | rfl | (simp [errW_none, errW_some] <;> rfl) | (simp [*, errW_none, errW_some] <;> rfl), by (with_reducible repeat (first | apply Kd.R_alloc | apply Kd.R_drewN | apply Kd.R_drew)); exact Kd.R_mono HO554.out (fun _ hk => hk.2), by (with_reducible repeat (first | apply Kd.R_alloc | apply Kd.R_drewN | apply Kd.R_drew)); exact Kd.R_mono HO557.out (fun _ hk => hk.2), mvh HB.out⟩
   rw [if_pos c14] at H
   have c14b0 : decide ((x2_1.length : Int) ≤ (x8_1.length : Int)) = true := decide_eq_true c14
   (try simp only [hl2_1] at c14b0)
   have c14b1 : decide (x2_1.length ≤ x8_1.length) = true := decide_eq_true (Int.ofNat_le.mp c14)
   (try simp only [hl2_1] at c14b1)
   clear c14
   by_cases c15 : 0 < (x8_1.length : Int)
   rotate_left
   ·rw [if_neg c15] at H
    exact absurd H (by simp)
   rw [if_pos c15] at H
   have c15b0 : decide (0 < (x8_1.length : Int)) = true := decide_eq_true c15
   (try simp only [hl2_1] at c15b0)
   have c15b1 : decide (0 < x8_1.length) = true := decide_eq_true (by omega)
   (try simp only [hl2_1] at c15b1)
   clear c15
   replace H := Option.bind_eq_some_iff.mp H
   obtain ⟨t559, A160, H⟩ := H
   try dsimp only at H
   have A16 := Aside0.mk A160
   clear A160
   by_cases c17 : x11_1.length < 140737488355328
   rotate_left
   ·rw [if_neg c17] at H
    exact absurd H (by simp)
   rw [if_pos c17] at H
   have LMc17 := Aside0.mk c17
   clear c17
   obtain ⟨y560, hy560⟩ : ∃ y_ : List Int, y_ = (x11_1 ++ [t559]) := ⟨_, rfl⟩
   replace H : (r3_divide.l1 k1 x2_1 x8_1 t550 y560 t559 0 a0_0 a0_1) = some (r1, r2) := by rw [hy560]; exact H
   have Ny560 := Aside0.mk hy560
   clear hy560
   have H' := Aside0.mk H
   clear H
   obtain ⟨Ao18, co18, eo18, _⟩ := Kd.Q_slice HO_8.out
   subst eo18
   try go_wp2
   have n0_ := aK (Kd.R_drew HO_2.out)
   have n1_ := aK (Kd.Q_drew HO_8.out)
   have n2_ := aK (Kd.R_drew HO_11.out)
   have n3_ := aK (blk_drew BK542.out)
   have n4_ := aK (below_drew1 HB.out)
   clear HO_2 HO_8 HO_11 BK542 HB
   have HO_2 := n0_
   have HO_8 := n1_
   have HO_11 := n2_
   have BK542 := n3_
   have HB := n4_
   clear n0_ n1_ n2_ n3_ n4_
   have p558 : 0 ≤ (0 : Int) := (by omega)
   have q558 : 0 < (x8_1.length : Int) := of_decide_eq_true (by first | (with_reducible assumption) | assumption)
   obtain ⟨ad558, e558, hx558_0⟩ := Kd.at_int (Kd.Q_reads' HO_8.out).2.2 0 p558 q558
   cases e558
   have qi558 : (0 < x8_1.length) = True := eq_true (by omega)
   (try rw [show ((0 : Int)).toNat = 0 from rfl] at hx558_0)
   (try rw [Addr.add_zero'] at hx558_0)
   replace p558 := eq_true p558
   replace q558 := eq_true q558
   refine start_ (n := 7) (S := fun w' => w'.cell? ⟨gb542, 0, none⟩ = some (.int .i64 a0_0) ∧ w'.cell? ⟨gb542, 1, none⟩ = some (.int .u64 a0_1) ∧ w'.cell? ad558 = some (.int .u8 (rd x8_1 0))) (ds := []) #[false, false, false, false, false, false, false] (by kernel_rfl) rfl rfl ⟨(blk_cell BK542.out 0).trans rfl, (blk_cell BK542.out 1).trans rfl, hx558_0⟩ (fun hHeld => ?_)
   generalize wr.drew = w19 at HO_2 HO_8 HO_11 BK542 HB hx558_0 hHeld ⊢
   refine pure_ (i := 1) (N := some 32) (v := ?_) (a' := ?_) #[false, true, false, false, false, false, false] rfl rfl (by kernel_rfl) (fun _ _ _ h => h) (Or.inl ⟨by rfl, ?_⟩) ?_ ?_
   rotate_left
   ·intro w'
    go_simp
    with_reducible rfl
   rotate_left
   ·simp only [Act.put, List.setIfInBounds_toArray, List.set_cons_zero, List.set_cons_succ, i64_w, i32_w]
    rfl
   refine pure_ (i := 2) (N := some 33) (v := ?_) (a' := ?_) #[false, true, true, false, false, false, false] rfl rfl (by kernel_rfl) (fun _ _ _ h => h) (Or.inl ⟨by rfl, ?_⟩) ?_ ?_
   rotate_left
   ·intro w'
    go_simp
    with_reducible rfl
   rotate_left
   ·simp only [Act.put, List.setIfInBounds_toArray, List.set_cons_zero, List.set_cons_succ, i64_w, i32_w]
    rfl
   refine pure_ (i := 4) (N := some 35) (v := ?_) (a' := ?_) #[false, true, true, false, true, false, false] rfl rfl (by kernel_rfl) (fun _ _ _ h => h) (Or.inl ⟨by rfl, ?_⟩) ?_ ?_
   rotate_left
   ·intro w'
    go_simp
    with_reducible rfl
   rotate_left
   ·simp only [Act.put, List.setIfInBounds_toArray, List.set_cons_zero, List.set_cons_succ, i64_w, i32_w]
    rfl
   refine take_ (i := 0) (N := some 31) (v := ?_) (a' := ?_) #[true, true, true, false, true, false, false] rfl rfl (by kernel_rfl) (fun _ _ _ h => h) (Or.inl ⟨by rfl, ?_⟩) hHeld ?_ ?_
   rotate_left
   ·rintro w' ⟨s0, s1, s2⟩
    go_simp
    with_reducible rfl
   rotate_left
   ·simp only [Act.put, List.setIfInBounds_toArray, List.set_cons_zero, List.set_cons_succ, i64_w, i32_w]
    rfl
   refine take_ (i := 3) (N := some 34) (v := ?_) (a' := ?_) #[true, true, true, true, true, false, false] rfl rfl (by kernel_rfl) (fun _ _ _ h => h) (Or.inl ⟨by rfl, ?_⟩) hHeld ?_ ?_
   rotate_left
   ·rintro w' ⟨s0, s1, s2⟩
    go_simp
    with_reducible rfl
   rotate_left
   ·simp only [Act.put, List.setIfInBounds_toArray, List.set_cons_zero, List.set_cons_succ, i64_w, i32_w]
    rfl
   refine one_ (i := 5) (N := some 36) #[true, true, true, true, true, true, false] rfl rfl (by kernel_rfl) (by decide) (fun K hK => ?_)
   refine goes_ Try.func48 (by kernel_rfl) rfl #[.agg #[.int .i64 a0_0, .int .u64 a0_1], .int .u8 (rd x8_1 0), .int .u8 t550] (by rfl) rfl rfl (by (try simp only [List.map_toArray, List.map_cons, List.map_nil]) <;> rfl) ?_
   with_reducible refine (r3_quick.calls k1 a0_0 a0_1 (rd x8_1 0) t550 t559 _ A16.out).mono ?_
   rintro e w20 ⟨rfl, hb⟩
   have HS2_ := (hb.cell (World.block_lt_of_cell? _ _ (hHeld.2.2))).trans (hHeld.2.2)
   refine ⟨_, rfl, ?_⟩
   have n0_ := aK (Kd.R_below (mvR HO_2.out) hb)
   have n1_ := aK (Kd.Q_below (by (with_reducible repeat (first | apply Kd.Q_alloc | apply Kd.Q_drewN | apply Kd.Q_drew)); exact HO_8.out) hb)
   have n2_ := aK (Kd.R_below (mvR HO_11.out) hb)
   have n3_ := aK (kb BK542.out hb)
   have n4_ := aK (below_step (mvh HB.out) hb)
   clear HO_2 HO_8 HO_11 BK542 HB
   have HO_2 := n0_
   have HO_8 := n1_
   have HO_11 := n2_
   have BK542 := n3_
   have HB := n4_
   clear n0_ n1_ n2_ n3_ n4_
   (try clear hb)
   refine hK.out _ _ ⟨(blk_cell BK542.out 0).trans rfl, (blk_cell BK542.out 1).trans rfl, HS2_⟩ (fun hHeld => ?_)
   clear hK K
   refine norm_ (a' := ?_) ?_ ?_
   rotate_left
   ·show Act.put _ (some 36) _ = _
    simp only [Act.put, List.setIfInBounds_toArray, List.set_cons_zero, List.set_cons_succ, i64_w, i32_w]
    rfl
   refine pure_ (i := 6) (N := some 12) (v := ?_) (a' := ?_) #[true, true, true, true, true, true, true] rfl rfl (by kernel_rfl) (fun _ _ _ h => h) (Or.inl ⟨by rfl, ?_⟩) ?_ ?_
   rotate_left
   ·intro w'
    go_simp
    with_reducible rfl
   rotate_left
   ·simp only [Act.put, List.setIfInBounds_toArray, List.set_cons_zero, List.set_cons_succ, i64_w, i32_w]
    rfl
   refine done_ (by kernel_rfl) ?_
   try go_wp2_with (first | ((with_reducible refine gate_builtin (b := .append) (xs := #[.tmp 37, .tmp 39]) rfl ?_); at_builtin; refine Kd.R_append (Kd.int .u8) (w0 := w) w.heap.size rfl (.tmp 37) (.tmp 39) 25 5 (.int .u8 0) 1 rfl Try.underlying25 info5 rfl (by decide) (by omega) u11 x11_1 t559 [.int .u8 t559] (fun k_ => some k_ ≠ (.slice (some ad549) x2_1.length co12 : Value).ownBlock ∧ some k_ ≠ (.slice (some ad558) x8_1.length co18 : Value).ownBlock) (fun _ => False) rfl rfl ?aP (fun _ hk => hk.elim) ?aF ?aO ?aB ?aS ?aL ?_; (case aP => exact rfl); (case aB => exact (mvh HB.out)); (case aF => exact (fun k_ hk => ⟨Kd.fresh' (Kd.R_lt (mvR HO_2.out)) k_ hk, Kd.fresh' (Kd.Q_lt (by (with_reducible repeat (first | apply Kd.Q_alloc | apply Kd.Q_drewN | apply Kd.Q_drew)); exact HO_8.out)) k_ hk⟩)); (case aO => exact (mvR HO_11.out)); (case aS => exact (below_size (mvh HB.out))); (case aL => have := LMc17.out; omega); intro v561 w21 ho hb hg hat; rw [← Ny560.out] at ho; have n0_ := aK (Kd.R_after (ok := (fun k_ => some k_ ≠ (.slice (some ad558) x8_1.length co18 : Value).ownBlock)) (mvR HO_2.out) hg hat); have n1_ := aK (Kd.Q_after (ok := (fun k_ => some k_ ≠ (.slice (some ad549) x2_1.length co12 : Value).ownBlock)) (by (with_reducible repeat (first | apply Kd.Q_alloc | apply Kd.Q_drewN | apply Kd.Q_drew)); exact HO_8.out) hg hat); have n2_ := aK (blk_grown (g := gb542) (o := .cells #[.int .i64 a0_0, .int .u64 a0_1] 24 (0, 0)) (mvb BK542.out) hg (Kd.R_ne HO_11.out BK542.out (by decide))); have n3_ := aK (hb); have n4_ := aK (ho); clear HO_2 HO_8 BK542 HB HO_11; have HO_2 := n0_; have HO_8 := n1_; have BK542 := n2_; have HB := n3_; have HO562 := n4_; clear n0_ n1_ n2_ n3_ n4_; clear ho hb hg hat))
   go_loopg [13] k1 (fun kq v13 w' => ∃ (x8_2 : List Int) (x13_2 : Int), v13 = .int .i64 x13_2 ∧ Aside0 (r3_divide.l1 kq x2_1 x8_2 t550 y560 t559 x13_2 a0_0 a0_1 = some (r1, r2)) ∧ Aside0 (kq ≤ k1) ∧ Aside0 (Kd.R (Kd.int .u8) 5 w' w.heap.size (fun k_ => some k_ ≠ ((.slice (some ad558) x8_1.length co18) : Value).ownBlock ∧ some k_ ≠ (v561 : Value).ownBlock) (.slice (some ad549) x2_1.length co12) x2_1) ∧ Aside0 (Kd.Q (Kd.int .u8) 5 w' w.heap.size (fun k_ => some k_ ≠ ((.slice (some ad549) x2_1.length co12) : Value).ownBlock ∧ some k_ ≠ (v561 : Value).ownBlock) (.slice (some ad558) x8_1.length co18) x8_2) ∧ Aside0 (Kd.R (Kd.int .u8) 5 w' w.heap.size (fun k_ => some k_ ≠ ((.slice (some ad549) x2_1.length co12) : Value).ownBlock ∧ some k_ ≠ ((.slice (some ad558) x8_1.length co18) : Value).ownBlock) v561 y560) ∧ Aside0 (w'.heap[gb542]? = some (.cells #[.int .i64 a0_0, .int .u64 a0_1] 24 (0, 0))) ∧ Aside0 (Below w.heap.size w w'))
   case atStart => exact ⟨(x8_1), (0), (by first | rfl | (simp; done) | (simp [*]; done) | (simp [wrap64]; done)), H', ⟨Nat.le_refl _⟩, ⟨by (try simp only [hl2_1]); exact mvR HO_2.out⟩, ⟨by (try simp only [hl2_1]); (with_reducible repeat (first | apply Kd.Q_alloc | apply Kd.Q_drewN | apply Kd.Q_drew)); exact HO_8.out⟩, ⟨by (try simp only [hl2_1]); exact mvR HO562.out⟩, ⟨by (try simp only [hl2_1]); exact mvb BK542.out⟩, ⟨mvh HB.out⟩⟩
   case round =>
    (try clear hHeld)
    clear H'
    (try clear c1); (try clear c2); (try clear p2); (try clear c4); (try clear c5); (try clear p5); (try clear q5); (try clear hx5); (try clear qi5); (try clear c6); (try clear c6b0); (try clear c6b1); (try clear p6); (try clear c14); (try clear c14b0); (try clear c14b1); (try clear c15); (try clear c15b0)
    (try clear c15b1); (try clear c16); (try clear c17); (try clear hx549_0); (try clear hx558_0); (try clear p2); (try clear p5); (try clear p549); (try clear p558); (try clear q5); (try clear q549); (try clear q558)
    obtain ⟨x8_2, x13_2, rfl, HA, HK2, HO_2, HO_8, HO_11, BK542, HB⟩ := hrel
    have hl8_2 := (Kd.Q_reads' HO_8.out).1
    rw [hl8_2] at HO_8
    (try simp only [hl8_2])
    (try simp only [hl8_2] at BK542)
    (try simp only [hl8_2] at HO_2)
    (try simp only [hl8_2] at HO_11)
    cases gk with
    | zero => exact absurd HA.out (by simp [r3_divide.l1])
    | succ k2 =>
     have H := HA.out
     clear HA
     simp only [r3_divide.l1] at H
     by_cases c22 : x13_2 < (x2_1.length : Int)
     rotate_left
     ·rw [if_neg c22] at H
      have c22b0 : decide (x13_2 < (x2_1.length : Int)) = false := decide_eq_false c22
      (try simp only [hl2_1, hl8_2] at c22b0)
      clear c22
      by_cases c30 : 1 ≤ (x8_2.length : Int)
      rotate_left
      ·rw [if_neg c30] at H
       exact absurd H (by simp)
      rw [if_pos c30] at H
      have c30b0 := eq_true c30
      have c30b1 : decide (1 ≤ (x8_2.length : Int)) = true := decide_eq_true c30
      clear c30
      obtain ⟨y567, hy567⟩ : ∃ y_ : List Int, y_ = (x8_2.drop (1 : Int).toNat) := ⟨_, rfl⟩
      replace H : (r3_divide.l0 k2 x2_1 y567 t550 y560 a0_0 a0_1) = some (r1, r2) := by rw [hy567]; exact H
      have Ny567 := Aside0.mk hy567
      clear hy567
      have H' := Aside0.mk H
      clear H
      have q31 : (1 : Int) ≤ ((x8_2.length : Int) : Int) := of_decide_eq_true (by first | (with_reducible assumption) | assumption)
      obtain ⟨i031, hi031, _, hsz31, _⟩ := info_parts info5
      have hcut31 := cut_from (P := Try.prog) 25 5 .i64 Try.underlying25 hi031 1 hsz31 (some ad558) x8_2.length co18 1 (by omega) q31
      have hr31 := Kd.Q_drop (k := (1 : Int).toNat) HO_8.out (by omega)
      obtain ⟨A31, hA31⟩ : ∃ A1, A1 = (if co18 = (1 : Int).toNat then (some ad558) else ((some ad558) : Option Addr).map (·.add ((1 : Int).toNat * 1))) := ⟨_, rfl⟩
      obtain ⟨c31, hc31⟩ : ∃ c1, c1 = co18 - (1 : Int).toNat := ⟨_, rfl⟩
      have hy31 : y567.length = x8_2.length - (1 : Int).toNat := (by rw [Ny567.out, List.length_drop])
      rw [← Ny567.out] at hr31
      rw [← hy31, ← hA31, ← hc31] at hcut31
      replace hr31 : Kd.Q (Kd.int .u8) 5 wr w.heap.size (fun k_ => some k_ ≠ (.slice (some ad549) x2_1.length co12 : Value).ownBlock ∧ some k_ ≠ (v561 : Value).ownBlock) (.slice A31 y567.length c31) y567 := (by rw [hA31, hc31, hy31]; exact hr31)
      have HE31 : Aside0 ((Value.slice A31 y567.length c31).ownBlock = (.slice (some ad558) x8_2.length co18 : Value).ownBlock) := ⟨by rw [hA31]; split <;> (cases ((some ad558) : Option Addr) <;> rfl)⟩
      clear hy31 hi031 hsz31 HO_8 hA31 hc31
      have HO569 := Aside0.mk hr31
      clear hr31
      replace q31 := eq_true q31
      have n_ := aK (Kd.R_mono (ok' := fun k_ => (some k_ ≠ (.slice A31 y567.length c31 : Value).ownBlock ∧ some k_ ≠ (v561 : Value).ownBlock)) HO_2.out (fun k_ hk => ⟨(by rw [HE31.out]; exact hk.1), hk.2⟩))
      clear HO_2
      have HO_2 := n_
      clear n_
      have n_ := aK (Kd.R_mono (ok' := fun k_ => (some k_ ≠ (.slice (some ad549) x2_1.length co12 : Value).ownBlock ∧ some k_ ≠ (.slice A31 y567.length c31 : Value).ownBlock)) HO_11.out (fun k_ hk => ⟨hk.1, (by rw [HE31.out]; exact hk.2)⟩))
      clear HO_11
      have HO_11 := n_
      clear n_
      go_wp2
      (try simp only [← hl2_1, ← hl8_2])
      go_roundg k2
      case measure => have := HK1.out; have := HK2.out; omega
      case rel => exact ⟨(x2_1), (y567), (y560), H', ⟨by have := HK1.out; have := HK2.out; omega⟩, ⟨by (try simp only [hl2_1]); (try simp only [hl8_2]); exact mvR HO_2.out⟩, ⟨by (try simp only [hl2_1]); (try simp only [hl8_2]); (with_reducible repeat (first | apply Kd.Q_alloc | apply Kd.Q_drewN | apply Kd.Q_drew)); exact HO569.out⟩, ⟨by (try simp only [hl2_1]); (try simp only [hl8_2]); exact mvR HO_11.out⟩, ⟨by (try simp only [hl2_1]); (try simp only [hl8_2]); exact mvb BK542.out⟩, ⟨mvh HB.out⟩⟩
     rw [if_pos c22] at H
     have c22b0 : decide (x13_2 < (x2_1.length : Int)) = true := decide_eq_true c22
     (try simp only [hl2_1, hl8_2] at c22b0)
     clear c22
     by_cases c23 : 0 ≤ x13_2
     rotate_left
     ·rw [if_neg c23] at H
      exact absurd H (by simp)
     rw [if_pos c23] at H
     have c23b0 : decide (0 ≤ x13_2) = true := decide_eq_true c23
     clear c23
     by_cases c24 : x13_2 < (x8_2.length : Int)
     rotate_left
     ·rw [if_neg c24] at H
      exact absurd H (by simp)
     rw [if_pos c24] at H
     have c24b0 : decide (x13_2 < (x8_2.length : Int)) = true := decide_eq_true c24
     (try simp only [hl2_1, hl8_2] at c24b0)
     clear c24
     replace H := Option.bind_eq_some_iff.mp H
     obtain ⟨t565, A250, H⟩ := H
     try dsimp only at H
     have A25 := Aside0.mk A250
     clear A250
     obtain ⟨y566, hy566⟩ : ∃ y_ : List Int, y_ = (x8_2.set (x13_2 : Int).toNat (Go.bits .xor .u8 (rd x8_2 x13_2) t565)) := ⟨_, rfl⟩
     replace H : (r3_divide.l1 k2 x2_1 y566 t550 y560 t559 (wrap64 (x13_2 + 1)) a0_0 a0_1) = some (r1, r2) := by rw [hy566]; exact H
     have Ny566 := Aside0.mk hy566
     clear hy566
     have H' := Aside0.mk H
     clear H
     try go_wp2
     have n0_ := aK (Kd.R_drew HO_2.out)
     have n1_ := aK (Kd.Q_drew HO_8.out)
     have n2_ := aK (Kd.R_drew HO_11.out)
     have n3_ := aK (blk_drew BK542.out)
     have n4_ := aK (below_drew1 HB.out)
     clear HO_2 HO_8 HO_11 BK542 HB
     have HO_2 := n0_
     have HO_8 := n1_
     have HO_11 := n2_
     have BK542 := n3_
     have HB := n4_
     clear n0_ n1_ n2_ n3_ n4_
     have p563 : 0 ≤ (x13_2 : Int) := of_decide_eq_true (by first | (with_reducible assumption) | assumption)
     have q563 : x13_2 < (x8_2.length : Int) := of_decide_eq_true (by first | (with_reducible assumption) | assumption)
     obtain ⟨ad563, e563, hx563_0⟩ := Kd.at_int (Kd.Q_reads' HO_8.out).2.2 x13_2 p563 q563
     obtain rfl : ad558 = ad563 := (by injection e563)
     replace p563 := eq_true p563
     replace q563 := eq_true q563
     have p564 : 0 ≤ (x13_2 : Int) := of_decide_eq_true (by first | (with_reducible assumption) | assumption)
     have q564 : x13_2 < (x2_1.length : Int) := of_decide_eq_true (by first | (with_reducible assumption) | assumption)
     obtain ⟨ad564, e564, hx564_0⟩ := Kd.at_int (Kd.R_reads' HO_2.out).2.2 x13_2 p564 q564
     obtain rfl : ad549 = ad564 := (by injection e564)
     replace p564 := eq_true p564
     replace q564 := eq_true q564
     refine start_ (n := 16) (S := fun w' => w'.cell? ⟨gb542, 0, none⟩ = some (.int .i64 a0_0) ∧ w'.cell? ⟨gb542, 1, none⟩ = some (.int .u64 a0_1) ∧ w'.cell? (ad558.add (x13_2).toNat) = some (.int .u8 (rd x8_2 x13_2)) ∧ w'.cell? (ad549.add (x13_2).toNat) = some (.int .u8 (rd x2_1 x13_2))) (ds := [15]) #[false, false, false, false, false, false, false, false, false, false, false, false, false, false, false, false] (by kernel_rfl) rfl rfl ⟨(blk_cell BK542.out 0).trans rfl, (blk_cell BK542.out 1).trans rfl, hx563_0, hx564_0⟩ (fun hHeld => ?_); refine with_tabW r3_divide.tab11 r3_divide.bits11 (fun HT_ HW_ => ?_)
     generalize wr.drew = w27 at HO_2 HO_8 HO_11 BK542 HB hx563_0 hx564_0 hHeld ⊢
     refine pure_ (i := 0) (N := some 47) (v := ?_) (a' := ?_) #[true, false, false, false, false, false, false, false, false, false, false, false, false, false, false, false] rfl rfl (any_of HT_.out (by kernel_rfl)) (fun _ _ _ h => h) (Or.inl ⟨by rfl, ?_⟩) ?_ ?_
     rotate_left
     ·intro w'
      go_simp
      with_reducible rfl
     rotate_left
     ·simp only [Act.put, List.setIfInBounds_toArray, List.set_cons_zero, List.set_cons_succ, i64_w, i32_w]
      rfl
     refine pure_ (i := 1) (N := some 48) (v := ?_) (a' := ?_) #[true, true, false, false, false, false, false, false, false, false, false, false, false, false, false, false] rfl rfl (any_of HT_.out (by kernel_rfl)) (fun _ _ _ h => h) (Or.inl ⟨by rfl, ?_⟩) ?_ ?_
     rotate_left
     ·intro w'
      go_simp
      with_reducible rfl
     rotate_left
     ·simp only [Act.put, List.setIfInBounds_toArray, List.set_cons_zero, List.set_cons_succ, i64_w, i32_w]
      rfl
     refine pure_ (i := 2) (N := some 49) (v := ?_) (a' := ?_) #[true, true, true, false, false, false, false, false, false, false, false, false, false, false, false, false] rfl rfl (any_of HT_.out (by kernel_rfl)) (fun _ _ _ h => h) (Or.inl ⟨by rfl, ?_⟩) ?_ ?_
     rotate_left
     ·intro w'
      go_simp
      with_reducible rfl
     rotate_left
     ·simp only [Act.put, List.setIfInBounds_toArray, List.set_cons_zero, List.set_cons_succ, i64_w, i32_w]
      rfl
     refine pure_ (i := 3) (N := some 50) (v := ?_) (a' := ?_) #[true, true, true, true, false, false, false, false, false, false, false, false, false, false, false, false] rfl rfl (any_of HT_.out (by kernel_rfl)) (fun _ _ _ h => h) (Or.inl ⟨by rfl, ?_⟩) ?_ ?_
     rotate_left
     ·intro w'
      go_simp
      with_reducible rfl
     rotate_left
     ·simp only [Act.put, List.setIfInBounds_toArray, List.set_cons_zero, List.set_cons_succ, i64_w, i32_w]
      rfl
     refine pure_ (i := 4) (N := some 51) (v := ?_) (a' := ?_) #[true, true, true, true, true, false, false, false, false, false, false, false, false, false, false, false] rfl rfl (any_of HT_.out (by kernel_rfl)) (fun _ _ _ h => h) (Or.inl ⟨by rfl, ?_⟩) ?_ ?_
     rotate_left
     ·intro w'
      go_simp
      with_reducible rfl
     rotate_left
     ·simp only [Act.put, List.setIfInBounds_toArray, List.set_cons_zero, List.set_cons_succ, i64_w, i32_w]
      rfl
     refine pure_ (i := 7) (N := some 54) (v := ?_) (a' := ?_) #[true, true, true, true, true, false, false, true, false, false, false, false, false, false, false, false] rfl rfl (any_of HT_.out (by kernel_rfl)) (fun _ _ _ h => h) (Or.inl ⟨by rfl, ?_⟩) ?_ ?_
     rotate_left
     ·intro w'
      go_simp
      with_reducible rfl
     rotate_left
     ·simp only [Act.put, List.setIfInBounds_toArray, List.set_cons_zero, List.set_cons_succ, i64_w, i32_w]
      rfl
     refine pure_ (i := 8) (N := some 55) (v := ?_) (a' := ?_) #[true, true, true, true, true, false, false, true, true, false, false, false, false, false, false, false] rfl rfl (any_of HT_.out (by kernel_rfl)) (fun _ _ _ h => h) (Or.inl ⟨by rfl, ?_⟩) ?_ ?_
     rotate_left
     ·intro w'
      go_simp
      with_reducible rfl
     rotate_left
     ·simp only [Act.put, List.setIfInBounds_toArray, List.set_cons_zero, List.set_cons_succ, i64_w, i32_w]
      rfl
     refine pure_ (i := 9) (N := some 56) (v := ?_) (a' := ?_) #[true, true, true, true, true, false, false, true, true, true, false, false, false, false, false, false] rfl rfl (any_of HT_.out (by kernel_rfl)) (fun _ _ _ h => h) (Or.inl ⟨by rfl, ?_⟩) ?_ ?_
     rotate_left
     ·intro w'
      go_simp
      with_reducible rfl
     rotate_left
     ·simp only [Act.put, List.setIfInBounds_toArray, List.set_cons_zero, List.set_cons_succ, i64_w, i32_w]
      rfl
     refine pure_ (i := 10) (N := some 57) (v := ?_) (a' := ?_) #[true, true, true, true, true, false, false, true, true, true, true, false, false, false, false, false] rfl rfl (any_of HT_.out (by kernel_rfl)) (fun _ _ _ h => h) (Or.inl ⟨by rfl, ?_⟩) ?_ ?_
     rotate_left
     ·intro w'
      go_simp
      with_reducible rfl
     rotate_left
     ·simp only [Act.put, List.setIfInBounds_toArray, List.set_cons_zero, List.set_cons_succ, i64_w, i32_w]
      rfl
     refine take_ (i := 5) (N := some 52) (v := ?_) (a' := ?_) #[true, true, true, true, true, true, false, true, true, true, true, false, false, false, false, false] rfl rfl (take_ofW HT_.out HW_.out (by kernel_rfl)) (fun _ _ _ h => h) (Or.inl ⟨by rfl, ?_⟩) hHeld ?_ ?_
     rotate_left
     ·rintro w' ⟨s0, s1, s2, s3⟩
      go_simp
      with_reducible rfl
     rotate_left
     ·simp only [Act.put, List.setIfInBounds_toArray, List.set_cons_zero, List.set_cons_succ, i64_w, i32_w]
      rfl
     refine take_ (i := 6) (N := some 53) (v := ?_) (a' := ?_) #[true, true, true, true, true, true, true, true, true, true, true, false, false, false, false, false] rfl rfl (take_ofW HT_.out HW_.out (by kernel_rfl)) (fun _ _ _ h => h) (Or.inl ⟨by rfl, ?_⟩) hHeld ?_ ?_
     rotate_left
     ·rintro w' ⟨s0, s1, s2, s3⟩
      go_simp
      with_reducible rfl
     rotate_left
     ·simp only [Act.put, List.setIfInBounds_toArray, List.set_cons_zero, List.set_cons_succ, i64_w, i32_w]
      rfl
     refine take_ (i := 11) (N := some 58) (v := ?_) (a' := ?_) #[true, true, true, true, true, true, true, true, true, true, true, true, false, false, false, false] rfl rfl (take_ofW HT_.out HW_.out (by kernel_rfl)) (fun _ _ _ h => h) (Or.inl ⟨by rfl, ?_⟩) hHeld ?_ ?_
     rotate_left
     ·rintro w' ⟨s0, s1, s2, s3⟩
      go_simp
      with_reducible rfl
     rotate_left
     ·simp only [Act.put, List.setIfInBounds_toArray, List.set_cons_zero, List.set_cons_succ, i64_w, i32_w]
      rfl
     refine one_ (i := 12) (N := some 59) #[true, true, true, true, true, true, true, true, true, true, true, true, true, false, false, false] rfl rfl (one_of HT_.out (by kernel_rfl)) (by decide) (fun K hK => ?_)
     refine goes_ Try.func48 (by kernel_rfl) rfl #[.agg #[.int .i64 a0_0, .int .u64 a0_1], .int .u8 t559, .int .u8 (rd x2_1 x13_2)] (by rfl) rfl rfl (by (try simp only [List.map_toArray, List.map_cons, List.map_nil]) <;> rfl) ?_
     with_reducible refine (r3_quick.calls k2 a0_0 a0_1 t559 (rd x2_1 x13_2) t565 _ A25.out).mono ?_
     rintro e w28 ⟨rfl, hb⟩
     have HS2_ := (hb.cell (World.block_lt_of_cell? _ _ (hHeld.2.2.1))).trans (hHeld.2.2.1)
     have HS3_ := (hb.cell (World.block_lt_of_cell? _ _ (hHeld.2.2.2))).trans (hHeld.2.2.2)
     refine ⟨_, rfl, ?_⟩
     have n0_ := aK (Kd.R_below (mvR HO_2.out) hb)
     have n1_ := aK (Kd.Q_below (by (with_reducible repeat (first | apply Kd.Q_alloc | apply Kd.Q_drewN | apply Kd.Q_drew)); exact HO_8.out) hb)
     have n2_ := aK (Kd.R_below (mvR HO_11.out) hb)
     have n3_ := aK (kb BK542.out hb)
     have n4_ := aK (below_step (mvh HB.out) hb)
     clear HO_2 HO_8 HO_11 BK542 HB
     have HO_2 := n0_
     have HO_8 := n1_
     have HO_11 := n2_
     have BK542 := n3_
     have HB := n4_
     clear n0_ n1_ n2_ n3_ n4_
     (try clear hb)
     have p26 : 0 ≤ (x13_2 : Int) := of_decide_eq_true (by first | (with_reducible assumption) | assumption)
     have q26 : (x13_2 : Int) < ((x8_2.length : Int) : Int) := of_decide_eq_true (by first | (with_reducible assumption) | assumption)
     obtain ⟨go26, oo26, co26, eo26, gb26, gl26, cl26, HG26⟩ := Kd.Q_form HO_8.out (by omega)
     (first | cases eo26 | (injection eo26 with ea_ en_ ec_; (first | subst ea_ | (injection ea_ with ea_; subst ea_)); subst ec_; clear en_))
     have GB26 := Aside0.mk gb26
     have GG26 := Aside0.mk HG26
     clear gb26 gl26 HG26
     (first | simp only [add_at] at hx558_0 | skip)
     (first | simp only [add_at] at hx563_0 | skip)
     obtain ⟨hx26_0, hf26_0⟩ := Kd.Q_cell 0 HO_8.out (x13_2 : Int) p26 q26
     replace p26 := eq_true p26
     replace q26 := eq_true q26
     have HP29 := (Kd.Q_putg HO_8.out (x13_2 : Int) (of_decide_eq_true (by first | (with_reducible assumption) | assumption)) (by have h_ : (x13_2 : Int) < ((x8_2.length : Int) : Int) := of_decide_eq_true (by first | (with_reducible assumption) | assumption); first | exact h_ | (have e_ := (Kd.Q_reads' HO_8.out).1; omega) | simpa using h_) (Go.bits .xor .u8 (rd x8_2 x13_2) t565)).1
     rw [← Ny566.out] at HP29
     have HQ29 := Aside0.mk HP29
     clear HP29
     refine hK.out _ _ ⟨(blk_cell BK542.out 0).trans rfl, (blk_cell BK542.out 1).trans rfl, HS2_, HS3_⟩ (fun hHeld => ?_)
     clear hK K
     refine norm_ (a' := ?_) ?_ ?_
     rotate_left
     ·show Act.put _ (some 59) _ = _
      simp only [Act.put, List.setIfInBounds_toArray, List.set_cons_zero, List.set_cons_succ, i64_w, i32_w]
      rfl
     refine pure_ (i := 13) (N := some 60) (v := ?_) (a' := ?_) #[true, true, true, true, true, true, true, true, true, true, true, true, true, true, false, false] rfl rfl (any_of HT_.out (by kernel_rfl)) (fun _ _ _ h => h) (Or.inl ⟨by rfl, ?_⟩) ?_ ?_
     rotate_left
     ·intro w'
      go_simp
      with_reducible rfl
     rotate_left
     ·simp only [Act.put, List.setIfInBounds_toArray, List.set_cons_zero, List.set_cons_succ, i64_w, i32_w]
      rfl
     refine pure_ (i := 14) (N := some 61) (v := ?_) (a' := ?_) #[true, true, true, true, true, true, true, true, true, true, true, true, true, true, true, false] rfl rfl (any_of HT_.out (by kernel_rfl)) (fun _ _ _ h => h) (Or.inl ⟨by rfl, ?_⟩) ?_ ?_
     rotate_left
     ·intro w'
      go_simp
      with_reducible rfl
     rotate_left
     ·simp only [Act.put, List.setIfInBounds_toArray, List.set_cons_zero, List.set_cons_succ, i64_w, i32_w]
      rfl
     refine last_ (i := 15) (N := none) #[true, true, true, true, true, true, true, true, true, true, true, true, true, true, true, true] rfl rfl (one_of HT_.out (by kernel_rfl)) (by decide) (fun K hK => ?_)
     refine skip_ (w1 := ?_) (by rfl) rfl ?_ ?_
     rotate_left
     ·go_simp
      rfl
     refine hK.out _ _ ?_
     clear hK K
     refine done_ (done_of HT_.out (by kernel_rfl)) ?_
     try go_wp2
     (try simp only [← hl8_2])
     go_roundg k2
     case measure => have := HK1.out; have := HK2.out; omega
     case rel => exact ⟨(y566), (wrap64 (x13_2 + 1)), (by first | rfl | (simp; done) | (simp [*]; done) | (simp [wrap64]; done)), H', ⟨by have := HK1.out; have := HK2.out; omega⟩, ⟨by (try simp only [hl2_1]); (try simp only [hl8_2]); (with_reducible repeat (first | apply Kd.R_alloc | apply Kd.R_drewN | apply Kd.R_drew)); exact Kd.R_mono (Kd.R_far (p := ⟨go26, oo26 + (x13_2 : Int).toNat, none⟩) (Kd.R_mono HO_2.out (fun k_ hk => (⟨hk, fun e_ => hk.1 (by rw [e_]; rfl)⟩ : _ ∧ k_ ≠ go26))) (fun _ hk => hk.2) (.int .u8 (Go.bits .xor .u8 (rd x8_2 x13_2) t565))) (fun _ hk => ⟨hk.1.1, hk.1.2⟩)⟩, ⟨by (try simp only [hl2_1]); (try simp only [hl8_2]); (with_reducible repeat (first | apply Kd.Q_alloc | apply Kd.Q_drewN | apply Kd.Q_drew)); exact HQ29.out⟩, ⟨by (try simp only [hl2_1]); (try simp only [hl8_2]); (with_reducible repeat (first | apply Kd.R_alloc | apply Kd.R_drewN | apply Kd.R_drew)); exact Kd.R_mono (Kd.R_far (p := ⟨go26, oo26 + (x13_2 : Int).toNat, none⟩) (Kd.R_mono HO_11.out (fun k_ hk => (⟨hk, fun e_ => hk.2 (by rw [e_]; rfl)⟩ : _ ∧ k_ ≠ go26))) (fun _ hk => hk.2) (.int .u8 (Go.bits .xor .u8 (rd x8_2 x13_2) t565))) (fun _ hk => ⟨hk.1.1, hk.1.2⟩)⟩, ⟨by (try simp only [hl2_1]); (try simp only [hl8_2]); (with_reducible repeat (first | apply bN | apply bD | apply bA)); refine blk_far ?_ (by have h_ := Kd.Q_ne HO_8.out BK542.out (by decide); intro e_; exact h_ (by rw [e_]; rfl)) _; exact mvb BK542.out⟩, ⟨by repeat (first | (with_reducible first | exact HB.out | apply below_alloc | apply pw_below_drewN | apply below_drew1 | refine below_set ?_ GB26.out | refine below_set ?_ GE542.out) | exact HB.out)⟩⟩
end Go.Proofs.Ytjdkamhnbheofaa.P

-- squeezed
