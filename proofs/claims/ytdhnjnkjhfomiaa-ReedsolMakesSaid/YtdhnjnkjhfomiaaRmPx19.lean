-- written by mk.sh, a program of this session, over the kit's print
import Derived.Test.YtdhnjnkjhfomiaaRmPx0
import Derived.Test.YtdhnjnkjhfomiaaRmPx9
import Derived.Test.YtdhnjnkjhfomiaaRmPx10
namespace Go.Proofs.Ytdhnjnkjhfomiaa.P
open Go.RowKit YtdhnjnkjhfomiaaW.PrintWords YtdhnjnkjhfomiaaW.PrintLast YtdhnjnkjhfomiaaW.PrintMore
attribute [local go_sem] max2_int min2_int max_two min_two max_three min_three max_four min_four   -- for this text's walks alone
set_option linter.unusedVariables false
set_option linter.unusedSimpArgs false

mutual
def r4_Generator.l0 : Nat → List Int → Int → Int → Int → Int → Int → Option (List Int × Int)
 | 0,_,_,_,_,_,_ => none
 | k + 1,x5,x6,x486000,x486001,x486002,x486003 => if x6 < x486003 then ((r4_power.f k x486000 x486001 (wrap64 (x486002 + x6))).bind fun t490 => ((some (([] : List Int) : List Int)).bind fun y491 => (if y491.length + x5.length < 140737488355328 then ((some (y491 ++ x5 : List Int)).bind fun y494 => (if y494.length < 140737488355328 then (r4_Generator.l1 k x5 x6 t490 (y494 ++ [0]) 0 x486000 x486001 x486002 x486003) else (none))) else (none)))) else (some (x5,0))
def r4_Generator.l1 : Nat → List Int → Int → Int → List Int → Int → Int → Int → Int → Int → Option (List Int × Int)
 | 0,_,_,_,_,_,_,_,_,_ => none
 | k + 1,x5,x6,x7,x8,x9,x486000,x486001,x486002,x486003 => if x9 < (x5.length : Int) then (if 0 ≤ (wrap64 (x9 + 1)) then (if (wrap64 (x9 + 1)) < (x8.length : Int) then (if 0 ≤ x9 then ((r4_mul.f k x486000 x486001 (rd x5 x9) x7).bind fun t502 => (r4_Generator.l1 k x5 x6 x7 (x8.set ((wrap64 (x9 + 1)) : Int).toNat (Go.bits .xor .u8 (rd x8 (wrap64 (x9 + 1))) t502)) (wrap64 (x9 + 1)) x486000 x486001 x486002 x486003)) else (none)) else (none)) else (none)) else (r4_Generator.l0 k x8 (wrap64 (x6 + 1)) x486000 x486001 x486002 x486003)
end
def r4_Generator.f (k : Nat) (a0_0 : Int) (a0_1 : Int) (a0_2 : Int) (a0_3 : Int) : Option (List Int × Int) := (r4_Check.f k a0_0 a0_1 a0_2 a0_3).bind fun t486 => (if t486 = 0 then (r4_Generator.l0 k (([1] : List Int)) 0 a0_0 a0_1 a0_2 a0_3) else (some (([] : List Int),t486)))
theorem r4_Generator.mono_l : ∀ k,(∀ y0 y1 y2 y3 y4 y5,LeO (r4_Generator.l0 k y0 y1 y2 y3 y4 y5) (r4_Generator.l0 (k + 1) y0 y1 y2 y3 y4 y5)) ∧ (∀ y0 y1 y2 y3 y4 y5 y6 y7 y8,LeO (r4_Generator.l1 k y0 y1 y2 y3 y4 y5 y6 y7 y8) (r4_Generator.l1 (k + 1) y0 y1 y2 y3 y4 y5 y6 y7 y8))
 | 0 => ⟨fun _ _ _ _ _ _ r h => by simp [r4_Generator.l0] at h,fun _ _ _ _ _ _ _ _ _ r h => by simp [r4_Generator.l1] at h⟩
 | k + 1 => by
  obtain ⟨ih0,ih1⟩ := r4_Generator.mono_l k
  refine ⟨?_,?_⟩
  ·intro y0 y1 y2 y3 y4 y5
   unfold r4_Generator.l0
   repeat' first
   | (with_reducible exact ih0 _ _ _ _ _ _)
   | (with_reducible exact ih1 _ _ _ _ _ _ _ _ _)
   | (with_reducible exact r4_Check.mono _ _ _ _ _)
   | (with_reducible exact r4_mul.mono _ _ _ _ _)
   | (with_reducible exact r4_power.mono _ _ _ _)
   | (with_reducible exact LeO.refl _)
   | (with_reducible exact LeO.none _)
   | (with_reducible refine LeO.ite ?_ ?_)
   | (with_reducible refine LeO.bind ?_ (fun _ => ?_))
  ·intro y0 y1 y2 y3 y4 y5 y6 y7 y8
   unfold r4_Generator.l1
   repeat' first
   | (with_reducible exact ih0 _ _ _ _ _ _)
   | (with_reducible exact ih1 _ _ _ _ _ _ _ _ _)
   | (with_reducible exact r4_Check.mono _ _ _ _ _)
   | (with_reducible exact r4_mul.mono _ _ _ _ _)
   | (with_reducible exact r4_power.mono _ _ _ _)
   | (with_reducible exact LeO.refl _)
   | (with_reducible exact LeO.none _)
   | (with_reducible refine LeO.ite ?_ ?_)
   | (with_reducible refine LeO.bind ?_ (fun _ => ?_))
theorem r4_Generator.mono : ∀ a0 a1 a2 a3 k,LeO (r4_Generator.f k a0 a1 a2 a3) (r4_Generator.f (k + 1) a0 a1 a2 a3) := by
 intro a0 a1 a2 a3 k
 obtain ⟨ih0,ih1⟩ := r4_Generator.mono_l k
 unfold r4_Generator.f
 repeat' first
   | (with_reducible exact ih0 _ _ _ _ _ _)
   | (with_reducible exact ih1 _ _ _ _ _ _ _ _ _)
   | (with_reducible exact r4_Check.mono _ _ _ _ _)
   | (with_reducible exact r4_mul.mono _ _ _ _ _)
   | (with_reducible exact r4_power.mono _ _ _ _)
   | (with_reducible exact LeO.refl _)
   | (with_reducible exact LeO.none _)
   | (with_reducible refine LeO.ite ?_ ?_)
   | (with_reducible refine LeO.bind ?_ (fun _ => ?_))
def r4_Generator.T13 : Bool × List (List Nat × List Nat) := (true,[([],[]),([],[]),([1],[1]),([],[]),([],[]),([4],[4]),([3,5],[3,5]),([6],[6]),([],[]),([8],[8]),([],[]),([],[]),([10,11],[10,11]),([12],[12]),([],[]),([9,13,14],[9,13,14]),([7,15],[7,15]),([0,2,0,1,2,3,4,5,6,7,8,9,10,11,12,13,14,15,16],[0,2]),([17,16,15,0,1,2,3,4,5,6,7,8,9,10,11,12,13,14,15,16],[16,17])])
def r4_Generator.B13 : List Nat := [0,0,2,0,0,16,56,120,0,256,0,0,3072,7168,0,32512,65528,131071,262143]
theorem r4_Generator.tab13 : rtab .any (opsOf Try.f19 13) = r4_Generator.T13 := by kernel_rfl
theorem r4_Generator.bits13 : waitsOk r4_Generator.T13.2 r4_Generator.B13 = true := by kernel_rfl
set_option maxHeartbeats 8000000 in
set_option maxRecDepth 100000 in
theorem r4_Generator.calls (k : Nat) (a0_0 : Int) (a0_1 : Int) (a0_2 : Int) (a0_3 : Int) (r1 : List Int) (r2 : Int) (w : World) (h : r4_Generator.f k a0_0 a0_1 a0_2 a0_3 = some (r1,r2)) :
  Calls Try.prog 19 #[.agg #[.int .i64 a0_0,.int .u64 a0_1,.int .i64 a0_2,.int .i64 a0_3]] w fun e w' => ∃ v0_ : Value,e = .returned (.tuple #[v0_,.int .i64 r2]) ∧ Kd.R (Kd.int .u8) 5 w' w.heap.size (fun _ => True) v0_ r1 ∧ Below w.heap.size w w' := by
 have hu26 := Try.underlying26
 have hu24 := Try.underlying24
 have HB := aK (Below.refl w.heap.size w)
 have H : ((r4_Check.f k a0_0 a0_1 a0_2 a0_3).bind fun t486 => (if t486 = 0 then (r4_Generator.l0 k (([1] : List Int)) 0 a0_0 a0_1 a0_2 a0_3) else (some (([] : List Int),t486)))) = some (r1,r2) := h
 clear h
 replace H := Option.bind_eq_some_iff.mp H
 obtain ⟨t486,A20,H⟩ := H
 try dsimp only at H
 have A2 := Aside0.mk A20
 clear A20
 by_cases c3 : t486 = 0
 rotate_left
 ·rw [if_neg c3] at H
  have c3b0 : (t486 == 0) = false := beq_eq_false_iff_ne.mpr c3
  have c3b1 : (t486 != 0) = true := bne_iff_ne.mpr c3
  simp only [Option.some.injEq,Prod.mk.injEq] at H
  obtain ⟨rfl,rfl⟩ := H
  go_enter Try.func19,Try.ntmps19
  go_wp2_with (first | ((with_reducible refine gate_dst (N := 1) rfl ?_); refine box_event ?hg (N := 1) ?hd (cs := #[.int .i64 a0_0,.int .u64 a0_1,.int .i64 a0_2,.int .i64 a0_3]) (t := 26) ?hr ?_; (case hd => rfl); (case hg => rfl); (case hr => first | (go_simp; done) | (go_simp; rfl)); intro gb485 hg w32 hbox hb; have n0_ := aK (below_step (mvh HB.out) hb); have n1_ := aK (hbox); have n2_ := aK ((by rw [hg]; exact (below_size (mvh HB.out)) : w.heap.size ≤ gb485)); have n3_ := aK ((by rw [hg]; exact (below_size (mvh HB.out)) : w.heap.size ≤ gb485)); clear HB; have HB := n0_; have BK485 := n1_; have GW485 := n2_; have GE485 := n3_; clear n0_ n1_ n2_ n3_; clear hb hbox hg; obtain ⟨hcz33_0,hcz33_1,hcz33_2,hcz33_3,hfz33_0,hfz33_1,hfz33_2,hfz33_3⟩ := cf4 BK485.out) | (go_at_call 22; (with_reducible refine (r4_Check.calls k a0_0 a0_1 a0_2 a0_3 t486 _ A2.out).mono ?_); rintro e w34 ⟨rfl,hb⟩; have n0_ := aK (kb BK485.out hb); have n1_ := aK (below_step (mvh HB.out) hb); clear BK485 HB; have BK485 := n0_; have HB := n1_; clear n0_ n1_; (try clear hb)))
  go_ret2
  exact ⟨_,by first | rfl | (simp [errW_none,errW_some] <;> rfl) | (simp [*,errW_none,errW_some] <;> rfl),by first | exact Kd.R_nil _ _ _ _ _ | exact Kd.N_nil _ _ _ _ _ | exact Kd.V_nil _ _ _ _ _ | exact Kd.Q_nil _ _ _ _ _ | exact Kd.S_nil _ _ _ _ _,mvh HB.out⟩

 rw [if_pos c3] at H
 have c3b0 : (t486 == 0) = true := beq_iff_eq.mpr c3
 have c3b1 : (t486 != 0) = false := bne_eq_false_iff_eq.mpr c3
 clear c3
 obtain ⟨y487,hy487⟩ : ∃ y_ : List Int,y_ = (([1] : List Int)) := ⟨_,rfl⟩
 replace H : (r4_Generator.l0 k y487 0 a0_0 a0_1 a0_2 a0_3) = some (r1,r2) := by rw [hy487]; exact H
 have Ny487 := Aside0.mk hy487
 clear hy487
 have H' := Aside0.mk H
 clear H
 go_enter Try.func19,Try.ntmps19
 go_wp2_with (first | ((with_reducible refine gate_dst (N := 1) rfl ?_); refine box_event ?hg (N := 1) ?hd (cs := #[.int .i64 a0_0,.int .u64 a0_1,.int .i64 a0_2,.int .i64 a0_3]) (t := 26) ?hr ?_; (case hd => rfl); (case hg => rfl); (case hr => first | (go_simp; done) | (go_simp; rfl)); intro gb485 hg w4 hbox hb; have n0_ := aK (below_step (mvh HB.out) hb); have n1_ := aK (hbox); have n2_ := aK ((by rw [hg]; exact (below_size (mvh HB.out)) : w.heap.size ≤ gb485)); have n3_ := aK ((by rw [hg]; exact (below_size (mvh HB.out)) : w.heap.size ≤ gb485)); clear HB; have HB := n0_; have BK485 := n1_; have GW485 := n2_; have GE485 := n3_; clear n0_ n1_ n2_ n3_; clear hb hbox hg; obtain ⟨hcz5_0,hcz5_1,hcz5_2,hcz5_3,hfz5_0,hfz5_1,hfz5_2,hfz5_3⟩ := cf4 BK485.out) | (go_at_call 22; (with_reducible refine (r4_Check.calls k a0_0 a0_1 a0_2 a0_3 t486 _ A2.out).mono ?_); rintro e w6 ⟨rfl,hb⟩; have n0_ := aK (kb BK485.out hb); have n1_ := aK (below_step (mvh HB.out) hb); clear BK485 HB; have BK485 := n0_; have HB := n1_; clear n0_ n1_; (try clear hb)) | ((with_reducible refine gate_dst (N := 15) rfl ?_); refine Kd.R_lit (Kd.int .u8) _ 5 ?hg (N := 15) ?hd (xs := ([1] : List Int)) (inner := [.int .u8 1]) (ok := fun _ => True) (okp := fun _ => True) ?hr ?hp (fun _ hk => hk) trivial (Below.refl _ _) (Nat.le_refl _) (by simp) ?_; (case hd => rfl); (case hg => rfl); (case hr => first | (go_simp; done) | (go_simp; rfl)); (case hp => exact (Reps.one (show Kd.M (Kd.int .u8) _ _ _ 1 [.int .u8 1] from rfl) (Reps.none _ _))); intro v488 w7 ho8 hb hg_ hnew_; clear hg_ hnew_; (first | rw [← Ny487.out] at ho8 | (simp only [Int.reduceToNat] at ho8; rw [← Ny487.out] at ho8)); have n0_ := aK (Kd.R_lower ho8 (below_size (mvh HB.out))); have n1_ := aK (kb BK485.out hb); have n2_ := aK (below_step (mvh HB.out) hb); clear BK485 HB; have HO489 := n0_; have BK485 := n1_; have HB := n2_; clear n0_ n1_ n2_; clear hb ho8))
 go_loopg [5,6] k (fun kq v5 v6 w' => ∃ (x5_1 : List Int) (x6_1 : Int),v6 = .int .i64 x6_1 ∧ Aside0 (r4_Generator.l0 kq x5_1 x6_1 a0_0 a0_1 a0_2 a0_3 = some (r1,r2)) ∧ Aside0 (kq ≤ k) ∧ Aside0 (Kd.R (Kd.int .u8) 5 w' w.heap.size (fun _ => True) v5 x5_1) ∧ Aside0 (w'.heap[gb485]? = some (.cells #[.int .i64 a0_0,.int .u64 a0_1,.int .i64 a0_2,.int .i64 a0_3] 26 (0,0))) ∧ Aside0 (Below w.heap.size w w'))
 case atStart => exact ⟨(y487),(0),(by first | rfl | (simp; done) | (simp [*]; done) | (simp [wrap64]; done)),H',⟨Nat.le_refl _⟩,⟨mvR HO489.out⟩,⟨mvb BK485.out⟩,⟨mvh HB.out⟩⟩
 case round =>
  clear H'
  (try clear c1); (try clear c2); (try clear p2); (try clear c3); (try clear c3b0); (try clear c3b1); (try clear p6); (try clear hcz5_0); (try clear hcz5_1); (try clear hcz5_2); (try clear hcz5_3); (try clear hfz5_0); (try clear hfz5_1); (try clear hfz5_2); (try clear hfz5_3)
  obtain ⟨x5_1,x6_1,rfl,HA,HK1,HO_5,BK485,HB⟩ := hrel
  cases gk with
  | zero => exact absurd HA.out (by simp [r4_Generator.l0])
  | succ k1 =>
   have H := HA.out
   clear HA
   simp only [r4_Generator.l0] at H
   by_cases c9 : x6_1 < a0_3
   rotate_left
   ·rw [if_neg c9] at H
    have c9b0 : decide (x6_1 < a0_3) = false := decide_eq_false c9
    clear c9
    simp only [Option.some.injEq,Prod.mk.injEq] at H
    obtain ⟨rfl,rfl⟩ := H
    obtain ⟨hcz31_0,hcz31_1,hcz31_2,hcz31_3,hfz31_0,hfz31_1,hfz31_2,hfz31_3⟩ := cf4 BK485.out
    go_wp2
    go_ret2
    exact ⟨_,by first | rfl | (simp [errW_none,errW_some] <;> rfl) | (simp [*,errW_none,errW_some] <;> rfl),by (with_reducible repeat (first | apply Kd.R_alloc | apply Kd.R_drewN | apply Kd.R_drew)); exact HO_5.out,mvh HB.out⟩
   rw [if_pos c9] at H
   have c9b0 : decide (x6_1 < a0_3) = true := decide_eq_true c9
   clear c9
   replace H := Option.bind_eq_some_iff.mp H
   obtain ⟨t490,A100,H⟩ := H
   try dsimp only at H
   have A10 := Aside0.mk A100
   clear A100
   obtain ⟨y491,hy491⟩ : ∃ y_ : List Int,y_ = (([] : List Int)) := ⟨_,rfl⟩
   replace H : (if y491.length + x5_1.length < 140737488355328 then ((some (y491 ++ x5_1 : List Int)).bind fun y494 => (if y494.length < 140737488355328 then (r4_Generator.l1 k1 x5_1 x6_1 t490 (y494 ++ [0]) 0 a0_0 a0_1 a0_2 a0_3) else (none))) else (none)) = some (r1,r2) := by rw [hy491]; exact H
   have Ny491 := Aside0.mk hy491
   clear hy491
   by_cases c11 : y491.length + x5_1.length < 140737488355328
   rotate_left
   ·rw [if_neg c11] at H
    exact absurd H (by simp)
   rw [if_pos c11] at H
   have LMc11 := Aside0.mk c11
   clear c11
   obtain ⟨y494,hy494⟩ : ∃ y_ : List Int,y_ = (y491 ++ x5_1) := ⟨_,rfl⟩
   replace H : (if y494.length < 140737488355328 then (r4_Generator.l1 k1 x5_1 x6_1 t490 (y494 ++ [0]) 0 a0_0 a0_1 a0_2 a0_3) else (none)) = some (r1,r2) := by rw [hy494]; exact H
   have Ny494 := Aside0.mk hy494
   clear hy494
   by_cases c12 : y494.length < 140737488355328
   rotate_left
   ·rw [if_neg c12] at H
    exact absurd H (by simp)
   rw [if_pos c12] at H
   have LMc12 := Aside0.mk c12
   clear c12
   obtain ⟨y497,hy497⟩ : ∃ y_ : List Int,y_ = (y494 ++ [0]) := ⟨_,rfl⟩
   replace H : (r4_Generator.l1 k1 x5_1 x6_1 t490 y497 0 a0_0 a0_1 a0_2 a0_3) = some (r1,r2) := by rw [hy497]; exact H
   have Ny497 := Aside0.mk hy497
   clear hy497
   have H' := Aside0.mk H
   clear H
   obtain ⟨hcz13_0,hcz13_1,hcz13_2,hcz13_3,hfz13_0,hfz13_1,hfz13_2,hfz13_3⟩ := cf4 BK485.out
   go_wp2_with (first | (go_at_call 36; (with_reducible refine (r4_power.calls k1 a0_0 a0_1 (wrap64 (a0_2 + x6_1)) t490 _ A10.out).mono ?_); rintro e w14 ⟨rfl,hb⟩; have n0_ := aK (Kd.R_below (mvR HO_5.out) hb); have n1_ := aK (kb BK485.out hb); have n2_ := aK (below_step (mvh HB.out) hb); clear HO_5 BK485 HB; have HO_5 := n0_; have BK485 := n1_; have HB := n2_; clear n0_ n1_ n2_; (try clear hb)) | ((with_reducible refine gate_dst (N := 29) rfl ?_); refine Kd.R_lit (Kd.int .u8) _ 5 ?hg (N := 29) ?hd (xs := ([] : List Int)) (inner := []) (ok := fun _ => True) (okp := fun _ => True) ?hr ?hp (fun _ hk => hk) trivial (Below.refl _ _) (Nat.le_refl _) (by simp) ?_; (case hd => rfl); (case hg => rfl); (case hr => first | (go_simp; done) | (go_simp; rfl)); (case hp => exact (Reps.none _ _)); intro v492 w15 ho16 hb hg_ hnew_; clear hg_ hnew_; (first | rw [← Ny491.out] at ho16 | (simp only [Int.reduceToNat] at ho16; rw [← Ny491.out] at ho16)); have n0_ := aK (Kd.R_elder' (mvR HO_5.out) (Kd.R_base ho16) hb); have n1_ := aK (Kd.R_lower (Kd.R_new' ho16 (Kd.R_lt (mvR HO_5.out))) (below_size (mvh HB.out))); have n2_ := aK (kb BK485.out hb); have n3_ := aK (below_step (mvh HB.out) hb); clear HO_5 BK485 HB; have HO_5 := n0_; have HO493 := n1_; have BK485 := n2_; have HB := n3_; clear n0_ n1_ n2_ n3_; clear hb ho16; obtain ⟨Ao18,co18,eo18⟩ := Kd.R_slice HO_5.out; subst eo18) | ((with_reducible refine gate_builtin (b := .append) (xs := #[.tmp 29,.tmp 30]) rfl ?_); at_builtin; refine Kd.R_append_rows (Kd.int .u8) (w0 := w) w.heap.size rfl (.tmp 29) (.tmp 30) 27 5 (.int .u8 0) 1 rfl Try.underlying27 info5 rfl (by decide) (by omega) v492 y491 x5_1 _ _ _ (fun k_ => some k_ ≠ (.slice Ao18 x5_1.length co18 : Value).ownBlock) (fun _ => False) rfl rfl ?aO ?aR (fun _ _ h => h) (fun _ h => h.elim) ?aF ?aB ?aS ?aL ?_; (case aR => repeat (first | exact (Kd.R_reads' HO_5.out).2.2 | (with_reducible refine Kd.C_alloc ?_ _) | (with_reducible refine Kd.C_drewN ?_ _) | (with_reducible refine Kd.C_drew ?_))); (case aB => exact (mvh HB.out)); (case aF => exact (fun k_ hk => Kd.fresh' (Kd.R_lt (mvR HO_5.out)) k_ hk)); (case aO => exact (by (with_reducible repeat (first | apply Kd.R_alloc | apply Kd.R_drewN | apply Kd.R_drew)); exact Kd.R_mono HO493.out (fun _ hk => hk.2))); (case aS => exact (below_size (mvh HB.out))); (case aL => have := LMc11.out; omega); intro v495 w17 ho hb hg hat; rw [← Ny494.out] at ho; have n0_ := aK (Kd.R_after (ok := (fun _ => True)) (mvR HO_5.out) hg hat); have n1_ := aK (blk_grown (g := gb485) (o := .cells #[.int .i64 a0_0,.int .u64 a0_1,.int .i64 a0_2,.int .i64 a0_3] 26 (0,0)) (mvb BK485.out) hg (Kd.R_ne HO493.out BK485.out (by decide))); have n2_ := aK (hb); have n3_ := aK (ho); clear HO_5 BK485 HB HO493; have HO_5 := n0_; have BK485 := n1_; have HB := n2_; have HO496 := n3_; clear n0_ n1_ n2_ n3_; clear ho hb hg hat) | ((with_reducible refine gate_builtin (b := .append) (xs := #[.tmp 31,.tmp 32]) rfl ?_); at_builtin; refine Kd.R_append (Kd.int .u8) (w0 := w) w.heap.size rfl (.tmp 31) (.tmp 32) 27 5 (.int .u8 0) 1 rfl Try.underlying27 info5 rfl (by decide) (by omega) v495 y494 0 [.int .u8 0] (fun k_ => some k_ ≠ (.slice Ao18 x5_1.length co18 : Value).ownBlock) (fun _ => False) rfl rfl ?aP (fun _ hk => hk.elim) ?aF ?aO ?aB ?aS ?aL ?_; (case aP => exact rfl); (case aB => exact (mvh HB.out)); (case aF => exact (fun k_ hk => Kd.fresh' (Kd.R_lt (mvR HO_5.out)) k_ hk)); (case aO => exact (mvR HO496.out)); (case aS => exact (below_size (mvh HB.out))); (case aL => have := LMc12.out; omega); intro v498 w19 ho hb hg hat; rw [← Ny497.out] at ho; have n0_ := aK (Kd.R_after (ok := (fun _ => True)) (mvR HO_5.out) hg hat); have n1_ := aK (blk_grown (g := gb485) (o := .cells #[.int .i64 a0_0,.int .u64 a0_1,.int .i64 a0_2,.int .i64 a0_3] 26 (0,0)) (mvb BK485.out) hg (Kd.R_ne HO496.out BK485.out (by decide))); have n2_ := aK (hb); have n3_ := aK (ho); clear HO_5 BK485 HB HO496; have HO_5 := n0_; have BK485 := n1_; have HB := n2_; have HO499 := n3_; clear n0_ n1_ n2_ n3_; clear ho hb hg hat))
   go_loopg [9] k1 (fun kq v9 w' => ∃ (x8_2 : List Int) (x9_2 : Int),v9 = .int .i64 x9_2 ∧ Aside0 (r4_Generator.l1 kq x5_1 x6_1 t490 x8_2 x9_2 a0_0 a0_1 a0_2 a0_3 = some (r1,r2)) ∧ Aside0 (kq ≤ k1) ∧ Aside0 (Kd.R (Kd.int .u8) 5 w' w.heap.size (fun k_ => some k_ ≠ (v498 : Value).ownBlock) (.slice Ao18 x5_1.length co18) x5_1) ∧ Aside0 (Kd.R (Kd.int .u8) 5 w' w.heap.size (fun k_ => some k_ ≠ ((.slice Ao18 x5_1.length co18) : Value).ownBlock) v498 x8_2) ∧ Aside0 (w'.heap[gb485]? = some (.cells #[.int .i64 a0_0,.int .u64 a0_1,.int .i64 a0_2,.int .i64 a0_3] 26 (0,0))) ∧ Aside0 (Below w.heap.size w w'))
   case atStart => exact ⟨(y497),(0),(by first | rfl | (simp; done) | (simp [*]; done) | (simp [wrap64]; done)),H',⟨Nat.le_refl _⟩,⟨by (with_reducible repeat (first | apply Kd.R_alloc | apply Kd.R_drewN | apply Kd.R_drew)); exact Kd.R_mono HO_5.out (fun _ hk => hk.2)⟩,⟨mvR HO499.out⟩,⟨mvb BK485.out⟩,⟨mvh HB.out⟩⟩
   case round =>
    clear H'
    (try clear c1); (try clear c2); (try clear p2); (try clear c3); (try clear c3b0); (try clear c3b1); (try clear p6); (try clear c9); (try clear c9b0); (try clear c11); (try clear c12); (try clear c19); (try clear hcz13_0); (try clear hcz13_1); (try clear hcz13_2); (try clear hcz13_3); (try clear hcz5_0)
    (try clear hcz5_1); (try clear hcz5_2); (try clear hcz5_3); (try clear hfz13_0); (try clear hfz13_1); (try clear hfz13_2); (try clear hfz13_3); (try clear hfz5_0); (try clear hfz5_1); (try clear hfz5_2); (try clear hfz5_3); (try clear p2); (try clear p6)
    obtain ⟨x8_2,x9_2,rfl,HA,HK2,HO_5,HO_8,BK485,HB⟩ := hrel
    cases gk with
    | zero => exact absurd HA.out (by simp [r4_Generator.l1])
    | succ k2 =>
     have H := HA.out
     clear HA
     simp only [r4_Generator.l1] at H
     by_cases c20 : x9_2 < (x5_1.length : Int)
     rotate_left
     ·rw [if_neg c20] at H
      have c20b0 : decide (x9_2 < (x5_1.length : Int)) = false := decide_eq_false c20
      clear c20
      have H' := Aside0.mk H
      clear H
      go_wp2
      go_roundg k2
      case measure => have := HK1.out; have := HK2.out; omega
      case rel => exact ⟨(x8_2),(wrap64 (x6_1 + 1)),(by first | rfl | (simp; done) | (simp [*]; done) | (simp [wrap64]; done)),H',⟨by have := HK1.out; have := HK2.out; omega⟩,⟨by (with_reducible repeat (first | apply Kd.R_alloc | apply Kd.R_drewN | apply Kd.R_drew)); exact Kd.R_mono HO_8.out (fun _ hk => trivial)⟩,⟨mvb BK485.out⟩,⟨mvh HB.out⟩⟩
     rw [if_pos c20] at H
     have c20b0 : decide (x9_2 < (x5_1.length : Int)) = true := decide_eq_true c20
     clear c20
     obtain ⟨ji21,hji21⟩ : ∃ j_ : Int,(wrap64 (x9_2 + 1)) = j_ := ⟨_,rfl⟩
     first | rw [hji21] at H | simp only [hji21] at H
     have hji21w : (IntKind.i64.wrap (x9_2 + 1)) = ji21 := (i64_w _).trans hji21
     by_cases c22 : 0 ≤ (ji21)
     rotate_left
     ·rw [if_neg c22] at H
      exact absurd H (by simp)
     rw [if_pos c22] at H
     have c22b0 : decide (0 ≤ (ji21)) = true := decide_eq_true c22
     clear c22
     by_cases c23 : (ji21) < (x8_2.length : Int)
     rotate_left
     ·rw [if_neg c23] at H
      exact absurd H (by simp)
     rw [if_pos c23] at H
     have c23b0 : decide ((ji21) < (x8_2.length : Int)) = true := decide_eq_true c23
     clear c23
     by_cases c24 : 0 ≤ x9_2
     rotate_left
     ·rw [if_neg c24] at H
      exact absurd H (by simp)
     rw [if_pos c24] at H
     have c24b0 : decide (0 ≤ x9_2) = true := decide_eq_true c24
     clear c24
     replace H := Option.bind_eq_some_iff.mp H
     obtain ⟨t502,A250,H⟩ := H
     try dsimp only at H
     have A25 := Aside0.mk A250
     clear A250
     obtain ⟨y503,hy503⟩ : ∃ y_ : List Int,y_ = (x8_2.set ((ji21) : Int).toNat (Go.bits .xor .u8 (rd x8_2 (ji21)) t502)) := ⟨_,rfl⟩
     replace H : (r4_Generator.l1 k2 x5_1 x6_1 t490 y503 ji21 a0_0 a0_1 a0_2 a0_3) = some (r1,r2) := by rw [hy503]; exact H
     have Ny503 := Aside0.mk hy503
     clear hy503
     have H' := Aside0.mk H
     clear H
     try go_wp2
     have n0_ := aK (Kd.R_drew HO_5.out)
     have n1_ := aK (Kd.R_drew HO_8.out)
     have n2_ := aK (blk_drew BK485.out)
     have n3_ := aK (below_drew1 HB.out)
     clear HO_5 HO_8 BK485 HB
     have HO_5 := n0_
     have HO_8 := n1_
     have BK485 := n2_
     have HB := n3_
     clear n0_ n1_ n2_ n3_
     obtain ⟨Ao28,co28,eo28⟩ := Kd.R_slice HO_8.out
     (first | subst eo28 | (injection eo28 with f1_ f2_ f3_; have f4_ := f1_.symm; have f5_ := f3_.symm; clear f1_ f2_ f3_; subst f4_; subst f5_))
     have p500 : 0 ≤ ((ji21) : Int) := of_decide_eq_true (by first | (with_reducible assumption) | assumption)
     have q500 : (ji21) < (x8_2.length : Int) := of_decide_eq_true (by first | (with_reducible assumption) | assumption)
     obtain ⟨ad500,e500,hx500_0⟩ := Kd.at_int (Kd.R_reads' HO_8.out).2.2 (ji21) p500 q500
     cases e500
     replace p500 := eq_true p500
     replace q500 := eq_true q500
     have p501 : 0 ≤ (x9_2 : Int) := of_decide_eq_true (by first | (with_reducible assumption) | assumption)
     have q501 : x9_2 < (x5_1.length : Int) := of_decide_eq_true (by first | (with_reducible assumption) | assumption)
     obtain ⟨ad501,e501,hx501_0⟩ := Kd.at_int (Kd.R_reads' HO_5.out).2.2 x9_2 p501 q501
     cases e501
     replace p501 := eq_true p501
     replace q501 := eq_true q501
     refine start_ (n := 19) (S := fun w' => w'.cell? ⟨gb485,0,none⟩ = some (.int .i64 a0_0) ∧ w'.cell? ⟨gb485,1,none⟩ = some (.int .u64 a0_1) ∧ w'.cell? ⟨gb485,2,none⟩ = some (.int .i64 a0_2) ∧ w'.cell? ⟨gb485,3,none⟩ = some (.int .i64 a0_3) ∧ w'.cell? (ad500.add ((ji21)).toNat) = some (.int .u8 (rd x8_2 (ji21))) ∧ w'.cell? (ad501.add (x9_2).toNat) = some (.int .u8 (rd x5_1 x9_2))) (ds := [18]) #[false,false,false,false,false,false,false,false,false,false,false,false,false,false,false,false,false,false,false] (by kernel_rfl) rfl rfl ⟨(blk_cell BK485.out 0).trans rfl,(blk_cell BK485.out 1).trans rfl,(blk_cell BK485.out 2).trans rfl,(blk_cell BK485.out 3).trans rfl,hx500_0,hx501_0⟩ (fun hHeld => ?_); refine with_tabW r4_Generator.tab13 r4_Generator.bits13 (fun HT_ HW_ => ?_)
     generalize wr.drew = w27 at HO_5 HO_8 BK485 HB hx500_0 hx501_0 hHeld ⊢
     refine pure_ (i := 0) (N := some 40) (v := ?_) (a' := ?_) #[true,false,false,false,false,false,false,false,false,false,false,false,false,false,false,false,false,false,false] rfl rfl (any_of HT_.out (by kernel_rfl)) (fun _ _ _ h => h) (Or.inl ⟨by rfl,?_⟩) ?_ ?_
     rotate_left
     ·intro w'
      go_simp
      with_reducible rfl
     rotate_left
     ·simp only [Act.put,List.setIfInBounds_toArray,List.set_cons_zero,List.set_cons_succ,i64_w,i32_w]
      rfl
     refine pure_ (i := 1) (N := some 41) (v := ?_) (a' := ?_) #[true,true,false,false,false,false,false,false,false,false,false,false,false,false,false,false,false,false,false] rfl rfl (any_of HT_.out (by kernel_rfl)) (fun _ _ _ h => h) (Or.inl ⟨by rfl,?_⟩) ?_ ?_
     rotate_left
     ·intro w'
      go_simp
      with_reducible rfl
     rotate_left
     ·simp only [Act.put,List.setIfInBounds_toArray,List.set_cons_zero,List.set_cons_succ,i64_w,i32_w]
      rfl
     refine pure_ (i := 2) (N := some 42) (v := ?_) (a' := ?_) #[true,true,true,false,false,false,false,false,false,false,false,false,false,false,false,false,false,false,false] rfl rfl (any_of HT_.out (by kernel_rfl)) (fun _ _ _ h => h) (Or.inl ⟨by rfl,?_⟩) ?_ ?_
     rotate_left
     ·intro w'
      go_simp
      with_reducible rfl
     rotate_left
     ·simp only [Act.put,List.setIfInBounds_toArray,List.set_cons_zero,List.set_cons_succ,i64_w,i32_w]
      rfl
     refine pure_ (i := 3) (N := some 43) (v := ?_) (a' := ?_) #[true,true,true,true,false,false,false,false,false,false,false,false,false,false,false,false,false,false,false] rfl rfl (any_of HT_.out (by kernel_rfl)) (fun _ _ _ h => h) (Or.inl ⟨by rfl,?_⟩) ?_ ?_
     rotate_left
     ·intro w'
      go_simp
      with_reducible rfl
     rotate_left
     ·simp only [Act.put,List.setIfInBounds_toArray,List.set_cons_zero,List.set_cons_succ,i64_w,i32_w]
      rfl
     refine pure_ (i := 4) (N := some 44) (v := ?_) (a' := ?_) #[true,true,true,true,true,false,false,false,false,false,false,false,false,false,false,false,false,false,false] rfl rfl (any_of HT_.out (by kernel_rfl)) (fun _ _ _ h => h) (Or.inl ⟨by rfl,?_⟩) ?_ ?_
     rotate_left
     ·intro w'
      go_simp
      with_reducible rfl
     rotate_left
     ·simp only [Act.put,List.setIfInBounds_toArray,List.set_cons_zero,List.set_cons_succ,i64_w,i32_w]
      rfl
     refine pure_ (i := 5) (N := some 45) (v := ?_) (a' := ?_) #[true,true,true,true,true,true,false,false,false,false,false,false,false,false,false,false,false,false,false] rfl rfl (any_of HT_.out (by kernel_rfl)) (fun _ _ _ h => h) (Or.inl ⟨by rfl,?_⟩) ?_ ?_
     rotate_left
     ·intro w'
      go_simp
      with_reducible rfl
     rotate_left
     ·simp only [Act.put,List.setIfInBounds_toArray,List.set_cons_zero,List.set_cons_succ,i64_w,i32_w]
      rfl
     refine pure_ (i := 6) (N := some 46) (v := ?_) (a' := ?_) #[true,true,true,true,true,true,true,false,false,false,false,false,false,false,false,false,false,false,false] rfl rfl (any_of HT_.out (by kernel_rfl)) (fun _ _ _ h => h) (Or.inl ⟨by rfl,?_⟩) ?_ ?_
     rotate_left
     ·intro w'
      go_simp
      with_reducible rfl
     rotate_left
     ·simp only [Act.put,List.setIfInBounds_toArray,List.set_cons_zero,List.set_cons_succ,i64_w,i32_w]
      rfl
     refine pure_ (i := 8) (N := some 48) (v := ?_) (a' := ?_) #[true,true,true,true,true,true,true,false,true,false,false,false,false,false,false,false,false,false,false] rfl rfl (any_of HT_.out (by kernel_rfl)) (fun _ _ _ h => h) (Or.inl ⟨by rfl,?_⟩) ?_ ?_
     rotate_left
     ·intro w'
      go_simp
      with_reducible rfl
     rotate_left
     ·simp only [Act.put,List.setIfInBounds_toArray,List.set_cons_zero,List.set_cons_succ,i64_w,i32_w]
      rfl
     refine pure_ (i := 10) (N := some 50) (v := ?_) (a' := ?_) #[true,true,true,true,true,true,true,false,true,false,true,false,false,false,false,false,false,false,false] rfl rfl (any_of HT_.out (by kernel_rfl)) (fun _ _ _ h => h) (Or.inl ⟨by rfl,?_⟩) ?_ ?_
     rotate_left
     ·intro w'
      go_simp
      with_reducible rfl
     rotate_left
     ·simp only [Act.put,List.setIfInBounds_toArray,List.set_cons_zero,List.set_cons_succ,i64_w,i32_w]
      rfl
     refine pure_ (i := 11) (N := some 51) (v := ?_) (a' := ?_) #[true,true,true,true,true,true,true,false,true,false,true,true,false,false,false,false,false,false,false] rfl rfl (any_of HT_.out (by kernel_rfl)) (fun _ _ _ h => h) (Or.inl ⟨by rfl,?_⟩) ?_ ?_
     rotate_left
     ·intro w'
      go_simp
      with_reducible rfl
     rotate_left
     ·simp only [Act.put,List.setIfInBounds_toArray,List.set_cons_zero,List.set_cons_succ,i64_w,i32_w]
      rfl
     refine pure_ (i := 12) (N := some 52) (v := ?_) (a' := ?_) #[true,true,true,true,true,true,true,false,true,false,true,true,true,false,false,false,false,false,false] rfl rfl (any_of HT_.out (by kernel_rfl)) (fun _ _ _ h => h) (Or.inl ⟨by rfl,?_⟩) ?_ ?_
     rotate_left
     ·intro w'
      go_simp
      with_reducible rfl
     rotate_left
     ·simp only [Act.put,List.setIfInBounds_toArray,List.set_cons_zero,List.set_cons_succ,i64_w,i32_w]
      rfl
     refine pure_ (i := 14) (N := some 54) (v := ?_) (a' := ?_) #[true,true,true,true,true,true,true,false,true,false,true,true,true,false,true,false,false,false,false] rfl rfl (any_of HT_.out (by kernel_rfl)) (fun _ _ _ h => h) (Or.inl ⟨by rfl,?_⟩) ?_ ?_
     rotate_left
     ·intro w'
      go_simp
      with_reducible rfl
     rotate_left
     ·simp only [Act.put,List.setIfInBounds_toArray,List.set_cons_zero,List.set_cons_succ,i64_w,i32_w]
      rfl
     refine take_ (i := 7) (N := some 47) (v := ?_) (a' := ?_) #[true,true,true,true,true,true,true,true,true,false,true,true,true,false,true,false,false,false,false] rfl rfl (take_ofW HT_.out HW_.out (by kernel_rfl)) (fun _ _ _ h => h) (Or.inl ⟨by rfl,?_⟩) hHeld ?_ ?_
     rotate_left
     ·rintro w' ⟨s0,s1,s2,s3,s4,s5⟩
      go_simp
      with_reducible rfl
     rotate_left
     ·simp only [Act.put,List.setIfInBounds_toArray,List.set_cons_zero,List.set_cons_succ,i64_w,i32_w]
      rfl
     refine take_ (i := 9) (N := some 49) (v := ?_) (a' := ?_) #[true,true,true,true,true,true,true,true,true,true,true,true,true,false,true,false,false,false,false] rfl rfl (take_ofW HT_.out HW_.out (by kernel_rfl)) (fun _ _ _ h => h) (Or.inl ⟨by rfl,?_⟩) hHeld ?_ ?_
     rotate_left
     ·rintro w' ⟨s0,s1,s2,s3,s4,s5⟩
      go_simp
      with_reducible rfl
     rotate_left
     ·simp only [Act.put,List.setIfInBounds_toArray,List.set_cons_zero,List.set_cons_succ,i64_w,i32_w]
      rfl
     refine take_ (i := 13) (N := some 53) (v := ?_) (a' := ?_) #[true,true,true,true,true,true,true,true,true,true,true,true,true,true,true,false,false,false,false] rfl rfl (take_ofW HT_.out HW_.out (by kernel_rfl)) (fun _ _ _ h => h) (Or.inl ⟨by rfl,?_⟩) hHeld ?_ ?_
     rotate_left
     ·rintro w' ⟨s0,s1,s2,s3,s4,s5⟩
      go_simp
      with_reducible rfl
     rotate_left
     ·simp only [Act.put,List.setIfInBounds_toArray,List.set_cons_zero,List.set_cons_succ,i64_w,i32_w]
      rfl
     refine one_ (i := 15) (N := some 55) #[true,true,true,true,true,true,true,true,true,true,true,true,true,true,true,true,false,false,false] rfl rfl (one_of HT_.out (by kernel_rfl)) (by decide) (fun K hK => ?_)
     refine goes_ Try.func37 (by kernel_rfl) rfl #[.agg #[.int .i64 a0_0,.int .u64 a0_1],.int .u8 (rd x5_1 x9_2),.int .u8 t490] (by rfl) rfl rfl (by (try simp only [List.map_toArray,List.map_cons,List.map_nil]) <;> rfl) ?_
     with_reducible refine (r4_mul.calls k2 a0_0 a0_1 (rd x5_1 x9_2) t490 t502 _ A25.out).mono ?_
     rintro e w29 ⟨rfl,hb⟩
     have HS4_ := (hb.cell (World.block_lt_of_cell? _ _ (hHeld.2.2.2.2.1))).trans (hHeld.2.2.2.2.1)
     have HS5_ := (hb.cell (World.block_lt_of_cell? _ _ (hHeld.2.2.2.2.2))).trans (hHeld.2.2.2.2.2)
     refine ⟨_,rfl,?_⟩
     have n0_ := aK (Kd.R_below (mvR HO_5.out) hb)
     have n1_ := aK (Kd.R_below (mvR HO_8.out) hb)
     have n2_ := aK (kb BK485.out hb)
     have n3_ := aK (below_step (mvh HB.out) hb)
     clear HO_5 HO_8 BK485 HB
     have HO_5 := n0_
     have HO_8 := n1_
     have BK485 := n2_
     have HB := n3_
     clear n0_ n1_ n2_ n3_
     (try clear hb)
     have p26 : 0 ≤ ((ji21) : Int) := of_decide_eq_true (by first | (with_reducible assumption) | assumption)
     have q26 : ((ji21) : Int) < ((x8_2.length : Int) : Int) := of_decide_eq_true (by first | (with_reducible assumption) | assumption)
     obtain ⟨go26,co26,eo26,gb26,gl26,cl26,HG26⟩ := Kd.R_form HO_8.out (by omega)
     (first | cases eo26 | (injection eo26 with ea_ en_ ec_; (first | subst ea_ | (injection ea_ with ea_; subst ea_)); subst ec_; clear en_))
     have GB26 := Aside0.mk gb26
     have GG26 := Aside0.mk HG26
     clear gb26 gl26 HG26
     (first | simp only [add_plain] at hx500_0 | skip)
     obtain ⟨hx26_0,hf26_0⟩ := Kd.R_celln 0 HO_8.out ((ji21) : Int) p26 q26
     replace p26 := eq_true p26
     replace q26 := eq_true q26
     have HP30 := Kd.R_putn HO_8.out ((ji21) : Int) (Go.bits .xor .u8 (rd x8_2 (ji21)) t502)
     rw [← Ny503.out] at HP30
     have HQ30 := Aside0.mk HP30
     clear HP30
     refine hK.out _ _ ⟨(blk_cell BK485.out 0).trans rfl,(blk_cell BK485.out 1).trans rfl,(blk_cell BK485.out 2).trans rfl,(blk_cell BK485.out 3).trans rfl,HS4_,HS5_⟩ (fun hHeld => ?_)
     clear hK K
     refine norm_ (a' := ?_) ?_ ?_
     rotate_left
     ·show Act.put _ (some 55) _ = _
      simp only [Act.put,List.setIfInBounds_toArray,List.set_cons_zero,List.set_cons_succ,i64_w,i32_w]
      rfl
     refine pure_ (i := 16) (N := some 56) (v := ?_) (a' := ?_) #[true,true,true,true,true,true,true,true,true,true,true,true,true,true,true,true,true,false,false] rfl rfl (any_of HT_.out (by kernel_rfl)) (fun _ _ _ h => h) (Or.inl ⟨by rfl,?_⟩) ?_ ?_
     rotate_left
     ·intro w'
      go_simp
      with_reducible rfl
     rotate_left
     ·simp only [Act.put,List.setIfInBounds_toArray,List.set_cons_zero,List.set_cons_succ,i64_w,i32_w]
      rfl
     refine pure_ (i := 17) (N := some 57) (v := ?_) (a' := ?_) #[true,true,true,true,true,true,true,true,true,true,true,true,true,true,true,true,true,true,false] rfl rfl (any_of HT_.out (by kernel_rfl)) (fun _ _ _ h => h) (Or.inl ⟨by rfl,?_⟩) ?_ ?_
     rotate_left
     ·intro w'
      go_simp
      with_reducible rfl
     rotate_left
     ·simp only [Act.put,List.setIfInBounds_toArray,List.set_cons_zero,List.set_cons_succ,i64_w,i32_w]
      rfl
     refine last_ (i := 18) (N := none) #[true,true,true,true,true,true,true,true,true,true,true,true,true,true,true,true,true,true,true] rfl rfl (one_of HT_.out (by kernel_rfl)) (by decide) (fun K hK => ?_)
     refine skip_ (w1 := ?_) (by rfl) rfl ?_ ?_
     rotate_left
     ·go_simp
      rfl
     refine hK.out _ _ ?_
     clear hK K
     refine done_ (done_of HT_.out (by kernel_rfl)) ?_
     try go_wp2
     go_roundg k2
     case measure => have := HK1.out; have := HK2.out; omega
     case rel => exact ⟨(y503),(ji21),(by first | rfl | (simp; done) | (simp only [← hji21] <;> (first | rfl | simp)) | (simp [*]; done) | (simp [wrap64]; done)),H',⟨by have := HK1.out; have := HK2.out; omega⟩,⟨by (with_reducible repeat (first | apply Kd.R_alloc | apply Kd.R_drewN | apply Kd.R_drew)); exact Kd.R_mono (Kd.R_far (p := ⟨go26,((ji21) : Int).toNat,none⟩) (Kd.R_mono HO_5.out (fun k_ hk => (⟨hk,fun e_ => hk (by rw [e_]; rfl)⟩ : _ ∧ k_ ≠ go26))) (fun _ hk => hk.2) (.int .u8 (Go.bits .xor .u8 (rd x8_2 (ji21)) t502))) (fun _ hk => hk.1)⟩,⟨mvR HQ30.out⟩,⟨by (with_reducible repeat (first | apply bN | apply bD | apply bA)); refine blk_far ?_ (by have h_ := Kd.R_ne HO_8.out BK485.out (by decide); intro e_; exact h_ (by rw [e_]; rfl)) _; exact mvb BK485.out⟩,⟨by repeat (first | (with_reducible first | exact HB.out | apply below_alloc | apply pw_below_drewN | apply below_drew1 | refine below_set ?_ GB26.out | refine below_set ?_ GE485.out) | exact HB.out)⟩⟩
end Go.Proofs.Ytdhnjnkjhfomiaa.P

