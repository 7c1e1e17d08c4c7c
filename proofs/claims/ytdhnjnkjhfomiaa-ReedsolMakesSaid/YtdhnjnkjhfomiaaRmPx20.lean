-- written by mk.sh, a program of this session, over the kit's print
import Derived.Test.YtdhnjnkjhfomiaaRmPx0
import Derived.Test.YtdhnjnkjhfomiaaRmPx10
import Derived.Test.YtdhnjnkjhfomiaaRmPx19
namespace Go.Proofs.Ytdhnjnkjhfomiaa.P
open Go.RowKit YtdhnjnkjhfomiaaW.PrintWords YtdhnjnkjhfomiaaW.PrintLast YtdhnjnkjhfomiaaW.PrintMore
attribute [local go_sem] max2_int min2_int max_two min_two max_three min_three max_four min_four   -- for this text's walks alone
set_option linter.unusedVariables false
set_option linter.unusedSimpArgs false

mutual
def r4_encode.l0 : Nat → List Int → List Int → List Int → Int → Int → Int → Int → Int → Option (List Int)
 | 0,_,_,_,_,_,_,_,_ => none
 | k + 1,x1,x5,x7,x8,x505000,x505001,x505002,x505003 => if x8 < (x1.length : Int) then (if 0 ≤ x8 then (if x8 < (x7.length : Int) then (r4_encode.l1 k x1 x5 x7 x8 (rd x7 x8) 0 x505000 x505001 x505002 x505003) else (none)) else (none)) else ((some (([] : List Int) : List Int)).bind fun y518 => (if y518.length + x1.length < 140737488355328 then ((some (y518 ++ x1 : List Int)).bind fun y521 => (if 0 ≤ (x1.length : Int) then (if (x1.length : Int) ≤ (x7.length : Int) then ((some (x7.drop ((x1.length : Int) : Int).toNat : List Int)).bind fun y524 => (if y521.length + y524.length < 140737488355328 then (some (y521 ++ y524)) else (none))) else (none)) else (none))) else (none)))
def r4_encode.l1 : Nat → List Int → List Int → List Int → Int → Int → Int → Int → Int → Int → Int → Option (List Int)
 | 0,_,_,_,_,_,_,_,_,_,_ => none
 | k + 1,x1,x5,x7,x8,x9,x10,x505000,x505001,x505002,x505003 => if x10 < (x5.length : Int) then (if 0 ≤ (wrap64 (x8 + x10)) then (if (wrap64 (x8 + x10)) < (x7.length : Int) then (if 0 ≤ x10 then ((r4_mul.f k x505000 x505001 x9 (rd x5 x10)).bind fun t534 => (r4_encode.l1 k x1 x5 (x7.set ((wrap64 (x8 + x10)) : Int).toNat (Go.bits .xor .u8 (rd x7 (wrap64 (x8 + x10))) t534)) x8 x9 (wrap64 (x10 + 1)) x505000 x505001 x505002 x505003)) else (none)) else (none)) else (none)) else (r4_encode.l0 k x1 x5 x7 (wrap64 (x8 + 1)) x505000 x505001 x505002 x505003)
end
def r4_encode.f (k : Nat) (a0_0 : Int) (a0_1 : Int) (a0_2 : Int) (a0_3 : Int) (l1 : List Int) : Option (List Int) := (r4_Generator.f k a0_0 a0_1 a0_2 a0_3).bind fun bt505 => ((some (([] : List Int) : List Int)).bind fun y509 => (if y509.length + l1.length < 140737488355328 then ((some (y509 ++ l1 : List Int)).bind fun y512 => (if 0 ≤ a0_3 then (if y512.length + (a0_3 : Int).toNat < 140737488355328 then (r4_encode.l0 k l1 bt505.1 (y512 ++ List.replicate (a0_3 : Int).toNat 0) 0 a0_0 a0_1 a0_2 a0_3) else (none)) else (none))) else (none)))
theorem r4_encode.mono_l : ∀ k,(∀ y0 y1 y2 y3 y4 y5 y6 y7,LeO (r4_encode.l0 k y0 y1 y2 y3 y4 y5 y6 y7) (r4_encode.l0 (k + 1) y0 y1 y2 y3 y4 y5 y6 y7)) ∧ (∀ y0 y1 y2 y3 y4 y5 y6 y7 y8 y9,LeO (r4_encode.l1 k y0 y1 y2 y3 y4 y5 y6 y7 y8 y9) (r4_encode.l1 (k + 1) y0 y1 y2 y3 y4 y5 y6 y7 y8 y9))
 | 0 => ⟨fun _ _ _ _ _ _ _ _ r h => by simp [r4_encode.l0] at h,fun _ _ _ _ _ _ _ _ _ _ r h => by simp [r4_encode.l1] at h⟩
 | k + 1 => by
  obtain ⟨ih0,ih1⟩ := r4_encode.mono_l k
  refine ⟨?_,?_⟩
  ·intro y0 y1 y2 y3 y4 y5 y6 y7
   unfold r4_encode.l0
   repeat' first
   | (with_reducible exact ih0 _ _ _ _ _ _ _ _)
   | (with_reducible exact ih1 _ _ _ _ _ _ _ _ _ _)
   | (with_reducible exact r4_Generator.mono _ _ _ _ _)
   | (with_reducible exact r4_mul.mono _ _ _ _ _)
   | (with_reducible exact LeO.refl _)
   | (with_reducible exact LeO.none _)
   | (with_reducible refine LeO.ite ?_ ?_)
   | (with_reducible refine LeO.bind ?_ (fun _ => ?_))
  ·intro y0 y1 y2 y3 y4 y5 y6 y7 y8 y9
   unfold r4_encode.l1
   repeat' first
   | (with_reducible exact ih0 _ _ _ _ _ _ _ _)
   | (with_reducible exact ih1 _ _ _ _ _ _ _ _ _ _)
   | (with_reducible exact r4_Generator.mono _ _ _ _ _)
   | (with_reducible exact r4_mul.mono _ _ _ _ _)
   | (with_reducible exact LeO.refl _)
   | (with_reducible exact LeO.none _)
   | (with_reducible refine LeO.ite ?_ ?_)
   | (with_reducible refine LeO.bind ?_ (fun _ => ?_))
theorem r4_encode.mono : ∀ a0 a1 a2 a3 a4 k,LeO (r4_encode.f k a0 a1 a2 a3 a4) (r4_encode.f (k + 1) a0 a1 a2 a3 a4) := by
 intro a0 a1 a2 a3 a4 k
 obtain ⟨ih0,ih1⟩ := r4_encode.mono_l k
 unfold r4_encode.f
 repeat' first
   | (with_reducible exact ih0 _ _ _ _ _ _ _ _)
   | (with_reducible exact ih1 _ _ _ _ _ _ _ _ _ _)
   | (with_reducible exact r4_Generator.mono _ _ _ _ _)
   | (with_reducible exact r4_mul.mono _ _ _ _ _)
   | (with_reducible exact LeO.refl _)
   | (with_reducible exact LeO.none _)
   | (with_reducible refine LeO.ite ?_ ?_)
   | (with_reducible refine LeO.bind ?_ (fun _ => ?_))
def r4_encode.T10 : Bool × List (List Nat × List Nat) := (true,[([],[]),([],[]),([],[]),([1,2],[1,2]),([],[]),([],[]),([],[]),([5,6],[5,6]),([4,7],[4,7]),([8],[8]),([],[]),([10],[10]),([],[]),([],[]),([],[]),([13,14],[13,14]),([15],[15]),([11,12,16],[11,12,16]),([9,17],[9,17]),([0,3,0,1,2,3,4,5,6,7,8,9,10,11,12,13,14,15,16,17,18],[0,3]),([19,18,17,0,1,2,3,4,5,6,7,8,9,10,11,12,13,14,15,16,17,18],[18,19])])
def r4_encode.B10 : List Nat := [0,0,0,6,0,0,0,96,240,496,0,1024,0,0,0,24576,57344,130048,262128,524287,1048575]
theorem r4_encode.tab10 : rtab .any (opsOf Try.f40 10) = r4_encode.T10 := by kernel_rfl
theorem r4_encode.bits10 : waitsOk r4_encode.T10.2 r4_encode.B10 = true := by kernel_rfl
def r4_encode.T11 : Bool × List (List Nat × List Nat) := (true,[([],[]),([],[]),([0,1],[0,1]),([],[]),([],[]),([4],[4]),([3,5],[3,5]),([2,6,2],[2,6]),([7,7,0,1,2,3,4,5,6,7],[7])])
def r4_encode.B11 : List Nat := [0,0,3,0,0,16,56,127,255]
theorem r4_encode.tab11 : rtab .any (opsOf Try.f40 11) = r4_encode.T11 := by kernel_rfl
theorem r4_encode.bits11 : waitsOk r4_encode.T11.2 r4_encode.B11 = true := by kernel_rfl
set_option maxHeartbeats 8000000 in
set_option maxRecDepth 100000 in
theorem r4_encode.calls (k : Nat) (a0_0 : Int) (a0_1 : Int) (a0_2 : Int) (a0_3 : Int) (A1 : Option Addr) (c1 : Nat) (l1 : List Int) (r : List Int) (w : World) (hr1 : Kd.C (Kd.int .u8) w A1 l1.length l1) (hc1 : l1.length ≤ c1) (h : r4_encode.f k a0_0 a0_1 a0_2 a0_3 l1 = some r) :
  Calls Try.prog 40 #[.agg #[.int .i64 a0_0,.int .u64 a0_1,.int .i64 a0_2,.int .i64 a0_3],.slice A1 l1.length c1] w fun e w' => ∃ v0_ : Value,e = .returned (v0_) ∧ Kd.R (Kd.int .u8) 5 w' w.heap.size (fun _ => True) v0_ r ∧ Below w.heap.size w w' := by
 have hu26 := Try.underlying26
 have hu24 := Try.underlying24
 have HR1 := Aside0.mk hr1
 have HC1 := Aside0.mk hc1
 clear hr1 hc1
 have HB := aK (Below.refl w.heap.size w)
 have H : ((r4_Generator.f k a0_0 a0_1 a0_2 a0_3).bind fun bt505 => ((some (([] : List Int) : List Int)).bind fun y509 => (if y509.length + l1.length < 140737488355328 then ((some (y509 ++ l1 : List Int)).bind fun y512 => (if 0 ≤ a0_3 then (if y512.length + (a0_3 : Int).toNat < 140737488355328 then (r4_encode.l0 k l1 bt505.1 (y512 ++ List.replicate (a0_3 : Int).toNat 0) 0 a0_0 a0_1 a0_2 a0_3) else (none)) else (none))) else (none)))) = some r := h
 clear h
 replace H := Option.bind_eq_some_iff.mp H
 obtain ⟨⟨t505,t508⟩,A30,H⟩ := H
 try dsimp only at H
 have A3 := Aside0.mk A30
 clear A30
 obtain ⟨y509,hy509⟩ : ∃ y_ : List Int,y_ = (([] : List Int)) := ⟨_,rfl⟩
 replace H : (if y509.length + l1.length < 140737488355328 then ((some (y509 ++ l1 : List Int)).bind fun y512 => (if 0 ≤ a0_3 then (if y512.length + (a0_3 : Int).toNat < 140737488355328 then (r4_encode.l0 k l1 t505 (y512 ++ List.replicate (a0_3 : Int).toNat 0) 0 a0_0 a0_1 a0_2 a0_3) else (none)) else (none))) else (none)) = some r := by rw [hy509]; exact H
 have Ny509 := Aside0.mk hy509
 clear hy509
 by_cases c4 : y509.length + l1.length < 140737488355328
 rotate_left
 ·rw [if_neg c4] at H
  exact absurd H (by simp)

 rw [if_pos c4] at H
 have LMc4 := Aside0.mk c4
 clear c4
 obtain ⟨y512,hy512⟩ : ∃ y_ : List Int,y_ = (y509 ++ l1) := ⟨_,rfl⟩
 replace H : (if 0 ≤ a0_3 then (if y512.length + (a0_3 : Int).toNat < 140737488355328 then (r4_encode.l0 k l1 t505 (y512 ++ List.replicate (a0_3 : Int).toNat 0) 0 a0_0 a0_1 a0_2 a0_3) else (none)) else (none)) = some r := by rw [hy512]; exact H
 have Ny512 := Aside0.mk hy512
 clear hy512
 by_cases c5 : 0 ≤ a0_3
 rotate_left
 ·rw [if_neg c5] at H
  exact absurd H (by simp)
 rw [if_pos c5] at H
 have c5b0 := eq_true c5
 have c5b1 : decide (0 ≤ a0_3) = true := decide_eq_true c5
 clear c5
 by_cases c6 : y512.length + (a0_3 : Int).toNat < 140737488355328
 rotate_left
 ·rw [if_neg c6] at H
  exact absurd H (by simp)
 rw [if_pos c6] at H
 have LMc6 := Aside0.mk c6
 clear c6
 obtain ⟨y515,hy515⟩ : ∃ y_ : List Int,y_ = (y512 ++ List.replicate (a0_3 : Int).toNat 0) := ⟨_,rfl⟩
 replace H : (r4_encode.l0 k l1 t505 y515 0 a0_0 a0_1 a0_2 a0_3) = some r := by rw [hy515]; exact H
 have Ny515 := Aside0.mk hy515
 clear hy515
 have H' := Aside0.mk H
 clear H
 go_enter Try.func40,Try.ntmps40
 try go_wp2_with (first | ((with_reducible refine gate_dst (N := 2) rfl ?_); refine box_event ?hg (N := 2) ?hd (cs := #[.int .i64 a0_0,.int .u64 a0_1,.int .i64 a0_2,.int .i64 a0_3]) (t := 26) ?hr ?_; (case hd => rfl); (case hg => rfl); (case hr => first | (go_simp; done) | (go_simp; rfl)); intro gb504 hg w7 hbox hb; have n0_ := aK (below_step (mvh HB.out) hb); have n1_ := aK (hbox); have n2_ := aK ((by rw [hg]; exact (below_size (mvh HB.out)) : w.heap.size ≤ gb504)); have n3_ := aK ((by rw [hg]; exact (below_size (mvh HB.out)) : w.heap.size ≤ gb504)); clear HB; have HB := n0_; have BK504 := n1_; have GW504 := n2_; have GE504 := n3_; clear n0_ n1_ n2_ n3_; clear hb hbox hg; obtain ⟨hcz8_0,hcz8_1,hcz8_2,hcz8_3,hfz8_0,hfz8_1,hfz8_2,hfz8_3⟩ := cf4 BK504.out) | (go_at_call 19; (with_reducible refine (r4_Generator.calls k a0_0 a0_1 a0_2 a0_3 t505 t508 _ A3.out).mono ?_); rintro e w9 ⟨v506,rfl,ho0,hb⟩; have n0_ := aK (Kd.R_lower ho0 (below_size (mvh HB.out))); have n1_ := aK (kb BK504.out hb); have n2_ := aK (below_step (mvh HB.out) hb); clear BK504 HB; have HO507 := n0_; have BK504 := n1_; have HB := n2_; clear n0_ n1_ n2_; (try clear hb); (try clear ho0)))
 have n0_ := aK (Kd.R_drew HO507.out)
 have n1_ := aK (blk_drew BK504.out)
 have n2_ := aK (below_drew1 HB.out)
 clear HO507 BK504 HB
 have HO507 := n0_
 have BK504 := n1_
 have HB := n2_
 clear n0_ n1_ n2_
 refine start_ (n := 7) (S := fun w' => w'.cell? ⟨gb504,0,none⟩ = some (.int .i64 a0_0) ∧ w'.cell? ⟨gb504,1,none⟩ = some (.int .u64 a0_1) ∧ w'.cell? ⟨gb504,2,none⟩ = some (.int .i64 a0_2) ∧ w'.cell? ⟨gb504,3,none⟩ = some (.int .i64 a0_3)) (ds := []) #[false,false,false,false,false,false,false] (by kernel_rfl) rfl rfl ⟨(blk_cell BK504.out 0).trans rfl,(blk_cell BK504.out 1).trans rfl,(blk_cell BK504.out 2).trans rfl,(blk_cell BK504.out 3).trans rfl⟩ (fun hHeld => ?_)
 generalize w9.drew = w10 at HO507 BK504 HB hHeld ⊢
 refine pure_ (i := 1) (N := some 17) (v := ?_) (a' := ?_) #[false,true,false,false,false,false,false] rfl rfl (by kernel_rfl) (fun _ _ _ h => h) (Or.inl ⟨by rfl,?_⟩) ?_ ?_
 rotate_left
 ·intro w'
  go_simp
  with_reducible rfl
 rotate_left
 ·simp only [Act.put,List.setIfInBounds_toArray,List.set_cons_zero,List.set_cons_succ,i64_w,i32_w]
  rfl
 refine pure_ (i := 3) (N := some 19) (v := ?_) (a' := ?_) #[false,true,false,true,false,false,false] rfl rfl (by kernel_rfl) (fun _ _ _ h => h) (Or.inl ⟨by rfl,?_⟩) ?_ ?_
 rotate_left
 ·intro w'
  go_simp
  with_reducible rfl
 rotate_left
 ·simp only [Act.put,List.setIfInBounds_toArray,List.set_cons_zero,List.set_cons_succ,i64_w,i32_w]
  rfl
 refine take_ (i := 4) (N := some 20) (v := ?_) (a' := ?_) #[false,true,false,true,true,false,false] rfl rfl (by kernel_rfl) (fun _ _ _ h => h) (Or.inl ⟨by rfl,?_⟩) hHeld ?_ ?_
 rotate_left
 ·rintro w' ⟨s0,s1,s2,s3⟩
  go_simp
  with_reducible rfl
 rotate_left
 ·simp only [Act.put,List.setIfInBounds_toArray,List.set_cons_zero,List.set_cons_succ,i64_w,i32_w]
  rfl
 refine one_ (i := 0) (N := some 16) #[true,true,false,true,true,false,false] rfl rfl (by kernel_rfl) (by decide) (fun K hK => ?_)
 refine Kd.R_lit_step (Kd.int .u8) _ 5 ?hg (N := 16) ?hd (xs := ([] : List Int)) (inner := []) (ok := fun _ => True) (okp := fun _ => True) ?hr ?hp (fun _ hk => hk) trivial (Below.refl _ _) (Nat.le_refl _) (by simp) ?_; (case hd => rfl); (case hg => rfl); (case hr => first | (go_simp; done) | (go_simp; rfl)); (case hp => exact (Reps.none _ _))
 intro v510 w11 ho12 hb hg_ hnew_
 clear hg_ hnew_
 (first | rw [← Ny509.out] at ho12 | (simp only [Int.reduceToNat] at ho12; rw [← Ny509.out] at ho12))
 have n0_ := aK (Kd.R_elder' (mvR HO507.out) (Kd.R_base ho12) hb)
 have n1_ := aK (Kd.R_lower (Kd.R_new' ho12 (Kd.R_lt (mvR HO507.out))) (below_size (mvh HB.out)))
 have n2_ := aK (kb BK504.out hb)
 have n3_ := aK (below_step (mvh HB.out) hb)
 clear HO507 BK504 HB
 have HO507 := n0_
 have HO511 := n1_
 have BK504 := n2_
 have HB := n3_
 clear n0_ n1_ n2_ n3_ hb ho12
 refine hK.out _ _ ⟨(blk_cell BK504.out 0).trans rfl,(blk_cell BK504.out 1).trans rfl,(blk_cell BK504.out 2).trans rfl,(blk_cell BK504.out 3).trans rfl⟩ (fun hHeld => ?_)
 clear hK K
 refine norm_ (a' := ?_) ?_ ?_
 rotate_left
 ·show Act.put _ (some 16) _ = _
  simp only [Act.put,List.setIfInBounds_toArray,List.set_cons_zero,List.set_cons_succ,i64_w,i32_w]
  rfl
 refine one_ (i := 2) (N := some 18) #[true,true,true,true,true,false,false] rfl rfl (by kernel_rfl) (by decide) (fun K hK => ?_)
 refine Kd.R_append_rows_step (Kd.int .u8) (w0 := w) w.heap.size (by rfl) (.tmp 16) (.tmp 17) 27 5 (.int .u8 0) 1 rfl Try.underlying27 info5 rfl (by decide) (by omega) v510 y509 l1 _ _ _ (fun k_ => some k_ ≠ (v506 : Value).ownBlock) (fun _ => False) rfl rfl ?aO ?aR (fun _ _ h => h) (fun _ h => h.elim) ?aF ?aB ?aS ?aL ?_
 (case aR => repeat (first | exact (Kd.C_below HR1.out HB.out) | (with_reducible refine Kd.C_alloc ?_ _) | (with_reducible refine Kd.C_drewN ?_ _) | (with_reducible refine Kd.C_drew ?_)))
 (case aB => exact (mvh HB.out))
 (case aF => exact (fun k_ hk => Kd.fresh' (Kd.R_lt (mvR HO507.out)) k_ hk))
 (case aO => exact (by (with_reducible repeat (first | apply Kd.R_alloc | apply Kd.R_drewN | apply Kd.R_drew)); exact Kd.R_mono HO511.out (fun _ hk => hk.2)))
 (case aS => exact (below_size (mvh HB.out)))
 (case aL => have := LMc4.out; omega)
 intro v513 w13 ho hb hg hat
 rw [← Ny512.out] at ho
 have n0_ := aK (blk_grown (g := gb504) (o := .cells #[.int .i64 a0_0,.int .u64 a0_1,.int .i64 a0_2,.int .i64 a0_3] 26 (0,0)) (mvb BK504.out) hg (Kd.R_ne HO511.out BK504.out (by decide)))
 have n1_ := aK (Kd.R_after (ok := (fun _ => True)) (mvR HO507.out) hg hat)
 have n2_ := aK (hb)
 have n3_ := aK (ho)
 clear BK504 HO507 HB HO511
 have BK504 := n0_
 have HO507 := n1_
 have HB := n2_
 have HO514 := n3_
 clear n0_ n1_ n2_ n3_ ho hb hg hat
 refine hK.out _ _ ⟨(blk_cell BK504.out 0).trans rfl,(blk_cell BK504.out 1).trans rfl,(blk_cell BK504.out 2).trans rfl,(blk_cell BK504.out 3).trans rfl⟩ (fun hHeld => ?_)
 clear hK K
 refine norm_ (a' := ?_) ?_ ?_
 rotate_left
 ·show Act.put _ (some 18) _ = _
  simp only [Act.put,List.setIfInBounds_toArray,List.set_cons_zero,List.set_cons_succ,i64_w,i32_w]
  rfl
 refine one_ (i := 5) (N := some 21) #[true,true,true,true,true,true,false] rfl rfl (by kernel_rfl) (by decide) (fun K hK => ?_)
 refine Kd.R_append_zeros_step (Kd.int .u8) (w0 := w) w.heap.size (by rfl) (.tmp 18) (.tmp 20) 27 3 5 (.int .u8 0) 1 rfl Try.underlying27 Try.underlying3 info5 rfl (by decide) (by omega) v513 y512 0 (a0_3 : Int) (fun k_ => some k_ ≠ (v506 : Value).ownBlock) rfl rfl rfl ?aF ?aO (of_decide_eq_true (by first | (with_reducible assumption) | assumption)) ?aB ?aS ?aL ?_
 (case aB => exact (mvh HB.out))
 (case aF => exact (fun k_ hk => Kd.fresh' (Kd.R_lt (mvR HO507.out)) k_ hk))
 (case aO => exact (mvR HO514.out))
 (case aS => exact (below_size (mvh HB.out)))
 (case aL => have := LMc6.out; omega)
 intro v516 w14 ho hb hg hat
 rw [← Ny515.out] at ho
 have n0_ := aK (blk_grown (g := gb504) (o := .cells #[.int .i64 a0_0,.int .u64 a0_1,.int .i64 a0_2,.int .i64 a0_3] 26 (0,0)) (mvb BK504.out) hg (Kd.R_ne HO514.out BK504.out (by decide)))
 have n1_ := aK (Kd.R_after (ok := (fun _ => True)) (mvR HO507.out) hg hat)
 have n2_ := aK (hb)
 have n3_ := aK (ho)
 clear BK504 HO507 HB HO514
 have BK504 := n0_
 have HO507 := n1_
 have HB := n2_
 have HO517 := n3_
 clear n0_ n1_ n2_ n3_ ho hb hg hat
 refine hK.out _ _ ⟨(blk_cell BK504.out 0).trans rfl,(blk_cell BK504.out 1).trans rfl,(blk_cell BK504.out 2).trans rfl,(blk_cell BK504.out 3).trans rfl⟩ (fun hHeld => ?_)
 clear hK K
 refine norm_ (a' := ?_) ?_ ?_
 rotate_left
 ·show Act.put _ (some 21) _ = _
  simp only [Act.put,List.setIfInBounds_toArray,List.set_cons_zero,List.set_cons_succ,i64_w,i32_w]
  rfl
 refine pure_ (i := 6) (N := some 7) (v := ?_) (a' := ?_) #[true,true,true,true,true,true,true] rfl rfl (by kernel_rfl) (fun _ _ _ h => h) (Or.inl ⟨by rfl,?_⟩) ?_ ?_
 rotate_left
 ·intro w'
  go_simp
  with_reducible rfl
 rotate_left
 ·simp only [Act.put,List.setIfInBounds_toArray,List.set_cons_zero,List.set_cons_succ,i64_w,i32_w]
  rfl
 refine done_ (by kernel_rfl) ?_
 try go_wp2
 go_loopg [8] k (fun kq v8 w' => ∃ (x7_1 : List Int) (x8_1 : Int),v8 = .int .i64 x8_1 ∧ Aside0 (r4_encode.l0 kq l1 t505 x7_1 x8_1 a0_0 a0_1 a0_2 a0_3 = some r) ∧ Aside0 (kq ≤ k) ∧ Aside0 (Kd.R (Kd.int .u8) 5 w' w.heap.size (fun k_ => some k_ ≠ (v516 : Value).ownBlock) v506 t505) ∧ Aside0 (Kd.R (Kd.int .u8) 5 w' w.heap.size (fun k_ => some k_ ≠ (v506 : Value).ownBlock) v516 x7_1) ∧ Aside0 (w'.heap[gb504]? = some (.cells #[.int .i64 a0_0,.int .u64 a0_1,.int .i64 a0_2,.int .i64 a0_3] 26 (0,0))) ∧ Aside0 (Below w.heap.size w w'))
 case atStart => exact ⟨(y515),(0),(by first | rfl | (simp; done) | (simp [*]; done) | (simp [wrap64]; done)),H',⟨Nat.le_refl _⟩,⟨by (with_reducible repeat (first | apply Kd.R_alloc | apply Kd.R_drewN | apply Kd.R_drew)); exact Kd.R_mono HO507.out (fun _ hk => hk.2)⟩,⟨mvR HO517.out⟩,⟨mvb BK504.out⟩,⟨mvh HB.out⟩⟩
 case round =>
  (try clear hHeld)
  clear H'
  (try clear c1); (try clear p2); (try clear c4); (try clear c5); (try clear c5b0); (try clear c5b1); (try clear c6); (try clear p6); (try clear hcz8_0); (try clear hcz8_1); (try clear hcz8_2); (try clear hcz8_3); (try clear hfz8_0); (try clear hfz8_1); (try clear hfz8_2); (try clear hfz8_3)
  obtain ⟨x7_1,x8_1,rfl,HA,HK1,HO_5,HO_7,BK504,HB⟩ := hrel
  cases gk with
  | zero => exact absurd HA.out (by simp [r4_encode.l0])
  | succ k1 =>
   have H := HA.out
   clear HA
   simp only [r4_encode.l0] at H
   by_cases c15 : x8_1 < (l1.length : Int)
   rotate_left
   ·rw [if_neg c15] at H
    have c15b0 : decide (x8_1 < (l1.length : Int)) = false := decide_eq_false c15
    clear c15
    obtain ⟨y518,hy518⟩ : ∃ y_ : List Int,y_ = (([] : List Int)) := ⟨_,rfl⟩
    replace H : (if y518.length + l1.length < 140737488355328 then ((some (y518 ++ l1 : List Int)).bind fun y521 => (if 0 ≤ (l1.length : Int) then (if (l1.length : Int) ≤ (x7_1.length : Int) then ((some (x7_1.drop ((l1.length : Int) : Int).toNat : List Int)).bind fun y524 => (if y521.length + y524.length < 140737488355328 then (some (y521 ++ y524)) else (none))) else (none)) else (none))) else (none)) = some r := by rw [hy518]; exact H
    have Ny518 := Aside0.mk hy518
    clear hy518
    by_cases c31 : y518.length + l1.length < 140737488355328
    rotate_left
    ·rw [if_neg c31] at H
     exact absurd H (by simp)
    rw [if_pos c31] at H
    have LMc31 := Aside0.mk c31
    clear c31
    obtain ⟨y521,hy521⟩ : ∃ y_ : List Int,y_ = (y518 ++ l1) := ⟨_,rfl⟩
    replace H : (if 0 ≤ (l1.length : Int) then (if (l1.length : Int) ≤ (x7_1.length : Int) then ((some (x7_1.drop ((l1.length : Int) : Int).toNat : List Int)).bind fun y524 => (if y521.length + y524.length < 140737488355328 then (some (y521 ++ y524)) else (none))) else (none)) else (none)) = some r := by rw [hy521]; exact H
    have Ny521 := Aside0.mk hy521
    clear hy521
    by_cases c32 : 0 ≤ (l1.length : Int)
    rotate_left
    ·rw [if_neg c32] at H
     exact absurd H (by simp)
    rw [if_pos c32] at H
    have c32b0 := eq_true c32
    have c32b1 : decide (0 ≤ (l1.length : Int)) = true := decide_eq_true c32
    clear c32
    by_cases c33 : (l1.length : Int) ≤ (x7_1.length : Int)
    rotate_left
    ·rw [if_neg c33] at H
     exact absurd H (by simp)
    rw [if_pos c33] at H
    have c33b0 := eq_true c33
    have c33b1 : decide ((l1.length : Int) ≤ (x7_1.length : Int)) = true := decide_eq_true c33
    clear c33
    obtain ⟨y524,hy524⟩ : ∃ y_ : List Int,y_ = (x7_1.drop ((l1.length : Int) : Int).toNat) := ⟨_,rfl⟩
    replace H : (if y521.length + y524.length < 140737488355328 then (some (y521 ++ y524)) else (none)) = some r := by rw [hy524]; exact H
    have Ny524 := Aside0.mk hy524
    clear hy524
    by_cases c34 : y521.length + y524.length < 140737488355328
    rotate_left
    ·rw [if_neg c34] at H
     exact absurd H (by simp)
    rw [if_pos c34] at H
    have LMc34 := Aside0.mk c34
    clear c34
    obtain ⟨y528,hy528⟩ : ∃ y_ : List Int,y_ = (y521 ++ y524) := ⟨_,rfl⟩
    replace H : (some y528) = some r := by rw [hy528]; exact H
    have Ny528 := Aside0.mk hy528
    clear hy528
    obtain rfl := Option.some.inj H
    try go_wp2
    have n0_ := aK (Kd.R_drew HO_5.out)
    have n1_ := aK (Kd.R_drew HO_7.out)
    have n2_ := aK (blk_drew BK504.out)
    have n3_ := aK (below_drew1 HB.out)
    clear HO_5 HO_7 BK504 HB
    have HO_5 := n0_
    have HO_7 := n1_
    have BK504 := n2_
    have HB := n3_
    clear n0_ n1_ n2_ n3_
    obtain ⟨Ao37,co37,eo37⟩ := Kd.R_slice HO_7.out
    (first | subst eo37 | (injection eo37 with f1_ f2_ f3_; have f4_ := f1_.symm; have f5_ := f3_.symm; clear f1_ f2_ f3_; subst f4_; subst f5_))
    have q36 : ((l1.length : Int) : Int) ≤ ((x7_1.length : Int) : Int) := of_decide_eq_true (by first | (with_reducible assumption) | assumption)
    obtain ⟨i036,hi036,_,hsz36,_⟩ := info_parts info5
    have hroom36 : x7_1.length ≤ co37 := (Kd.R_reads' HO_7.out).2.1
    have hC36 : Kd.C (Kd.int .u8) _ Ao37 x7_1.length x7_1 := (Kd.R_reads' HO_7.out).2.2
    have q036 : (0 : Int) ≤ ((l1.length : Int) : Int) := of_decide_eq_true (by first | (with_reducible assumption) | assumption)
    have hcut36 := cut_from (P := Try.prog) 27 5 .i64 Try.underlying27 hi036 1 hsz36 Ao37 x7_1.length co37 (l1.length : Int) q036 q36
    have hr36 := Kd.C_drop (m := ((l1.length : Int) : Int).toNat) (c := co37) hC36 (by omega) hroom36
    obtain ⟨A36,hA36⟩ : ∃ A1,A1 = (if co37 = ((l1.length : Int) : Int).toNat then Ao37 else (Ao37 : Option Addr).map (·.add (((l1.length : Int) : Int).toNat * 1))) := ⟨_,rfl⟩
    obtain ⟨c36,hc36⟩ : ∃ c1,c1 = co37 - ((l1.length : Int) : Int).toNat := ⟨_,rfl⟩
    have hy36 : y524.length = x7_1.length - ((l1.length : Int) : Int).toNat := (by rw [Ny524.out,List.length_drop] <;> omega)
    rw [show (x7_1).drop ((l1.length : Int) : Int).toNat = y524 from Ny524.out.symm] at hr36
    replace hr36 : Kd.C (Kd.int .u8) _ A36 y524.length y524 := (by rw [hA36]; exact hr36)
    rw [← hy36,← hA36,← hc36] at hcut36
    have HR527 := Aside0.mk hr36
    have HC527 := aK (show y524.length ≤ c36 from by rw [hy36,hc36]; exact Nat.sub_le_sub_right hroom36 _)
    clear hr36 hC36 hroom36 hi036 hsz36 hc36
    have KY36 := Aside0.mk hy36
    have KA36 := Aside0.mk hA36
    clear hy36 hA36
    have KL36 := aK (show ((l1.length : Int) : Int).toNat ≤ x7_1.length from by omega)
    replace q36 := eq_true q36
    refine start_ (n := 9) (S := fun w' => True) (ds := []) #[false,false,false,false,false,false,false,false,false] (by kernel_rfl) rfl rfl trivial (fun hHeld => ?_); refine with_tabW r4_encode.tab11 r4_encode.bits11 (fun HT_ HW_ => ?_)
    generalize wr.drew = w35 at HO_5 HO_7 BK504 HB HR527 hHeld ⊢
    refine pure_ (i := 1) (N := some 59) (v := ?_) (a' := ?_) #[false,true,false,false,false,false,false,false,false] rfl rfl (any_of HT_.out (by kernel_rfl)) (fun _ _ _ h => h) (Or.inl ⟨by rfl,?_⟩) ?_ ?_
    rotate_left
    ·intro w'
     go_simp
     with_reducible rfl
    rotate_left
    ·simp only [Act.put,List.setIfInBounds_toArray,List.set_cons_zero,List.set_cons_succ,i64_w,i32_w]
     rfl
    refine pure_ (i := 3) (N := some 61) (v := ?_) (a' := ?_) #[false,true,false,true,false,false,false,false,false] rfl rfl (any_of HT_.out (by kernel_rfl)) (fun _ _ _ h => h) (Or.inl ⟨by rfl,?_⟩) ?_ ?_
    rotate_left
    ·intro w'
     go_simp
     with_reducible rfl
    rotate_left
    ·simp only [Act.put,List.setIfInBounds_toArray,List.set_cons_zero,List.set_cons_succ,i64_w,i32_w]
     rfl
    refine pure_ (i := 4) (N := some 62) (v := ?_) (a' := ?_) #[false,true,false,true,true,false,false,false,false] rfl rfl (any_of HT_.out (by kernel_rfl)) (fun _ _ _ h => h) (Or.inl ⟨by rfl,?_⟩) ?_ ?_
    rotate_left
    ·intro w'
     go_simp
     with_reducible rfl
    rotate_left
    ·simp only [Act.put,List.setIfInBounds_toArray,List.set_cons_zero,List.set_cons_succ,i64_w,i32_w]
     rfl
    refine pure_ (i := 5) (N := some 63) (v := ?_) (a' := ?_) #[false,true,false,true,true,true,false,false,false] rfl rfl (any_of HT_.out (by kernel_rfl)) (fun _ _ _ h => h) (Or.inl ⟨by rfl,?_⟩) ?_ ?_
    rotate_left
    ·intro w'
     go_simp
     with_reducible rfl
    rotate_left
    ·simp only [Act.put,List.setIfInBounds_toArray,List.set_cons_zero,List.set_cons_succ,i64_w,i32_w]
     rfl
    refine pure_ (i := 6) (N := some 64) (v := ?_) (a' := ?_) #[false,true,false,true,true,true,true,false,false] rfl rfl (any_of HT_.out (by kernel_rfl)) (fun _ _ _ h => h) (Or.inl ⟨by rfl,?_⟩) ?_ ?_
    rotate_left
    ·intro w'
     go_simp
     with_reducible rfl
    rotate_left
    ·simp only [Act.put,List.setIfInBounds_toArray,List.set_cons_zero,List.set_cons_succ,i64_w,i32_w]
     rfl
    refine one_ (i := 0) (N := some 58) #[true,true,false,true,true,true,true,false,false] rfl rfl (one_of HT_.out (by kernel_rfl)) (by decide) (fun K hK => ?_)
    refine Kd.R_lit_step (Kd.int .u8) _ 5 ?hg (N := 58) ?hd (xs := ([] : List Int)) (inner := []) (ok := fun _ => True) (okp := fun _ => True) ?hr ?hp (fun _ hk => hk) trivial (Below.refl _ _) (Nat.le_refl _) (by simp) ?_; (case hd => rfl); (case hg => rfl); (case hr => first | (go_simp; done) | (go_simp; rfl)); (case hp => exact (Reps.none _ _))
    intro v519 w38 ho39 hb hg_ hnew_
    clear hg_ hnew_
    (first | rw [← Ny518.out] at ho39 | (simp only [Int.reduceToNat] at ho39; rw [← Ny518.out] at ho39))
    have n0_ := aK (Kd.R_elder' (mvR HO_5.out) (Kd.R_base ho39) hb)
    have n1_ := aK (Kd.R_elder' (mvR HO_7.out) (Kd.R_base ho39) hb)
    have n2_ := aK (Kd.R_lower (Kd.R_new' (Kd.R_new' ho39 (Kd.R_lt (mvR HO_5.out))) (Kd.R_lt (mvR HO_7.out))) (below_size (mvh HB.out)))
    have n3_ := aK (kb BK504.out hb)
    have n4_ := aK (Kd.C_below (by repeat (first | (with_reducible exact HR527.out) | (with_reducible refine Kd.C_alloc ?_ _) | (with_reducible refine Kd.C_drewN ?_ _) | (with_reducible refine Kd.C_drew ?_) | exact HR527.out)) hb)
    have n5_ := aK (below_step (mvh HB.out) hb)
    clear HO_5 HO_7 BK504 HR527 HB
    have HO_5 := n0_
    have HO_7 := n1_
    have HO520 := n2_
    have BK504 := n3_
    have HR527 := n4_
    have HB := n5_
    clear n0_ n1_ n2_ n3_ n4_ n5_ hb ho39
    refine hK.out _ _ trivial (fun hHeld => ?_)
    clear hK K
    refine norm_ (a' := ?_) ?_ ?_
    rotate_left
    ·show Act.put _ (some 58) _ = _
     simp only [Act.put,List.setIfInBounds_toArray,List.set_cons_zero,List.set_cons_succ,i64_w,i32_w]
     rfl
    refine one_ (i := 2) (N := some 60) #[true,true,true,true,true,true,true,false,false] rfl rfl (one_of HT_.out (by kernel_rfl)) (by decide) (fun K hK => ?_)
    refine Kd.R_append_rows_step (Kd.int .u8) (w0 := w) w.heap.size (by rfl) (.tmp 58) (.tmp 59) 27 5 (.int .u8 0) 1 rfl Try.underlying27 info5 rfl (by decide) (by omega) v519 y518 l1 _ _ _ (fun k_ => some k_ ≠ (v506 : Value).ownBlock ∧ some k_ ≠ (.slice Ao37 x7_1.length co37 : Value).ownBlock) (fun _ => False) rfl rfl ?aO ?aR (fun _ _ h => h) (fun _ h => h.elim) ?aF ?aB ?aS ?aL ?_
    (case aR => repeat (first | exact (Kd.C_below HR1.out HB.out) | (with_reducible refine Kd.C_alloc ?_ _) | (with_reducible refine Kd.C_drewN ?_ _) | (with_reducible refine Kd.C_drew ?_)))
    (case aB => exact (mvh HB.out))
    (case aF => exact (fun k_ hk => ⟨Kd.fresh' (Kd.R_lt (mvR HO_5.out)) k_ hk,Kd.fresh' (Kd.R_lt (mvR HO_7.out)) k_ hk⟩))
    (case aO => exact (by (with_reducible repeat (first | apply Kd.R_alloc | apply Kd.R_drewN | apply Kd.R_drew)); exact Kd.R_mono HO520.out (fun _ hk => ⟨hk.1.2,hk.2⟩)))
    (case aS => exact (below_size (mvh HB.out)))
    (case aL => have := LMc31.out; omega)
    intro v522 w40 ho hb hg hat
    rw [← Ny521.out] at ho
    have n0_ := aK (Kd.R_after (ok := (fun k_ => some k_ ≠ (.slice Ao37 x7_1.length co37 : Value).ownBlock)) (mvR HO_5.out) hg hat)
    have n1_ := aK (Kd.R_after (ok := (fun k_ => some k_ ≠ (v506 : Value).ownBlock)) (mvR HO_7.out) hg hat)
    have n2_ := aK (blk_grown (g := gb504) (o := .cells #[.int .i64 a0_0,.int .u64 a0_1,.int .i64 a0_2,.int .i64 a0_3] 26 (0,0)) (mvb BK504.out) hg (Kd.R_ne HO520.out BK504.out (by decide)))
    have n3_ := aK (hb)
    have n4_ := aK ((show Kd.C (Kd.int .u8) w40 A36 y524.length y524 from by rw [Ny524.out,KA36.out]; exact Kd.C_drop (m := ((l1.length : Int) : Int).toNat) (c := co37) ((Kd.R_reads' (Kd.R_after (ok := (fun k_ => some k_ ≠ (v506 : Value).ownBlock)) (mvR HO_7.out) hg hat)).2.2) KL36.out ((Kd.R_reads' (Kd.R_after (ok := (fun k_ => some k_ ≠ (v506 : Value).ownBlock)) (mvR HO_7.out) hg hat)).2.1)))
    have n5_ := aK (ho)
    clear HO_5 HO_7 BK504 HB HR527 HO520
    have HO_5 := n0_
    have HO_7 := n1_
    have BK504 := n2_
    have HB := n3_
    have HR527 := n4_
    have HO523 := n5_
    clear n0_ n1_ n2_ n3_ n4_ n5_ ho hb hg hat
    refine hK.out _ _ trivial (fun hHeld => ?_)
    clear hK K
    refine norm_ (a' := ?_) ?_ ?_
    rotate_left
    ·show Act.put _ (some 60) _ = _
     simp only [Act.put,List.setIfInBounds_toArray,List.set_cons_zero,List.set_cons_succ,i64_w,i32_w]
     rfl
    refine one_ (i := 7) (N := some 65) #[true,true,true,true,true,true,true,true,false] rfl rfl (one_of HT_.out (by kernel_rfl)) (by decide) (fun K hK => ?_)
    refine Kd.R_append_rows_step (Kd.int .u8) (w0 := w) w.heap.size (by rfl) (.tmp 60) (.tmp 64) 27 5 (.int .u8 0) 1 rfl Try.underlying27 info5 rfl (by decide) (by omega) v522 y521 y524 _ _ _ (fun k_ => some k_ ≠ (v506 : Value).ownBlock ∧ some k_ ≠ (.slice Ao37 x7_1.length co37 : Value).ownBlock) (fun _ => False) rfl rfl ?aO ?aR (fun _ _ h => h) (fun _ h => h.elim) ?aF ?aB ?aS ?aL ?_
    (case aR => repeat (first | exact (by repeat (first | (with_reducible exact HR527.out) | (with_reducible refine Kd.C_alloc ?_ _) | (with_reducible refine Kd.C_drewN ?_ _) | (with_reducible refine Kd.C_drew ?_) | exact HR527.out)) | (with_reducible refine Kd.C_alloc ?_ _) | (with_reducible refine Kd.C_drewN ?_ _) | (with_reducible refine Kd.C_drew ?_)))
    (case aB => exact (mvh HB.out))
    (case aF => exact (fun k_ hk => ⟨Kd.fresh' (Kd.R_lt (mvR HO_5.out)) k_ hk,Kd.fresh' (Kd.R_lt (mvR HO_7.out)) k_ hk⟩))
    (case aO => exact (mvR HO523.out))
    (case aS => exact (below_size (mvh HB.out)))
    (case aL => have := LMc34.out; omega)
    intro v529 w41 ho hb hg hat
    rw [← Ny528.out] at ho
    have n0_ := aK (Kd.R_after (ok := (fun k_ => some k_ ≠ (.slice Ao37 x7_1.length co37 : Value).ownBlock)) (mvR HO_5.out) hg hat)
    have n1_ := aK (Kd.R_after (ok := (fun k_ => some k_ ≠ (v506 : Value).ownBlock)) (mvR HO_7.out) hg hat)
    have n2_ := aK (blk_grown (g := gb504) (o := .cells #[.int .i64 a0_0,.int .u64 a0_1,.int .i64 a0_2,.int .i64 a0_3] 26 (0,0)) (mvb BK504.out) hg (Kd.R_ne HO523.out BK504.out (by decide)))
    have n3_ := aK (hb)
    have n4_ := aK ((show Kd.C (Kd.int .u8) w41 A36 y524.length y524 from by rw [Ny524.out,KA36.out]; exact Kd.C_drop (m := ((l1.length : Int) : Int).toNat) (c := co37) ((Kd.R_reads' (Kd.R_after (ok := (fun k_ => some k_ ≠ (v506 : Value).ownBlock)) (mvR HO_7.out) hg hat)).2.2) KL36.out ((Kd.R_reads' (Kd.R_after (ok := (fun k_ => some k_ ≠ (v506 : Value).ownBlock)) (mvR HO_7.out) hg hat)).2.1)))
    have n5_ := aK (ho)
    clear HO_5 HO_7 BK504 HB HR527 HO523
    have HO_5 := n0_
    have HO_7 := n1_
    have BK504 := n2_
    have HB := n3_
    have HR527 := n4_
    have HO530 := n5_
    clear n0_ n1_ n2_ n3_ n4_ n5_ ho hb hg hat
    refine hK.out _ _ trivial (fun hHeld => ?_)
    clear hK K
    refine norm_ (a' := ?_) ?_ ?_
    rotate_left
    ·show Act.put _ (some 65) _ = _
     simp only [Act.put,List.setIfInBounds_toArray,List.set_cons_zero,List.set_cons_succ,i64_w,i32_w]
     rfl
    refine pure_ (i := 8) (N := some 4) (v := ?_) (a' := ?_) #[true,true,true,true,true,true,true,true,true] rfl rfl (any_of HT_.out (by kernel_rfl)) (fun _ _ _ h => h) (Or.inl ⟨by rfl,?_⟩) ?_ ?_
    rotate_left
    ·intro w'
     go_simp
     with_reducible rfl
    rotate_left
    ·simp only [Act.put,List.setIfInBounds_toArray,List.set_cons_zero,List.set_cons_succ,i64_w,i32_w]
     rfl
    refine done_ (done_of HT_.out (by kernel_rfl)) ?_
    try go_wp2
    go_ret
    exact ⟨_,by first | rfl | (simp [errW_none,errW_some] <;> rfl) | (simp [*,errW_none,errW_some] <;> rfl),by (with_reducible repeat (first | apply Kd.R_alloc | apply Kd.R_drewN | apply Kd.R_drew)); exact Kd.R_mono HO530.out (fun _ hk => trivial),mvh HB.out⟩
   rw [if_pos c15] at H
   have c15b0 : decide (x8_1 < (l1.length : Int)) = true := decide_eq_true c15
   clear c15
   by_cases c16 : 0 ≤ x8_1
   rotate_left
   ·rw [if_neg c16] at H
    exact absurd H (by simp)
   rw [if_pos c16] at H
   have c16b0 : decide (0 ≤ x8_1) = true := decide_eq_true c16
   clear c16
   by_cases c17 : x8_1 < (x7_1.length : Int)
   rotate_left
   ·rw [if_neg c17] at H
    exact absurd H (by simp)
   rw [if_pos c17] at H
   have c17b0 : decide (x8_1 < (x7_1.length : Int)) = true := decide_eq_true c17
   clear c17
   have H' := Aside0.mk H
   clear H
   obtain ⟨Ao18,co18,eo18⟩ := Kd.R_slice HO_7.out
   subst eo18
   have p531 : 0 ≤ (x8_1 : Int) := of_decide_eq_true (by first | (with_reducible assumption) | assumption)
   have q531 : x8_1 < (x7_1.length : Int) := of_decide_eq_true (by first | (with_reducible assumption) | assumption)
   obtain ⟨ad531,e531,hx531_0⟩ := Kd.at_int (Kd.R_reads' HO_7.out).2.2 x8_1 p531 q531
   cases e531
   replace p531 := eq_true p531
   replace q531 := eq_true q531
   go_wp2
   go_loopg [10] k1 (fun kq v10 w' => ∃ (x7_2 : List Int) (x10_2 : Int),v10 = .int .i64 x10_2 ∧ Aside0 (r4_encode.l1 kq l1 t505 x7_2 x8_1 (rd x7_1 x8_1) x10_2 a0_0 a0_1 a0_2 a0_3 = some r) ∧ Aside0 (kq ≤ k1) ∧ Aside0 (Kd.R (Kd.int .u8) 5 w' w.heap.size (fun k_ => some k_ ≠ ((.slice (some ad531) x7_1.length co18) : Value).ownBlock) v506 t505) ∧ Aside0 (Kd.R (Kd.int .u8) 5 w' w.heap.size (fun k_ => some k_ ≠ (v506 : Value).ownBlock) (.slice (some ad531) x7_1.length co18) x7_2) ∧ Aside0 (w'.heap[gb504]? = some (.cells #[.int .i64 a0_0,.int .u64 a0_1,.int .i64 a0_2,.int .i64 a0_3] 26 (0,0))) ∧ Aside0 (Below w.heap.size w w'))
   case atStart => exact ⟨(x7_1),(0),(by first | rfl | (simp; done) | (simp [*]; done) | (simp [wrap64]; done)),H',⟨Nat.le_refl _⟩,⟨mvR HO_5.out⟩,⟨mvR HO_7.out⟩,⟨mvb BK504.out⟩,⟨mvh HB.out⟩⟩
   case round =>
    (try clear hHeld)
    clear H'
    (try clear c1); (try clear p2); (try clear c4); (try clear c5); (try clear c5b0); (try clear c5b1); (try clear p5); (try clear q5); (try clear hx5); (try clear c6); (try clear p6); (try clear c15); (try clear c15b0); (try clear c16); (try clear c16b0); (try clear c17); (try clear c17b0); (try clear hcz8_0)
    (try clear hcz8_1); (try clear hcz8_2); (try clear hcz8_3); (try clear hfz8_0); (try clear hfz8_1); (try clear hfz8_2); (try clear hfz8_3); (try clear hx531_0); (try clear p2); (try clear p531); (try clear p6); (try clear q531)
    obtain ⟨x7_2,x10_2,rfl,HA,HK2,HO_5,HO_7,BK504,HB⟩ := hrel
    have hl7_2 := (Kd.R_reads' HO_7.out).1
    rw [hl7_2] at HO_7
    (try simp only [hl7_2])
    (try simp only [hl7_2] at BK504)
    (try simp only [hl7_2] at HO_5)
    cases gk with
    | zero => exact absurd HA.out (by simp [r4_encode.l1])
    | succ k2 =>
     have H := HA.out
     clear HA
     simp only [r4_encode.l1] at H
     by_cases c19 : x10_2 < (t505.length : Int)
     rotate_left
     ·rw [if_neg c19] at H
      have c19b0 : decide (x10_2 < (t505.length : Int)) = false := decide_eq_false c19
      (try simp only [hl7_2] at c19b0)
      clear c19
      have H' := Aside0.mk H
      clear H
      obtain ⟨Ao30,co30,eo30⟩ := Kd.R_slice HO_5.out
      subst eo30
      go_wp2
      (try simp only [← hl7_2])
      (try simp only [addZ] at *)
      go_roundg k2
      case measure => have := HK1.out; have := HK2.out; omega
      case rel => exact ⟨(x7_2),(wrap64 (x8_1 + 1)),(by first | rfl | (simp; done) | (simp [*]; done) | (simp [wrap64]; done)),H',⟨by have := HK1.out; have := HK2.out; omega⟩,⟨by (try simp only [hl7_2]); exact mvR HO_5.out⟩,⟨by (try simp only [hl7_2]); exact mvR HO_7.out⟩,⟨by (try simp only [hl7_2]); exact mvb BK504.out⟩,⟨mvh HB.out⟩⟩
     rw [if_pos c19] at H
     have c19b0 : decide (x10_2 < (t505.length : Int)) = true := decide_eq_true c19
     (try simp only [hl7_2] at c19b0)
     clear c19
     obtain ⟨ji20,hji20⟩ : ∃ j_ : Int,(wrap64 (x8_1 + x10_2)) = j_ := ⟨_,rfl⟩
     first | rw [hji20] at H | simp only [hji20] at H
     have hji20w : (IntKind.i64.wrap (x8_1 + x10_2)) = ji20 := (i64_w _).trans hji20
     by_cases c21 : 0 ≤ (ji20)
     rotate_left
     ·rw [if_neg c21] at H
      exact absurd H (by simp)
     rw [if_pos c21] at H
     have c21b0 : decide (0 ≤ (ji20)) = true := decide_eq_true c21
     clear c21
     by_cases c22 : (ji20) < (x7_2.length : Int)
     rotate_left
     ·rw [if_neg c22] at H
      exact absurd H (by simp)
     rw [if_pos c22] at H
     have c22b0 : decide ((ji20) < (x7_2.length : Int)) = true := decide_eq_true c22
     (try simp only [hl7_2] at c22b0)
     clear c22
     by_cases c23 : 0 ≤ x10_2
     rotate_left
     ·rw [if_neg c23] at H
      exact absurd H (by simp)
     rw [if_pos c23] at H
     have c23b0 : decide (0 ≤ x10_2) = true := decide_eq_true c23
     clear c23
     replace H := Option.bind_eq_some_iff.mp H
     obtain ⟨t534,A240,H⟩ := H
     try dsimp only at H
     have A24 := Aside0.mk A240
     clear A240
     obtain ⟨y535,hy535⟩ : ∃ y_ : List Int,y_ = (x7_2.set ((ji20) : Int).toNat (Go.bits .xor .u8 (rd x7_2 (ji20)) t534)) := ⟨_,rfl⟩
     replace H : (r4_encode.l1 k2 l1 t505 y535 x8_1 (rd x7_1 x8_1) (wrap64 (x10_2 + 1)) a0_0 a0_1 a0_2 a0_3) = some r := by rw [hy535]; exact H
     have Ny535 := Aside0.mk hy535
     clear hy535
     have H' := Aside0.mk H
     clear H
     obtain ⟨Ao26,co26,eo26⟩ := Kd.R_slice HO_5.out
     subst eo26
     try go_wp2
     have n0_ := aK (Kd.R_drew HO_5.out)
     have n1_ := aK (Kd.R_drew HO_7.out)
     have n2_ := aK (blk_drew BK504.out)
     have n3_ := aK (below_drew1 HB.out)
     clear HO_5 HO_7 BK504 HB
     have HO_5 := n0_
     have HO_7 := n1_
     have BK504 := n2_
     have HB := n3_
     clear n0_ n1_ n2_ n3_
     have p532 : 0 ≤ ((ji20) : Int) := of_decide_eq_true (by first | (with_reducible assumption) | assumption)
     have q532 : (ji20) < (x7_2.length : Int) := of_decide_eq_true (by first | (with_reducible assumption) | assumption)
     obtain ⟨ad532,e532,hx532_0⟩ := Kd.at_int (Kd.R_reads' HO_7.out).2.2 (ji20) p532 q532
     obtain rfl : ad531 = ad532 := (by injection e532)
     replace p532 := eq_true p532
     replace q532 := eq_true q532
     have p533 : 0 ≤ (x10_2 : Int) := of_decide_eq_true (by first | (with_reducible assumption) | assumption)
     have q533 : x10_2 < (t505.length : Int) := of_decide_eq_true (by first | (with_reducible assumption) | assumption)
     obtain ⟨ad533,e533,hx533_0⟩ := Kd.at_int (Kd.R_reads' HO_5.out).2.2 x10_2 p533 q533
     cases e533
     replace p533 := eq_true p533
     replace q533 := eq_true q533
     refine start_ (n := 21) (S := fun w' => w'.cell? ⟨gb504,0,none⟩ = some (.int .i64 a0_0) ∧ w'.cell? ⟨gb504,1,none⟩ = some (.int .u64 a0_1) ∧ w'.cell? ⟨gb504,2,none⟩ = some (.int .i64 a0_2) ∧ w'.cell? ⟨gb504,3,none⟩ = some (.int .i64 a0_3) ∧ w'.cell? (ad531.add ((ji20)).toNat) = some (.int .u8 (rd x7_2 (ji20))) ∧ w'.cell? (ad533.add (x10_2).toNat) = some (.int .u8 (rd t505 x10_2))) (ds := [20]) #[false,false,false,false,false,false,false,false,false,false,false,false,false,false,false,false,false,false,false,false,false] (by kernel_rfl) rfl rfl ⟨(blk_cell BK504.out 0).trans rfl,(blk_cell BK504.out 1).trans rfl,(blk_cell BK504.out 2).trans rfl,(blk_cell BK504.out 3).trans rfl,hx532_0,hx533_0⟩ (fun hHeld => ?_); refine with_tabW r4_encode.tab10 r4_encode.bits10 (fun HT_ HW_ => ?_)
     generalize wr.drew = w27 at HO_5 HO_7 BK504 HB hx532_0 hx533_0 hHeld ⊢
     refine pure_ (i := 0) (N := some 38) (v := ?_) (a' := ?_) #[true,false,false,false,false,false,false,false,false,false,false,false,false,false,false,false,false,false,false,false,false] rfl rfl (any_of HT_.out (by kernel_rfl)) (fun _ _ _ h => h) (Or.inl ⟨by rfl,?_⟩) ?_ ?_
     rotate_left
     ·intro w'
      go_simp
      with_reducible rfl
     rotate_left
     ·simp only [Act.put,List.setIfInBounds_toArray,List.set_cons_zero,List.set_cons_succ,i64_w,i32_w]
      rfl
     refine pure_ (i := 1) (N := some 39) (v := ?_) (a' := ?_) #[true,true,false,false,false,false,false,false,false,false,false,false,false,false,false,false,false,false,false,false,false] rfl rfl (any_of HT_.out (by kernel_rfl)) (fun _ _ _ h => h) (Or.inl ⟨by rfl,?_⟩) ?_ ?_
     rotate_left
     ·intro w'
      go_simp
      with_reducible rfl
     rotate_left
     ·simp only [Act.put,List.setIfInBounds_toArray,List.set_cons_zero,List.set_cons_succ,i64_w,i32_w]
      rfl
     refine pure_ (i := 2) (N := some 40) (v := ?_) (a' := ?_) #[true,true,true,false,false,false,false,false,false,false,false,false,false,false,false,false,false,false,false,false,false] rfl rfl (any_of HT_.out (by kernel_rfl)) (fun _ _ _ h => h) (Or.inl ⟨by rfl,?_⟩) ?_ ?_
     rotate_left
     ·intro w'
      go_simp
      with_reducible rfl
     rotate_left
     ·simp only [Act.put,List.setIfInBounds_toArray,List.set_cons_zero,List.set_cons_succ,i64_w,i32_w]
      rfl
     refine pure_ (i := 3) (N := some 41) (v := ?_) (a' := ?_) #[true,true,true,true,false,false,false,false,false,false,false,false,false,false,false,false,false,false,false,false,false] rfl rfl (any_of HT_.out (by kernel_rfl)) (fun _ _ _ h => h) (Or.inl ⟨by rfl,?_⟩) ?_ ?_
     rotate_left
     ·intro w'
      go_simp
      with_reducible rfl
     rotate_left
     ·simp only [Act.put,List.setIfInBounds_toArray,List.set_cons_zero,List.set_cons_succ,i64_w,i32_w]
      rfl
     refine pure_ (i := 4) (N := some 42) (v := ?_) (a' := ?_) #[true,true,true,true,true,false,false,false,false,false,false,false,false,false,false,false,false,false,false,false,false] rfl rfl (any_of HT_.out (by kernel_rfl)) (fun _ _ _ h => h) (Or.inl ⟨by rfl,?_⟩) ?_ ?_
     rotate_left
     ·intro w'
      go_simp
      with_reducible rfl
     rotate_left
     ·simp only [Act.put,List.setIfInBounds_toArray,List.set_cons_zero,List.set_cons_succ,i64_w,i32_w]
      rfl
     refine pure_ (i := 5) (N := some 43) (v := ?_) (a' := ?_) #[true,true,true,true,true,true,false,false,false,false,false,false,false,false,false,false,false,false,false,false,false] rfl rfl (any_of HT_.out (by kernel_rfl)) (fun _ _ _ h => h) (Or.inl ⟨by rfl,?_⟩) ?_ ?_
     rotate_left
     ·intro w'
      go_simp
      with_reducible rfl
     rotate_left
     ·simp only [Act.put,List.setIfInBounds_toArray,List.set_cons_zero,List.set_cons_succ,i64_w,i32_w]
      rfl
     refine pure_ (i := 6) (N := some 44) (v := ?_) (a' := ?_) #[true,true,true,true,true,true,true,false,false,false,false,false,false,false,false,false,false,false,false,false,false] rfl rfl (any_of HT_.out (by kernel_rfl)) (fun _ _ _ h => h) (Or.inl ⟨by rfl,?_⟩) ?_ ?_
     rotate_left
     ·intro w'
      go_simp
      with_reducible rfl
     rotate_left
     ·simp only [Act.put,List.setIfInBounds_toArray,List.set_cons_zero,List.set_cons_succ,i64_w,i32_w]
      rfl
     refine pure_ (i := 7) (N := some 45) (v := ?_) (a' := ?_) #[true,true,true,true,true,true,true,true,false,false,false,false,false,false,false,false,false,false,false,false,false] rfl rfl (any_of HT_.out (by kernel_rfl)) (fun _ _ _ h => h) (Or.inl ⟨by rfl,?_⟩) ?_ ?_
     rotate_left
     ·intro w'
      go_simp
      with_reducible rfl
     rotate_left
     ·simp only [Act.put,List.setIfInBounds_toArray,List.set_cons_zero,List.set_cons_succ,i64_w,i32_w]
      rfl
     refine pure_ (i := 8) (N := some 46) (v := ?_) (a' := ?_) #[true,true,true,true,true,true,true,true,true,false,false,false,false,false,false,false,false,false,false,false,false] rfl rfl (any_of HT_.out (by kernel_rfl)) (fun _ _ _ h => h) (Or.inl ⟨by rfl,?_⟩) ?_ ?_
     rotate_left
     ·intro w'
      go_simp
      with_reducible rfl
     rotate_left
     ·simp only [Act.put,List.setIfInBounds_toArray,List.set_cons_zero,List.set_cons_succ,i64_w,i32_w]
      rfl
     refine pure_ (i := 10) (N := some 48) (v := ?_) (a' := ?_) #[true,true,true,true,true,true,true,true,true,false,true,false,false,false,false,false,false,false,false,false,false] rfl rfl (any_of HT_.out (by kernel_rfl)) (fun _ _ _ h => h) (Or.inl ⟨by rfl,?_⟩) ?_ ?_
     rotate_left
     ·intro w'
      go_simp
      with_reducible rfl
     rotate_left
     ·simp only [Act.put,List.setIfInBounds_toArray,List.set_cons_zero,List.set_cons_succ,i64_w,i32_w]
      rfl
     refine pure_ (i := 12) (N := some 50) (v := ?_) (a' := ?_) #[true,true,true,true,true,true,true,true,true,false,true,false,true,false,false,false,false,false,false,false,false] rfl rfl (any_of HT_.out (by kernel_rfl)) (fun _ _ _ h => h) (Or.inl ⟨by rfl,?_⟩) ?_ ?_
     rotate_left
     ·intro w'
      go_simp
      with_reducible rfl
     rotate_left
     ·simp only [Act.put,List.setIfInBounds_toArray,List.set_cons_zero,List.set_cons_succ,i64_w,i32_w]
      rfl
     refine pure_ (i := 13) (N := some 51) (v := ?_) (a' := ?_) #[true,true,true,true,true,true,true,true,true,false,true,false,true,true,false,false,false,false,false,false,false] rfl rfl (any_of HT_.out (by kernel_rfl)) (fun _ _ _ h => h) (Or.inl ⟨by rfl,?_⟩) ?_ ?_
     rotate_left
     ·intro w'
      go_simp
      with_reducible rfl
     rotate_left
     ·simp only [Act.put,List.setIfInBounds_toArray,List.set_cons_zero,List.set_cons_succ,i64_w,i32_w]
      rfl
     refine pure_ (i := 14) (N := some 52) (v := ?_) (a' := ?_) #[true,true,true,true,true,true,true,true,true,false,true,false,true,true,true,false,false,false,false,false,false] rfl rfl (any_of HT_.out (by kernel_rfl)) (fun _ _ _ h => h) (Or.inl ⟨by rfl,?_⟩) ?_ ?_
     rotate_left
     ·intro w'
      go_simp
      with_reducible rfl
     rotate_left
     ·simp only [Act.put,List.setIfInBounds_toArray,List.set_cons_zero,List.set_cons_succ,i64_w,i32_w]
      rfl
     refine pure_ (i := 15) (N := some 53) (v := ?_) (a' := ?_) #[true,true,true,true,true,true,true,true,true,false,true,false,true,true,true,true,false,false,false,false,false] rfl rfl (any_of HT_.out (by kernel_rfl)) (fun _ _ _ h => h) (Or.inl ⟨by rfl,?_⟩) ?_ ?_
     rotate_left
     ·intro w'
      go_simp
      with_reducible rfl
     rotate_left
     ·simp only [Act.put,List.setIfInBounds_toArray,List.set_cons_zero,List.set_cons_succ,i64_w,i32_w]
      rfl
     refine take_ (i := 9) (N := some 47) (v := ?_) (a' := ?_) #[true,true,true,true,true,true,true,true,true,true,true,false,true,true,true,true,false,false,false,false,false] rfl rfl (take_ofW HT_.out HW_.out (by kernel_rfl)) (fun _ _ _ h => h) (Or.inl ⟨by rfl,?_⟩) hHeld ?_ ?_
     rotate_left
     ·rintro w' ⟨s0,s1,s2,s3,s4,s5⟩
      go_simp
      with_reducible rfl
     rotate_left
     ·simp only [Act.put,List.setIfInBounds_toArray,List.set_cons_zero,List.set_cons_succ,i64_w,i32_w]
      rfl
     refine take_ (i := 11) (N := some 49) (v := ?_) (a' := ?_) #[true,true,true,true,true,true,true,true,true,true,true,true,true,true,true,true,false,false,false,false,false] rfl rfl (take_ofW HT_.out HW_.out (by kernel_rfl)) (fun _ _ _ h => h) (Or.inl ⟨by rfl,?_⟩) hHeld ?_ ?_
     rotate_left
     ·rintro w' ⟨s0,s1,s2,s3,s4,s5⟩
      go_simp
      with_reducible rfl
     rotate_left
     ·simp only [Act.put,List.setIfInBounds_toArray,List.set_cons_zero,List.set_cons_succ,i64_w,i32_w]
      rfl
     refine take_ (i := 16) (N := some 54) (v := ?_) (a' := ?_) #[true,true,true,true,true,true,true,true,true,true,true,true,true,true,true,true,true,false,false,false,false] rfl rfl (take_ofW HT_.out HW_.out (by kernel_rfl)) (fun _ _ _ h => h) (Or.inl ⟨by rfl,?_⟩) hHeld ?_ ?_
     rotate_left
     ·rintro w' ⟨s0,s1,s2,s3,s4,s5⟩
      go_simp
      with_reducible rfl
     rotate_left
     ·simp only [Act.put,List.setIfInBounds_toArray,List.set_cons_zero,List.set_cons_succ,i64_w,i32_w]
      rfl
     refine one_ (i := 17) (N := some 55) #[true,true,true,true,true,true,true,true,true,true,true,true,true,true,true,true,true,true,false,false,false] rfl rfl (one_of HT_.out (by kernel_rfl)) (by decide) (fun K hK => ?_)
     refine goes_ Try.func37 (by kernel_rfl) rfl #[.agg #[.int .i64 a0_0,.int .u64 a0_1],.int .u8 (rd x7_1 x8_1),.int .u8 (rd t505 x10_2)] (by rfl) rfl rfl (by (try simp only [List.map_toArray,List.map_cons,List.map_nil]) <;> rfl) ?_
     with_reducible refine (r4_mul.calls k2 a0_0 a0_1 (rd x7_1 x8_1) (rd t505 x10_2) t534 _ A24.out).mono ?_
     rintro e w28 ⟨rfl,hb⟩
     have HS4_ := (hb.cell (World.block_lt_of_cell? _ _ (hHeld.2.2.2.2.1))).trans (hHeld.2.2.2.2.1)
     have HS5_ := (hb.cell (World.block_lt_of_cell? _ _ (hHeld.2.2.2.2.2))).trans (hHeld.2.2.2.2.2)
     refine ⟨_,rfl,?_⟩
     have n0_ := aK (Kd.R_below (mvR HO_5.out) hb)
     have n1_ := aK (Kd.R_below (mvR HO_7.out) hb)
     have n2_ := aK (kb BK504.out hb)
     have n3_ := aK (below_step (mvh HB.out) hb)
     clear HO_5 HO_7 BK504 HB
     have HO_5 := n0_
     have HO_7 := n1_
     have BK504 := n2_
     have HB := n3_
     clear n0_ n1_ n2_ n3_
     (try clear hb)
     have p25 : 0 ≤ ((ji20) : Int) := of_decide_eq_true (by first | (with_reducible assumption) | assumption)
     have q25 : ((ji20) : Int) < ((x7_2.length : Int) : Int) := of_decide_eq_true (by first | (with_reducible assumption) | assumption)
     obtain ⟨go25,co25,eo25,gb25,gl25,cl25,HG25⟩ := Kd.R_form HO_7.out (by omega)
     (first | cases eo25 | (injection eo25 with ea_ en_ ec_; (first | subst ea_ | (injection ea_ with ea_; subst ea_)); subst ec_; clear en_))
     have GB25 := Aside0.mk gb25
     have GG25 := Aside0.mk HG25
     clear gb25 gl25 HG25
     (first | simp only [add_plain] at hx531_0 | skip)
     (first | simp only [add_plain] at hx532_0 | skip)
     obtain ⟨hx25_0,hf25_0⟩ := Kd.R_celln 0 HO_7.out ((ji20) : Int) p25 q25
     replace p25 := eq_true p25
     replace q25 := eq_true q25
     have HP29 := Kd.R_putn HO_7.out ((ji20) : Int) (Go.bits .xor .u8 (rd x7_2 (ji20)) t534)
     rw [← Ny535.out] at HP29
     have HQ29 := Aside0.mk HP29
     clear HP29
     refine hK.out _ _ ⟨(blk_cell BK504.out 0).trans rfl,(blk_cell BK504.out 1).trans rfl,(blk_cell BK504.out 2).trans rfl,(blk_cell BK504.out 3).trans rfl,HS4_,HS5_⟩ (fun hHeld => ?_)
     clear hK K
     refine norm_ (a' := ?_) ?_ ?_
     rotate_left
     ·show Act.put _ (some 55) _ = _
      simp only [Act.put,List.setIfInBounds_toArray,List.set_cons_zero,List.set_cons_succ,i64_w,i32_w]
      rfl
     refine pure_ (i := 18) (N := some 56) (v := ?_) (a' := ?_) #[true,true,true,true,true,true,true,true,true,true,true,true,true,true,true,true,true,true,true,false,false] rfl rfl (any_of HT_.out (by kernel_rfl)) (fun _ _ _ h => h) (Or.inl ⟨by rfl,?_⟩) ?_ ?_
     rotate_left
     ·intro w'
      go_simp
      with_reducible rfl
     rotate_left
     ·simp only [Act.put,List.setIfInBounds_toArray,List.set_cons_zero,List.set_cons_succ,i64_w,i32_w]
      rfl
     refine pure_ (i := 19) (N := some 57) (v := ?_) (a' := ?_) #[true,true,true,true,true,true,true,true,true,true,true,true,true,true,true,true,true,true,true,true,false] rfl rfl (any_of HT_.out (by kernel_rfl)) (fun _ _ _ h => h) (Or.inl ⟨by rfl,?_⟩) ?_ ?_
     rotate_left
     ·intro w'
      go_simp
      with_reducible rfl
     rotate_left
     ·simp only [Act.put,List.setIfInBounds_toArray,List.set_cons_zero,List.set_cons_succ,i64_w,i32_w]
      rfl
     refine last_ (i := 20) (N := none) #[true,true,true,true,true,true,true,true,true,true,true,true,true,true,true,true,true,true,true,true,true] rfl rfl (one_of HT_.out (by kernel_rfl)) (by decide) (fun K hK => ?_)
     refine skip_ (w1 := ?_) (by rfl) rfl ?_ ?_
     rotate_left
     ·go_simp
      rfl
     refine hK.out _ _ ?_
     clear hK K
     refine done_ (done_of HT_.out (by kernel_rfl)) ?_
     try go_wp2
     (try simp only [← hl7_2])
     (try simp only [addZ] at *)
     go_roundg k2
     case measure => have := HK1.out; have := HK2.out; omega
     case rel => exact ⟨(y535),(wrap64 (x10_2 + 1)),(by first | rfl | (simp; done) | (simp [*]; done) | (simp [wrap64]; done)),H',⟨by have := HK1.out; have := HK2.out; omega⟩,⟨by (try simp only [hl7_2]); (with_reducible repeat (first | apply Kd.R_alloc | apply Kd.R_drewN | apply Kd.R_drew)); exact Kd.R_mono (Kd.R_far (p := ⟨go25,((ji20) : Int).toNat,none⟩) (Kd.R_mono HO_5.out (fun k_ hk => (⟨hk,fun e_ => hk (by rw [e_]; rfl)⟩ : _ ∧ k_ ≠ go25))) (fun _ hk => hk.2) (.int .u8 (Go.bits .xor .u8 (rd x7_2 (ji20)) t534))) (fun _ hk => hk.1)⟩,⟨by (try simp only [hl7_2]); exact mvR HQ29.out⟩,⟨by (try simp only [hl7_2]); (with_reducible repeat (first | apply bN | apply bD | apply bA)); refine blk_far ?_ (by have h_ := Kd.R_ne HO_7.out BK504.out (by decide); intro e_; exact h_ (by rw [e_]; rfl)) _; exact mvb BK504.out⟩,⟨by repeat (first | (with_reducible first | exact HB.out | apply below_alloc | apply pw_below_drewN | apply below_drew1 | refine below_set ?_ GB25.out | refine below_set ?_ GE504.out) | exact HB.out)⟩⟩
end Go.Proofs.Ytdhnjnkjhfomiaa.P

