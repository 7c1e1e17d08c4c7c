-- written by mk.sh, a program of this session, over the kit's print
import Derived.Test.YtdhnjnkjhfomiaaRmPx0
import Derived.Test.YtdhnjnkjhfomiaaRmPx6
import Derived.Test.YtdhnjnkjhfomiaaRmPx9
namespace Go.Proofs.Ytdhnjnkjhfomiaa.P
open Go.RowKit Go.Proofs.YtdhnjnkjhfomiaaW.PrintWords Go.Proofs.YtdhnjnkjhfomiaaW.PrintLast Go.Proofs.YtdhnjnkjhfomiaaW.PrintMore
attribute [local go_sem] max2_int min2_int max_two min_two max_three min_three max_four min_four   -- for this text's walks alone
set_option linter.unusedVariables false
set_option linter.unusedSimpArgs false

def r4_ranged.l0 : Nat → List Int → Int → Int → Int → Int → Int → Option (Bool)
 | 0,_,_,_,_,_,_ => none
 | k + 1,x1,x5,x240000,x240001,x240002,x240003 => if x5 < (x1.length : Int) then (if 0 ≤ x5 then ((r4_q1.f x240000 x240001).bind fun t241 => (if (wrap64 (rd x1 x5)) > t241 then (some false) else (r4_ranged.l0 k x1 (wrap64 (x5 + 1)) x240000 x240001 x240002 x240003))) else (none)) else (some true)
def r4_ranged.f (k : Nat) (a0_0 : Int) (a0_1 : Int) (a0_2 : Int) (a0_3 : Int) (l1 : List Int) : Option (Bool) := r4_ranged.l0 k l1 0 a0_0 a0_1 a0_2 a0_3
theorem r4_ranged.mono_l : ∀ k,(∀ y0 y1 y2 y3 y4 y5,LeO (r4_ranged.l0 k y0 y1 y2 y3 y4 y5) (r4_ranged.l0 (k + 1) y0 y1 y2 y3 y4 y5))
 | 0 => fun _ _ _ _ _ _ r h => by simp [r4_ranged.l0] at h
 | k + 1 => by
  have ih0 := r4_ranged.mono_l k
  ·intro y0 y1 y2 y3 y4 y5
   unfold r4_ranged.l0
   repeat' first
   | (with_reducible exact ih0 _ _ _ _ _ _)
   | (with_reducible exact LeO.refl _)
   | (with_reducible exact LeO.none _)
   | (with_reducible refine LeO.ite ?_ ?_)
   | (with_reducible refine LeO.bind ?_ (fun _ => ?_))
theorem r4_ranged.mono : ∀ a0 a1 a2 a3 a4 k,LeO (r4_ranged.f k a0 a1 a2 a3 a4) (r4_ranged.f (k + 1) a0 a1 a2 a3 a4) := by
 intro a0 a1 a2 a3 a4 k
 have ih0 := r4_ranged.mono_l k
 unfold r4_ranged.f
 repeat' first
   | (with_reducible exact ih0 _ _ _ _ _ _)
   | (with_reducible exact LeO.refl _)
   | (with_reducible exact LeO.none _)
   | (with_reducible refine LeO.ite ?_ ?_)
   | (with_reducible refine LeO.bind ?_ (fun _ => ?_))
def r4_ranged.T4 : Bool × List (List Nat × List Nat) := (true,[([],[]),([],[]),([0,1],[0,1]),([2],[2]),([3],[3]),([],[]),([5],[5]),([6],[6]),([4,7],[4,7])])
def r4_ranged.B4 : List Nat := [0,0,3,7,15,0,32,96,255]
theorem r4_ranged.tab4 : rtab .any (opsOf Try.f39 4) = r4_ranged.T4 := by kernel_rfl
theorem r4_ranged.bits4 : waitsOk r4_ranged.T4.2 r4_ranged.B4 = true := by kernel_rfl
set_option maxHeartbeats 8000000 in
set_option maxRecDepth 100000 in
theorem r4_ranged.calls (k : Nat) (a0_0 : Int) (a0_1 : Int) (a0_2 : Int) (a0_3 : Int) (A1 : Option Addr) (c1 : Nat) (l1 : List Int) (r : Bool) (w : World) (hr1 : Kd.C (Kd.int .u8) w A1 l1.length l1) (hc1 : l1.length ≤ c1) (h : r4_ranged.f k a0_0 a0_1 a0_2 a0_3 l1 = some r) :
  Calls Try.prog 39 #[.agg #[.int .i64 a0_0,.int .u64 a0_1,.int .i64 a0_2,.int .i64 a0_3],.slice A1 l1.length c1] w fun e w' => e = .returned (.bool r) ∧ Below w.heap.size w w' := by
 have hu26 := Try.underlying26
 have hu24 := Try.underlying24
 have HR1 := Aside0.mk hr1
 have HC1 := Aside0.mk hc1
 clear hr1 hc1
 have HB := aK (Below.refl w.heap.size w)
 have H : (r4_ranged.l0 k l1 0 a0_0 a0_1 a0_2 a0_3) = some r := h
 clear h
 have H' := Aside0.mk H
 clear H
 go_enter Try.func39,Try.ntmps39
 go_wp2_with (first | ((with_reducible refine gate_dst (N := 2) rfl ?_); refine box_event ?hg (N := 2) ?hd (cs := #[.int .i64 a0_0,.int .u64 a0_1,.int .i64 a0_2,.int .i64 a0_3]) (t := 26) ?hr ?_; (case hd => rfl); (case hg => rfl); (case hr => first | (go_simp; done) | (go_simp; rfl)); intro gb239 hg w3 hbox hb; have n0_ := aK (below_step (mvh HB.out) hb); have n1_ := aK (hbox); have n2_ := aK ((by rw [hg]; exact (below_size (mvh HB.out)) : w.heap.size ≤ gb239)); have n3_ := aK ((by rw [hg]; exact (below_size (mvh HB.out)) : w.heap.size ≤ gb239)); clear HB; have HB := n0_; have BK239 := n1_; have GW239 := n2_; have GE239 := n3_; clear n0_ n1_ n2_ n3_; clear hb hbox hg))
 go_loopg [5] k (fun kq v5 w' => ∃ (x5_1 : Int),v5 = .int .i64 x5_1 ∧ Aside0 (r4_ranged.l0 kq l1 x5_1 a0_0 a0_1 a0_2 a0_3 = some r) ∧ Aside0 (kq ≤ k) ∧ Aside0 (w'.heap[gb239]? = some (.cells #[.int .i64 a0_0,.int .u64 a0_1,.int .i64 a0_2,.int .i64 a0_3] 26 (0,0))) ∧ Aside0 (Below w.heap.size w w'))
 case atStart => exact ⟨(0),(by first | rfl | (simp; done) | (simp [*]; done) | (simp [wrap64]; done)),H',⟨Nat.le_refl _⟩,⟨mvb BK239.out⟩,⟨mvh HB.out⟩⟩
 case round =>
  clear H'
  (try clear c1); (try clear p2); (try clear c3)
  obtain ⟨x5_1,rfl,HA,HK1,BK239,HB⟩ := hrel
  cases gk with
  | zero => exact absurd HA.out (by simp [r4_ranged.l0])
  | succ k1 =>
   have H := HA.out
   clear HA
   simp only [r4_ranged.l0] at H
   by_cases c4 : x5_1 < (l1.length : Int)
   rotate_left
   ·rw [if_neg c4] at H
    have c4b0 : decide (x5_1 < (l1.length : Int)) = false := decide_eq_false c4
    clear c4
    obtain rfl := Option.some.inj H
    go_wp2
    go_ret
    exact ⟨by first | rfl | (simp [errW_none,errW_some] <;> rfl) | (simp [*,errW_none,errW_some] <;> rfl),mvh HB.out⟩

   rw [if_pos c4] at H
   have c4b0 : decide (x5_1 < (l1.length : Int)) = true := decide_eq_true c4
   clear c4
   by_cases c5 : 0 ≤ x5_1
   rotate_left
   ·rw [if_neg c5] at H
    exact absurd H (by simp)
   rw [if_pos c5] at H
   have c5b0 : decide (0 ≤ x5_1) = true := decide_eq_true c5
   clear c5
   replace H := Option.bind_eq_some_iff.mp H
   obtain ⟨t241,A60,H⟩ := H
   try dsimp only at H
   have A6 := Aside0.mk A60
   clear A60
   by_cases c7 : (wrap64 (rd l1 x5_1)) > t241
   ·rw [if_pos c7] at H
    have c7b0 : decide (t241 < (wrap64 (rd l1 x5_1))) = true := decide_eq_true c7
    clear c7
    obtain rfl := Option.some.inj H
    try go_wp2
    have n0_ := aK (blk_drew BK239.out)
    have n1_ := aK (below_drew1 HB.out)
    clear BK239 HB
    have BK239 := n0_
    have HB := n1_
    clear n0_ n1_
    have p240 : 0 ≤ (x5_1 : Int) := of_decide_eq_true (by first | (with_reducible assumption) | assumption)
    have q240 : x5_1 < (l1.length : Int) := of_decide_eq_true (by first | (with_reducible assumption) | assumption)
    obtain ⟨ad240,e240,hx240_0⟩ := Kd.at_int HR1.out x5_1 p240 q240
    have hw240_0 := hx240_0
    cases e240
    replace hx240_0 := (HB.out.cell (World.block_lt_of_cell? w _ hx240_0)).trans hx240_0
    replace p240 := eq_true p240
    replace q240 := eq_true q240
    refine start_ (n := 9) (S := fun w' => w'.cell? ⟨gb239,0,none⟩ = some (.int .i64 a0_0) ∧ w'.cell? ⟨gb239,1,none⟩ = some (.int .u64 a0_1) ∧ w'.cell? ⟨gb239,2,none⟩ = some (.int .i64 a0_2) ∧ w'.cell? ⟨gb239,3,none⟩ = some (.int .i64 a0_3) ∧ w'.cell? (ad240.add (x5_1).toNat) = some (.int .u8 (rd l1 x5_1))) (ds := []) #[false,false,false,false,false,false,false,false,false] (by kernel_rfl) rfl rfl ⟨(blk_cell BK239.out 0).trans rfl,(blk_cell BK239.out 1).trans rfl,(blk_cell BK239.out 2).trans rfl,(blk_cell BK239.out 3).trans rfl,((HB.out.cell (World.block_lt_of_cell? w _ hw240_0)).trans hw240_0)⟩ (fun hHeld => ?_); refine with_tabW r4_ranged.tab4 r4_ranged.bits4 (fun HT_ HW_ => ?_)
    generalize wr.drew = w8 at BK239 HB hx240_0 hHeld ⊢
    refine pure_ (i := 0) (N := some 12) (v := ?_) (a' := ?_) #[true,false,false,false,false,false,false,false,false] rfl rfl (any_of HT_.out (by kernel_rfl)) (fun _ _ _ h => h) (Or.inl ⟨by rfl,?_⟩) ?_ ?_
    rotate_left
    ·intro w'
     go_simp
     with_reducible rfl
    rotate_left
    ·simp only [Act.put,List.setIfInBounds_toArray,List.set_cons_zero,List.set_cons_succ,i64_w,i32_w]
     rfl
    refine pure_ (i := 1) (N := some 13) (v := ?_) (a' := ?_) #[true,true,false,false,false,false,false,false,false] rfl rfl (any_of HT_.out (by kernel_rfl)) (fun _ _ _ h => h) (Or.inl ⟨by rfl,?_⟩) ?_ ?_
    rotate_left
    ·intro w'
     go_simp
     with_reducible rfl
    rotate_left
    ·simp only [Act.put,List.setIfInBounds_toArray,List.set_cons_zero,List.set_cons_succ,i64_w,i32_w]
     rfl
    refine pure_ (i := 2) (N := some 14) (v := ?_) (a' := ?_) #[true,true,true,false,false,false,false,false,false] rfl rfl (any_of HT_.out (by kernel_rfl)) (fun _ _ _ h => h) (Or.inl ⟨by rfl,?_⟩) ?_ ?_
    rotate_left
    ·intro w'
     go_simp
     with_reducible rfl
    rotate_left
    ·simp only [Act.put,List.setIfInBounds_toArray,List.set_cons_zero,List.set_cons_succ,i64_w,i32_w]
     rfl
    refine pure_ (i := 5) (N := some 17) (v := ?_) (a' := ?_) #[true,true,true,false,false,true,false,false,false] rfl rfl (any_of HT_.out (by kernel_rfl)) (fun _ _ _ h => h) (Or.inl ⟨by rfl,?_⟩) ?_ ?_
    rotate_left
    ·intro w'
     go_simp
     with_reducible rfl
    rotate_left
    ·simp only [Act.put,List.setIfInBounds_toArray,List.set_cons_zero,List.set_cons_succ,i64_w,i32_w]
     rfl
    refine take_ (i := 3) (N := some 15) (v := ?_) (a' := ?_) #[true,true,true,true,false,true,false,false,false] rfl rfl (take_ofW HT_.out HW_.out (by kernel_rfl)) (fun _ _ _ h => h) (Or.inl ⟨by rfl,?_⟩) hHeld ?_ ?_
    rotate_left
    ·rintro w' ⟨s0,s1,s2,s3,s4⟩
     go_simp
     with_reducible rfl
    rotate_left
    ·simp only [Act.put,List.setIfInBounds_toArray,List.set_cons_zero,List.set_cons_succ,i64_w,i32_w]
     rfl
    refine pure_ (i := 4) (N := some 16) (v := ?_) (a' := ?_) #[true,true,true,true,true,true,false,false,false] rfl rfl (any_of HT_.out (by kernel_rfl)) (fun _ _ _ h => h) (Or.inl ⟨by rfl,?_⟩) ?_ ?_
    rotate_left
    ·intro w'
     go_simp
     with_reducible rfl
    rotate_left
    ·simp only [Act.put,List.setIfInBounds_toArray,List.set_cons_zero,List.set_cons_succ,i64_w,i32_w]
     rfl
    refine take_ (i := 6) (N := some 18) (v := ?_) (a' := ?_) #[true,true,true,true,true,true,true,false,false] rfl rfl (take_ofW HT_.out HW_.out (by kernel_rfl)) (fun _ _ _ h => h) (Or.inl ⟨by rfl,?_⟩) hHeld ?_ ?_
    rotate_left
    ·rintro w' ⟨s0,s1,s2,s3,s4⟩
     go_simp
     with_reducible rfl
    rotate_left
    ·simp only [Act.put,List.setIfInBounds_toArray,List.set_cons_zero,List.set_cons_succ,i64_w,i32_w]
     rfl
    refine one_ (i := 7) (N := some 19) #[true,true,true,true,true,true,true,true,false] rfl rfl (one_of HT_.out (by kernel_rfl)) (by decide) (fun K hK => ?_)
    refine goes_ Try.func38 (by kernel_rfl) rfl #[.agg #[.int .i64 a0_0,.int .u64 a0_1]] (by rfl) rfl rfl (by (try simp only [List.map_toArray,List.map_cons,List.map_nil]) <;> rfl) ?_
    with_reducible refine (r4_q1.calls a0_0 a0_1 t241 _ A6.out).mono ?_
    rintro e w9 ⟨rfl,hb⟩
    refine ⟨_,rfl,?_⟩
    have n0_ := aK (kb BK239.out hb)
    have n1_ := aK (below_step (mvh HB.out) hb)
    clear BK239 HB
    have BK239 := n0_
    have HB := n1_
    clear n0_ n1_
    (try clear hb)
    refine hK.out _ _ ⟨(blk_cell BK239.out 0).trans rfl,(blk_cell BK239.out 1).trans rfl,(blk_cell BK239.out 2).trans rfl,(blk_cell BK239.out 3).trans rfl,((HB.out.cell (World.block_lt_of_cell? w _ hw240_0)).trans hw240_0)⟩ (fun hHeld => ?_)
    clear hK K
    refine norm_ (a' := ?_) ?_ ?_
    rotate_left
    ·show Act.put _ (some 19) _ = _
     simp only [Act.put,List.setIfInBounds_toArray,List.set_cons_zero,List.set_cons_succ,i64_w,i32_w]
     rfl
    refine pure_ (i := 8) (N := some 20) (v := ?_) (a' := ?_) #[true,true,true,true,true,true,true,true,true] rfl rfl (any_of HT_.out (by kernel_rfl)) (fun _ _ _ h => h) (Or.inl ⟨by rfl,?_⟩) ?_ ?_
    rotate_left
    ·intro w'
     go_simp
     with_reducible rfl
    rotate_left
    ·simp only [Act.put,List.setIfInBounds_toArray,List.set_cons_zero,List.set_cons_succ,i64_w,i32_w]
     rfl
    refine done_ (done_of HT_.out (by kernel_rfl)) ?_
    try go_wp2
    go_ret
    exact ⟨by first | rfl | (simp [errW_none,errW_some] <;> rfl) | (simp [*,errW_none,errW_some] <;> rfl),mvh HB.out⟩
   ·rw [if_neg c7] at H
    have c7b0 : decide (t241 < (wrap64 (rd l1 x5_1))) = false := decide_eq_false c7
    clear c7
    have H' := Aside0.mk H
    clear H
    try go_wp2
    have n0_ := aK (blk_drew BK239.out)
    have n1_ := aK (below_drew1 HB.out)
    clear BK239 HB
    have BK239 := n0_
    have HB := n1_
    clear n0_ n1_
    have p240 : 0 ≤ (x5_1 : Int) := of_decide_eq_true (by first | (with_reducible assumption) | assumption)
    have q240 : x5_1 < (l1.length : Int) := of_decide_eq_true (by first | (with_reducible assumption) | assumption)
    obtain ⟨ad240,e240,hx240_0⟩ := Kd.at_int HR1.out x5_1 p240 q240
    have hw240_0 := hx240_0
    cases e240
    replace hx240_0 := (HB.out.cell (World.block_lt_of_cell? w _ hx240_0)).trans hx240_0
    replace p240 := eq_true p240
    replace q240 := eq_true q240
    refine start_ (n := 9) (S := fun w' => w'.cell? ⟨gb239,0,none⟩ = some (.int .i64 a0_0) ∧ w'.cell? ⟨gb239,1,none⟩ = some (.int .u64 a0_1) ∧ w'.cell? ⟨gb239,2,none⟩ = some (.int .i64 a0_2) ∧ w'.cell? ⟨gb239,3,none⟩ = some (.int .i64 a0_3) ∧ w'.cell? (ad240.add (x5_1).toNat) = some (.int .u8 (rd l1 x5_1))) (ds := []) #[false,false,false,false,false,false,false,false,false] (by kernel_rfl) rfl rfl ⟨(blk_cell BK239.out 0).trans rfl,(blk_cell BK239.out 1).trans rfl,(blk_cell BK239.out 2).trans rfl,(blk_cell BK239.out 3).trans rfl,((HB.out.cell (World.block_lt_of_cell? w _ hw240_0)).trans hw240_0)⟩ (fun hHeld => ?_); refine with_tabW r4_ranged.tab4 r4_ranged.bits4 (fun HT_ HW_ => ?_)
    generalize wr.drew = w10 at BK239 HB hx240_0 hHeld ⊢
    refine pure_ (i := 0) (N := some 12) (v := ?_) (a' := ?_) #[true,false,false,false,false,false,false,false,false] rfl rfl (any_of HT_.out (by kernel_rfl)) (fun _ _ _ h => h) (Or.inl ⟨by rfl,?_⟩) ?_ ?_
    rotate_left
    ·intro w'
     go_simp
     with_reducible rfl
    rotate_left
    ·simp only [Act.put,List.setIfInBounds_toArray,List.set_cons_zero,List.set_cons_succ,i64_w,i32_w]
     rfl
    refine pure_ (i := 1) (N := some 13) (v := ?_) (a' := ?_) #[true,true,false,false,false,false,false,false,false] rfl rfl (any_of HT_.out (by kernel_rfl)) (fun _ _ _ h => h) (Or.inl ⟨by rfl,?_⟩) ?_ ?_
    rotate_left
    ·intro w'
     go_simp
     with_reducible rfl
    rotate_left
    ·simp only [Act.put,List.setIfInBounds_toArray,List.set_cons_zero,List.set_cons_succ,i64_w,i32_w]
     rfl
    refine pure_ (i := 2) (N := some 14) (v := ?_) (a' := ?_) #[true,true,true,false,false,false,false,false,false] rfl rfl (any_of HT_.out (by kernel_rfl)) (fun _ _ _ h => h) (Or.inl ⟨by rfl,?_⟩) ?_ ?_
    rotate_left
    ·intro w'
     go_simp
     with_reducible rfl
    rotate_left
    ·simp only [Act.put,List.setIfInBounds_toArray,List.set_cons_zero,List.set_cons_succ,i64_w,i32_w]
     rfl
    refine pure_ (i := 5) (N := some 17) (v := ?_) (a' := ?_) #[true,true,true,false,false,true,false,false,false] rfl rfl (any_of HT_.out (by kernel_rfl)) (fun _ _ _ h => h) (Or.inl ⟨by rfl,?_⟩) ?_ ?_
    rotate_left
    ·intro w'
     go_simp
     with_reducible rfl
    rotate_left
    ·simp only [Act.put,List.setIfInBounds_toArray,List.set_cons_zero,List.set_cons_succ,i64_w,i32_w]
     rfl
    refine take_ (i := 3) (N := some 15) (v := ?_) (a' := ?_) #[true,true,true,true,false,true,false,false,false] rfl rfl (take_ofW HT_.out HW_.out (by kernel_rfl)) (fun _ _ _ h => h) (Or.inl ⟨by rfl,?_⟩) hHeld ?_ ?_
    rotate_left
    ·rintro w' ⟨s0,s1,s2,s3,s4⟩
     go_simp
     with_reducible rfl
    rotate_left
    ·simp only [Act.put,List.setIfInBounds_toArray,List.set_cons_zero,List.set_cons_succ,i64_w,i32_w]
     rfl
    refine pure_ (i := 4) (N := some 16) (v := ?_) (a' := ?_) #[true,true,true,true,true,true,false,false,false] rfl rfl (any_of HT_.out (by kernel_rfl)) (fun _ _ _ h => h) (Or.inl ⟨by rfl,?_⟩) ?_ ?_
    rotate_left
    ·intro w'
     go_simp
     with_reducible rfl
    rotate_left
    ·simp only [Act.put,List.setIfInBounds_toArray,List.set_cons_zero,List.set_cons_succ,i64_w,i32_w]
     rfl
    refine take_ (i := 6) (N := some 18) (v := ?_) (a' := ?_) #[true,true,true,true,true,true,true,false,false] rfl rfl (take_ofW HT_.out HW_.out (by kernel_rfl)) (fun _ _ _ h => h) (Or.inl ⟨by rfl,?_⟩) hHeld ?_ ?_
    rotate_left
    ·rintro w' ⟨s0,s1,s2,s3,s4⟩
     go_simp
     with_reducible rfl
    rotate_left
    ·simp only [Act.put,List.setIfInBounds_toArray,List.set_cons_zero,List.set_cons_succ,i64_w,i32_w]
     rfl
    refine one_ (i := 7) (N := some 19) #[true,true,true,true,true,true,true,true,false] rfl rfl (one_of HT_.out (by kernel_rfl)) (by decide) (fun K hK => ?_)
    refine goes_ Try.func38 (by kernel_rfl) rfl #[.agg #[.int .i64 a0_0,.int .u64 a0_1]] (by rfl) rfl rfl (by (try simp only [List.map_toArray,List.map_cons,List.map_nil]) <;> rfl) ?_
    with_reducible refine (r4_q1.calls a0_0 a0_1 t241 _ A6.out).mono ?_
    rintro e w11 ⟨rfl,hb⟩
    refine ⟨_,rfl,?_⟩
    have n0_ := aK (kb BK239.out hb)
    have n1_ := aK (below_step (mvh HB.out) hb)
    clear BK239 HB
    have BK239 := n0_
    have HB := n1_
    clear n0_ n1_
    (try clear hb)
    refine hK.out _ _ ⟨(blk_cell BK239.out 0).trans rfl,(blk_cell BK239.out 1).trans rfl,(blk_cell BK239.out 2).trans rfl,(blk_cell BK239.out 3).trans rfl,((HB.out.cell (World.block_lt_of_cell? w _ hw240_0)).trans hw240_0)⟩ (fun hHeld => ?_)
    clear hK K
    refine norm_ (a' := ?_) ?_ ?_
    rotate_left
    ·show Act.put _ (some 19) _ = _
     simp only [Act.put,List.setIfInBounds_toArray,List.set_cons_zero,List.set_cons_succ,i64_w,i32_w]
     rfl
    refine pure_ (i := 8) (N := some 20) (v := ?_) (a' := ?_) #[true,true,true,true,true,true,true,true,true] rfl rfl (any_of HT_.out (by kernel_rfl)) (fun _ _ _ h => h) (Or.inl ⟨by rfl,?_⟩) ?_ ?_
    rotate_left
    ·intro w'
     go_simp
     with_reducible rfl
    rotate_left
    ·simp only [Act.put,List.setIfInBounds_toArray,List.set_cons_zero,List.set_cons_succ,i64_w,i32_w]
     rfl
    refine done_ (done_of HT_.out (by kernel_rfl)) ?_
    try go_wp2
    go_roundg k1
    case measure => have := HK1.out; omega
    case rel => exact ⟨(wrap64 (x5_1 + 1)),(by first | rfl | (simp; done) | (simp [*]; done) | (simp [wrap64]; done)),H',⟨by have := HK1.out; omega⟩,⟨mvb BK239.out⟩,⟨mvh HB.out⟩⟩
mutual
def r4_mul.l0 : Nat → Int → Int → Int → Int → Int → Int → Option (Int)
 | 0,_,_,_,_,_,_ => none
 | k + 1,x1,x2,x7,x8,x247000,x247001 => if x8 < 8 then (if 0 ≤ (IntKind.u64.wrap (x8)) then (if (Go.bits .and .u8 (shr .u8 x2 (IntKind.u64.wrap (x8))) 1) = 1 then (r4_mul.l0 k x1 x2 (Go.bits .xor .u64 x7 (shl .u64 (IntKind.u64.wrap (x1)) (IntKind.u64.wrap (x8)))) (wrap64 (x8 + 1)) x247000 x247001) else (r4_mul.l0 k x1 x2 x7 (wrap64 (x8 + 1)) x247000 x247001)) else (none)) else (r4_mul.l1 k x7 14 x247000 x247001)
def r4_mul.l1 : Nat → Int → Int → Int → Int → Option (Int)
 | 0,_,_,_,_ => none
 | k + 1,x7,x9,x247000,x247001 => if x9 ≥ x247000 then (if 0 ≤ (IntKind.u64.wrap (x9)) then (if (Go.bits .and .u64 (shr .u64 x7 (IntKind.u64.wrap (x9))) 1) = 1 then (if 0 ≤ (IntKind.u64.wrap (wrap64 (x9 - x247000))) then (r4_mul.l1 k (Go.bits .xor .u64 x7 (shl .u64 x247001 (IntKind.u64.wrap (wrap64 (x9 - x247000))))) (wrap64 (x9 - 1)) x247000 x247001) else (none)) else (r4_mul.l1 k x7 (wrap64 (x9 - 1)) x247000 x247001)) else (none)) else (some ((x7) % 256))
end
def r4_mul.f (k : Nat) (a0_0 : Int) (a0_1 : Int) (a1 : Int) (a2 : Int) : Option (Int) := r4_mul.l0 k a1 a2 0 0 a0_0 a0_1
theorem r4_mul.mono_l : ∀ k,(∀ y0 y1 y2 y3 y4 y5,LeO (r4_mul.l0 k y0 y1 y2 y3 y4 y5) (r4_mul.l0 (k + 1) y0 y1 y2 y3 y4 y5)) ∧ (∀ y0 y1 y2 y3,LeO (r4_mul.l1 k y0 y1 y2 y3) (r4_mul.l1 (k + 1) y0 y1 y2 y3))
 | 0 => ⟨fun _ _ _ _ _ _ r h => by simp [r4_mul.l0] at h,fun _ _ _ _ r h => by simp [r4_mul.l1] at h⟩
 | k + 1 => by
  obtain ⟨ih0,ih1⟩ := r4_mul.mono_l k
  refine ⟨?_,?_⟩
  ·intro y0 y1 y2 y3 y4 y5
   unfold r4_mul.l0
   repeat' first
   | (with_reducible exact ih0 _ _ _ _ _ _)
   | (with_reducible exact ih1 _ _ _ _)
   | (with_reducible exact LeO.refl _)
   | (with_reducible exact LeO.none _)
   | (with_reducible refine LeO.ite ?_ ?_)
   | (with_reducible refine LeO.bind ?_ (fun _ => ?_))
  ·intro y0 y1 y2 y3
   unfold r4_mul.l1
   repeat' first
   | (with_reducible exact ih0 _ _ _ _ _ _)
   | (with_reducible exact ih1 _ _ _ _)
   | (with_reducible exact LeO.refl _)
   | (with_reducible exact LeO.none _)
   | (with_reducible refine LeO.ite ?_ ?_)
   | (with_reducible refine LeO.bind ?_ (fun _ => ?_))
theorem r4_mul.mono : ∀ a0 a1 a2 a3 k,LeO (r4_mul.f k a0 a1 a2 a3) (r4_mul.f (k + 1) a0 a1 a2 a3) := by
 intro a0 a1 a2 a3 k
 obtain ⟨ih0,ih1⟩ := r4_mul.mono_l k
 unfold r4_mul.f
 repeat' first
   | (with_reducible exact ih0 _ _ _ _ _ _)
   | (with_reducible exact ih1 _ _ _ _)
   | (with_reducible exact LeO.refl _)
   | (with_reducible exact LeO.none _)
   | (with_reducible refine LeO.ite ?_ ?_)
   | (with_reducible refine LeO.bind ?_ (fun _ => ?_))
set_option maxHeartbeats 8000000 in
set_option maxRecDepth 100000 in
theorem r4_mul.calls (k : Nat) (a0_0 : Int) (a0_1 : Int) (a1 : Int) (a2 : Int) (r : Int) (w : World) (h : r4_mul.f k a0_0 a0_1 a1 a2 = some r) :
  Calls Try.prog 37 #[.agg #[.int .i64 a0_0,.int .u64 a0_1],.int .u8 a1,.int .u8 a2] w fun e w' => e = .returned (.int .u8 r) ∧ Below w.heap.size w w' := by
 have hu24 := Try.underlying24
 have HB := aK (Below.refl w.heap.size w)
 have H : (r4_mul.l0 k a1 a2 0 0 a0_0 a0_1) = some r := h
 clear h
 have H' := Aside0.mk H
 clear H
 go_enter Try.func37,Try.ntmps37
 go_wp2_with (first | ((with_reducible refine gate_dst (N := 3) rfl ?_); refine box_event ?hg (N := 3) ?hd (cs := #[.int .i64 a0_0,.int .u64 a0_1]) (t := 24) ?hr ?_; (case hd => rfl); (case hg => rfl); (case hr => first | (go_simp; done) | (go_simp; rfl)); intro gb246 hg w4 hbox hb; have n0_ := aK (below_step (mvh HB.out) hb); have n1_ := aK (hbox); have n2_ := aK ((by rw [hg]; exact (below_size (mvh HB.out)) : w.heap.size ≤ gb246)); have n3_ := aK ((by rw [hg]; exact (below_size (mvh HB.out)) : w.heap.size ≤ gb246)); clear HB; have HB := n0_; have BK246 := n1_; have GW246 := n2_; have GE246 := n3_; clear n0_ n1_ n2_ n3_; clear hb hbox hg))
 go_loopg [7,8] k (fun kq v7 v8 w' => ∃ (x7_1 : Int) (x8_1 : Int),v7 = .int .u64 x7_1 ∧ v8 = .int .i64 x8_1 ∧ Aside0 (r4_mul.l0 kq a1 a2 x7_1 x8_1 a0_0 a0_1 = some r) ∧ Aside0 (kq ≤ k) ∧ Aside0 (w'.heap[gb246]? = some (.cells #[.int .i64 a0_0,.int .u64 a0_1] 24 (0,0))) ∧ Aside0 (Below w.heap.size w w'))
 case atStart => exact ⟨(0),(0),(by first | rfl | (simp; done) | (simp [*]; done) | (simp [wrap64]; done)),(by first | rfl | (simp; done) | (simp [*]; done) | (simp [wrap64]; done)),H',⟨Nat.le_refl _⟩,⟨mvb BK246.out⟩,⟨mvh HB.out⟩⟩
 case round =>
  clear H'
  (try clear p2); (try clear c3)
  obtain ⟨x7_1,x8_1,rfl,rfl,HA,HK1,BK246,HB⟩ := hrel
  cases gk with
  | zero => exact absurd HA.out (by simp [r4_mul.l0])
  | succ k1 =>
   have H := HA.out
   clear HA
   simp only [r4_mul.l0] at H
   by_cases c5 : x8_1 < 8
   ·rw [if_pos c5] at H
    have c5b0 : decide (x8_1 < 8) = true := decide_eq_true c5
    clear c5
    obtain ⟨ji6,hji6⟩ : ∃ j_ : Int,(IntKind.u64.wrap (x8_1)) = j_ := ⟨_,rfl⟩
    first | rw [hji6] at H | simp only [hji6] at H
    by_cases c7 : 0 ≤ (ji6)
    rotate_left
    ·rw [if_neg c7] at H
     exact absurd H (by simp)
    rw [if_pos c7] at H
    have c7b0 := eq_true c7
    have c7b1 : decide (0 ≤ (ji6)) = true := decide_eq_true c7
    clear c7
    obtain ⟨ji8,hji8⟩ : ∃ j_ : Int,(shr .u8 a2 (ji6)) = j_ := ⟨_,rfl⟩
    first | rw [hji8] at H | simp only [hji8] at H
    have hji8_ : (a2 / 2 ^ min (ji6).toNat 8) = ji8 := hji8
    have hji8z : (ji6) ≤ 8 → (a2 / 2 ^ (ji6).toNat) = ji8 := shr_small hji8
    by_cases c9 : (Go.bits .and .u8 (ji8) 1) = 1
    rotate_left
    ·rw [if_neg c9] at H
     have c9b0 : ((Go.bits .and .u8 (ji8) 1) == 1) = false := beq_eq_false_iff_ne.mpr c9
     have c9b1 : ((Go.bits .and .u8 (ji8) 1) != 1) = true := bne_iff_ne.mpr c9
     have H' := Aside0.mk H
     clear H
     go_wp2
     go_roundg k1
     case measure => have := HK1.out; omega
     case rel => exact ⟨(x7_1),(wrap64 (x8_1 + 1)),(by first | rfl | (simp; done) | (simp [*]; done) | (simp [wrap64]; done)),(by first | rfl | (simp; done) | (simp [*]; done) | (simp [wrap64]; done)),H',⟨by have := HK1.out; omega⟩,⟨mvb BK246.out⟩,⟨mvh HB.out⟩⟩
    rw [if_pos c9] at H
    have c9b0 : ((Go.bits .and .u8 (ji8) 1) == 1) = true := beq_iff_eq.mpr c9
    have c9b1 : ((Go.bits .and .u8 (ji8) 1) != 1) = false := bne_eq_false_iff_eq.mpr c9
    clear c9
    have c10b0 := eq_true (of_decide_eq_true (by first | (with_reducible assumption) | assumption) : 0 ≤ (ji6))
    obtain ⟨ji11,hji11⟩ : ∃ j_ : Int,(shl .u64 (IntKind.u64.wrap (a1)) (ji6)) = j_ := ⟨_,rfl⟩
    first | rw [hji11] at H | simp only [hji11] at H
    have hji11_ : (IntKind.u64.wrap ((IntKind.u64.wrap (a1)) * 2 ^ min (ji6).toNat 64)) = ji11 := hji11
    have hji11z : (ji6) ≤ 64 → (IntKind.u64.wrap ((IntKind.u64.wrap (a1)) * 2 ^ (ji6).toNat)) = ji11 := shl_small hji11
    have H' := Aside0.mk H
    clear H
    go_wp2
    go_roundg k1
    case measure => have := HK1.out; omega
    case rel => exact ⟨(Go.bits .xor .u64 x7_1 (ji11)),(wrap64 (x8_1 + 1)),(by first | rfl | (simp; done) | (simp only [← hji11] <;> (first | rfl | simp)) | (simp [*]; done) | (simp [wrap64]; done)),(by first | rfl | (simp; done) | (simp [*]; done) | (simp [wrap64]; done)),H',⟨by have := HK1.out; omega⟩,⟨mvb BK246.out⟩,⟨mvh HB.out⟩⟩
   ·rw [if_neg c5] at H
    have c5b0 : decide (x8_1 < 8) = false := decide_eq_false c5
    clear c5
    have H' := Aside0.mk H
    clear H
    go_wp2
    go_loopg [7,9] k1 (fun kq v7 v9 w' => ∃ (x7_2 : Int) (x9_2 : Int),v7 = .int .u64 x7_2 ∧ v9 = .int .i64 x9_2 ∧ Aside0 (r4_mul.l1 kq x7_2 x9_2 a0_0 a0_1 = some r) ∧ Aside0 (kq ≤ k1) ∧ Aside0 (w'.heap[gb246]? = some (.cells #[.int .i64 a0_0,.int .u64 a0_1] 24 (0,0))) ∧ Aside0 (Below w.heap.size w w'))
    case atStart => exact ⟨(x7_1),(14),(by first | rfl | (simp; done) | (simp [*]; done) | (simp [wrap64]; done)),(by first | rfl | (simp; done) | (simp [*]; done) | (simp [wrap64]; done)),H',⟨Nat.le_refl _⟩,⟨mvb BK246.out⟩,⟨mvh HB.out⟩⟩
    case round =>
     clear H'
     (try clear c1); (try clear p2); (try clear c3); (try clear c5); (try clear c5b0); (try clear p6); (try clear c7); (try clear c7b0); (try clear c7b1); (try clear c9); (try clear c9b0); (try clear c9b1); (try clear c10); (try clear c10b0); (try clear p2)
     obtain ⟨x7_2,x9_2,rfl,rfl,HA,HK2,BK246,HB⟩ := hrel
     cases gk with
     | zero => exact absurd HA.out (by simp [r4_mul.l1])
     | succ k2 =>
      have H := HA.out
      clear HA
      simp only [r4_mul.l1] at H
      by_cases c12 : x9_2 ≥ a0_0
      rotate_left
      ·rw [if_neg c12] at H
       have c12b0 : decide (a0_0 ≤ x9_2) = false := decide_eq_false c12
       clear c12
       obtain rfl := Option.some.inj H
       obtain ⟨hcz22_0,hcz22_1,hfz22_0,hfz22_1⟩ := cf2 BK246.out
       go_wp2
       go_ret
       exact ⟨by first | rfl | (simp [errW_none,errW_some] <;> rfl) | (simp [*,errW_none,errW_some] <;> rfl),mvh HB.out⟩

      rw [if_pos c12] at H
      have c12b0 : decide (a0_0 ≤ x9_2) = true := decide_eq_true c12
      clear c12
      obtain ⟨ji13,hji13⟩ : ∃ j_ : Int,(IntKind.u64.wrap (x9_2)) = j_ := ⟨_,rfl⟩
      first | rw [hji13] at H | simp only [hji13] at H
      by_cases c14 : 0 ≤ (ji13)
      rotate_left
      ·rw [if_neg c14] at H
       exact absurd H (by simp)
      rw [if_pos c14] at H
      have c14b0 := eq_true c14
      have c14b1 : decide (0 ≤ (ji13)) = true := decide_eq_true c14
      clear c14
      obtain ⟨ji15,hji15⟩ : ∃ j_ : Int,(shr .u64 x7_2 (ji13)) = j_ := ⟨_,rfl⟩
      first | rw [hji15] at H | simp only [hji15] at H
      have hji15_ : (x7_2 / 2 ^ min (ji13).toNat 64) = ji15 := hji15
      have hji15z : (ji13) ≤ 64 → (x7_2 / 2 ^ (ji13).toNat) = ji15 := shr_small hji15
      by_cases c16 : (Go.bits .and .u64 (ji15) 1) = 1
      rotate_left
      ·rw [if_neg c16] at H
       have c16b0 : ((Go.bits .and .u64 (ji15) 1) == 1) = false := beq_eq_false_iff_ne.mpr c16
       have c16b1 : ((Go.bits .and .u64 (ji15) 1) != 1) = true := bne_iff_ne.mpr c16
       have H' := Aside0.mk H
       clear H
       obtain ⟨hcz21_0,hcz21_1,hfz21_0,hfz21_1⟩ := cf2 BK246.out
       go_wp2
       go_roundg k2
       case measure => have := HK1.out; have := HK2.out; omega
       case rel => exact ⟨(x7_2),(wrap64 (x9_2 - 1)),(by first | rfl | (simp; done) | (simp [*]; done) | (simp [wrap64]; done)),(by first | rfl | (simp; done) | (simp [*]; done) | (simp [wrap64]; done)),H',⟨by have := HK1.out; have := HK2.out; omega⟩,⟨mvb BK246.out⟩,⟨mvh HB.out⟩⟩
      rw [if_pos c16] at H
      have c16b0 : ((Go.bits .and .u64 (ji15) 1) == 1) = true := beq_iff_eq.mpr c16
      have c16b1 : ((Go.bits .and .u64 (ji15) 1) != 1) = false := bne_eq_false_iff_eq.mpr c16
      clear c16
      obtain ⟨ji17,hji17⟩ : ∃ j_ : Int,(IntKind.u64.wrap (wrap64 (x9_2 - a0_0))) = j_ := ⟨_,rfl⟩
      first | rw [hji17] at H | simp only [hji17] at H
      by_cases c18 : 0 ≤ (ji17)
      rotate_left
      ·rw [if_neg c18] at H
       exact absurd H (by simp)
      rw [if_pos c18] at H
      have c18b0 := eq_true c18
      have c18b1 : decide (0 ≤ (ji17)) = true := decide_eq_true c18
      clear c18
      obtain ⟨ji19,hji19⟩ : ∃ j_ : Int,(shl .u64 a0_1 (ji17)) = j_ := ⟨_,rfl⟩
      first | rw [hji19] at H | simp only [hji19] at H
      have hji19_ : (IntKind.u64.wrap (a0_1 * 2 ^ min (ji17).toNat 64)) = ji19 := hji19
      have hji19z : (ji17) ≤ 64 → (IntKind.u64.wrap (a0_1 * 2 ^ (ji17).toNat)) = ji19 := shl_small hji19
      have H' := Aside0.mk H
      clear H
      obtain ⟨hcz20_0,hcz20_1,hfz20_0,hfz20_1⟩ := cf2 BK246.out
      go_wp2
      go_roundg k2
      case measure => have := HK1.out; have := HK2.out; omega
      case rel => exact ⟨(Go.bits .xor .u64 x7_2 (ji19)),(wrap64 (x9_2 - 1)),(by first | rfl | (simp; done) | (simp only [← hji19] <;> (first | rfl | simp)) | (simp [*]; done) | (simp [wrap64]; done)),(by first | rfl | (simp; done) | (simp [*]; done) | (simp [wrap64]; done)),H',⟨by have := HK1.out; have := HK2.out; omega⟩,⟨mvb BK246.out⟩,⟨mvh HB.out⟩⟩
def r4_power.l0 : Nat → Int → Int → Int → Int → Int → Option (Int)
 | 0,_,_,_,_,_ => none
 | k + 1,x1,x5,x6,x248000,x248001 => (r4_q1.f x248000 x248001).bind fun t248 => (if t248 = 0 then (none) else (if x6 < (Int.tmod x1 t248) then ((r4_mul.f k x248000 x248001 x5 2).bind fun t249 => (r4_power.l0 k x1 t249 (wrap64 (x6 + 1)) x248000 x248001)) else (some x5)))
def r4_power.f (k : Nat) (a0_0 : Int) (a0_1 : Int) (a1 : Int) : Option (Int) := r4_power.l0 k a1 1 0 a0_0 a0_1
theorem r4_power.mono_l : ∀ k,(∀ y0 y1 y2 y3 y4,LeO (r4_power.l0 k y0 y1 y2 y3 y4) (r4_power.l0 (k + 1) y0 y1 y2 y3 y4))
 | 0 => fun _ _ _ _ _ r h => by simp [r4_power.l0] at h
 | k + 1 => by
  have ih0 := r4_power.mono_l k
  ·intro y0 y1 y2 y3 y4
   unfold r4_power.l0
   repeat' first
   | (with_reducible exact ih0 _ _ _ _ _)
   | (with_reducible exact r4_mul.mono _ _ _ _ _)
   | (with_reducible exact LeO.refl _)
   | (with_reducible exact LeO.none _)
   | (with_reducible refine LeO.ite ?_ ?_)
   | (with_reducible refine LeO.bind ?_ (fun _ => ?_))
theorem r4_power.mono : ∀ a0 a1 a2 k,LeO (r4_power.f k a0 a1 a2) (r4_power.f (k + 1) a0 a1 a2) := by
 intro a0 a1 a2 k
 have ih0 := r4_power.mono_l k
 unfold r4_power.f
 repeat' first
   | (with_reducible exact ih0 _ _ _ _ _)
   | (with_reducible exact r4_mul.mono _ _ _ _ _)
   | (with_reducible exact LeO.refl _)
   | (with_reducible exact LeO.none _)
   | (with_reducible refine LeO.ite ?_ ?_)
   | (with_reducible refine LeO.bind ?_ (fun _ => ?_))
set_option maxHeartbeats 8000000 in
set_option maxRecDepth 100000 in
theorem r4_power.calls (k : Nat) (a0_0 : Int) (a0_1 : Int) (a1 : Int) (r : Int) (w : World) (h : r4_power.f k a0_0 a0_1 a1 = some r) :
  Calls Try.prog 36 #[.agg #[.int .i64 a0_0,.int .u64 a0_1],.int .i64 a1] w fun e w' => e = .returned (.int .u8 r) ∧ Below w.heap.size w w' := by
 have hu24 := Try.underlying24
 have HB := aK (Below.refl w.heap.size w)
 have H : (r4_power.l0 k a1 1 0 a0_0 a0_1) = some r := h
 clear h
 have H' := Aside0.mk H
 clear H
 go_enter Try.func36,Try.ntmps36
 go_wp2_with (first | ((with_reducible refine gate_dst (N := 2) rfl ?_); refine box_event ?hg (N := 2) ?hd (cs := #[.int .i64 a0_0,.int .u64 a0_1]) (t := 24) ?hr ?_; (case hd => rfl); (case hg => rfl); (case hr => first | (go_simp; done) | (go_simp; rfl)); intro gb247 hg w3 hbox hb; have n0_ := aK (below_step (mvh HB.out) hb); have n1_ := aK (hbox); have n2_ := aK ((by rw [hg]; exact (below_size (mvh HB.out)) : w.heap.size ≤ gb247)); have n3_ := aK ((by rw [hg]; exact (below_size (mvh HB.out)) : w.heap.size ≤ gb247)); clear HB; have HB := n0_; have BK247 := n1_; have GW247 := n2_; have GE247 := n3_; clear n0_ n1_ n2_ n3_; clear hb hbox hg))
 go_loopg [5,6] k (fun kq v5 v6 w' => ∃ (x5_1 : Int) (x6_1 : Int),v5 = .int .u8 x5_1 ∧ v6 = .int .i64 x6_1 ∧ Aside0 (r4_power.l0 kq a1 x5_1 x6_1 a0_0 a0_1 = some r) ∧ Aside0 (kq ≤ k) ∧ Aside0 (w'.heap[gb247]? = some (.cells #[.int .i64 a0_0,.int .u64 a0_1] 24 (0,0))) ∧ Aside0 (Below w.heap.size w w'))
 case atStart => exact ⟨(1),(0),(by first | rfl | (simp; done) | (simp [*]; done) | (simp [wrap64]; done)),(by first | rfl | (simp; done) | (simp [*]; done) | (simp [wrap64]; done)),H',⟨Nat.le_refl _⟩,⟨mvb BK247.out⟩,⟨mvh HB.out⟩⟩
 case round =>
  clear H'
  (try clear p2); (try clear c3)
  obtain ⟨x5_1,x6_1,rfl,rfl,HA,HK1,BK247,HB⟩ := hrel
  cases gk with
  | zero => exact absurd HA.out (by simp [r4_power.l0])
  | succ k1 =>
   have H := HA.out
   clear HA
   simp only [r4_power.l0] at H
   replace H := Option.bind_eq_some_iff.mp H
   obtain ⟨t248,A40,H⟩ := H
   try dsimp only at H
   have A4 := Aside0.mk A40
   clear A40
   by_cases c5 : t248 = 0
   ·rw [if_pos c5] at H
    exact absurd H (by simp)
   ·rw [if_neg c5] at H
    have c5b0 : (t248 == 0) = false := beq_eq_false_iff_ne.mpr c5
    have c5b1 : (t248 != 0) = true := bne_iff_ne.mpr c5
    by_cases c6 : x6_1 < (Int.tmod a1 t248)
    rotate_left
    ·rw [if_neg c6] at H
     have c6b0 : decide (x6_1 < (Int.tmod a1 t248)) = false := decide_eq_false c6
     clear c6
     obtain rfl := Option.some.inj H
     obtain ⟨hcz12_0,hcz12_1,hfz12_0,hfz12_1⟩ := cf2 BK247.out
     go_wp2_with (first | (go_at_call 38; (with_reducible refine (r4_q1.calls a0_0 a0_1 t248 _ A4.out).mono ?_); rintro e w13 ⟨rfl,hb⟩; have n0_ := aK (kb BK247.out hb); have n1_ := aK (below_step (mvh HB.out) hb); clear BK247 HB; have BK247 := n0_; have HB := n1_; clear n0_ n1_; (try clear hb)))
     go_ret
     exact ⟨by first | rfl | (simp [errW_none,errW_some] <;> rfl) | (simp [*,errW_none,errW_some] <;> rfl),mvh HB.out⟩

    rw [if_pos c6] at H
    have c6b0 : decide (x6_1 < (Int.tmod a1 t248)) = true := decide_eq_true c6
    clear c6
    replace H := Option.bind_eq_some_iff.mp H
    obtain ⟨t249,A70,H⟩ := H
    try dsimp only at H
    have A7 := Aside0.mk A70
    clear A70
    have H' := Aside0.mk H
    clear H
    obtain ⟨hcz8_0,hcz8_1,hfz8_0,hfz8_1⟩ := cf2 BK247.out
    go_wp2_with (first | (go_at_call 38; (with_reducible refine (r4_q1.calls a0_0 a0_1 t248 _ A4.out).mono ?_); rintro e w9 ⟨rfl,hb⟩; have n0_ := aK (kb BK247.out hb); have n1_ := aK (below_step (mvh HB.out) hb); clear BK247 HB; have BK247 := n0_; have HB := n1_; clear n0_ n1_; (try clear hb); obtain ⟨hcz10_0,hcz10_1,hfz10_0,hfz10_1⟩ := cf2 BK247.out) | (go_at_call 37; (with_reducible refine (r4_mul.calls k1 a0_0 a0_1 x5_1 2 t249 _ A7.out).mono ?_); rintro e w11 ⟨rfl,hb⟩; have n0_ := aK (kb BK247.out hb); have n1_ := aK (below_step (mvh HB.out) hb); clear BK247 HB; have BK247 := n0_; have HB := n1_; clear n0_ n1_; (try clear hb)))
    go_roundg k1
    case measure => have := HK1.out; omega
    case rel => exact ⟨(t249),(wrap64 (x6_1 + 1)),(by first | rfl | (simp; done) | (simp [*]; done) | (simp [wrap64]; done)),(by first | rfl | (simp; done) | (simp [*]; done) | (simp [wrap64]; done)),H',⟨by have := HK1.out; omega⟩,⟨mvb BK247.out⟩,⟨mvh HB.out⟩⟩
end Go.Proofs.Ytdhnjnkjhfomiaa.P

