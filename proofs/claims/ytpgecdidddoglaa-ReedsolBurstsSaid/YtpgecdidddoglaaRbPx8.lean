-- written by mk.sh, a program of this session, over the kit's print
import Derived.Test.YtpgecdidddoglaaRbQAux
import Derived.Test.YtpgecdidddoglaaRbPx0
import Derived.Test.YtpgecdidddoglaaRbPx6
namespace Go.Proofs.Ytpgecdidddoglaa.P
open Go.RowKit Go.Proofs.YtpgecdidddoglaaW.PrintWords Go.Proofs.YtpgecdidddoglaaW.PrintLast Go.Proofs.YtpgecdidddoglaaW.PrintMore
attribute [local go_sem] max2_int min2_int max_two min_two max_three min_three max_four min_four   -- for this text's walks alone
set_option linter.unusedVariables false
set_option linter.unusedSimpArgs false

def reedsol_code_right.l0 : Nat → RCode → List Int → Int → Int → Option (Bool)
 | 0,_,_,_,_ => none
 | k + 1,x0,x7,x8,x9 => if x9 < x8 then (if 0 ≤ x9 then (if x9 < (x7.length : Int) then (if 0 < x0.size then (if (wrap64 (rd x7 x9)) ≥ (x0.size : Int) then (some false) else (reedsol_code_right.l0 k x0 x7 x8 (wrap64 (x9 + 1)))) else (none)) else (none)) else (none)) else (some true)
def reedsol_code_right.f (k : Nat) (a0 : RCode) (l1 : List Int) : Option (Bool) := reedsol_code_right.l0 k a0 l1 (l1.length : Int) 0
theorem reedsol_code_right.mono_l : ∀ k,(∀ y0 y1 y2 y3,LeO (reedsol_code_right.l0 k y0 y1 y2 y3) (reedsol_code_right.l0 (k + 1) y0 y1 y2 y3))
 | 0 => fun _ _ _ _ r h => by simp [reedsol_code_right.l0] at h
 | k + 1 => by
  have ih0 := reedsol_code_right.mono_l k
  ·intro y0 y1 y2 y3
   unfold reedsol_code_right.l0
   repeat' with_reducible first
   | exact ih0 _ _ _ _
   | exact LeO.refl _
   | exact LeO.none _
   | refine LeO.ite ?_ ?_
   | refine LeO.bind ?_ (fun _ => ?_)
theorem reedsol_code_right.mono : ∀ a0 a1 k,LeO (reedsol_code_right.f k a0 a1) (reedsol_code_right.f (k + 1) a0 a1) := by
 intro a0 a1 k
 have ih0 := reedsol_code_right.mono_l k
 unfold reedsol_code_right.f
 repeat' with_reducible first
   | exact ih0 _ _ _ _
   | exact LeO.refl _
   | exact LeO.none _
   | refine LeO.ite ?_ ?_
   | refine LeO.bind ?_ (fun _ => ?_)
set_option maxHeartbeats 8000000 in
set_option maxRecDepth 100000 in
theorem reedsol_code_right.calls (k : Nat) (A0 : Option Addr) (a0 : RCode) (A1 : Option Addr) (c1 : Nat) (l1 : List Int) (r : Bool) (w : World) (hr0 : rs_OK w A0 a0) (hr1 : Kd.C (Kd.int .u8) w A1 l1.length l1) (hc1 : l1.length ≤ c1) (h : reedsol_code_right.f k a0 l1 = some r) :
  Calls Try.prog 27 #[.pointer A0,.slice A1 l1.length c1] w fun e w' => e = .returned (.bool r) ∧ Drawn0 w w' := by
 have HR0 := Aside0.mk hr0
 clear hr0
 have HR1 := Aside0.mk hr1
 have HC1 := Aside0.mk hc1
 clear hr1 hc1
 have H : (reedsol_code_right.l0 k a0 l1 (l1.length : Int) 0) = some r := h
 clear h
 have H' := Aside0.mk H
 clear H
 go_enter Try.func27,Try.ntmps27
 go_wp2
 go_loopg [9] k (fun kq v9 w' => ∃ (x9_1 : Int),v9 = .int .i64 x9_1 ∧ Aside0 (reedsol_code_right.l0 kq a0 l1 (l1.length : Int) x9_1 = some r) ∧ Aside0 (kq ≤ k) ∧ Drawn0 w w')
 case atStart => exact ⟨(0),(by first | rfl | (simp; done) | (simp [*]; done) | (simp [wrap64]; done)),H',⟨Nat.le_refl _⟩,by repeat (first | exact Drawn0.refl _ | apply Drawn0.step)⟩
 case round =>
  clear H'
  (try clear c1); (try clear c2); (try clear p2)
  obtain ⟨x9_1,rfl,HA,HK1,⟨m1,rfl⟩⟩ := hrel
  cases gk with
  | zero => exact absurd HA.out (by simp [reedsol_code_right.l0])
  | succ k1 =>
   have H := HA.out
   clear HA
   simp only [reedsol_code_right.l0] at H
   by_cases c3 : x9_1 < (l1.length : Int)
   rotate_left
   ·rw [if_neg c3] at H
    have c3b0 : decide (x9_1 < (l1.length : Int)) = false := decide_eq_false c3
    clear c3
    obtain rfl := Option.some.inj H
    go_wp2
    go_ret
    exact ⟨by first | rfl | (simp; done) | (simp [*]; done) | (simp [wrap64]; done),by repeat (first | exact Drawn0.refl _ | apply Drawn0.step)⟩


   rw [if_pos c3] at H
   have c3b0 : decide (x9_1 < (l1.length : Int)) = true := decide_eq_true c3
   clear c3
   by_cases c4 : 0 ≤ x9_1
   rotate_left
   ·rw [if_neg c4] at H
    exact absurd H (by simp)
   rw [if_pos c4] at H
   have c4b0 : decide (0 ≤ x9_1) = true := decide_eq_true c4
   clear c4
   by_cases c5 : x9_1 < (l1.length : Int)
   rotate_left
   ·rw [if_neg c5] at H
    exact absurd H (by simp)
   rw [if_pos c5] at H
   have c5b0 : decide (x9_1 < (l1.length : Int)) = true := decide_eq_true c5
   clear c5
   by_cases c6 : 0 < a0.size
   rotate_left
   ·rw [if_neg c6] at H
    exact absurd H (by simp)
   rw [if_pos c6] at H
   obtain ⟨b_,p_,c_,d_,g_,rfl,hT_⟩ := rs_pos HR0.out c6
   have HT0 := Aside0.mk hT_
   clear hT_ c6
   by_cases c8 : (wrap64 (rd l1 x9_1)) ≥ (a0.size : Int)
   ·rw [if_pos c8] at H
    have c8b0 : decide ((a0.size : Int) ≤ (wrap64 (rd l1 x9_1))) = true := decide_eq_true c8
    clear c8
    obtain rfl := Option.some.inj H
    have p210 : 0 ≤ (x9_1 : Int) := oD
    have q210 : x9_1 < (l1.length : Int) := oD
    obtain ⟨ad210,e210,hx210_0⟩ := Kd.at_int HR1.out x9_1 p210 q210
    cases e210
    replace p210 := eq_true p210
    replace q210 := eq_true q210
    have ho7 := rs_At_size HT0.out
    have hx7 := ho7
    go_wp2
    go_ret
    exact ⟨by first | rfl | (simp; done) | (simp [*]; done) | (simp [wrap64]; done),by repeat (first | exact Drawn0.refl _ | apply Drawn0.step)⟩
   ·rw [if_neg c8] at H
    have c8b0 : decide ((a0.size : Int) ≤ (wrap64 (rd l1 x9_1))) = false := decide_eq_false c8
    clear c8
    have H' := Aside0.mk H
    clear H
    have p210 : 0 ≤ (x9_1 : Int) := oD
    have q210 : x9_1 < (l1.length : Int) := oD
    obtain ⟨ad210,e210,hx210_0⟩ := Kd.at_int HR1.out x9_1 p210 q210
    cases e210
    replace p210 := eq_true p210
    replace q210 := eq_true q210
    have ho7 := rs_At_size HT0.out
    have hx7 := ho7
    go_wp2
    go_roundg k1
    case measure => have := HK1.out; omega
    case rel => exact ⟨(wrap64 (x9_1 + 1)),(by first | rfl | (simp; done) | (simp [*]; done) | (simp [wrap64]; done)),H',⟨by have := HK1.out; omega⟩,by repeat (first | exact Drawn0.refl _ | apply Drawn0.step)⟩
mutual
def reedsol_code_generator.l0 : Nat → RCode → List Int → Int → Int → Option (List Int)
 | 0,_,_,_,_ => none
 | k + 1,x0,x3,x14,x15 => if x15 < x14 then (if 0 < x0.size then ((gT_Exp.f x0 (wrap64 (x0.First + x15))).bind fun t214 => (if ([] : List Int).length + x3.length < 140737488355328 then ((some (([] : List Int) ++ x3 : List Int)).bind fun y215 => (if y215.length < 140737488355328 then (reedsol_code_generator.l1 k x0 t214 (y215 ++ [0]) x14 x15 x3 (x3.length : Int) 0) else (none))) else (none))) else (none)) else (some x3)
def reedsol_code_generator.l1 : Nat → RCode → Int → List Int → Int → Int → List Int → Int → Int → Option (List Int)
 | 0,_,_,_,_,_,_,_,_ => none
 | k + 1,x0,x5,x6,x14,x15,x34,x35,x36 => if x36 < x35 then (if 0 ≤ x36 then (if x36 < (x34.length : Int) then (if 0 ≤ (wrap64 (x36 + 1)) then (if (wrap64 (x36 + 1)) < (x6.length : Int) then (if 0 < x0.size then ((reedsol_open_1.f k x0 (rd x34 x36) x5).bind fun t223 => (reedsol_code_generator.l1 k x0 x5 (x6.set ((wrap64 (x36 + 1)) : Int).toNat (Go.bits .xor .u8 (rd x6 (wrap64 (x36 + 1))) t223)) x14 x15 x34 x35 (wrap64 (x36 + 1)))) else (none)) else (none)) else (none)) else (none)) else (none)) else (reedsol_code_generator.l0 k x0 x6 x14 (wrap64 (x15 + 1)))
end
def reedsol_code_generator.f (k : Nat) (a0 : RCode) : Option (List Int) := if 0 < a0.size then (reedsol_code_generator.l0 k a0 (([1] : List Int)) a0.Par 0) else (none)
theorem reedsol_code_generator.mono_l : ∀ k,(∀ y0 y1 y2 y3,LeO (reedsol_code_generator.l0 k y0 y1 y2 y3) (reedsol_code_generator.l0 (k + 1) y0 y1 y2 y3)) ∧ (∀ y0 y1 y2 y3 y4 y5 y6 y7,LeO (reedsol_code_generator.l1 k y0 y1 y2 y3 y4 y5 y6 y7) (reedsol_code_generator.l1 (k + 1) y0 y1 y2 y3 y4 y5 y6 y7))
 | 0 => ⟨fun _ _ _ _ r h => by simp [reedsol_code_generator.l0] at h,fun _ _ _ _ _ _ _ _ r h => by simp [reedsol_code_generator.l1] at h⟩
 | k + 1 => by
  obtain ⟨ih0,ih1⟩ := reedsol_code_generator.mono_l k
  refine ⟨?_,?_⟩
  ·intro y0 y1 y2 y3
   unfold reedsol_code_generator.l0
   repeat' with_reducible first
   | exact ih0 _ _ _ _
   | exact ih1 _ _ _ _ _ _ _ _
   | exact reedsol_open_1.mono _ _ _ _
   | exact LeO.refl _
   | exact LeO.none _
   | refine LeO.ite ?_ ?_
   | refine LeO.bind ?_ (fun _ => ?_)
  ·intro y0 y1 y2 y3 y4 y5 y6 y7
   unfold reedsol_code_generator.l1
   repeat' with_reducible first
   | exact ih0 _ _ _ _
   | exact ih1 _ _ _ _ _ _ _ _
   | exact reedsol_open_1.mono _ _ _ _
   | exact LeO.refl _
   | exact LeO.none _
   | refine LeO.ite ?_ ?_
   | refine LeO.bind ?_ (fun _ => ?_)
theorem reedsol_code_generator.mono : ∀ a0 k,LeO (reedsol_code_generator.f k a0) (reedsol_code_generator.f (k + 1) a0) := by
 intro a0 k
 obtain ⟨ih0,ih1⟩ := reedsol_code_generator.mono_l k
 unfold reedsol_code_generator.f
 repeat' with_reducible first
   | exact ih0 _ _ _ _
   | exact ih1 _ _ _ _ _ _ _ _
   | exact reedsol_open_1.mono _ _ _ _
   | exact LeO.refl _
   | exact LeO.none _
   | refine LeO.ite ?_ ?_
   | refine LeO.bind ?_ (fun _ => ?_)
def reedsol_code_generator.T5 : Bool × List (List Nat × List Nat) := (true,[([],[]),([0],[0]),([1],[1]),([2],[2]),([],[]),([4],[4]),([5],[5]),([6],[6]),([7],[7]),([],[]),([8,9],[8,9]),([3,10],[3,10]),([11,11,0,1,2,3,4,5,6,7,8,9,10,11],[11])])
def reedsol_code_generator.B5 : List Nat := [0,1,3,7,0,16,48,112,240,0,1008,2047,4095]
theorem reedsol_code_generator.tab5 : rtab .any (opsOf Try.f52 5) = reedsol_code_generator.T5 := by kernel_rfl
theorem reedsol_code_generator.bits5 : waitsOk reedsol_code_generator.T5.2 reedsol_code_generator.B5 = true := by kernel_rfl
def reedsol_code_generator.T10 : Bool × List (List Nat × List Nat) := (true,[([],[]),([],[]),([1],[1]),([0,2],[0,2]),([3],[3]),([],[]),([5],[5]),([6],[6]),([7],[7]),([],[]),([],[]),([8,9,10],[8,9,10]),([4,11],[4,11]),([0,2,0,1,2,3,4,5,6,7,8,9,10,11,12],[0,2]),([13,12,11,0,1,2,3,4,5,6,7,8,9,10,11,12],[12,13])])
def reedsol_code_generator.B10 : List Nat := [0,0,2,7,15,0,32,96,224,0,0,2016,4095,8191,16383]
theorem reedsol_code_generator.tab10 : rtab .any (opsOf Try.f52 10) = reedsol_code_generator.T10 := by kernel_rfl
theorem reedsol_code_generator.bits10 : waitsOk reedsol_code_generator.T10.2 reedsol_code_generator.B10 = true := by kernel_rfl
set_option maxHeartbeats 8000000 in
set_option maxRecDepth 100000 in
theorem reedsol_code_generator.calls (k : Nat) (A0 : Option Addr) (a0 : RCode) (r : List Int) (w : World) (hr0 : rs_OK w A0 a0) (h : reedsol_code_generator.f k a0 = some r) :
  Calls Try.prog 52 #[.pointer A0] w fun e w' => ∃ v0_ : Value,e = .returned (v0_) ∧ Kd.R (Kd.int .u8) 5 w' w.heap.size (fun _ => True) v0_ r ∧ Below w.heap.size w w' := by
 have HR0 := Aside0.mk hr0
 clear hr0
 have HB := aK (Below.refl w.heap.size w)
 have H : (if 0 < a0.size then (reedsol_code_generator.l0 k a0 (([1] : List Int)) a0.Par 0) else (none)) = some r := h
 clear h
 obtain ⟨y211,hy211⟩ : ∃ y_ : List Int,y_ = (([1] : List Int)) := ⟨_,rfl⟩
 replace H : (if 0 < a0.size then (reedsol_code_generator.l0 k a0 y211 a0.Par 0) else (none)) = some r := by rw [hy211]; exact H
 have Ny211 := Aside0.mk hy211
 clear hy211
 by_cases c2 : 0 < a0.size
 rotate_left
 ·rw [if_neg c2] at H
  exact absurd H (by simp)

 rw [if_pos c2] at H
 obtain ⟨b_,p_,c_,d_,g_,rfl,hT_⟩ := rs_pos HR0.out c2
 have HT0 := Aside0.mk hT_
 clear hT_ c2
 have H' := Aside0.mk H
 clear H
 go_enter Try.func52,Try.ntmps52
 go_wp2_with (first | ((with_reducible refine gate_dst (N := 9) rfl ?_); refine Kd.R_lit (Kd.int .u8) _ 5 ?hg (N := 9) ?hd (xs := ([1] : List Int)) (inner := [.int .u8 1]) (ok := fun _ => True) (okp := fun _ => True) ?hr ?hp (fun _ hk => hk) trivial (Below.refl _ _) (Nat.le_refl _) (by simp) ?_; (case hd => rfl); (case hg => rfl); (case hr => first | (go_simp; done) | (go_simp; rfl)); (case hp => exact (Reps.one (show Kd.M (Kd.int .u8) _ _ _ 1 [.int .u8 1] from rfl) (Reps.none _ _))); intro v212 w4 ho5 hb hg_ hnew_; clear hg_ hnew_; (first | rw [← Ny211.out] at ho5 | (simp only [Int.reduceToNat] at ho5; rw [← Ny211.out] at ho5)); have HO213 := aK (Kd.R_lower ho5 (below_size (mvh HB.out))); replace HB := aK (below_step (mvh HB.out) hb); clear hb ho5; have ho3 := rs_At_Par HT0.out; have hx3 := (HB.out.cell (World.block_lt_of_cell? w _ ho3)).trans ho3))
 go_loopg [3,15] k (fun kq v3 v15 w' => ∃ (x3_1 : List Int) (x15_1 : Int),v15 = .int .i64 x15_1 ∧ Aside0 (reedsol_code_generator.l0 kq a0 x3_1 a0.Par x15_1 = some r) ∧ Aside0 (kq ≤ k) ∧ Aside0 (Kd.R (Kd.int .u8) 5 w' w.heap.size (fun _ => True) v3 x3_1) ∧ Aside0 (Below w.heap.size w w'))
 case atStart => exact ⟨(y211),(0),(by first | rfl | (simp; done) | (simp [*]; done) | (simp [wrap64]; done)),H',⟨Nat.le_refl _⟩,⟨mvR HO213.out⟩,⟨mvh HB.out⟩⟩
 case round =>
  clear H'
  (try clear c2); (try clear p2); (try clear hx3); (try clear c5)
  obtain ⟨x3_1,x15_1,rfl,HA,HK1,HO_3,HB⟩ := hrel
  cases gk with
  | zero => exact absurd HA.out (by simp [reedsol_code_generator.l0])
  | succ k1 =>
   have H := HA.out
   clear HA
   simp only [reedsol_code_generator.l0] at H
   by_cases c6 : x15_1 < a0.Par
   rotate_left
   ·rw [if_neg c6] at H
    have c6b0 : decide (x15_1 < a0.Par) = false := decide_eq_false c6
    clear c6
    obtain rfl := Option.some.inj H
    go_wp2
    go_ret
    exact ⟨_,by first | rfl | (simp [errW_none,errW_some] <;> rfl) | (simp [*,errW_none,errW_some] <;> rfl),by (with_reducible repeat (first | apply Kd.R_alloc | apply Kd.R_drewN | apply Kd.R_drew)); exact HO_3.out,mvh HB.out⟩
   rw [if_pos c6] at H
   have c6b0 : decide (x15_1 < a0.Par) = true := decide_eq_true c6
   clear c6
   by_cases c7 : 0 < a0.size
   rotate_left
   ·rw [if_neg c7] at H
    exact absurd H (by simp)
   rw [if_pos c7] at H
   clear c7
   replace H := Option.bind_eq_some_iff.mp H
   obtain ⟨t214,A100,H⟩ := H
   try dsimp only at H
   have A10 := Aside0.mk A100
   clear A100
   by_cases c11 : ([] : List Int).length + x3_1.length < 140737488355328
   rotate_left
   ·rw [if_neg c11] at H
    exact absurd H (by simp)
   rw [if_pos c11] at H
   have LMc11 := Aside0.mk c11
   clear c11
   obtain ⟨y215,hy215⟩ : ∃ y_ : List Int,y_ = (([] : List Int) ++ x3_1) := ⟨_,rfl⟩
   replace H : (if y215.length < 140737488355328 then (reedsol_code_generator.l1 k1 a0 t214 (y215 ++ [0]) a0.Par x15_1 x3_1 (x3_1.length : Int) 0) else (none)) = some r := by rw [hy215]; exact H
   have Ny215 := Aside0.mk hy215
   clear hy215
   by_cases c12 : y215.length < 140737488355328
   rotate_left
   ·rw [if_neg c12] at H
    exact absurd H (by simp)
   rw [if_pos c12] at H
   have LMc12 := Aside0.mk c12
   clear c12
   obtain ⟨y218,hy218⟩ : ∃ y_ : List Int,y_ = (y215 ++ [0]) := ⟨_,rfl⟩
   replace H : (reedsol_code_generator.l1 k1 a0 t214 y218 a0.Par x15_1 x3_1 (x3_1.length : Int) 0) = some r := by rw [hy218]; exact H
   have Ny218 := Aside0.mk hy218
   clear hy218
   have H' := Aside0.mk H
   clear H
   try go_wp2
   have n0_ := aK (Kd.R_drew HO_3.out)
   have n1_ := aK (below_drew1 HB.out)
   clear HO_3 HB
   have HO_3 := n0_
   have HB := n1_
   clear n0_ n1_
   have ho8 := rs_At_exp HT0.out
   have hx8 := (HB.out.cell (World.block_lt_of_cell? w _ ho8)).trans ho8
   have ho9 := rs_At_First HT0.out
   have hx9 := (HB.out.cell (World.block_lt_of_cell? w _ ho9)).trans ho9
   refine start_ (n := 13) (S := fun w' => w'.cell? ⟨b_,7,none⟩ = some (.func (.func 45) #[.pointer (some ⟨c_,0,none⟩)] #[]) ∧ w'.cell? ⟨b_,2,none⟩ = some (.int .i64 a0.First)) (ds := []) (bts 13 0) (by kernel_rfl) rfl rfl ⟨((HB.out.cell (World.block_lt_of_cell? w _ ho8)).trans ho8),((HB.out.cell (World.block_lt_of_cell? w _ ho9)).trans ho9)⟩ (fun hHeld => ?_); refine with_tabW reedsol_code_generator.tab5 reedsol_code_generator.bits5 (fun HT_ HW_ => ?_)
   generalize wr.drew = w13 at HO_3 HB hHeld ⊢
   refine pu_ 0 18 13 1 HT_.out ?_; refine pu_ 1 19 13 3 HT_.out ?_; refine pu_ 2 20 13 7 HT_.out ?_; refine pu_ 4 22 13 23 HT_.out ?_; refine pu_ 5 23 13 55 HT_.out ?_; refine pu_ 6 24 13 119 HT_.out ?_; refine pu_ 7 25 13 247 HT_.out ?_; refine pu_ 9 27 13 759 HT_.out ?_; refine ta_ 3 21 13 767 rfl rfl HT_.out HW_.out hHeld (by rintro w' ⟨s0,s1⟩; go_simp; with_reducible rfl) ?_; refine ta_ 8 26 13 1023 rfl rfl HT_.out HW_.out hHeld (by rintro w' ⟨s0,s1⟩; go_simp; with_reducible rfl) ?_; refine pu_ 10 28 13 2047 HT_.out ?_
   refine one_ (i := 11) (N := some 29) (bts 13 4095) rfl rfl (one_of HT_.out (by kernel_rfl)) (by decide) (fun K hK => ?_)
   refine goesF_ Try.func45 (by kernel_rfl) rfl #[.pointer (some ⟨c_,0,none⟩),.int .i64 (wrap64 (a0.First + x15_1))] (by rfl) rfl rfl (by rfl) (by (try simp only [List.map_toArray,List.map_cons,List.map_nil]); first | done | rfl | (simp only [List.length_drop,List.length_take]; rfl) | (simp [Act.eval,IntKind.wrap_u8,IntKind.wrap_u32]; done)) ?_
   with_reducible refine (gT_Exp.calls b_ p_ c_ d_ g_ a0 (wrap64 (a0.First + x15_1)) t214 _ ?side1 A10.out).mono ?_
   (case side1 => exact (rs_At_below HT0.out HB.out))
   rintro e w' ⟨rfl,⟨nd,rfl⟩⟩
   refine ⟨_,rfl,?_⟩
   refine hK.out _ _ ⟨((HB.out.cell (World.block_lt_of_cell? w _ ho8)).trans ho8),((HB.out.cell (World.block_lt_of_cell? w _ ho9)).trans ho9)⟩ (fun hHeld => ?_)
   clear hK K
   refine norm_ (a' := ?_) ?_ ?_
   rotate_left
   ·show Act.put _ (some 29) _ = _
    simp only [Act.put,List.setIfInBounds_toArray,List.set_cons_zero,List.set_cons_succ,i64_w,i32_w]
    rfl
   refine pu_ 12 5 13 8191 HT_.out ?_
   refine done_ (done_of HT_.out (by kernel_rfl)) ?_
   obtain ⟨Ao15,co15,eo15⟩ := Kd.R_slice HO_3.out
   subst eo15
   try go_wp2_with (first | ((with_reducible refine gate_builtin (b := .append) (xs := #[.const (.slice none 0 0),.tmp 30]) rfl ?_); at_builtin; refine Kd.R_append_rows (Kd.int .u8) (w0 := w) w.heap.size rfl (.const (.slice none 0 0)) (.tmp 30) 27 5 (.int .u8 0) 1 rfl Try.underlying27 info5 rfl (by decide) (by omega) (.slice none 0 0) ([] : List Int) x3_1 _ _ _ (fun k_ => some k_ ≠ (.slice Ao15 x3_1.length co15 : Value).ownBlock) (fun _ => False) rfl rfl ?aO ?aR (fun _ _ h => h) (fun _ h => h.elim) ?aF ?aB ?aS ?aL ?_; (case aR => repeat (first | exact (Kd.R_reads' HO_3.out).2.2 | (with_reducible refine Kd.C_alloc ?_ _) | (with_reducible refine Kd.C_drewN ?_ _) | (with_reducible refine Kd.C_drew ?_))); (case aB => exact (mvh HB.out)); (case aF => exact (fun k_ hk => Kd.fresh' (Kd.R_lt (mvR HO_3.out)) k_ hk)); (case aO => exact ((Kd.R_nil _ _ _ _ (fun k_ => some k_ ≠ (.slice Ao15 x3_1.length co15 : Value).ownBlock)))); (case aS => exact (below_size (mvh HB.out))); (case aL => have := LMc11.out; omega); intro v216 w14 ho hb hg hat; rw [← Ny215.out] at ho; replace HO_3 := aK (Kd.R_after (Kd.R_apart_nil (mvR HO_3.out)) hg hat); replace HB := aK (hb); have HO217 := aK (ho); clear ho hb hg hat) | ((with_reducible refine gate_builtin (b := .append) (xs := #[.tmp 31,.tmp 32]) rfl ?_); at_builtin; refine Kd.R_append (Kd.int .u8) (w0 := w) w.heap.size rfl (.tmp 31) (.tmp 32) 27 5 (.int .u8 0) 1 rfl Try.underlying27 info5 rfl (by decide) (by omega) v216 y215 0 [.int .u8 0] (fun k_ => some k_ ≠ (.slice Ao15 x3_1.length co15 : Value).ownBlock) (fun _ => False) rfl rfl ?aP (fun _ hk => hk.elim) ?aF ?aO ?aB ?aS ?aL ?_; (case aP => exact rfl); (case aB => exact (mvh HB.out)); (case aF => exact (fun k_ hk => Kd.fresh' (Kd.R_lt (mvR HO_3.out)) k_ hk)); (case aO => exact (mvR HO217.out)); (case aS => exact (below_size (mvh HB.out))); (case aL => have := LMc12.out; omega); intro v219 w16 ho hb hg hat; rw [← Ny218.out] at ho; replace HO_3 := aK (Kd.R_after (ok := (fun _ => True)) (mvR HO_3.out) hg hat); replace HB := aK (hb); have HO220 := aK (ho); clear HO217; clear ho hb hg hat))
   go_loopg [36] k1 (fun kq v36 w' => ∃ (x6_2 : List Int) (x36_2 : Int),v36 = .int .i64 x36_2 ∧ Aside0 (reedsol_code_generator.l1 kq a0 t214 x6_2 a0.Par x15_1 x3_1 (x3_1.length : Int) x36_2 = some r) ∧ Aside0 (kq ≤ k1) ∧ Aside0 (Kd.R (Kd.int .u8) 5 w' w.heap.size (fun k_ => some k_ ≠ ((.slice Ao15 x3_1.length co15) : Value).ownBlock) v219 x6_2) ∧ Aside0 (Kd.R (Kd.int .u8) 5 w' w.heap.size (fun k_ => some k_ ≠ (v219 : Value).ownBlock) (.slice Ao15 x3_1.length co15) x3_1) ∧ Aside0 (Below w.heap.size w w'))
   case atStart => exact ⟨(y218),(0),(by first | rfl | (simp; done) | (simp [*]; done) | (simp [wrap64]; done)),H',⟨Nat.le_refl _⟩,⟨mvR HO220.out⟩,⟨by (with_reducible repeat (first | apply Kd.R_alloc | apply Kd.R_drewN | apply Kd.R_drew)); exact Kd.R_mono HO_3.out (fun _ hk => hk.2)⟩,⟨mvh HB.out⟩⟩
   case round =>
    (try clear hHeld)
    clear H'
    (try clear c1); (try clear c2); (try clear p2); (try clear hx3); (try clear c4); (try clear c5); (try clear c6); (try clear c6b0); (try clear p6); (try clear c7); (try clear hx8); (try clear hx9); (try clear c11); (try clear c12); (try clear p2)
    obtain ⟨x6_2,x36_2,rfl,HA,HK2,HO_6,HO_34,HB⟩ := hrel
    cases gk with
    | zero => exact absurd HA.out (by simp [reedsol_code_generator.l1])
    | succ k2 =>
     have H := HA.out
     clear HA
     simp only [reedsol_code_generator.l1] at H
     by_cases c17 : x36_2 < (x3_1.length : Int)
     rotate_left
     ·rw [if_neg c17] at H
      have c17b0 : decide (x36_2 < (x3_1.length : Int)) = false := decide_eq_false c17
      clear c17
      have H' := Aside0.mk H
      clear H
      go_wp2
      go_roundg k2
      case measure => have := HK1.out; have := HK2.out; omega
      case rel => exact ⟨(x6_2),(wrap64 (x15_1 + 1)),(by first | rfl | (simp; done) | (simp [*]; done) | (simp [wrap64]; done)),H',⟨by have := HK1.out; have := HK2.out; omega⟩,⟨by (with_reducible repeat (first | apply Kd.R_alloc | apply Kd.R_drewN | apply Kd.R_drew)); exact Kd.R_mono HO_6.out (fun _ hk => trivial)⟩,⟨mvh HB.out⟩⟩
     rw [if_pos c17] at H
     have c17b0 : decide (x36_2 < (x3_1.length : Int)) = true := decide_eq_true c17
     clear c17
     by_cases c18 : 0 ≤ x36_2
     rotate_left
     ·rw [if_neg c18] at H
      exact absurd H (by simp)
     rw [if_pos c18] at H
     have c18b0 : decide (0 ≤ x36_2) = true := decide_eq_true c18
     clear c18
     by_cases c19 : x36_2 < (x3_1.length : Int)
     rotate_left
     ·rw [if_neg c19] at H
      exact absurd H (by simp)
     rw [if_pos c19] at H
     have c19b0 : decide (x36_2 < (x3_1.length : Int)) = true := decide_eq_true c19
     clear c19
     obtain ⟨ji20,hji20⟩ : ∃ j_ : Int,(wrap64 (x36_2 + 1)) = j_ := ⟨_,rfl⟩
     first | rw [hji20] at H | simp only [hji20] at H
     have hji20w : (IntKind.i64.wrap (x36_2 + 1)) = ji20 := (i64_w _).trans hji20
     by_cases c21 : 0 ≤ (ji20)
     rotate_left
     ·rw [if_neg c21] at H
      exact absurd H (by simp)
     rw [if_pos c21] at H
     have c21b0 : decide (0 ≤ (ji20)) = true := decide_eq_true c21
     clear c21
     by_cases c22 : (ji20) < (x6_2.length : Int)
     rotate_left
     ·rw [if_neg c22] at H
      exact absurd H (by simp)
     rw [if_pos c22] at H
     have c22b0 : decide ((ji20) < (x6_2.length : Int)) = true := decide_eq_true c22
     clear c22
     by_cases c23 : 0 < a0.size
     rotate_left
     ·rw [if_neg c23] at H
      exact absurd H (by simp)
     rw [if_pos c23] at H
     clear c23
     replace H := Option.bind_eq_some_iff.mp H
     obtain ⟨t223,A250,H⟩ := H
     try dsimp only at H
     have A25 := Aside0.mk A250
     clear A250
     obtain ⟨y224,hy224⟩ : ∃ y_ : List Int,y_ = (x6_2.set ((ji20) : Int).toNat (Go.bits .xor .u8 (rd x6_2 (ji20)) t223)) := ⟨_,rfl⟩
     replace H : (reedsol_code_generator.l1 k2 a0 t214 y224 a0.Par x15_1 x3_1 (x3_1.length : Int) ji20) = some r := by rw [hy224]; exact H
     have Ny224 := Aside0.mk hy224
     clear hy224
     have H' := Aside0.mk H
     clear H
     have p221 : 0 ≤ (x36_2 : Int) := oD
     have q221 : x36_2 < (x3_1.length : Int) := oD
     obtain ⟨ad221,e221,hx221_0⟩ := Kd.at_int (Kd.R_reads' HO_34.out).2.2 x36_2 p221 q221
     cases e221
     replace p221 := eq_true p221
     replace q221 := eq_true q221
     try go_wp2
     have n0_ := aK (Kd.R_drew HO_6.out)
     have n1_ := aK (Kd.R_drew HO_34.out)
     have n2_ := aK (below_drew1 HB.out)
     clear HO_6 HO_34 HB
     have HO_6 := n0_
     have HO_34 := n1_
     have HB := n2_
     clear n0_ n1_ n2_
     obtain ⟨Ao28,co28,eo28⟩ := Kd.R_slice HO_6.out
     (first | subst eo28 | (injection eo28 with f1_ f2_ f3_; have f4_ := f1_.symm; have f5_ := f3_.symm; clear f1_ f2_ f3_; subst f4_; subst f5_))
     have p222 : 0 ≤ ((ji20) : Int) := oD
     have q222 : (ji20) < (x6_2.length : Int) := oD
     obtain ⟨ad222,e222,hx222_0⟩ := Kd.at_int (Kd.R_reads' HO_6.out).2.2 (ji20) p222 q222
     cases e222
     replace p222 := eq_true p222
     replace q222 := eq_true q222
     have ho24 := rs_At_mul HT0.out
     have hx24 := (HB.out.cell (World.block_lt_of_cell? w _ ho24)).trans ho24
     refine start_ (n := 15) (S := fun w' => w'.cell? (ad222.add ((ji20)).toNat) = some (.int .u8 (rd x6_2 (ji20))) ∧ w'.cell? ⟨b_,5,none⟩ = some (.func (.func 46) #[] #[.pointer (some ⟨p_,0,none⟩)])) (ds := [14]) (bts 15 0) (by kernel_rfl) rfl rfl ⟨hx222_0,((HB.out.cell (World.block_lt_of_cell? w _ ho24)).trans ho24)⟩ (fun hHeld => ?_); refine with_tabW reedsol_code_generator.tab10 reedsol_code_generator.bits10 (fun HT_ HW_ => ?_)
     generalize wr.drew = w27 at HO_6 HO_34 HB hx222_0 hHeld ⊢
     refine pu_ 0 41 15 1 HT_.out ?_; refine pu_ 1 42 15 3 HT_.out ?_; refine pu_ 2 43 15 7 HT_.out ?_; refine pu_ 3 44 15 15 HT_.out ?_; refine pu_ 5 46 15 47 HT_.out ?_; refine pu_ 6 47 15 111 HT_.out ?_; refine pu_ 7 48 15 239 HT_.out ?_; refine pu_ 9 50 15 751 HT_.out ?_; refine pu_ 10 51 15 1775 HT_.out ?_; refine ta_ 4 45 15 1791 rfl rfl HT_.out HW_.out hHeld (by rintro w' ⟨s0,s1⟩; go_simp; with_reducible rfl) ?_; refine ta_ 8 49 15 2047 rfl rfl HT_.out HW_.out hHeld (by rintro w' ⟨s0,s1⟩; go_simp; with_reducible rfl) ?_
     refine one_ (i := 11) (N := some 52) (bts 15 4095) rfl rfl (one_of HT_.out (by kernel_rfl)) (by decide) (fun K hK => ?_)
     refine goesF_ Try.func46 (by kernel_rfl) rfl #[.int .u8 (rd x3_1 x36_2),.int .u8 t214,.pointer (some ⟨p_,0,none⟩)] (by rfl) rfl rfl (by rfl) (by (try simp only [List.map_toArray,List.map_cons,List.map_nil]); first | done | rfl | (simp only [List.length_drop,List.length_take]; rfl) | (simp [Act.eval,IntKind.wrap_u8,IntKind.wrap_u32]; done)) ?_
     with_reducible refine (reedsol_open_1.calls k2 b_ p_ c_ d_ g_ a0 (rd x3_1 x36_2) t214 t223 _ ?side1 A25.out).mono ?_
     (case side1 => exact (rs_At_below HT0.out HB.out))
     rintro e w29 ⟨rfl,hb⟩
     have HS0_ := (hb.cell (World.block_lt_of_cell? _ _ (hHeld.1))).trans (hHeld.1)
     refine ⟨_,rfl,?_⟩
     have n0_ := aK (Kd.R_below (mvR HO_6.out) hb)
     have n1_ := aK (Kd.R_below (mvR HO_34.out) hb)
     have n2_ := aK (below_step (mvh HB.out) hb)
     clear HO_6 HO_34 HB
     have HO_6 := n0_
     have HO_34 := n1_
     have HB := n2_
     clear n0_ n1_ n2_
     (try clear hb)
     have p26 : 0 ≤ ((ji20) : Int) := oD
     have q26 : ((ji20) : Int) < ((x6_2.length : Int) : Int) := oD
     obtain ⟨go26,co26,eo26,gb26,gl26,cl26,HG26⟩ := Kd.R_form HO_6.out (by omega)
     (first | cases eo26 | (injection eo26 with ea_ en_ ec_; (first | subst ea_ | (injection ea_ with ea_; subst ea_)); subst ec_; clear en_))
     have GB26 := Aside0.mk gb26
     have GG26 := Aside0.mk HG26
     clear gb26 gl26 HG26
     (first | simp only [add_plain] at hx222_0 | skip)
     obtain ⟨hx26_0,hf26_0⟩ := Kd.R_celln 0 HO_6.out ((ji20) : Int) p26 q26
     replace p26 := eq_true p26
     replace q26 := eq_true q26
     have HP30 := Kd.R_putn HO_6.out ((ji20) : Int) (Go.bits .xor .u8 (rd x6_2 (ji20)) t223)
     rw [← Ny224.out] at HP30
     have HQ30 := Aside0.mk HP30
     clear HP30
     refine hK.out _ _ ⟨HS0_,((HB.out.cell (World.block_lt_of_cell? w _ ho24)).trans ho24)⟩ (fun hHeld => ?_)
     clear hK K
     refine norm_ (a' := ?_) ?_ ?_
     rotate_left
     ·show Act.put _ (some 52) _ = _
      simp only [Act.put,List.setIfInBounds_toArray,List.set_cons_zero,List.set_cons_succ,i64_w,i32_w]
      rfl
     refine pu_ 12 53 15 8191 HT_.out ?_; refine pu_ 13 54 15 16383 HT_.out ?_
     refine last_ (i := 14) (N := none) (bts 15 32767) rfl rfl (one_of HT_.out (by kernel_rfl)) (by decide) (fun K hK => ?_)
     refine skip_ (w1 := ?_) (by rfl) rfl ?_ ?_
     rotate_left
     ·go_simp
      rfl
     refine hK.out _ _ ?_
     clear hK K
     refine done_ (done_of HT_.out (by kernel_rfl)) ?_
     try go_wp2
     go_roundg k2
     case measure => have := HK1.out; have := HK2.out; omega
     case rel => exact ⟨(y224),(ji20),(by first | rfl | (simp; done) | (simp only [← hji20] <;> (first | rfl | simp)) | (simp [*]; done) | (simp [wrap64]; done)),H',⟨by have := HK1.out; have := HK2.out; omega⟩,⟨mvR HQ30.out⟩,⟨by (with_reducible repeat (first | apply Kd.R_alloc | apply Kd.R_drewN | apply Kd.R_drew)); exact Kd.R_mono (Kd.R_far (p := ⟨go26,((ji20) : Int).toNat,none⟩) (Kd.R_mono HO_34.out (fun k_ hk => (⟨hk,fun e_ => hk (by rw [e_]; rfl)⟩ : _ ∧ k_ ≠ go26))) (fun _ hk => hk.2) (.int .u8 (Go.bits .xor .u8 (rd x6_2 (ji20)) t223))) (fun _ hk => hk.1)⟩,⟨by repeat (first | (with_reducible first | exact HB.out | apply below_alloc | apply pw_below_drewN | apply below_drew1 | refine below_set ?_ GB26.out) | exact HB.out)⟩⟩
end Go.Proofs.Ytpgecdidddoglaa.P

