-- written by mk.sh, a program of this session, over the kit's print
import Derived.Test.YtpgecdidddoglaaRbQAux
import Derived.Test.YtpgecdidddoglaaRbPx0
import Derived.Test.YtpgecdidddoglaaRbPx6
import Derived.Test.YtpgecdidddoglaaRbPx7
namespace Go.Proofs.Ytpgecdidddoglaa.P
open Go.RowKit Go.Proofs.YtpgecdidddoglaaW.PrintWords Go.Proofs.YtpgecdidddoglaaW.PrintLast Go.Proofs.YtpgecdidddoglaaW.PrintMore
attribute [local go_sem] max2_int min2_int max_two min_two max_three min_three max_four min_four   -- for this text's walks alone
set_option linter.unusedVariables false
set_option linter.unusedSimpArgs false

mutual
def reedsol_code_locator.l0 : Nat → RCode → List Int → List Int → List Int → Int → Int → Int → Int → Int → Option (List Int × Int)
 | 0,_,_,_,_,_,_,_,_,_ => none
 | k + 1,x0,x1,x6,x7,x8,x9,x10,x21,x22 => if x22 < x21 then (if 0 ≤ x22 then (if x22 < (x1.length : Int) then (reedsol_code_locator.l1 k x0 x1 x6 x7 x8 x9 x10 x22 (rd x1 x22) 1 x21 x22) else (none)) else (none)) else (some (x6,x8))
def reedsol_code_locator.j2 : Nat → RCode → List Int → List Int → List Int → Int → Int → Int → Int → Int → Int → Int → Option (List Int × Int)
 | 0,_,_,_,_,_,_,_,_,_,_,_ => none
 | k + 1,x0,x1,x6,x7,x8,x9,x10,x11,x12,x21,x22 => if x12 = 0 then (reedsol_code_locator.l0 k x0 x1 x6 x7 x8 (wrap64 (x9 + 1)) x10 x21 (wrap64 (x22 + 1))) else (if 0 ≤ (mx (x6.length : Int) (wrap64 ((x7.length : Int) + x9))) then (if (mx (x6.length : Int) (wrap64 ((x7.length : Int) + x9)) : Int).toNat ≤ 281474976710656 then ((some (List.replicate (mx (x6.length : Int) (wrap64 ((x7.length : Int) + x9)) : Int).toNat 0 : List Int)).bind fun y283 => (if y283.length + x6.length < 140737488355328 then (if 0 < x0.size then ((reedsol_open_2.f k x0 x12 x10).bind fun t289 => (reedsol_code_locator.l2 k x0 x1 x6 x7 x8 x9 x10 x11 x12 (x6.take (min x6.length y283.length) ++ y283.drop (min x6.length y283.length)) t289 x21 x22 x7 (x7.length : Int) 0)) else (none)) else (none))) else (none)) else (none))
def reedsol_code_locator.l2 : Nat → RCode → List Int → List Int → List Int → Int → Int → Int → Int → Int → List Int → Int → Int → Int → List Int → Int → Int → Option (List Int × Int)
 | 0,_,_,_,_,_,_,_,_,_,_,_,_,_,_,_,_ => none
 | k + 1,x0,x1,x6,x7,x8,x9,x10,x11,x12,x14,x15,x21,x22,x79,x80,x81 => if x81 < x80 then (if 0 ≤ x81 then (if x81 < (x79.length : Int) then (if 0 ≤ (wrap64 (x81 + x9)) then (if (wrap64 (x81 + x9)) < (x14.length : Int) then (if 0 < x0.size then ((reedsol_open_1.f k x0 x15 (rd x79 x81)).bind fun t292 => (reedsol_code_locator.l2 k x0 x1 x6 x7 x8 x9 x10 x11 x12 (x14.set ((wrap64 (x81 + x9)) : Int).toNat (Go.bits .xor .u8 (rd x14 (wrap64 (x81 + x9))) t292)) x15 x21 x22 x79 x80 (wrap64 (x81 + 1)))) else (none)) else (none)) else (none)) else (none)) else (none)) else (if (wrap64 (2 * x8)) ≤ x11 then (reedsol_code_locator.l0 k x0 x1 x14 x6 (wrap64 ((wrap64 (x11 + 1)) - x8)) 1 x12 x21 (wrap64 (x22 + 1))) else (reedsol_code_locator.l0 k x0 x1 x14 x7 x8 (wrap64 (x9 + 1)) x10 x21 (wrap64 (x22 + 1))))
def reedsol_code_locator.l1 : Nat → RCode → List Int → List Int → List Int → Int → Int → Int → Int → Int → Int → Int → Int → Option (List Int × Int)
 | 0,_,_,_,_,_,_,_,_,_,_,_,_ => none
 | k + 1,x0,x1,x6,x7,x8,x9,x10,x11,x12,x13,x21,x22 => if x13 ≤ x8 then (if x13 < (x6.length : Int) then (if 0 < x0.size then (if 0 ≤ x13 then (if 0 ≤ (wrap64 (x11 - x13)) then (if (wrap64 (x11 - x13)) < (x1.length : Int) then ((reedsol_open_1.f k x0 (rd x6 x13) (rd x1 (wrap64 (x11 - x13)))).bind fun t282 => (reedsol_code_locator.l1 k x0 x1 x6 x7 x8 x9 x10 x11 (Go.bits .xor .u8 x12 t282) (wrap64 (x13 + 1)) x21 x22)) else (none)) else (none)) else (none)) else (none)) else (reedsol_code_locator.j2 k x0 x1 x6 x7 x8 x9 x10 x11 x12 x21 x22)) else (reedsol_code_locator.j2 k x0 x1 x6 x7 x8 x9 x10 x11 x12 x21 x22)
end
def reedsol_code_locator.f (k : Nat) (a0 : RCode) (l1 : List Int) : Option (List Int × Int) := reedsol_code_locator.l0 k a0 l1 (([1] : List Int)) (([1] : List Int)) 0 1 1 (l1.length : Int) 0
theorem reedsol_code_locator.mono_l : ∀ k,(∀ y0 y1 y2 y3 y4 y5 y6 y7 y8,LeO (reedsol_code_locator.l0 k y0 y1 y2 y3 y4 y5 y6 y7 y8) (reedsol_code_locator.l0 (k + 1) y0 y1 y2 y3 y4 y5 y6 y7 y8)) ∧ (∀ y0 y1 y2 y3 y4 y5 y6 y7 y8 y9 y10,LeO (reedsol_code_locator.j2 k y0 y1 y2 y3 y4 y5 y6 y7 y8 y9 y10) (reedsol_code_locator.j2 (k + 1) y0 y1 y2 y3 y4 y5 y6 y7 y8 y9 y10)) ∧ (∀ y0 y1 y2 y3 y4 y5 y6 y7 y8 y9 y10 y11 y12 y13 y14 y15,LeO (reedsol_code_locator.l2 k y0 y1 y2 y3 y4 y5 y6 y7 y8 y9 y10 y11 y12 y13 y14 y15) (reedsol_code_locator.l2 (k + 1) y0 y1 y2 y3 y4 y5 y6 y7 y8 y9 y10 y11 y12 y13 y14 y15)) ∧ (∀ y0 y1 y2 y3 y4 y5 y6 y7 y8 y9 y10 y11,LeO (reedsol_code_locator.l1 k y0 y1 y2 y3 y4 y5 y6 y7 y8 y9 y10 y11) (reedsol_code_locator.l1 (k + 1) y0 y1 y2 y3 y4 y5 y6 y7 y8 y9 y10 y11))
 | 0 => ⟨fun _ _ _ _ _ _ _ _ _ r h => by simp [reedsol_code_locator.l0] at h,fun _ _ _ _ _ _ _ _ _ _ _ r h => by simp [reedsol_code_locator.j2] at h,fun _ _ _ _ _ _ _ _ _ _ _ _ _ _ _ _ r h => by simp [reedsol_code_locator.l2] at h,fun _ _ _ _ _ _ _ _ _ _ _ _ r h => by simp [reedsol_code_locator.l1] at h⟩
 | k + 1 => by
  obtain ⟨ih0,ih1,ih2,ih3⟩ := reedsol_code_locator.mono_l k
  refine ⟨?_,?_,?_,?_⟩
  ·intro y0 y1 y2 y3 y4 y5 y6 y7 y8
   unfold reedsol_code_locator.l0
   repeat' with_reducible first
   | exact ih0 _ _ _ _ _ _ _ _ _
   | exact ih1 _ _ _ _ _ _ _ _ _ _ _
   | exact ih2 _ _ _ _ _ _ _ _ _ _ _ _ _ _ _ _
   | exact ih3 _ _ _ _ _ _ _ _ _ _ _ _
   | exact reedsol_open_1.mono _ _ _ _
   | exact reedsol_open_2.mono _ _ _ _
   | exact LeO.refl _
   | exact LeO.none _
   | refine LeO.ite ?_ ?_
   | refine LeO.bind ?_ (fun _ => ?_)
  ·intro y0 y1 y2 y3 y4 y5 y6 y7 y8 y9 y10
   unfold reedsol_code_locator.j2
   repeat' with_reducible first
   | exact ih0 _ _ _ _ _ _ _ _ _
   | exact ih1 _ _ _ _ _ _ _ _ _ _ _
   | exact ih2 _ _ _ _ _ _ _ _ _ _ _ _ _ _ _ _
   | exact ih3 _ _ _ _ _ _ _ _ _ _ _ _
   | exact reedsol_open_1.mono _ _ _ _
   | exact reedsol_open_2.mono _ _ _ _
   | exact LeO.refl _
   | exact LeO.none _
   | refine LeO.ite ?_ ?_
   | refine LeO.bind ?_ (fun _ => ?_)
  ·intro y0 y1 y2 y3 y4 y5 y6 y7 y8 y9 y10 y11 y12 y13 y14 y15
   unfold reedsol_code_locator.l2
   repeat' with_reducible first
   | exact ih0 _ _ _ _ _ _ _ _ _
   | exact ih1 _ _ _ _ _ _ _ _ _ _ _
   | exact ih2 _ _ _ _ _ _ _ _ _ _ _ _ _ _ _ _
   | exact ih3 _ _ _ _ _ _ _ _ _ _ _ _
   | exact reedsol_open_1.mono _ _ _ _
   | exact reedsol_open_2.mono _ _ _ _
   | exact LeO.refl _
   | exact LeO.none _
   | refine LeO.ite ?_ ?_
   | refine LeO.bind ?_ (fun _ => ?_)
  ·intro y0 y1 y2 y3 y4 y5 y6 y7 y8 y9 y10 y11
   unfold reedsol_code_locator.l1
   repeat' with_reducible first
   | exact ih0 _ _ _ _ _ _ _ _ _
   | exact ih1 _ _ _ _ _ _ _ _ _ _ _
   | exact ih2 _ _ _ _ _ _ _ _ _ _ _ _ _ _ _ _
   | exact ih3 _ _ _ _ _ _ _ _ _ _ _ _
   | exact reedsol_open_1.mono _ _ _ _
   | exact reedsol_open_2.mono _ _ _ _
   | exact LeO.refl _
   | exact LeO.none _
   | refine LeO.ite ?_ ?_
   | refine LeO.bind ?_ (fun _ => ?_)
theorem reedsol_code_locator.mono : ∀ a0 a1 k,LeO (reedsol_code_locator.f k a0 a1) (reedsol_code_locator.f (k + 1) a0 a1) := by
 intro a0 a1 k
 obtain ⟨ih0,ih1,ih2,ih3⟩ := reedsol_code_locator.mono_l k
 unfold reedsol_code_locator.f
 repeat' with_reducible first
   | exact ih0 _ _ _ _ _ _ _ _ _
   | exact ih1 _ _ _ _ _ _ _ _ _ _ _
   | exact ih2 _ _ _ _ _ _ _ _ _ _ _ _ _ _ _ _
   | exact ih3 _ _ _ _ _ _ _ _ _ _ _ _
   | exact reedsol_open_1.mono _ _ _ _
   | exact reedsol_open_2.mono _ _ _ _
   | exact LeO.refl _
   | exact LeO.none _
   | refine LeO.ite ?_ ?_
   | refine LeO.bind ?_ (fun _ => ?_)
def reedsol_code_locator.T10 : Bool × List (List Nat × List Nat) := (true,[([],[]),([],[]),([1],[1]),([2],[2]),([3],[3]),([],[]),([],[]),([5,6],[5,6]),([7],[7]),([],[]),([],[]),([],[]),([10,11],[10,11]),([9,12],[9,12]),([13],[13]),([4,8,14],[4,8,14]),([0,15],[0,15]),([16,15,0,1,2,3,4,5,6,7,8,9,10,11,12,13,14,15,16],[0,16])])
def reedsol_code_locator.B10 : List Nat := [0,0,2,6,14,0,0,96,224,0,0,0,3072,7680,15872,32766,65535,131071]
theorem reedsol_code_locator.tab10 : rtab .any (opsOf Try.f55 10) = reedsol_code_locator.T10 := by kernel_rfl
theorem reedsol_code_locator.bits10 : waitsOk reedsol_code_locator.T10.2 reedsol_code_locator.B10 = true := by kernel_rfl
def reedsol_code_locator.T19 : Bool × List (List Nat × List Nat) := (true,[([],[]),([],[]),([],[]),([1,2],[1,2]),([0,3],[0,3]),([4],[4]),([],[]),([6],[6]),([7],[7]),([8],[8]),([],[]),([],[]),([9,10,11],[9,10,11]),([5,12],[5,12]),([0,3,0,1,2,3,4,5,6,7,8,9,10,11,12,13],[0,3]),([14,13,12,0,1,2,3,4,5,6,7,8,9,10,11,12,13],[13,14])])
def reedsol_code_locator.B19 : List Nat := [0,0,0,6,15,31,0,64,192,448,0,0,4032,8191,16383,32767]
theorem reedsol_code_locator.tab19 : rtab .any (opsOf Try.f55 19) = reedsol_code_locator.T19 := by kernel_rfl
theorem reedsol_code_locator.bits19 : waitsOk reedsol_code_locator.T19.2 reedsol_code_locator.B19 = true := by kernel_rfl
set_option maxHeartbeats 8000000 in
set_option maxRecDepth 100000 in
theorem reedsol_code_locator.calls (k : Nat) (A0 : Option Addr) (a0 : RCode) (A1 : Option Addr) (c1 : Nat) (l1 : List Int) (r1 : List Int) (r2 : Int) (w : World) (hr0 : rs_OK w A0 a0) (hr1 : Kd.C (Kd.int .u8) w A1 l1.length l1) (hc1 : l1.length ≤ c1) (h : reedsol_code_locator.f k a0 l1 = some (r1,r2)) :
  Calls Try.prog 55 #[.pointer A0,.slice A1 l1.length c1] w fun e w' => ∃ v0_ : Value,e = .returned (.tuple #[v0_,.int .i64 r2]) ∧ Kd.R (Kd.int .u8) 5 w' w.heap.size (fun _ => True) v0_ r1 ∧ Below w.heap.size w w' := by
 have HR0 := Aside0.mk hr0
 clear hr0
 have HR1 := Aside0.mk hr1
 have HC1 := Aside0.mk hc1
 clear hr1 hc1
 have HB := aK (Below.refl w.heap.size w)
 have H : (reedsol_code_locator.l0 k a0 l1 (([1] : List Int)) (([1] : List Int)) 0 1 1 (l1.length : Int) 0) = some (r1,r2) := h
 clear h
 obtain ⟨y273,hy273⟩ : ∃ y_ : List Int,y_ = (([1] : List Int)) := ⟨_,rfl⟩
 replace H : (reedsol_code_locator.l0 k a0 l1 y273 (([1] : List Int)) 0 1 1 (l1.length : Int) 0) = some (r1,r2) := by rw [hy273]; exact H
 have Ny273 := Aside0.mk hy273
 clear hy273
 obtain ⟨y276,hy276⟩ : ∃ y_ : List Int,y_ = (([1] : List Int)) := ⟨_,rfl⟩
 replace H : (reedsol_code_locator.l0 k a0 l1 y273 y276 0 1 1 (l1.length : Int) 0) = some (r1,r2) := by rw [hy276]; exact H
 have Ny276 := Aside0.mk hy276
 clear hy276
 have H' := Aside0.mk H
 clear H
 go_enter Try.func55,Try.ntmps55
 go_wp2_with (first | ((with_reducible refine gate_dst (N := 18) rfl ?_); (try (refine gate_guard (by rfl) ?_; dsimp only)); refine Kd.R_lit (Kd.int .u8) _ 5 ?hg (N := 18) ?hd (xs := ([1] : List Int)) (inner := [.int .u8 1]) (ok := fun _ => True) (okp := fun _ => True) ?hr ?hp (fun _ hk => hk) trivial (Below.refl _ _) (Nat.le_refl _) (by simp) ?_; (case hd => rfl); (case hg => rfl); (case hr => first | (go_simp; done) | (go_simp; rfl)); (case hp => exact (Reps.one (show Kd.M (Kd.int .u8) _ _ _ 1 [.int .u8 1] from rfl) (Reps.none _ _))); intro v274 w3 ho4 hb hg_ hnew_; clear hg_ hnew_; (first | rw [← Ny273.out] at ho4 | (simp only [Int.reduceToNat] at ho4; rw [← Ny273.out] at ho4)); have HO275 := aK (Kd.R_lower ho4 (below_size (mvh HB.out))); replace HB := aK (below_step (mvh HB.out) hb); clear hb ho4) | ((with_reducible refine gate_dst (N := 19) rfl ?_); (try (refine gate_guard (by rfl) ?_; dsimp only)); refine Kd.R_lit (Kd.int .u8) _ 5 ?hg (N := 19) ?hd (xs := ([1] : List Int)) (inner := [.int .u8 1]) (ok := fun _ => True) (okp := fun _ => True) ?hr ?hp (fun _ hk => hk) trivial (Below.refl _ _) (Nat.le_refl _) (by simp) ?_; (case hd => rfl); (case hg => rfl); (case hr => first | (go_simp; done) | (go_simp; rfl)); (case hp => exact (Reps.one (show Kd.M (Kd.int .u8) _ _ _ 1 [.int .u8 1] from rfl) (Reps.none _ _))); intro v277 w5 ho6 hb hg_ hnew_; clear hg_ hnew_; (first | rw [← Ny276.out] at ho6 | (simp only [Int.reduceToNat] at ho6; rw [← Ny276.out] at ho6)); have HO278 := aK (Kd.R_lower (Kd.R_new' ho6 (Kd.R_lt (mvR HO275.out))) (below_size (mvh HB.out))); replace HO275 := aK (Kd.R_elder' (mvR HO275.out) (Kd.R_base ho6) hb); replace HB := aK (below_step (mvh HB.out) hb); clear hb ho6))
 go_loopg [6,7,8,9,10,22] k (fun kq v6 v7 v8 v9 v10 v22 w' => ∃ (x6_1 : List Int) (x7_1 : List Int) (x8_1 : Int) (x9_1 : Int) (x10_1 : Int) (x22_1 : Int),v8 = .int .i64 x8_1 ∧ v9 = .int .i64 x9_1 ∧ v10 = .int .u8 x10_1 ∧ v22 = .int .i64 x22_1 ∧ Aside0 (reedsol_code_locator.l0 kq a0 l1 x6_1 x7_1 x8_1 x9_1 x10_1 (l1.length : Int) x22_1 = some (r1,r2)) ∧ Aside0 (kq ≤ k) ∧ Aside0 (Kd.R (Kd.int .u8) 5 w' w.heap.size (fun k_ => some k_ ≠ (v7 : Value).ownBlock) v6 x6_1) ∧ Aside0 (Kd.R (Kd.int .u8) 5 w' w.heap.size (fun k_ => some k_ ≠ (v6 : Value).ownBlock) v7 x7_1) ∧ Aside0 (Below w.heap.size w w'))
 case atStart => exact ⟨(y273),(y276),(0),(1),(1),(0),(by first | rfl | (simp; done) | (simp [*]; done) | (simp [wrap64]; done)),(by first | rfl | (simp; done) | (simp [*]; done) | (simp [wrap64]; done)),(by first | rfl | (simp; done) | (simp [*]; done) | (simp [wrap64]; done)),(by first | rfl | (simp; done) | (simp [*]; done) | (simp [wrap64]; done)),H',⟨Nat.le_refl _⟩,⟨by (with_reducible repeat (first | apply Kd.R_alloc | apply Kd.R_drewN | apply Kd.R_drew)); exact Kd.R_mono HO275.out (fun _ hk => hk.2)⟩,⟨by (with_reducible repeat (first | apply Kd.R_alloc | apply Kd.R_drewN | apply Kd.R_drew)); exact Kd.R_mono HO278.out (fun _ hk => hk.2)⟩,⟨mvh HB.out⟩⟩
 case round =>
  clear H'
  (try clear c1); (try clear p2); (try clear c5); (try clear p6)
  obtain ⟨x6_1,x7_1,x8_1,x9_1,x10_1,x22_1,rfl,rfl,rfl,rfl,HA,HK1,HO_6,HO_7,HB⟩ := hrel
  cases gk with
  | zero => exact absurd HA.out (by simp [reedsol_code_locator.l0])
  | succ k1 =>
   have H := HA.out
   clear HA
   simp only [reedsol_code_locator.l0] at H
   by_cases c7 : x22_1 < (l1.length : Int)
   rotate_left
   ·rw [if_neg c7] at H
    have c7b0 : decide (x22_1 < (l1.length : Int)) = false := decide_eq_false c7
    clear c7
    simp only [Option.some.injEq,Prod.mk.injEq] at H
    obtain ⟨rfl,rfl⟩ := H
    go_wp2
    go_ret2
    exact ⟨_,by first | rfl | (simp [errW_none,errW_some] <;> rfl) | (simp [*,errW_none,errW_some] <;> rfl),by (with_reducible repeat (first | apply Kd.R_alloc | apply Kd.R_drewN | apply Kd.R_drew)); exact Kd.R_mono HO_6.out (fun _ hk => trivial),mvh HB.out⟩

   rw [if_pos c7] at H
   have c7b0 : decide (x22_1 < (l1.length : Int)) = true := decide_eq_true c7
   clear c7
   by_cases c8 : 0 ≤ x22_1
   rotate_left
   ·rw [if_neg c8] at H
    exact absurd H (by simp)
   rw [if_pos c8] at H
   have c8b0 : decide (0 ≤ x22_1) = true := decide_eq_true c8
   clear c8
   by_cases c9 : x22_1 < (l1.length : Int)
   rotate_left
   ·rw [if_neg c9] at H
    exact absurd H (by simp)
   rw [if_pos c9] at H
   have c9b0 : decide (x22_1 < (l1.length : Int)) = true := decide_eq_true c9
   clear c9
   have HC10 := Aside0.mk H
   clear H
   have p279 : 0 ≤ (x22_1 : Int) := oD
   have q279 : x22_1 < (l1.length : Int) := oD
   obtain ⟨ad279,e279,hx279_0⟩ := Kd.at_int HR1.out x22_1 p279 q279
   cases e279
   replace hx279_0 := (HB.out.cell (World.block_lt_of_cell? w _ hx279_0)).trans hx279_0
   replace p279 := eq_true p279
   replace q279 := eq_true q279
   go_upto_block 2 with (fail)
   go_cut [12] (fun v12 wc => ∃ (kq : Nat) (x12_9 : Int),v12 = .int .u8 x12_9 ∧ Aside0 (reedsol_code_locator.j2 kq a0 l1 x6_1 x7_1 x8_1 x9_1 x10_1 x22_1 x12_9 (l1.length : Int) x22_1 = some (r1,r2)) ∧ Aside0 (kq ≤ k1) ∧ Aside0 (Kd.R (Kd.int .u8) 5 wc w.heap.size (fun k_ => some k_ ≠ (u7 : Value).ownBlock) u6 x6_1) ∧ Aside0 (Kd.R (Kd.int .u8) 5 wc w.heap.size (fun k_ => some k_ ≠ (u6 : Value).ownBlock) u7 x7_1) ∧ Aside0 (Below w.heap.size w wc))
   case first =>
    have H := HC10.out
    clear HC10
    have H' := Aside0.mk H
    clear H
    go_wp2
    go_loopg [12,13] k1 (fun kq v12 v13 w' => ∃ (x12_2 : Int) (x13_2 : Int),v12 = .int .u8 x12_2 ∧ v13 = .int .i64 x13_2 ∧ Aside0 (reedsol_code_locator.l1 kq a0 l1 x6_1 x7_1 x8_1 x9_1 x10_1 x22_1 x12_2 x13_2 (l1.length : Int) x22_1 = some (r1,r2)) ∧ Aside0 (kq ≤ k1) ∧ Aside0 (Kd.R (Kd.int .u8) 5 w' w.heap.size (fun k_ => some k_ ≠ (u7 : Value).ownBlock) u6 x6_1) ∧ Aside0 (Kd.R (Kd.int .u8) 5 w' w.heap.size (fun k_ => some k_ ≠ (u6 : Value).ownBlock) u7 x7_1) ∧ Aside0 (Below w.heap.size w w'))
    case atStart => exact ⟨(rd l1 x22_1),(1),(by first | rfl | (simp; done) | (simp [*]; done) | (simp [wrap64]; done)),(by first | rfl | (simp; done) | (simp [*]; done) | (simp [wrap64]; done)),H',⟨Nat.le_refl _⟩,⟨mvR HO_6.out⟩,⟨mvR HO_7.out⟩,⟨mvh HB.out⟩⟩
    case round =>
     clear H'
     (try clear c1); (try clear p2); (try clear q2); (try clear hx2); (try clear c5); (try clear p6); (try clear c7); (try clear c7b0); (try clear c8); (try clear c8b0); (try clear c9); (try clear c9b0); (try clear hx279_0); (try clear p2); (try clear p279); (try clear p6); (try clear q279)
     obtain ⟨x12_2,x13_2,rfl,rfl,HA,HK2,HO_6,HO_7,HB⟩ := hrel
     cases gk with
     | zero => exact absurd HA.out (by simp [reedsol_code_locator.l1])
     | succ k2 =>
      have H := HA.out
      clear HA
      simp only [reedsol_code_locator.l1] at H
      by_cases c11 : x13_2 ≤ x8_1
      rotate_left
      ·rw [if_neg c11] at H
       have c11b0 : decide (x13_2 ≤ x8_1) = false := decide_eq_false c11
       clear c11
       (first | rw [c11b0] | (simp only [i64_w,i32_w]; rw [c11b0]) | rw [c11b1] | skip)
       have H' := Aside0.mk H
       clear H
       go_wp2
       go_meet
       case rel => exact ⟨_,(x12_2),(by first | rfl | (simp; done) | (simp [*]; done) | (simp [wrap64]; done)),H',⟨by have := HK1.out; have := HK2.out; first | omega | exact Nat.le_refl _⟩,⟨mvR HO_6.out⟩,⟨mvR HO_7.out⟩,⟨mvh HB.out⟩⟩
      rw [if_pos c11] at H
      have c11b0 : decide (x13_2 ≤ x8_1) = true := decide_eq_true c11
      clear c11
      (first | rw [c11b0] | (simp only [i64_w,i32_w]; rw [c11b0]) | rw [c11b1] | skip)
      by_cases c12 : x13_2 < (x6_1.length : Int)
      rotate_left
      ·rw [if_neg c12] at H
       have c12b0 : decide (x13_2 < (x6_1.length : Int)) = false := decide_eq_false c12
       clear c12
       have H' := Aside0.mk H
       clear H
       obtain ⟨Ao23,co23,eo23⟩ := Kd.R_slice HO_6.out
       subst eo23
       go_wp2
       go_meet
       case rel => exact ⟨_,(x12_2),(by first | rfl | (simp; done) | (simp [*]; done) | (simp [wrap64]; done)),H',⟨by have := HK1.out; have := HK2.out; first | omega | exact Nat.le_refl _⟩,⟨mvR HO_6.out⟩,⟨mvR HO_7.out⟩,⟨mvh HB.out⟩⟩
      rw [if_pos c12] at H
      have c12b0 : decide (x13_2 < (x6_1.length : Int)) = true := decide_eq_true c12
      clear c12
      by_cases c13 : 0 < a0.size
      rotate_left
      ·rw [if_neg c13] at H
       exact absurd H (by simp)
      rw [if_pos c13] at H
      obtain ⟨b_,p_,c_,d_,g_,rfl,hT_⟩ := rs_pos HR0.out c13
      have HT0 := Aside0.mk hT_
      clear hT_ c13
      by_cases c15 : 0 ≤ x13_2
      rotate_left
      ·rw [if_neg c15] at H
       exact absurd H (by simp)
      rw [if_pos c15] at H
      have c15b0 : decide (0 ≤ x13_2) = true := decide_eq_true c15
      clear c15
      obtain ⟨ji16,hji16⟩ : ∃ j_ : Int,(wrap64 (x22_1 - x13_2)) = j_ := ⟨_,rfl⟩
      first | rw [hji16] at H | simp only [hji16] at H
      have hji16w : (IntKind.i64.wrap (x22_1 - x13_2)) = ji16 := (i64_w _).trans hji16
      by_cases c17 : 0 ≤ (ji16)
      rotate_left
      ·rw [if_neg c17] at H
       exact absurd H (by simp)
      rw [if_pos c17] at H
      have c17b0 : decide (0 ≤ (ji16)) = true := decide_eq_true c17
      clear c17
      by_cases c18 : (ji16) < (l1.length : Int)
      rotate_left
      ·rw [if_neg c18] at H
       exact absurd H (by simp)
      rw [if_pos c18] at H
      have c18b0 : decide ((ji16) < (l1.length : Int)) = true := decide_eq_true c18
      clear c18
      replace H := Option.bind_eq_some_iff.mp H
      obtain ⟨t282,A190,H⟩ := H
      try dsimp only at H
      have A19 := Aside0.mk A190
      clear A190
      have H' := Aside0.mk H
      clear H
      obtain ⟨Ao20,co20,eo20⟩ := Kd.R_slice HO_6.out
      subst eo20
      try go_wp2
      have n0_ := aK (Kd.R_drew HO_6.out)
      have n1_ := aK (Kd.R_drew HO_7.out)
      have n2_ := aK (below_drew1 HB.out)
      clear HO_6 HO_7 HB
      have HO_6 := n0_
      have HO_7 := n1_
      have HB := n2_
      clear n0_ n1_ n2_
      have ho14 := rs_At_mul HT0.out
      have hx14 := (HB.out.cell (World.block_lt_of_cell? w _ ho14)).trans ho14
      have p280 : 0 ≤ (x13_2 : Int) := oD
      have q280 : x13_2 < (x6_1.length : Int) := oD
      obtain ⟨ad280,e280,hx280_0⟩ := Kd.at_int (Kd.R_reads' HO_6.out).2.2 x13_2 p280 q280
      cases e280
      replace p280 := eq_true p280
      replace q280 := eq_true q280
      have p281 : 0 ≤ ((ji16) : Int) := oD
      have q281 : (ji16) < (l1.length : Int) := oD
      obtain ⟨ad281,e281,hx281_0⟩ := Kd.at_int HR1.out (ji16) p281 q281
      have hw281_0 := hx281_0
      obtain rfl : ad279 = ad281 := (by injection e281)
      replace hx281_0 := (HB.out.cell (World.block_lt_of_cell? w _ hx281_0)).trans hx281_0
      replace p281 := eq_true p281
      replace q281 := eq_true q281
      refine start_ (n := 18) (S := fun w' => w'.cell? ⟨b_,5,none⟩ = some (.func (.func 46) #[] #[.pointer (some ⟨p_,0,none⟩)]) ∧ w'.cell? (ad280.add (x13_2).toNat) = some (.int .u8 (rd x6_1 x13_2)) ∧ w'.cell? (ad279.add ((ji16)).toNat) = some (.int .u8 (rd l1 (ji16)))) (ds := []) (bts 18 0) (by kernel_rfl) rfl rfl ⟨((HB.out.cell (World.block_lt_of_cell? w _ ho14)).trans ho14),hx280_0,((HB.out.cell (World.block_lt_of_cell? w _ hw281_0)).trans hw281_0)⟩ (fun hHeld => ?_); refine with_tabW reedsol_code_locator.tab10 reedsol_code_locator.bits10 (fun HT_ HW_ => ?_)
      generalize wr.drew = w21 at HO_6 HO_7 HB hx280_0 hx281_0 hHeld ⊢
      refine pu_ 0 40 18 1 HT_.out ?_; refine pu_ 1 41 18 3 HT_.out ?_; refine pu_ 2 42 18 7 HT_.out ?_; refine pu_ 3 43 18 15 HT_.out ?_; refine pu_ 5 45 18 47 HT_.out ?_; refine pu_ 6 46 18 111 HT_.out ?_; refine pu_ 7 47 18 239 HT_.out ?_; refine pu_ 9 49 18 751 HT_.out ?_; refine pu_ 10 50 18 1775 HT_.out ?_; refine pu_ 11 51 18 3823 HT_.out ?_; refine pu_ 12 52 18 7919 HT_.out ?_; refine pu_ 13 53 18 16111 HT_.out ?_; refine ta_ 4 44 18 16127 rfl rfl HT_.out HW_.out hHeld (by rintro w' ⟨s0,s1,s2⟩; go_simp; with_reducible rfl) ?_; refine ta_ 8 48 18 16383 rfl rfl HT_.out HW_.out hHeld (by rintro w' ⟨s0,s1,s2⟩; go_simp; with_reducible rfl) ?_; refine ta_ 14 54 18 32767 rfl rfl HT_.out HW_.out hHeld (by rintro w' ⟨s0,s1,s2⟩; go_simp; with_reducible rfl) ?_
      refine one_ (i := 15) (N := some 55) (bts 18 65535) rfl rfl (one_of HT_.out (by kernel_rfl)) (by decide) (fun K hK => ?_)
      refine goesF_ Try.func46 (by kernel_rfl) rfl #[.int .u8 (rd x6_1 x13_2),.int .u8 (rd l1 (ji16)),.pointer (some ⟨p_,0,none⟩)] (by rfl) rfl rfl (by rfl) (by (try simp only [List.map_toArray,List.map_cons,List.map_nil]); first | done | (simp only [hji16]; rfl) | rfl | (simp only [List.length_drop,List.length_take]; rfl) | (simp [Act.eval,IntKind.wrap_u8,IntKind.wrap_u32]; done)) ?_
      with_reducible refine (reedsol_open_1.calls k2 b_ p_ c_ d_ g_ a0 (rd x6_1 x13_2) (rd l1 (ji16)) t282 _ ?side1 A19.out).mono ?_
      (case side1 => exact (rs_At_below HT0.out HB.out))
      rintro e w22 ⟨rfl,hb⟩
      have HS1_ := (hb.cell (World.block_lt_of_cell? _ _ (hHeld.2.1))).trans (hHeld.2.1)
      refine ⟨_,rfl,?_⟩
      have n0_ := aK (Kd.R_below (mvR HO_6.out) hb)
      have n1_ := aK (Kd.R_below (mvR HO_7.out) hb)
      have n2_ := aK (below_step (mvh HB.out) hb)
      clear HO_6 HO_7 HB
      have HO_6 := n0_
      have HO_7 := n1_
      have HB := n2_
      clear n0_ n1_ n2_
      (try clear hb)
      refine hK.out _ _ ⟨((HB.out.cell (World.block_lt_of_cell? w _ ho14)).trans ho14),HS1_,((HB.out.cell (World.block_lt_of_cell? w _ hw281_0)).trans hw281_0)⟩ (fun hHeld => ?_)
      clear hK K
      refine norm_ (a' := ?_) ?_ ?_
      rotate_left
      ·show Act.put _ (some 55) _ = _
       simp only [Act.put,List.setIfInBounds_toArray,List.set_cons_zero,List.set_cons_succ,i64_w,i32_w]
       rfl
      refine pu_ 16 56 18 131071 HT_.out ?_; refine pu_ 17 12 18 262143 HT_.out ?_
      refine done_ (done_of HT_.out (by kernel_rfl)) ?_
      try go_wp2
      go_roundg k2
      case measure => have := HK1.out; have := HK2.out; omega
      case rel => exact ⟨(Go.bits .xor .u8 x12_2 t282),(wrap64 (x13_2 + 1)),(by first | rfl | (simp; done) | (simp [*]; done) | (simp [wrap64]; done)),(by first | rfl | (simp; done) | (simp [*]; done) | (simp [wrap64]; done)),H',⟨by have := HK1.out; have := HK2.out; omega⟩,⟨mvR HO_6.out⟩,⟨mvR HO_7.out⟩,⟨mvh HB.out⟩⟩
   case rest =>
    clear HC10
    (try clear c1); (try clear hx1); (try clear p2); (try clear q2); (try clear hx2); (try clear c4); (try clear c5); (try clear p6); (try clear c7); (try clear c7b0); (try clear c8); (try clear c8b0); (try clear c9); (try clear c9b0); (try clear c11); (try clear c11b0); (try clear c11b1); (try clear c12)
    (try clear c12b0); (try clear c13); (try clear hx14); (try clear c15); (try clear c15b0); (try clear c17); (try clear c17b0); (try clear c18); (try clear c18b0); (try clear hx279_0); (try clear hx280_0); (try clear hx281_0); (try clear p2); (try clear p279); (try clear p280); (try clear p281)
    (try clear p6); (try clear q2); (try clear q279); (try clear q280); (try clear q281)
    obtain ⟨kq,x12_9,rfl,HA,HJ9,HO_6,HO_7,HB⟩ := hcut
    cases kq with
    | zero => exact absurd HA.out (by simp [reedsol_code_locator.j2])
    | succ kj9 =>
     have H := HA.out
     clear HA
     simp only [reedsol_code_locator.j2] at H
     by_cases c24 : x12_9 = 0
     ·rw [if_pos c24] at H
      have c24b0 : (x12_9 == 0) = true := beq_iff_eq.mpr c24
      have c24b1 : (x12_9 != 0) = false := bne_eq_false_iff_eq.mpr c24
      clear c24
      have H' := Aside0.mk H
      clear H
      go_wp2
      go_roundg kj9
      case measure => have := HK1.out; have := HJ9.out; omega
      case rel => exact ⟨(x6_1),(x7_1),(x8_1),(wrap64 (x9_1 + 1)),(x10_1),(wrap64 (x22_1 + 1)),(by first | rfl | (simp; done) | (simp [*]; done) | (simp [wrap64]; done)),(by first | rfl | (simp; done) | (simp [*]; done) | (simp [wrap64]; done)),(by first | rfl | (simp; done) | (simp [*]; done) | (simp [wrap64]; done)),(by first | rfl | (simp; done) | (simp [*]; done) | (simp [wrap64]; done)),H',⟨by have := HK1.out; have := HJ9.out; omega⟩,⟨mvR HO_6.out⟩,⟨mvR HO_7.out⟩,⟨mvh HB.out⟩⟩
     ·rw [if_neg c24] at H
      have c24b0 : (x12_9 == 0) = false := beq_eq_false_iff_ne.mpr c24
      have c24b1 : (x12_9 != 0) = true := bne_iff_ne.mpr c24
      obtain ⟨ji25,hji25⟩ : ∃ j_ : Int,(mx (x6_1.length : Int) (wrap64 ((x7_1.length : Int) + x9_1))) = j_ := ⟨_,rfl⟩
      first | rw [hji25] at H | simp only [hji25] at H
      have hji25_ : (if (x6_1.length : Int) < (wrap64 ((x7_1.length : Int) + x9_1)) then (wrap64 ((x7_1.length : Int) + x9_1)) else (x6_1.length : Int)) = ji25 := hji25
      by_cases c26 : 0 ≤ (ji25)
      rotate_left
      ·rw [if_neg c26] at H
       exact absurd H (by simp)
      rw [if_pos c26] at H
      have c26b0 := eq_true c26
      have c26b1 : decide (0 ≤ (ji25)) = true := decide_eq_true c26
      clear c26
      by_cases c27 : (ji25 : Int).toNat ≤ 281474976710656
      rotate_left
      ·rw [if_neg c27] at H
       exact absurd H (by simp)
      rw [if_pos c27] at H
      have c27b0 := eq_true c27
      have c27b1 : decide ((ji25 : Int).toNat ≤ 281474976710656) = true := decide_eq_true c27
      clear c27
      obtain ⟨y283,hy283⟩ : ∃ y_ : List Int,y_ = (List.replicate (ji25 : Int).toNat 0) := ⟨_,rfl⟩
      replace H : (if y283.length + x6_1.length < 140737488355328 then (if 0 < a0.size then ((reedsol_open_2.f kj9 a0 x12_9 x10_1).bind fun t289 => (reedsol_code_locator.l2 kj9 a0 l1 x6_1 x7_1 x8_1 x9_1 x10_1 x22_1 x12_9 (x6_1.take (min x6_1.length y283.length) ++ y283.drop (min x6_1.length y283.length)) t289 (l1.length : Int) x22_1 x7_1 (x7_1.length : Int) 0)) else (none)) else (none)) = some (r1,r2) := by rw [hy283]; exact H
      have Ny283 := Aside0.mk hy283
      clear hy283
      by_cases c28 : y283.length + x6_1.length < 140737488355328
      rotate_left
      ·rw [if_neg c28] at H
       exact absurd H (by simp)
      rw [if_pos c28] at H
      have LMc28 := Aside0.mk c28
      clear c28
      obtain ⟨y286,hy286⟩ : ∃ y_ : List Int,y_ = (x6_1.take (min x6_1.length y283.length) ++ y283.drop (min x6_1.length y283.length)) := ⟨_,rfl⟩
      replace H : (if 0 < a0.size then ((reedsol_open_2.f kj9 a0 x12_9 x10_1).bind fun t289 => (reedsol_code_locator.l2 kj9 a0 l1 x6_1 x7_1 x8_1 x9_1 x10_1 x22_1 x12_9 y286 t289 (l1.length : Int) x22_1 x7_1 (x7_1.length : Int) 0)) else (none)) = some (r1,r2) := by rw [hy286]; exact H
      have Ny286 := Aside0.mk hy286
      clear hy286
      by_cases c29 : 0 < a0.size
      rotate_left
      ·rw [if_neg c29] at H
       exact absurd H (by simp)
      rw [if_pos c29] at H
      obtain ⟨b_,p_,c_,d_,g_,rfl,hT_⟩ := rs_pos HR0.out c29
      have HT0 := Aside0.mk hT_
      clear hT_ c29
      replace H := Option.bind_eq_some_iff.mp H
      obtain ⟨t289,A310,H⟩ := H
      try dsimp only at H
      have A31 := Aside0.mk A310
      clear A310
      have H' := Aside0.mk H
      clear H
      obtain ⟨Ao32,co32,eo32⟩ := Kd.R_slice HO_6.out
      subst eo32
      obtain ⟨Ao33,co33,eo33⟩ := Kd.R_slice HO_7.out
      subst eo33
      go_wp2_with (first | ((with_reducible refine gate_dst (N := 68) rfl ?_); (try (refine gate_guard (by rfl) ?_; dsimp only)); refine Kd.R_make (Kd.int .u8) _ 5 rfl (N := 68) rfl 27 _ _ rfl ji25 rfl rfl Try.underlying27 (.int .u8 0) 1 info5 rfl (by decide) (by omega) 0 (ok := fun _ => True) (okp := fun _ => True) rfl (fun _ hk => hk) trivial oD (Nat.le_trans (Nat.mul_le_mul_right _ (oD : ji25.toNat ≤ 281474976710656)) (by omega)) (Below.refl _ _) (Nat.le_refl _) ?_; intro v284 w34 ho35 hb hg_ hnew_; clear hg_ hnew_; (first | rw [← Ny283.out] at ho35 | (simp only [Int.reduceToNat] at ho35; rw [← Ny283.out] at ho35)); have HO285 := aK (Kd.R_lower (Kd.R_new' (Kd.R_new' ho35 (Kd.R_lt (mvR HO_6.out))) (Kd.R_lt (mvR HO_7.out))) (below_size (mvh HB.out))); replace HO_6 := aK (Kd.R_elder' (mvR HO_6.out) (Kd.R_base ho35) hb); replace HO_7 := aK (Kd.R_elder' (mvR HO_7.out) (Kd.R_base ho35) hb); replace HB := aK (below_step (mvh HB.out) hb); clear hb ho35) | ((with_reducible refine gate_builtin (b := .copy) (xs := #[.tmp 69,.tmp 70]) rfl ?_); (try (refine gate_guard (by rfl) ?_; dsimp only)); refine Kd.R_copyB (enc := .int .u8) (h1 := fun _ => rfl) (0 : Int) (w0 := w) w.heap.size rfl (.tmp 69) (.tmp 70) 27 27 5 rfl Try.underlying27 (by kernel_rfl) v284 y283 x6_1 _ _ _ (fun k_ => some k_ ≠ (.slice Ao32 x6_1.length co32 : Value).ownBlock ∧ some k_ ≠ (.slice Ao33 x7_1.length co33 : Value).ownBlock) rfl rfl ?aO ?aR ?aF ?aB ?aS ?aL ?_; (case aR => repeat (first | exact (Kd.R_reads' HO_6.out).2.2 | (with_reducible refine Kd.C_alloc ?_ _) | (with_reducible refine Kd.C_drewN ?_ _) | (with_reducible refine Kd.C_drew ?_))); (case aB => exact (mvh HB.out)); (case aF => exact (fun k_ hk => ⟨Kd.fresh' (Kd.R_lt (mvR HO_6.out)) k_ hk,Kd.fresh' (Kd.R_lt (mvR HO_7.out)) k_ hk⟩)); (case aO => exact (by (with_reducible repeat (first | apply Kd.R_alloc | apply Kd.R_drewN | apply Kd.R_drew)); exact Kd.R_mono HO285.out (fun _ hk => ⟨hk.1.2,hk.2⟩))); (case aS => exact (below_size (mvh HB.out))); (case aL => have := LMc28.out; (try simp only [hji25] at this); (try clear hji25w); (try clear hji25); omega); intro v287 w36 hv9_ ho hb hg hat; subst hv9_; rw [← Ny286.out] at ho; replace HO_6 := aK (Kd.R_after (ok := (fun k_ => some k_ ≠ (.slice Ao33 x7_1.length co33 : Value).ownBlock)) (mvR HO_6.out) hg hat); replace HO_7 := aK (Kd.R_after (ok := (fun k_ => some k_ ≠ (.slice Ao32 x6_1.length co32 : Value).ownBlock)) (mvR HO_7.out) hg hat); replace HB := aK (hb); have HO288 := aK (ho); clear HO285; clear ho hb hg hat; have ho30 := rs_At_div HT0.out; have hx30 := (HB.out.cell (World.block_lt_of_cell? w _ ho30)).trans ho30) | (go_at_call 48; (with_reducible refine (reedsol_open_2.calls kj9 b_ p_ c_ d_ g_ a0 x12_9 x10_1 t289 _ ?side1 A31.out).mono ?_); (case side1 => exact (rs_At_below HT0.out HB.out)); rintro e w37 ⟨rfl,hb⟩; replace HO_6 := aK (Kd.R_below (mvR HO_6.out) hb); replace HO_7 := aK (Kd.R_below (mvR HO_7.out) hb); replace HO288 := aK (Kd.R_below (mvR HO288.out) hb); replace HB := aK (below_step (mvh HB.out) hb); (try clear hb)))
      go_loopg [81] kj9 (fun kq v81 w' => ∃ (x14_3 : List Int) (x81_3 : Int),v81 = .int .i64 x81_3 ∧ Aside0 (reedsol_code_locator.l2 kq a0 l1 x6_1 x7_1 x8_1 x9_1 x10_1 x22_1 x12_9 x14_3 t289 (l1.length : Int) x22_1 x7_1 (x7_1.length : Int) x81_3 = some (r1,r2)) ∧ Aside0 (kq ≤ kj9) ∧ Aside0 (Kd.R (Kd.int .u8) 5 w' w.heap.size (fun k_ => some k_ ≠ ((.slice Ao33 x7_1.length co33) : Value).ownBlock ∧ some k_ ≠ (v287 : Value).ownBlock ∧ some k_ ≠ ((.slice Ao33 x7_1.length co33) : Value).ownBlock) (.slice Ao32 x6_1.length co32) x6_1) ∧ Aside0 (Kd.R (Kd.int .u8) 5 w' w.heap.size (fun k_ => some k_ ≠ ((.slice Ao32 x6_1.length co32) : Value).ownBlock ∧ some k_ ≠ (v287 : Value).ownBlock) (.slice Ao33 x7_1.length co33) x7_1) ∧ Aside0 (Kd.R (Kd.int .u8) 5 w' w.heap.size (fun k_ => some k_ ≠ ((.slice Ao32 x6_1.length co32) : Value).ownBlock ∧ some k_ ≠ ((.slice Ao33 x7_1.length co33) : Value).ownBlock ∧ some k_ ≠ ((.slice Ao33 x7_1.length co33) : Value).ownBlock) v287 x14_3) ∧ Aside0 (Kd.R (Kd.int .u8) 5 w' w.heap.size (fun k_ => some k_ ≠ ((.slice Ao32 x6_1.length co32) : Value).ownBlock ∧ some k_ ≠ (v287 : Value).ownBlock) (.slice Ao33 x7_1.length co33) x7_1) ∧ Aside0 (Below w.heap.size w w'))
      case atStart => exact ⟨(y286),(0),(by first | rfl | (simp; done) | (simp [*]; done) | (simp [wrap64]; done)),H',⟨Nat.le_refl _⟩,⟨by (with_reducible repeat (first | apply Kd.R_alloc | apply Kd.R_drewN | apply Kd.R_drew)); exact Kd.R_mono HO_6.out (fun _ hk => ⟨hk.1,⟨hk.2,hk.1⟩⟩)⟩,⟨mvR HO_7.out⟩,⟨by (with_reducible repeat (first | apply Kd.R_alloc | apply Kd.R_drewN | apply Kd.R_drew)); exact Kd.R_mono HO288.out (fun _ hk => ⟨hk.1,⟨hk.2,hk.2⟩⟩)⟩,⟨mvR HO_7.out⟩,⟨mvh HB.out⟩⟩
      case round =>
       (try clear hHeld)
       clear H'
       (try clear c1); (try clear hx1); (try clear c2); (try clear p2); (try clear q2); (try clear hx2); (try clear hx3); (try clear c4); (try clear c5); (try clear p6); (try clear c7); (try clear c7b0); (try clear c8); (try clear c8b0); (try clear c9); (try clear c9b0); (try clear c11); (try clear c11b0)
       (try clear c11b1); (try clear c12); (try clear c12b0); (try clear c13); (try clear hx14); (try clear c15); (try clear c15b0); (try clear c17); (try clear c17b0); (try clear c18); (try clear c18b0); (try clear c24); (try clear c24b0); (try clear c24b1); (try clear c26); (try clear c26b0)
       (try clear c26b1); (try clear c27); (try clear c27b0); (try clear c27b1); (try clear p27); (try clear q27); (try clear hx27); (try clear c28); (try clear p28); (try clear q28); (try clear hx28); (try clear c29); (try clear hx30); (try clear hx279_0); (try clear hx280_0); (try clear hx281_0)
       (try clear p2); (try clear p279); (try clear p280); (try clear p281); (try clear p6); (try clear q2); (try clear q279); (try clear q280); (try clear q281)
       obtain ⟨x14_3,x81_3,rfl,HA,HK3,HO_6,HO_7,HO_14,HO_79,HB⟩ := hrel
       cases gk with
       | zero => exact absurd HA.out (by simp [reedsol_code_locator.l2])
       | succ k3 =>
        have H := HA.out
        clear HA
        simp only [reedsol_code_locator.l2] at H
        by_cases c38 : x81_3 < (x7_1.length : Int)
        rotate_left
        ·rw [if_neg c38] at H
         have c38b0 : decide (x81_3 < (x7_1.length : Int)) = false := decide_eq_false c38
         clear c38
         by_cases c52 : (wrap64 (2 * x8_1)) ≤ x22_1
         ·rw [if_pos c52] at H
          have c52b0 : decide ((wrap64 (2 * x8_1)) ≤ x22_1) = true := decide_eq_true c52
          clear c52
          have H' := Aside0.mk H
          clear H
          go_wp2
          go_roundg k3
          case measure => have := HK1.out; have := HJ9.out; have := HK3.out; omega
          case rel => exact ⟨(x14_3),(x6_1),(wrap64 ((wrap64 (x22_1 + 1)) - x8_1)),(1),(x12_9),(wrap64 (x22_1 + 1)),(by first | rfl | (simp; done) | (simp [*]; done) | (simp [wrap64]; done)),(by first | rfl | (simp; done) | (simp [*]; done) | (simp [wrap64]; done)),(by first | rfl | (simp; done) | (simp [*]; done) | (simp [wrap64]; done)),(by first | rfl | (simp; done) | (simp [*]; done) | (simp [wrap64]; done)),H',⟨by have := HK1.out; have := HJ9.out; have := HK3.out; omega⟩,⟨by (with_reducible repeat (first | apply Kd.R_alloc | apply Kd.R_drewN | apply Kd.R_drew)); exact Kd.R_mono HO_14.out (fun _ hk => hk.1)⟩,⟨by (with_reducible repeat (first | apply Kd.R_alloc | apply Kd.R_drewN | apply Kd.R_drew)); exact Kd.R_mono HO_6.out (fun _ hk => hk.2.1)⟩,⟨mvh HB.out⟩⟩
         ·rw [if_neg c52] at H
          have c52b0 : decide ((wrap64 (2 * x8_1)) ≤ x22_1) = false := decide_eq_false c52
          clear c52
          have H' := Aside0.mk H
          clear H
          go_wp2
          go_roundg k3
          case measure => have := HK1.out; have := HJ9.out; have := HK3.out; omega
          case rel => exact ⟨(x14_3),(x7_1),(x8_1),(wrap64 (x9_1 + 1)),(x10_1),(wrap64 (x22_1 + 1)),(by first | rfl | (simp; done) | (simp [*]; done) | (simp [wrap64]; done)),(by first | rfl | (simp; done) | (simp [*]; done) | (simp [wrap64]; done)),(by first | rfl | (simp; done) | (simp [*]; done) | (simp [wrap64]; done)),(by first | rfl | (simp; done) | (simp [*]; done) | (simp [wrap64]; done)),H',⟨by have := HK1.out; have := HJ9.out; have := HK3.out; omega⟩,⟨by (with_reducible repeat (first | apply Kd.R_alloc | apply Kd.R_drewN | apply Kd.R_drew)); exact Kd.R_mono HO_14.out (fun _ hk => hk.2.1)⟩,⟨by (with_reducible repeat (first | apply Kd.R_alloc | apply Kd.R_drewN | apply Kd.R_drew)); exact Kd.R_mono HO_7.out (fun _ hk => hk.2)⟩,⟨mvh HB.out⟩⟩
        rw [if_pos c38] at H
        have c38b0 : decide (x81_3 < (x7_1.length : Int)) = true := decide_eq_true c38
        clear c38
        by_cases c39 : 0 ≤ x81_3
        rotate_left
        ·rw [if_neg c39] at H
         exact absurd H (by simp)
        rw [if_pos c39] at H
        have c39b0 : decide (0 ≤ x81_3) = true := decide_eq_true c39
        clear c39
        by_cases c40 : x81_3 < (x7_1.length : Int)
        rotate_left
        ·rw [if_neg c40] at H
         exact absurd H (by simp)
        rw [if_pos c40] at H
        have c40b0 : decide (x81_3 < (x7_1.length : Int)) = true := decide_eq_true c40
        clear c40
        obtain ⟨ji41,hji41⟩ : ∃ j_ : Int,(wrap64 (x81_3 + x9_1)) = j_ := ⟨_,rfl⟩
        first | rw [hji41] at H | simp only [hji41] at H
        have hji41w : (IntKind.i64.wrap (x81_3 + x9_1)) = ji41 := (i64_w _).trans hji41
        by_cases c42 : 0 ≤ (ji41)
        rotate_left
        ·rw [if_neg c42] at H
         exact absurd H (by simp)
        rw [if_pos c42] at H
        have c42b0 : decide (0 ≤ (ji41)) = true := decide_eq_true c42
        clear c42
        by_cases c43 : (ji41) < (x14_3.length : Int)
        rotate_left
        ·rw [if_neg c43] at H
         exact absurd H (by simp)
        rw [if_pos c43] at H
        have c43b0 : decide ((ji41) < (x14_3.length : Int)) = true := decide_eq_true c43
        clear c43
        by_cases c44 : 0 < a0.size
        rotate_left
        ·rw [if_neg c44] at H
         exact absurd H (by simp)
        rw [if_pos c44] at H
        clear c44
        replace H := Option.bind_eq_some_iff.mp H
        obtain ⟨t292,A460,H⟩ := H
        try dsimp only at H
        have A46 := Aside0.mk A460
        clear A460
        obtain ⟨y293,hy293⟩ : ∃ y_ : List Int,y_ = (x14_3.set ((ji41) : Int).toNat (Go.bits .xor .u8 (rd x14_3 (ji41)) t292)) := ⟨_,rfl⟩
        replace H : (reedsol_code_locator.l2 k3 a0 l1 x6_1 x7_1 x8_1 x9_1 x10_1 x22_1 x12_9 y293 t289 (l1.length : Int) x22_1 x7_1 (x7_1.length : Int) (wrap64 (x81_3 + 1))) = some (r1,r2) := by rw [hy293]; exact H
        have Ny293 := Aside0.mk hy293
        clear hy293
        have H' := Aside0.mk H
        clear H
        have p290 : 0 ≤ (x81_3 : Int) := oD
        have q290 : x81_3 < (x7_1.length : Int) := oD
        obtain ⟨ad290,e290,hx290_0⟩ := Kd.at_int (Kd.R_reads' HO_79.out).2.2 x81_3 p290 q290
        cases e290
        replace p290 := eq_true p290
        replace q290 := eq_true q290
        try go_wp2
        have n0_ := aK (Kd.R_drew HO_6.out)
        have n1_ := aK (Kd.R_drew HO_7.out)
        have n2_ := aK (Kd.R_drew HO_14.out)
        have n3_ := aK (Kd.R_drew HO_79.out)
        have n4_ := aK (below_drew1 HB.out)
        clear HO_6 HO_7 HO_14 HO_79 HB
        have HO_6 := n0_
        have HO_7 := n1_
        have HO_14 := n2_
        have HO_79 := n3_
        have HB := n4_
        clear n0_ n1_ n2_ n3_ n4_
        obtain ⟨Ao49,co49,eo49⟩ := Kd.R_slice HO_14.out
        (first | subst eo49 | (injection eo49 with f1_ f2_ f3_; have f4_ := f1_.symm; have f5_ := f3_.symm; clear f1_ f2_ f3_; subst f4_; subst f5_))
        have p291 : 0 ≤ ((ji41) : Int) := oD
        have q291 : (ji41) < (x14_3.length : Int) := oD
        obtain ⟨ad291,e291,hx291_0⟩ := Kd.at_int (Kd.R_reads' HO_14.out).2.2 (ji41) p291 q291
        cases e291
        replace p291 := eq_true p291
        replace q291 := eq_true q291
        have ho45 := rs_At_mul HT0.out
        have hx45 := (HB.out.cell (World.block_lt_of_cell? w _ ho45)).trans ho45
        refine start_ (n := 16) (S := fun w' => w'.cell? (ad291.add ((ji41)).toNat) = some (.int .u8 (rd x14_3 (ji41))) ∧ w'.cell? ⟨b_,5,none⟩ = some (.func (.func 46) #[] #[.pointer (some ⟨p_,0,none⟩)])) (ds := [15]) (bts 16 0) (by kernel_rfl) rfl rfl ⟨hx291_0,((HB.out.cell (World.block_lt_of_cell? w _ ho45)).trans ho45)⟩ (fun hHeld => ?_); refine with_tabW reedsol_code_locator.tab19 reedsol_code_locator.bits19 (fun HT_ HW_ => ?_)
        generalize wr.drew = w48 at HO_6 HO_7 HO_14 HO_79 HB hx291_0 hHeld ⊢
        refine pu_ 0 86 16 1 HT_.out ?_; refine pu_ 1 87 16 3 HT_.out ?_; refine pu_ 2 88 16 7 HT_.out ?_; refine pu_ 3 89 16 15 HT_.out ?_; refine pu_ 4 90 16 31 HT_.out ?_; refine pu_ 6 92 16 95 HT_.out ?_; refine pu_ 7 93 16 223 HT_.out ?_; refine pu_ 8 94 16 479 HT_.out ?_; refine pu_ 10 96 16 1503 HT_.out ?_; refine pu_ 11 97 16 3551 HT_.out ?_; refine ta_ 5 91 16 3583 rfl rfl HT_.out HW_.out hHeld (by rintro w' ⟨s0,s1⟩; go_simp; with_reducible rfl) ?_; refine ta_ 9 95 16 4095 rfl rfl HT_.out HW_.out hHeld (by rintro w' ⟨s0,s1⟩; go_simp; with_reducible rfl) ?_
        refine one_ (i := 12) (N := some 98) (bts 16 8191) rfl rfl (one_of HT_.out (by kernel_rfl)) (by decide) (fun K hK => ?_)
        refine goesF_ Try.func46 (by kernel_rfl) rfl #[.int .u8 t289,.int .u8 (rd x7_1 x81_3),.pointer (some ⟨p_,0,none⟩)] (by rfl) rfl rfl (by rfl) (by (try simp only [List.map_toArray,List.map_cons,List.map_nil]); first | done | rfl | (simp only [List.length_drop,List.length_take]; rfl) | (simp [Act.eval,IntKind.wrap_u8,IntKind.wrap_u32]; done)) ?_
        with_reducible refine (reedsol_open_1.calls k3 b_ p_ c_ d_ g_ a0 t289 (rd x7_1 x81_3) t292 _ ?side1 A46.out).mono ?_
        (case side1 => exact (rs_At_below HT0.out HB.out))
        rintro e w50 ⟨rfl,hb⟩
        have HS0_ := (hb.cell (World.block_lt_of_cell? _ _ (hHeld.1))).trans (hHeld.1)
        refine ⟨_,rfl,?_⟩
        have n0_ := aK (Kd.R_below (mvR HO_6.out) hb)
        have n1_ := aK (Kd.R_below (mvR HO_7.out) hb)
        have n2_ := aK (Kd.R_below (mvR HO_14.out) hb)
        have n3_ := aK (Kd.R_below (mvR HO_79.out) hb)
        have n4_ := aK (below_step (mvh HB.out) hb)
        clear HO_6 HO_7 HO_14 HO_79 HB
        have HO_6 := n0_
        have HO_7 := n1_
        have HO_14 := n2_
        have HO_79 := n3_
        have HB := n4_
        clear n0_ n1_ n2_ n3_ n4_
        (try clear hb)
        have p47 : 0 ≤ ((ji41) : Int) := oD
        have q47 : ((ji41) : Int) < ((x14_3.length : Int) : Int) := oD
        obtain ⟨go47,co47,eo47,gb47,gl47,cl47,HG47⟩ := Kd.R_form HO_14.out (by omega)
        (first | cases eo47 | (injection eo47 with ea_ en_ ec_; (first | subst ea_ | (injection ea_ with ea_; subst ea_)); subst ec_; clear en_))
        have GB47 := Aside0.mk gb47
        have GG47 := Aside0.mk HG47
        clear gb47 gl47 HG47
        (first | simp only [add_plain] at hx291_0 | skip)
        obtain ⟨hx47_0,hf47_0⟩ := Kd.R_celln 0 HO_14.out ((ji41) : Int) p47 q47
        replace p47 := eq_true p47
        replace q47 := eq_true q47
        have HP51 := Kd.R_putn HO_14.out ((ji41) : Int) (Go.bits .xor .u8 (rd x14_3 (ji41)) t292)
        rw [← Ny293.out] at HP51
        have HQ51 := Aside0.mk HP51
        clear HP51
        refine hK.out _ _ ⟨HS0_,((HB.out.cell (World.block_lt_of_cell? w _ ho45)).trans ho45)⟩ (fun hHeld => ?_)
        clear hK K
        refine norm_ (a' := ?_) ?_ ?_
        rotate_left
        ·show Act.put _ (some 98) _ = _
         simp only [Act.put,List.setIfInBounds_toArray,List.set_cons_zero,List.set_cons_succ,i64_w,i32_w]
         rfl
        refine pu_ 13 99 16 16383 HT_.out ?_; refine pu_ 14 100 16 32767 HT_.out ?_
        refine last_ (i := 15) (N := none) (bts 16 65535) rfl rfl (one_of HT_.out (by kernel_rfl)) (by decide) (fun K hK => ?_)
        refine skip_ (w1 := ?_) (by rfl) rfl ?_ ?_
        rotate_left
        ·go_simp
         rfl
        refine hK.out _ _ ?_
        clear hK K
        refine done_ (done_of HT_.out (by kernel_rfl)) ?_
        try go_wp2
        go_roundg k3
        case measure => have := HK1.out; have := HJ9.out; have := HK3.out; omega
        case rel => exact ⟨(y293),(wrap64 (x81_3 + 1)),(by first | rfl | (simp; done) | (simp [*]; done) | (simp [wrap64]; done)),H',⟨by have := HK1.out; have := HJ9.out; have := HK3.out; omega⟩,⟨by (with_reducible repeat (first | apply Kd.R_alloc | apply Kd.R_drewN | apply Kd.R_drew)); exact Kd.R_mono (Kd.R_far (p := ⟨go47,((ji41) : Int).toNat,none⟩) (Kd.R_mono HO_6.out (fun k_ hk => (⟨hk,fun e_ => hk.2.1 (by rw [e_]; rfl)⟩ : _ ∧ k_ ≠ go47))) (fun _ hk => hk.2) (.int .u8 (Go.bits .xor .u8 (rd x14_3 (ji41)) t292))) (fun _ hk => ⟨hk.1.1,⟨hk.1.2.1,hk.1.2.2⟩⟩)⟩,⟨by (with_reducible repeat (first | apply Kd.R_alloc | apply Kd.R_drewN | apply Kd.R_drew)); exact Kd.R_mono (Kd.R_far (p := ⟨go47,((ji41) : Int).toNat,none⟩) (Kd.R_mono HO_7.out (fun k_ hk => (⟨hk,fun e_ => hk.2 (by rw [e_]; rfl)⟩ : _ ∧ k_ ≠ go47))) (fun _ hk => hk.2) (.int .u8 (Go.bits .xor .u8 (rd x14_3 (ji41)) t292))) (fun _ hk => ⟨hk.1.1,hk.1.2⟩)⟩,⟨mvR HQ51.out⟩,⟨by (with_reducible repeat (first | apply Kd.R_alloc | apply Kd.R_drewN | apply Kd.R_drew)); exact Kd.R_mono (Kd.R_far (p := ⟨go47,((ji41) : Int).toNat,none⟩) (Kd.R_mono HO_79.out (fun k_ hk => (⟨hk,fun e_ => hk.2 (by rw [e_]; rfl)⟩ : _ ∧ k_ ≠ go47))) (fun _ hk => hk.2) (.int .u8 (Go.bits .xor .u8 (rd x14_3 (ji41)) t292))) (fun _ hk => ⟨hk.1.1,hk.1.2⟩)⟩,⟨by repeat (first | (with_reducible first | exact HB.out | apply below_alloc | apply pw_below_drewN | apply below_drew1 | refine below_set ?_ GB47.out) | exact HB.out)⟩⟩
end Go.Proofs.Ytpgecdidddoglaa.P

