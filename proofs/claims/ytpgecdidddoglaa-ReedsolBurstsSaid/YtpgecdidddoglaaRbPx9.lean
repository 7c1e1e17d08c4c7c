-- written by mk.sh, a program of this session, over the kit's print
import Derived.Test.YtpgecdidddoglaaRbQAux
import Derived.Test.YtpgecdidddoglaaRbPx0
import Derived.Test.YtpgecdidddoglaaRbPx6
import Derived.Test.YtpgecdidddoglaaRbPx7
import Derived.Test.YtpgecdidddoglaaRbPx8
namespace Go.Proofs.Ytpgecdidddoglaa.P
open Go.RowKit Go.Proofs.YtpgecdidddoglaaW.PrintWords Go.Proofs.YtpgecdidddoglaaW.PrintLast Go.Proofs.YtpgecdidddoglaaW.PrintMore
attribute [local go_sem] max2_int min2_int max_two min_two max_three min_three max_four min_four   -- for this text's walks alone
set_option linter.unusedVariables false
set_option linter.unusedSimpArgs false

mutual
def reedsol_code_encode.l0 : Nat → RCode → List Int → List Int → List Int → Int → Int → Option (List Int)
 | 0,_,_,_,_,_,_ => none
 | k + 1,x0,x1,x5,x6,x26,x27 => if x27 < x26 then (if 0 ≤ x27 then (if x27 < (x6.length : Int) then (reedsol_code_encode.l1 k x0 x1 x5 x6 x27 (rd x6 x27) x26 x27 x5 (x5.length : Int) 0) else (none)) else (none)) else (if x6.length + x1.length < 140737488355328 then (some (x1.take (min x1.length x6.length) ++ x6.drop (min x1.length x6.length))) else (none))
def reedsol_code_encode.l1 : Nat → RCode → List Int → List Int → List Int → Int → Int → Int → Int → List Int → Int → Int → Option (List Int)
 | 0,_,_,_,_,_,_,_,_,_,_,_ => none
 | k + 1,x0,x1,x5,x6,x7,x8,x26,x27,x34,x35,x36 => if x36 < x35 then (if 0 ≤ x36 then (if x36 < (x34.length : Int) then (if 0 ≤ (wrap64 (x7 + x36)) then (if (wrap64 (x7 + x36)) < (x6.length : Int) then (if 0 < x0.size then ((reedsol_open_1.f k x0 x8 (rd x34 x36)).bind fun t240 => (reedsol_code_encode.l1 k x0 x1 x5 (x6.set ((wrap64 (x7 + x36)) : Int).toNat (Go.bits .xor .u8 (rd x6 (wrap64 (x7 + x36))) t240)) x7 x8 x26 x27 x34 x35 (wrap64 (x36 + 1)))) else (none)) else (none)) else (none)) else (none)) else (none)) else (reedsol_code_encode.l0 k x0 x1 x5 x6 x26 (wrap64 (x27 + 1)))
end
def reedsol_code_encode.f (k : Nat) (a0 : RCode) (l1 : List Int) : Option (List Int) := (reedsol_code_generator.f k a0).bind fun t225 => (if 0 < a0.size then (if 0 ≤ (wrap64 ((l1.length : Int) + a0.Par)) then (if (wrap64 ((l1.length : Int) + a0.Par) : Int).toNat ≤ 281474976710656 then ((some (List.replicate (wrap64 ((l1.length : Int) + a0.Par) : Int).toNat 0 : List Int)).bind fun y228 => (if y228.length + l1.length < 140737488355328 then (reedsol_code_encode.l0 k a0 l1 t225 (l1.take (min l1.length y228.length) ++ y228.drop (min l1.length y228.length)) (l1.length : Int) 0) else (none))) else (none)) else (none)) else (none))
theorem reedsol_code_encode.mono_l : ∀ k,(∀ y0 y1 y2 y3 y4 y5,LeO (reedsol_code_encode.l0 k y0 y1 y2 y3 y4 y5) (reedsol_code_encode.l0 (k + 1) y0 y1 y2 y3 y4 y5)) ∧ (∀ y0 y1 y2 y3 y4 y5 y6 y7 y8 y9 y10,LeO (reedsol_code_encode.l1 k y0 y1 y2 y3 y4 y5 y6 y7 y8 y9 y10) (reedsol_code_encode.l1 (k + 1) y0 y1 y2 y3 y4 y5 y6 y7 y8 y9 y10))
 | 0 => ⟨fun _ _ _ _ _ _ r h => by simp [reedsol_code_encode.l0] at h,fun _ _ _ _ _ _ _ _ _ _ _ r h => by simp [reedsol_code_encode.l1] at h⟩
 | k + 1 => by
  obtain ⟨ih0,ih1⟩ := reedsol_code_encode.mono_l k
  refine ⟨?_,?_⟩
  ·intro y0 y1 y2 y3 y4 y5
   unfold reedsol_code_encode.l0
   repeat' with_reducible first
   | exact ih0 _ _ _ _ _ _
   | exact ih1 _ _ _ _ _ _ _ _ _ _ _
   | exact reedsol_code_generator.mono _ _
   | exact reedsol_open_1.mono _ _ _ _
   | exact LeO.refl _
   | exact LeO.none _
   | refine LeO.ite ?_ ?_
   | refine LeO.bind ?_ (fun _ => ?_)
  ·intro y0 y1 y2 y3 y4 y5 y6 y7 y8 y9 y10
   unfold reedsol_code_encode.l1
   repeat' with_reducible first
   | exact ih0 _ _ _ _ _ _
   | exact ih1 _ _ _ _ _ _ _ _ _ _ _
   | exact reedsol_code_generator.mono _ _
   | exact reedsol_open_1.mono _ _ _ _
   | exact LeO.refl _
   | exact LeO.none _
   | refine LeO.ite ?_ ?_
   | refine LeO.bind ?_ (fun _ => ?_)
theorem reedsol_code_encode.mono : ∀ a0 a1 k,LeO (reedsol_code_encode.f k a0 a1) (reedsol_code_encode.f (k + 1) a0 a1) := by
 intro a0 a1 k
 obtain ⟨ih0,ih1⟩ := reedsol_code_encode.mono_l k
 unfold reedsol_code_encode.f
 repeat' with_reducible first
   | exact ih0 _ _ _ _ _ _
   | exact ih1 _ _ _ _ _ _ _ _ _ _ _
   | exact reedsol_code_generator.mono _ _
   | exact reedsol_open_1.mono _ _ _ _
   | exact LeO.refl _
   | exact LeO.none _
   | refine LeO.ite ?_ ?_
   | refine LeO.bind ?_ (fun _ => ?_)
def reedsol_code_encode.T11 : Bool × List (List Nat × List Nat) := (true,[([],[]),([],[]),([],[]),([1,2],[1,2]),([0,3],[0,3]),([4],[4]),([],[]),([6],[6]),([7],[7]),([8],[8]),([],[]),([],[]),([9,10,11],[9,10,11]),([5,12],[5,12]),([0,3,0,1,2,3,4,5,6,7,8,9,10,11,12,13],[0,3]),([14,13,12,0,1,2,3,4,5,6,7,8,9,10,11,12,13],[13,14])])
def reedsol_code_encode.B11 : List Nat := [0,0,0,6,15,31,0,64,192,448,0,0,4032,8191,16383,32767]
theorem reedsol_code_encode.tab11 : rtab .any (opsOf Try.f28 11) = reedsol_code_encode.T11 := by kernel_rfl
theorem reedsol_code_encode.bits11 : waitsOk reedsol_code_encode.T11.2 reedsol_code_encode.B11 = true := by kernel_rfl
set_option maxHeartbeats 8000000 in
set_option maxRecDepth 100000 in
theorem reedsol_code_encode.calls (k : Nat) (A0 : Option Addr) (a0 : RCode) (A1 : Option Addr) (c1 : Nat) (l1 : List Int) (r : List Int) (w : World) (hr0 : rs_OK w A0 a0) (hr1 : Kd.C (Kd.int .u8) w A1 l1.length l1) (hc1 : l1.length ≤ c1) (h : reedsol_code_encode.f k a0 l1 = some r) :
  Calls Try.prog 28 #[.pointer A0,.slice A1 l1.length c1] w fun e w' => ∃ v0_ : Value,e = .returned (v0_) ∧ Kd.R (Kd.int .u8) 5 w' w.heap.size (fun _ => True) v0_ r ∧ Below w.heap.size w w' := by
 have HR0 := Aside0.mk hr0
 clear hr0
 have HR1 := Aside0.mk hr1
 have HC1 := Aside0.mk hc1
 clear hr1 hc1
 have HB := aK (Below.refl w.heap.size w)
 have H : ((reedsol_code_generator.f k a0).bind fun t225 => (if 0 < a0.size then (if 0 ≤ (wrap64 ((l1.length : Int) + a0.Par)) then (if (wrap64 ((l1.length : Int) + a0.Par) : Int).toNat ≤ 281474976710656 then ((some (List.replicate (wrap64 ((l1.length : Int) + a0.Par) : Int).toNat 0 : List Int)).bind fun y228 => (if y228.length + l1.length < 140737488355328 then (reedsol_code_encode.l0 k a0 l1 t225 (l1.take (min l1.length y228.length) ++ y228.drop (min l1.length y228.length)) (l1.length : Int) 0) else (none))) else (none)) else (none)) else (none))) = some r := h
 clear h
 replace H := Option.bind_eq_some_iff.mp H
 obtain ⟨t225,A30,H⟩ := H
 try dsimp only at H
 have A3 := Aside0.mk A30
 clear A30
 by_cases c4 : 0 < a0.size
 rotate_left
 ·rw [if_neg c4] at H
  exact absurd H (by simp)


 rw [if_pos c4] at H
 obtain ⟨b_,p_,c_,d_,g_,rfl,hT_⟩ := rs_pos HR0.out c4
 have HT0 := Aside0.mk hT_
 clear hT_ c4
 obtain ⟨ji6,hji6⟩ : ∃ j_ : Int,(wrap64 ((l1.length : Int) + a0.Par)) = j_ := ⟨_,rfl⟩
 first | rw [hji6] at H | simp only [hji6] at H
 (try rw [hji6] at A3)
 have hji6w : (IntKind.i64.wrap ((l1.length : Int) + a0.Par)) = ji6 := (i64_w _).trans hji6
 by_cases c7 : 0 ≤ (ji6)
 rotate_left
 ·rw [if_neg c7] at H
  exact absurd H (by simp)
 rw [if_pos c7] at H
 have c7b0 := eq_true c7
 have c7b1 : decide (0 ≤ (ji6)) = true := decide_eq_true c7
 clear c7
 by_cases c8 : (ji6 : Int).toNat ≤ 281474976710656
 rotate_left
 ·rw [if_neg c8] at H
  exact absurd H (by simp)
 rw [if_pos c8] at H
 have c8b0 := eq_true c8
 have c8b1 : decide ((ji6 : Int).toNat ≤ 281474976710656) = true := decide_eq_true c8
 clear c8
 obtain ⟨y228,hy228⟩ : ∃ y_ : List Int,y_ = (List.replicate (ji6 : Int).toNat 0) := ⟨_,rfl⟩
 replace H : (if y228.length + l1.length < 140737488355328 then (reedsol_code_encode.l0 k a0 l1 t225 (l1.take (min l1.length y228.length) ++ y228.drop (min l1.length y228.length)) (l1.length : Int) 0) else (none)) = some r := by rw [hy228]; exact H
 have Ny228 := Aside0.mk hy228
 clear hy228
 by_cases c9 : y228.length + l1.length < 140737488355328
 rotate_left
 ·rw [if_neg c9] at H
  exact absurd H (by simp)
 rw [if_pos c9] at H
 have LMc9 := Aside0.mk c9
 clear c9
 obtain ⟨y231,hy231⟩ : ∃ y_ : List Int,y_ = (l1.take (min l1.length y228.length) ++ y228.drop (min l1.length y228.length)) := ⟨_,rfl⟩
 replace H : (reedsol_code_encode.l0 k a0 l1 t225 y231 (l1.length : Int) 0) = some r := by rw [hy231]; exact H
 have Ny231 := Aside0.mk hy231
 clear hy231
 have H' := Aside0.mk H
 clear H
 go_enter Try.func28,Try.ntmps28
 go_wp2_with (first | (go_at_call 52; (with_reducible refine (reedsol_code_generator.calls k _ a0 t225 _ ?side1 A3.out).mono ?_); (case side1 => exact HR0.out); rintro e w10 ⟨v226,rfl,ho0,hb⟩; have HO227 := aK (Kd.R_lower ho0 (below_size (mvh HB.out))); replace HB := aK (below_step (mvh HB.out) hb); (try clear hb); (try clear ho0); have ho5 := rs_At_Par HT0.out; have hx5 := (HB.out.cell (World.block_lt_of_cell? w _ ho5)).trans ho5) | ((with_reducible refine gate_dst (N := 21) rfl ?_); refine Kd.R_make (Kd.int .u8) _ 5 rfl (N := 21) rfl 27 _ _ rfl ji6 rfl rfl Try.underlying27 (.int .u8 0) 1 info5 rfl (by decide) (by omega) 0 (ok := fun _ => True) (okp := fun _ => True) rfl (fun _ hk => hk) trivial oD (Nat.le_trans (Nat.mul_le_mul_right _ (oD : ji6.toNat ≤ 281474976710656)) (by omega)) (Below.refl _ _) (Nat.le_refl _) ?_; intro v229 w11 ho12 hb hg_ hnew_; clear hg_ hnew_; (first | rw [← Ny228.out] at ho12 | (simp only [Int.reduceToNat] at ho12; rw [← Ny228.out] at ho12)); have HO230 := aK (Kd.R_lower (Kd.R_new' ho12 (Kd.R_lt (mvR HO227.out))) (below_size (mvh HB.out))); replace HO227 := aK (Kd.R_elder' (mvR HO227.out) (Kd.R_base ho12) hb); replace HB := aK (below_step (mvh HB.out) hb); clear hb ho12) | ((with_reducible refine gate_builtin (b := .copy) (xs := #[.tmp 22,.tmp 23]) rfl ?_); refine Kd.R_copyB (enc := .int .u8) (h1 := fun _ => rfl) (0 : Int) (w0 := w) w.heap.size rfl (.tmp 22) (.tmp 23) 27 27 5 rfl Try.underlying27 (by kernel_rfl) v229 y228 l1 _ _ _ (fun k_ => some k_ ≠ (v226 : Value).ownBlock) rfl rfl ?aO ?aR ?aF ?aB ?aS ?aL ?_; (case aR => repeat (first | exact (Kd.C_below HR1.out HB.out) | (with_reducible refine Kd.C_alloc ?_ _) | (with_reducible refine Kd.C_drewN ?_ _) | (with_reducible refine Kd.C_drew ?_))); (case aB => exact (mvh HB.out)); (case aF => exact (fun k_ hk => Kd.fresh' (Kd.R_lt (mvR HO227.out)) k_ hk)); (case aO => exact (by (with_reducible repeat (first | apply Kd.R_alloc | apply Kd.R_drewN | apply Kd.R_drew)); exact Kd.R_mono HO230.out (fun _ hk => hk.2))); (case aS => exact (below_size (mvh HB.out))); (case aL => have := LMc9.out; (try simp only [hji6] at this); (try clear hji6w); (try clear hji6); omega); intro v232 w13 hv9_ ho hb hg hat; subst hv9_; rw [← Ny231.out] at ho; replace HO227 := aK (Kd.R_after (ok := (fun _ => True)) (mvR HO227.out) hg hat); replace HB := aK (hb); have HO233 := aK (ho); clear HO230; clear ho hb hg hat))
 go_loopg [27] k (fun kq v27 w' => ∃ (x6_1 : List Int) (x27_1 : Int),v27 = .int .i64 x27_1 ∧ Aside0 (reedsol_code_encode.l0 kq a0 l1 t225 x6_1 (l1.length : Int) x27_1 = some r) ∧ Aside0 (kq ≤ k) ∧ Aside0 (Kd.R (Kd.int .u8) 5 w' w.heap.size (fun k_ => some k_ ≠ (v232 : Value).ownBlock) v226 t225) ∧ Aside0 (Kd.R (Kd.int .u8) 5 w' w.heap.size (fun k_ => some k_ ≠ (v226 : Value).ownBlock) v232 x6_1) ∧ Aside0 (Below w.heap.size w w'))
 case atStart => exact ⟨(y231),(0),(by first | rfl | (simp; done) | (simp [*]; done) | (simp [wrap64]; done)),H',⟨Nat.le_refl _⟩,⟨by (with_reducible repeat (first | apply Kd.R_alloc | apply Kd.R_drewN | apply Kd.R_drew)); exact Kd.R_mono HO227.out (fun _ hk => hk.2)⟩,⟨mvR HO233.out⟩,⟨mvh HB.out⟩⟩
 case round =>
  clear H'
  (try clear c1); (try clear c2); (try clear p2); (try clear c4); (try clear c5); (try clear hx5); (try clear p6); (try clear c7); (try clear c7b0); (try clear c7b1); (try clear c8); (try clear c8b0); (try clear c8b1); (try clear c9)
  obtain ⟨x6_1,x27_1,rfl,HA,HK1,HO_5,HO_6,HB⟩ := hrel
  cases gk with
  | zero => exact absurd HA.out (by simp [reedsol_code_encode.l0])
  | succ k1 =>
   have H := HA.out
   clear HA
   simp only [reedsol_code_encode.l0] at H
   by_cases c14 : x27_1 < (l1.length : Int)
   rotate_left
   ·rw [if_neg c14] at H
    have c14b0 : decide (x27_1 < (l1.length : Int)) = false := decide_eq_false c14
    clear c14
    by_cases c32 : x6_1.length + l1.length < 140737488355328
    rotate_left
    ·rw [if_neg c32] at H
     exact absurd H (by simp)
    rw [if_pos c32] at H
    have LMc32 := Aside0.mk c32
    clear c32
    obtain ⟨y234,hy234⟩ : ∃ y_ : List Int,y_ = (l1.take (min l1.length x6_1.length) ++ x6_1.drop (min l1.length x6_1.length)) := ⟨_,rfl⟩
    replace H : (some y234) = some r := by rw [hy234]; exact H
    have Ny234 := Aside0.mk hy234
    clear hy234
    obtain rfl := Option.some.inj H
    go_wp2_with (first | ((with_reducible refine gate_builtin (b := .copy) (xs := #[.tmp 58,.tmp 59]) rfl ?_); refine Kd.R_copyB (enc := .int .u8) (h1 := fun _ => rfl) (0 : Int) (w0 := w) w.heap.size rfl (.tmp 58) (.tmp 59) 27 27 5 rfl Try.underlying27 (by kernel_rfl) v232 x6_1 l1 _ _ _ (fun k_ => some k_ ≠ (v226 : Value).ownBlock) rfl rfl ?aO ?aR ?aF ?aB ?aS ?aL ?_; (case aR => repeat (first | exact (Kd.C_below HR1.out HB.out) | (with_reducible refine Kd.C_alloc ?_ _) | (with_reducible refine Kd.C_drewN ?_ _) | (with_reducible refine Kd.C_drew ?_))); (case aB => exact (mvh HB.out)); (case aF => exact (fun k_ hk => Kd.fresh' (Kd.R_lt (mvR HO_5.out)) k_ hk)); (case aO => exact (mvR HO_6.out)); (case aS => exact (below_size (mvh HB.out))); (case aL => have := LMc32.out; (try simp only [hji6] at this); (try clear hji6w); (try clear hji6); omega); intro v235 w33 hv9_ ho hb hg hat; subst hv9_; rw [← Ny234.out] at ho; replace HO_5 := aK (Kd.R_after (ok := (fun _ => True)) (by (with_reducible repeat (first | apply Kd.R_alloc | apply Kd.R_drewN | apply Kd.R_drew)); exact Kd.R_mono HO_5.out (fun _ hk => ⟨trivial,hk⟩)) hg hat); replace HB := aK (hb); have HO236 := aK (ho); clear HO_6; clear ho hb hg hat))
    go_ret
    exact ⟨_,by first | rfl | (simp [errW_none,errW_some] <;> rfl) | (simp only [← hji6]; first | rfl | (simp [errW_none,errW_some] <;> rfl)) | (simp [*,errW_none,errW_some] <;> rfl),by (with_reducible repeat (first | apply Kd.R_alloc | apply Kd.R_drewN | apply Kd.R_drew)); exact Kd.R_mono HO236.out (fun _ hk => trivial),mvh HB.out⟩
   rw [if_pos c14] at H
   have c14b0 : decide (x27_1 < (l1.length : Int)) = true := decide_eq_true c14
   clear c14
   by_cases c15 : 0 ≤ x27_1
   rotate_left
   ·rw [if_neg c15] at H
    exact absurd H (by simp)
   rw [if_pos c15] at H
   have c15b0 : decide (0 ≤ x27_1) = true := decide_eq_true c15
   clear c15
   by_cases c16 : x27_1 < (x6_1.length : Int)
   rotate_left
   ·rw [if_neg c16] at H
    exact absurd H (by simp)
   rw [if_pos c16] at H
   have c16b0 : decide (x27_1 < (x6_1.length : Int)) = true := decide_eq_true c16
   clear c16
   have H' := Aside0.mk H
   clear H
   obtain ⟨Ao17,co17,eo17⟩ := Kd.R_slice HO_6.out
   subst eo17
   have p237 : 0 ≤ (x27_1 : Int) := oD
   have q237 : x27_1 < (x6_1.length : Int) := oD
   obtain ⟨ad237,e237,hx237_0⟩ := Kd.at_int (Kd.R_reads' HO_6.out).2.2 x27_1 p237 q237
   cases e237
   replace p237 := eq_true p237
   replace q237 := eq_true q237
   obtain ⟨Ao18,co18,eo18⟩ := Kd.R_slice HO_5.out
   subst eo18
   go_wp2
   go_loopg [36] k1 (fun kq v36 w' => ∃ (x6_2 : List Int) (x36_2 : Int),v36 = .int .i64 x36_2 ∧ Aside0 (reedsol_code_encode.l1 kq a0 l1 t225 x6_2 x27_1 (rd x6_1 x27_1) (l1.length : Int) x27_1 t225 (t225.length : Int) x36_2 = some r) ∧ Aside0 (kq ≤ k1) ∧ Aside0 (Kd.R (Kd.int .u8) 5 w' w.heap.size (fun k_ => some k_ ≠ ((.slice (some ad237) x6_1.length co17) : Value).ownBlock) (.slice Ao18 t225.length co18) t225) ∧ Aside0 (Kd.R (Kd.int .u8) 5 w' w.heap.size (fun k_ => some k_ ≠ ((.slice Ao18 t225.length co18) : Value).ownBlock ∧ some k_ ≠ ((.slice Ao18 t225.length co18) : Value).ownBlock) (.slice (some ad237) x6_1.length co17) x6_2) ∧ Aside0 (Kd.R (Kd.int .u8) 5 w' w.heap.size (fun k_ => some k_ ≠ ((.slice (some ad237) x6_1.length co17) : Value).ownBlock) (.slice Ao18 t225.length co18) t225) ∧ Aside0 (Below w.heap.size w w'))
   case atStart => exact ⟨(x6_1),(0),(by first | rfl | (simp; done) | (simp [*]; done) | (simp [wrap64]; done)),H',⟨Nat.le_refl _⟩,⟨mvR HO_5.out⟩,⟨by (with_reducible repeat (first | apply Kd.R_alloc | apply Kd.R_drewN | apply Kd.R_drew)); exact Kd.R_mono HO_6.out (fun _ hk => ⟨hk,hk⟩)⟩,⟨mvR HO_5.out⟩,⟨mvh HB.out⟩⟩
   case round =>
    clear H'
    (try clear c1); (try clear c2); (try clear p2); (try clear q2); (try clear hx2); (try clear c4); (try clear c5); (try clear hx5); (try clear p6); (try clear c7); (try clear c7b0); (try clear c7b1); (try clear c8); (try clear c8b0); (try clear c8b1); (try clear c9); (try clear c14); (try clear c14b0)
    (try clear c15); (try clear c15b0); (try clear c16); (try clear c16b0); (try clear hx237_0); (try clear p2); (try clear p237); (try clear p6); (try clear q237)
    obtain ⟨x6_2,x36_2,rfl,HA,HK2,HO_5,HO_6,HO_34,HB⟩ := hrel
    have hl6_2 := (Kd.R_reads' HO_6.out).1
    rw [hl6_2] at HO_6
    (try simp only [hl6_2])
    (try simp only [hl6_2] at HO_5)
    (try simp only [hl6_2] at HO_34)
    cases gk with
    | zero => exact absurd HA.out (by simp [reedsol_code_encode.l1])
    | succ k2 =>
     have H := HA.out
     clear HA
     simp only [reedsol_code_encode.l1] at H
     by_cases c19 : x36_2 < (t225.length : Int)
     rotate_left
     ·rw [if_neg c19] at H
      have c19b0 : decide (x36_2 < (t225.length : Int)) = false := decide_eq_false c19
      (try simp only [hl6_2] at c19b0)
      clear c19
      have H' := Aside0.mk H
      clear H
      go_wp2
      (try simp only [← hl6_2])
      (try simp only [addZ] at *)
      go_roundg k2
      case measure => have := HK1.out; have := HK2.out; omega
      case rel => exact ⟨(x6_2),(wrap64 (x27_1 + 1)),(by first | rfl | (simp; done) | (simp [*]; done) | (simp [wrap64]; done)),H',⟨by have := HK1.out; have := HK2.out; omega⟩,⟨by (try simp only [hl6_2]); exact mvR HO_5.out⟩,⟨by (try simp only [hl6_2]); (with_reducible repeat (first | apply Kd.R_alloc | apply Kd.R_drewN | apply Kd.R_drew)); exact Kd.R_mono HO_6.out (fun _ hk => hk.1)⟩,⟨mvh HB.out⟩⟩
     rw [if_pos c19] at H
     have c19b0 : decide (x36_2 < (t225.length : Int)) = true := decide_eq_true c19
     (try simp only [hl6_2] at c19b0)
     clear c19
     by_cases c20 : 0 ≤ x36_2
     rotate_left
     ·rw [if_neg c20] at H
      exact absurd H (by simp)
     rw [if_pos c20] at H
     have c20b0 : decide (0 ≤ x36_2) = true := decide_eq_true c20
     clear c20
     by_cases c21 : x36_2 < (t225.length : Int)
     rotate_left
     ·rw [if_neg c21] at H
      exact absurd H (by simp)
     rw [if_pos c21] at H
     have c21b0 : decide (x36_2 < (t225.length : Int)) = true := decide_eq_true c21
     (try simp only [hl6_2] at c21b0)
     clear c21
     obtain ⟨ji22,hji22⟩ : ∃ j_ : Int,(wrap64 (x27_1 + x36_2)) = j_ := ⟨_,rfl⟩
     first | rw [hji22] at H | simp only [hji22] at H
     have hji22w : (IntKind.i64.wrap (x27_1 + x36_2)) = ji22 := (i64_w _).trans hji22
     by_cases c23 : 0 ≤ (ji22)
     rotate_left
     ·rw [if_neg c23] at H
      exact absurd H (by simp)
     rw [if_pos c23] at H
     have c23b0 : decide (0 ≤ (ji22)) = true := decide_eq_true c23
     clear c23
     by_cases c24 : (ji22) < (x6_2.length : Int)
     rotate_left
     ·rw [if_neg c24] at H
      exact absurd H (by simp)
     rw [if_pos c24] at H
     have c24b0 : decide ((ji22) < (x6_2.length : Int)) = true := decide_eq_true c24
     (try simp only [hl6_2] at c24b0)
     clear c24
     by_cases c25 : 0 < a0.size
     rotate_left
     ·rw [if_neg c25] at H
      exact absurd H (by simp)
     rw [if_pos c25] at H
     clear c25
     replace H := Option.bind_eq_some_iff.mp H
     obtain ⟨t240,A270,H⟩ := H
     try dsimp only at H
     have A27 := Aside0.mk A270
     clear A270
     obtain ⟨y241,hy241⟩ : ∃ y_ : List Int,y_ = (x6_2.set ((ji22) : Int).toNat (Go.bits .xor .u8 (rd x6_2 (ji22)) t240)) := ⟨_,rfl⟩
     replace H : (reedsol_code_encode.l1 k2 a0 l1 t225 y241 x27_1 (rd x6_1 x27_1) (l1.length : Int) x27_1 t225 (t225.length : Int) (wrap64 (x36_2 + 1))) = some r := by rw [hy241]; exact H
     have Ny241 := Aside0.mk hy241
     clear hy241
     have H' := Aside0.mk H
     clear H
     have p238 : 0 ≤ (x36_2 : Int) := oD
     have q238 : x36_2 < (t225.length : Int) := oD
     obtain ⟨ad238,e238,hx238_0⟩ := Kd.at_int (Kd.R_reads' HO_34.out).2.2 x36_2 p238 q238
     cases e238
     replace p238 := eq_true p238
     replace q238 := eq_true q238
     try go_wp2
     have n0_ := aK (Kd.R_drew HO_5.out)
     have n1_ := aK (Kd.R_drew HO_6.out)
     have n2_ := aK (Kd.R_drew HO_34.out)
     have n3_ := aK (below_drew1 HB.out)
     clear HO_5 HO_6 HO_34 HB
     have HO_5 := n0_
     have HO_6 := n1_
     have HO_34 := n2_
     have HB := n3_
     clear n0_ n1_ n2_ n3_
     have p239 : 0 ≤ ((ji22) : Int) := oD
     have q239 : (ji22) < (x6_2.length : Int) := oD
     obtain ⟨ad239,e239,hx239_0⟩ := Kd.at_int (Kd.R_reads' HO_6.out).2.2 (ji22) p239 q239
     obtain rfl : ad237 = ad239 := (by injection e239)
     replace p239 := eq_true p239
     replace q239 := eq_true q239
     have ho26 := rs_At_mul HT0.out
     have hx26 := (HB.out.cell (World.block_lt_of_cell? w _ ho26)).trans ho26
     refine start_ (n := 16) (S := fun w' => w'.cell? (ad237.add ((ji22)).toNat) = some (.int .u8 (rd x6_2 (ji22))) ∧ w'.cell? ⟨b_,5,none⟩ = some (.func (.func 46) #[] #[.pointer (some ⟨p_,0,none⟩)])) (ds := [15]) (bts 16 0) (by kernel_rfl) rfl rfl ⟨hx239_0,((HB.out.cell (World.block_lt_of_cell? w _ ho26)).trans ho26)⟩ (fun hHeld => ?_); refine with_tabW reedsol_code_encode.tab11 reedsol_code_encode.bits11 (fun HT_ HW_ => ?_)
     generalize wr.drew = w29 at HO_5 HO_6 HO_34 HB hx239_0 hHeld ⊢
     refine pu_ 0 41 16 1 HT_.out ?_; refine pu_ 1 42 16 3 HT_.out ?_; refine pu_ 2 43 16 7 HT_.out ?_; refine pu_ 3 44 16 15 HT_.out ?_; refine pu_ 4 45 16 31 HT_.out ?_; refine pu_ 6 47 16 95 HT_.out ?_; refine pu_ 7 48 16 223 HT_.out ?_; refine pu_ 8 49 16 479 HT_.out ?_; refine pu_ 10 51 16 1503 HT_.out ?_; refine pu_ 11 52 16 3551 HT_.out ?_; refine ta_ 5 46 16 3583 rfl rfl HT_.out HW_.out hHeld (by rintro w' ⟨s0,s1⟩; go_simp; with_reducible rfl) ?_; refine ta_ 9 50 16 4095 rfl rfl HT_.out HW_.out hHeld (by rintro w' ⟨s0,s1⟩; go_simp; with_reducible rfl) ?_
     refine one_ (i := 12) (N := some 53) (bts 16 8191) rfl rfl (one_of HT_.out (by kernel_rfl)) (by decide) (fun K hK => ?_)
     refine goesF_ Try.func46 (by kernel_rfl) rfl #[.int .u8 (rd x6_1 x27_1),.int .u8 (rd t225 x36_2),.pointer (some ⟨p_,0,none⟩)] (by rfl) rfl rfl (by rfl) (by (try simp only [List.map_toArray,List.map_cons,List.map_nil]); first | done | rfl | (simp only [List.length_drop,List.length_take]; rfl) | (simp [Act.eval,IntKind.wrap_u8,IntKind.wrap_u32]; done)) ?_
     with_reducible refine (reedsol_open_1.calls k2 b_ p_ c_ d_ g_ a0 (rd x6_1 x27_1) (rd t225 x36_2) t240 _ ?side1 A27.out).mono ?_
     (case side1 => exact (rs_At_below HT0.out HB.out))
     rintro e w30 ⟨rfl,hb⟩
     have HS0_ := (hb.cell (World.block_lt_of_cell? _ _ (hHeld.1))).trans (hHeld.1)
     refine ⟨_,rfl,?_⟩
     have n0_ := aK (Kd.R_below (mvR HO_5.out) hb)
     have n1_ := aK (Kd.R_below (mvR HO_6.out) hb)
     have n2_ := aK (Kd.R_below (mvR HO_34.out) hb)
     have n3_ := aK (below_step (mvh HB.out) hb)
     clear HO_5 HO_6 HO_34 HB
     have HO_5 := n0_
     have HO_6 := n1_
     have HO_34 := n2_
     have HB := n3_
     clear n0_ n1_ n2_ n3_
     (try clear hb)
     have p28 : 0 ≤ ((ji22) : Int) := oD
     have q28 : ((ji22) : Int) < ((x6_2.length : Int) : Int) := oD
     obtain ⟨go28,co28,eo28,gb28,gl28,cl28,HG28⟩ := Kd.R_form HO_6.out (by omega)
     (first | cases eo28 | (injection eo28 with ea_ en_ ec_; (first | subst ea_ | (injection ea_ with ea_; subst ea_)); subst ec_; clear en_))
     have GB28 := Aside0.mk gb28
     have GG28 := Aside0.mk HG28
     clear gb28 gl28 HG28
     (first | simp only [add_plain] at hx237_0 | skip)
     (first | simp only [add_plain] at hx239_0 | skip)
     obtain ⟨hx28_0,hf28_0⟩ := Kd.R_celln 0 HO_6.out ((ji22) : Int) p28 q28
     replace p28 := eq_true p28
     replace q28 := eq_true q28
     have HP31 := Kd.R_putn HO_6.out ((ji22) : Int) (Go.bits .xor .u8 (rd x6_2 (ji22)) t240)
     rw [← Ny241.out] at HP31
     have HQ31 := Aside0.mk HP31
     clear HP31
     refine hK.out _ _ ⟨HS0_,((HB.out.cell (World.block_lt_of_cell? w _ ho26)).trans ho26)⟩ (fun hHeld => ?_)
     clear hK K
     refine norm_ (a' := ?_) ?_ ?_
     rotate_left
     ·show Act.put _ (some 53) _ = _
      simp only [Act.put,List.setIfInBounds_toArray,List.set_cons_zero,List.set_cons_succ,i64_w,i32_w]
      rfl
     refine pu_ 13 54 16 16383 HT_.out ?_; refine pu_ 14 55 16 32767 HT_.out ?_
     refine last_ (i := 15) (N := none) (bts 16 65535) rfl rfl (one_of HT_.out (by kernel_rfl)) (by decide) (fun K hK => ?_)
     refine skip_ (w1 := ?_) (by rfl) rfl ?_ ?_
     rotate_left
     ·go_simp
      rfl
     refine hK.out _ _ ?_
     clear hK K
     refine done_ (done_of HT_.out (by kernel_rfl)) ?_
     try go_wp2
     (try simp only [← hl6_2])
     (try simp only [addZ] at *)
     go_roundg k2
     case measure => have := HK1.out; have := HK2.out; omega
     case rel => exact ⟨(y241),(wrap64 (x36_2 + 1)),(by first | rfl | (simp; done) | (simp [*]; done) | (simp [wrap64]; done)),H',⟨by have := HK1.out; have := HK2.out; omega⟩,⟨by (try simp only [hl6_2]); (with_reducible repeat (first | apply Kd.R_alloc | apply Kd.R_drewN | apply Kd.R_drew)); exact Kd.R_mono (Kd.R_far (p := ⟨go28,((ji22) : Int).toNat,none⟩) (Kd.R_mono HO_5.out (fun k_ hk => (⟨hk,fun e_ => hk (by rw [e_]; rfl)⟩ : _ ∧ k_ ≠ go28))) (fun _ hk => hk.2) (.int .u8 (Go.bits .xor .u8 (rd x6_2 (ji22)) t240))) (fun _ hk => hk.1)⟩,⟨by (try simp only [hl6_2]); exact mvR HQ31.out⟩,⟨by (try simp only [hl6_2]); (with_reducible repeat (first | apply Kd.R_alloc | apply Kd.R_drewN | apply Kd.R_drew)); exact Kd.R_mono (Kd.R_far (p := ⟨go28,((ji22) : Int).toNat,none⟩) (Kd.R_mono HO_34.out (fun k_ hk => (⟨hk,fun e_ => hk (by rw [e_]; rfl)⟩ : _ ∧ k_ ≠ go28))) (fun _ hk => hk.2) (.int .u8 (Go.bits .xor .u8 (rd x6_2 (ji22)) t240))) (fun _ hk => hk.1)⟩,⟨by repeat (first | (with_reducible first | exact HB.out | apply below_alloc | apply pw_below_drewN | apply below_drew1 | refine below_set ?_ GB28.out) | exact HB.out)⟩⟩
def reedsol_Encode.f (k : Nat) (a0_0 : Int) (a0_1 : Int) (a0_2 : Int) (a0_3 : Int) (l1 : List Int) : Option (List Int × Int) := (reedsol_open.f k a0_0 a0_1 a0_2 a0_3).bind fun bt243 => (if bt243.2 = 0 then (if 0 < bt243.1.size then (if (l1.length : Int) > (wrap64 ((wrap64 ((bt243.1.size : Int) - 1)) - a0_3)) then (some (([] : List Int),6)) else ((reedsol_code_right.f k bt243.1 l1).bind fun t247 => (if t247 = true then ((reedsol_code_encode.f k bt243.1 l1).bind fun t248 => (some (t248,0))) else (some (([] : List Int),11))))) else (none)) else (some (([] : List Int),bt243.2)))
theorem reedsol_Encode.mono : ∀ a0 a1 a2 a3 a4 k,LeO (reedsol_Encode.f k a0 a1 a2 a3 a4) (reedsol_Encode.f (k + 1) a0 a1 a2 a3 a4) := by
 intro a0 a1 a2 a3 a4 k
 unfold reedsol_Encode.f
 repeat' with_reducible first
   | exact reedsol_code_encode.mono _ _ _
   | exact reedsol_code_right.mono _ _ _
   | exact reedsol_open.mono _ _ _ _ _
   | exact LeO.refl _
   | exact LeO.none _
   | refine LeO.ite ?_ ?_
   | refine LeO.bind ?_ (fun _ => ?_)
set_option maxHeartbeats 8000000 in
set_option maxRecDepth 100000 in
theorem reedsol_Encode.calls (k : Nat) (a0_0 : Int) (a0_1 : Int) (a0_2 : Int) (a0_3 : Int) (A1 : Option Addr) (c1 : Nat) (l1 : List Int) (r1 : List Int) (r2 : Int) (w : World) (hr1 : Kd.C (Kd.int .u8) w A1 l1.length l1) (hc1 : l1.length ≤ c1) (h : reedsol_Encode.f k a0_0 a0_1 a0_2 a0_3 l1 = some (r1,r2)) :
  Calls Try.prog 10 #[.agg #[.int .i64 a0_0,.int .u64 a0_1,.int .i64 a0_2,.int .i64 a0_3],.slice A1 l1.length c1] w fun e w' => ∃ v0_ : Value,e = .returned (.tuple #[v0_,.int .i64 r2]) ∧ Kd.R (Kd.int .u8) 5 w' w.heap.size (fun _ => True) v0_ r1 ∧ Below w.heap.size w w' := by
 have hu26 := Try.underlying26
 have HR1 := Aside0.mk hr1
 have HC1 := Aside0.mk hc1
 clear hr1 hc1
 have HB := aK (Below.refl w.heap.size w)
 have H : ((reedsol_open.f k a0_0 a0_1 a0_2 a0_3).bind fun bt243 => (if bt243.2 = 0 then (if 0 < bt243.1.size then (if (l1.length : Int) > (wrap64 ((wrap64 ((bt243.1.size : Int) - 1)) - a0_3)) then (some (([] : List Int),6)) else ((reedsol_code_right.f k bt243.1 l1).bind fun t247 => (if t247 = true then ((reedsol_code_encode.f k bt243.1 l1).bind fun t248 => (some (t248,0))) else (some (([] : List Int),11))))) else (none)) else (some (([] : List Int),bt243.2)))) = some (r1,r2) := h
 clear h
 replace H := Option.bind_eq_some_iff.mp H
 obtain ⟨⟨t243,t246⟩,A30,H⟩ := H
 try dsimp only at H
 have A3 := Aside0.mk A30
 clear A30
 by_cases c4 : t246 = 0
 rotate_left
 ·rw [if_neg c4] at H
  have c4b0 : (t246 == 0) = false := beq_eq_false_iff_ne.mpr c4
  have c4b1 : (t246 != 0) = true := bne_iff_ne.mpr c4
  simp only [Option.some.injEq,Prod.mk.injEq] at H
  obtain ⟨rfl,rfl⟩ := H
  go_enter Try.func10,Try.ntmps10
  go_wp2_with (first | ((with_reducible refine gate_dst (N := 2) rfl ?_); refine box_event ?hg (N := 2) ?hd (cs := #[.int .i64 a0_0,.int .u64 a0_1,.int .i64 a0_2,.int .i64 a0_3]) (t := 26) ?hr ?_; (case hd => rfl); (case hg => rfl); (case hr => first | (go_simp; done) | (go_simp; rfl)); intro gb242 hg w24 hbox hb; have BK242 := aK (hbox); have GW242 := aK ((by rw [hg]; exact (below_size (mvh HB.out)) : w.heap.size ≤ gb242)); have GE242 := aK ((by rw [hg]; exact (below_size (mvh HB.out)) : w.heap.size ≤ gb242)); replace HB := aK (below_step (mvh HB.out) hb); clear hb hbox hg; obtain ⟨hcz25_0,hcz25_1,hcz25_2,hcz25_3,hfz25_0,hfz25_1,hfz25_2,hfz25_3⟩ := cf4 BK242.out) | (go_at_call 26; (with_reducible refine (reedsol_open.calls k a0_0 a0_1 a0_2 a0_3 t243 t246 _ A3.out).mono ?_); rintro e w ⟨Ap244,rfl,hT_,hb⟩; replace BK242 := aK (kb BK242.out hb); replace HR1 := aK (Kd.C_below HR1.out (below_step (mvh HB.out) hb)); have HB00 := aK (below_step (mvh HB.out) hb); replace HB := aK (Below.refl w.heap.size w); have HT245 := Aside0.mk hT_; clear hb hT_) | go_quiet (fail))
  go_ret2
  exact ⟨_,by first | rfl | (simp [errW_none,errW_some] <;> rfl) | (simp [*,errW_none,errW_some] <;> rfl),Kd.R_lower (by first | exact Kd.R_nil _ _ _ _ _ | exact Kd.N_nil _ _ _ _ _ | exact Kd.V_nil _ _ _ _ _ | exact Kd.Q_nil _ _ _ _ _ | exact Kd.S_nil _ _ _ _ _) HB00.out.size,below_step HB00.out (mvh HB.out)⟩


 rw [if_pos c4] at H
 have c4b0 : (t246 == 0) = true := beq_iff_eq.mpr c4
 have c4b1 : (t246 != 0) = false := bne_eq_false_iff_eq.mpr c4
 clear c4
 by_cases c5 : 0 < t243.size
 rotate_left
 ·rw [if_neg c5] at H
  exact absurd H (by simp)
 rw [if_pos c5] at H
 have LMc5 := Aside0.mk c5
 clear c5
 by_cases c7 : (l1.length : Int) > (wrap64 ((wrap64 ((t243.size : Int) - 1)) - a0_3))
 ·rw [if_pos c7] at H
  have c7b0 : decide ((wrap64 ((wrap64 ((t243.size : Int) - 1)) - a0_3)) < (l1.length : Int)) = true := decide_eq_true c7
  clear c7
  simp only [Option.some.injEq,Prod.mk.injEq] at H
  obtain ⟨rfl,rfl⟩ := H
  go_enter Try.func10,Try.ntmps10
  go_wp2_with (first | ((with_reducible refine gate_dst (N := 2) rfl ?_); refine box_event ?hg (N := 2) ?hd (cs := #[.int .i64 a0_0,.int .u64 a0_1,.int .i64 a0_2,.int .i64 a0_3]) (t := 26) ?hr ?_; (case hd => rfl); (case hg => rfl); (case hr => first | (go_simp; done) | (go_simp; rfl)); intro gb242 hg w8 hbox hb; have BK242 := aK (hbox); have GW242 := aK ((by rw [hg]; exact (below_size (mvh HB.out)) : w.heap.size ≤ gb242)); have GE242 := aK ((by rw [hg]; exact (below_size (mvh HB.out)) : w.heap.size ≤ gb242)); replace HB := aK (below_step (mvh HB.out) hb); clear hb hbox hg; obtain ⟨hcz9_0,hcz9_1,hcz9_2,hcz9_3,hfz9_0,hfz9_1,hfz9_2,hfz9_3⟩ := cf4 BK242.out) | (go_at_call 26; (with_reducible refine (reedsol_open.calls k a0_0 a0_1 a0_2 a0_3 t243 t246 _ A3.out).mono ?_); rintro e w ⟨Ap244,rfl,hT_,hb⟩; obtain ⟨b_,p_,c_,d_,g_,rfl,hQ_⟩ := rs_pos hT_ LMc5.out; have HQ245 := Aside0.mk hQ_; clear hQ_; replace BK242 := aK (kb BK242.out hb); replace HR1 := aK (Kd.C_below HR1.out (below_step (mvh HB.out) hb)); have HB00 := aK (below_step (mvh HB.out) hb); replace HB := aK (Below.refl w.heap.size w); have HT245 := Aside0.mk hT_; clear hb hT_; have ho6 := rs_At_size HQ245.out; have hx6 := ho6; obtain ⟨hcz11_0,hcz11_1,hcz11_2,hcz11_3,hfz11_0,hfz11_1,hfz11_2,hfz11_3⟩ := cf4 BK242.out) | go_quiet (fail))
  go_ret2
  exact ⟨_,by first | rfl | (simp [errW_none,errW_some] <;> rfl) | (simp [*,errW_none,errW_some] <;> rfl),Kd.R_lower (by first | exact Kd.R_nil _ _ _ _ _ | exact Kd.N_nil _ _ _ _ _ | exact Kd.V_nil _ _ _ _ _ | exact Kd.Q_nil _ _ _ _ _ | exact Kd.S_nil _ _ _ _ _) HB00.out.size,below_step HB00.out (mvh HB.out)⟩
 ·rw [if_neg c7] at H
  have c7b0 : decide ((wrap64 ((wrap64 ((t243.size : Int) - 1)) - a0_3)) < (l1.length : Int)) = false := decide_eq_false c7
  clear c7
  replace H := Option.bind_eq_some_iff.mp H
  obtain ⟨t247,A120,H⟩ := H
  try dsimp only at H
  have A12 := Aside0.mk A120
  clear A120
  by_cases c13 : t247 = true
  rotate_left
  ·replace c13 := Bool.eq_false_iff.mpr c13
   subst c13
   have H1 : (some (([] : List Int),11)) = some (r1,r2) := by rw [if_neg (show ¬ (false = true) by decide)] at H; exact H
   clear H
   have H := H1
   clear H1
   simp only [Option.some.injEq,Prod.mk.injEq] at H
   obtain ⟨rfl,rfl⟩ := H
   go_enter Try.func10,Try.ntmps10
   go_wp2_with (first | ((with_reducible refine gate_dst (N := 2) rfl ?_); refine box_event ?hg (N := 2) ?hd (cs := #[.int .i64 a0_0,.int .u64 a0_1,.int .i64 a0_2,.int .i64 a0_3]) (t := 26) ?hr ?_; (case hd => rfl); (case hg => rfl); (case hr => first | (go_simp; done) | (go_simp; rfl)); intro gb242 hg w20 hbox hb; have BK242 := aK (hbox); have GW242 := aK ((by rw [hg]; exact (below_size (mvh HB.out)) : w.heap.size ≤ gb242)); have GE242 := aK ((by rw [hg]; exact (below_size (mvh HB.out)) : w.heap.size ≤ gb242)); replace HB := aK (below_step (mvh HB.out) hb); clear hb hbox hg; obtain ⟨hcz21_0,hcz21_1,hcz21_2,hcz21_3,hfz21_0,hfz21_1,hfz21_2,hfz21_3⟩ := cf4 BK242.out) | (go_at_call 26; (with_reducible refine (reedsol_open.calls k a0_0 a0_1 a0_2 a0_3 t243 t246 _ A3.out).mono ?_); rintro e w ⟨Ap244,rfl,hT_,hb⟩; obtain ⟨b_,p_,c_,d_,g_,rfl,hQ_⟩ := rs_pos hT_ LMc5.out; have HQ245 := Aside0.mk hQ_; clear hQ_; replace BK242 := aK (kb BK242.out hb); replace HR1 := aK (Kd.C_below HR1.out (below_step (mvh HB.out) hb)); have HB00 := aK (below_step (mvh HB.out) hb); replace HB := aK (Below.refl w.heap.size w); have HT245 := Aside0.mk hT_; clear hb hT_; have ho6 := rs_At_size HQ245.out; have hx6 := ho6; obtain ⟨hcz23_0,hcz23_1,hcz23_2,hcz23_3,hfz23_0,hfz23_1,hfz23_2,hfz23_3⟩ := cf4 BK242.out) | (go_at_call 27; (with_reducible refine (reedsol_code_right.calls k _ t243 _ _ l1 false _ ?side1 ?side2 ?side3 A12.out).mono ?_); (case side1 => exact HT245.out); (case side2 => exact mvC HR1.out); (case side3 => exact HC1.out); rintro e w' ⟨rfl,⟨nd,rfl⟩⟩; (try first | exact ⟨rfl,_,World.drewN_drewN _ _ _⟩ | exact ⟨rfl,_,Eq.trans (World.drewN_drewN _ _ _) (congrArg (World.drewN _) (Nat.add_assoc _ _ _))⟩)) | go_quiet (first | (go_at_call 27; (with_reducible refine (reedsol_code_right.calls k _ t243 _ _ l1 false _ ?side1 ?side2 ?side3 A12.out).mono ?_); (case side1 => exact HT245.out); (case side2 => exact mvC HR1.out); (case side3 => exact HC1.out); rintro e w' ⟨rfl,⟨nd,rfl⟩⟩; (try first | exact ⟨rfl,_,World.drewN_drewN _ _ _⟩ | exact ⟨rfl,_,Eq.trans (World.drewN_drewN _ _ _) (congrArg (World.drewN _) (Nat.add_assoc _ _ _))⟩))))
   go_ret2
   exact ⟨_,by first | rfl | (simp [errW_none,errW_some] <;> rfl) | (simp [*,errW_none,errW_some] <;> rfl),Kd.R_lower (by first | exact Kd.R_nil _ _ _ _ _ | exact Kd.N_nil _ _ _ _ _ | exact Kd.V_nil _ _ _ _ _ | exact Kd.Q_nil _ _ _ _ _ | exact Kd.S_nil _ _ _ _ _) HB00.out.size,below_step HB00.out (mvh HB.out)⟩
  subst c13
  have H1 : ((reedsol_code_encode.f k t243 l1).bind fun t248 => (some (t248,0))) = some (r1,r2) := by rw [if_pos rfl] at H; exact H
  clear H
  have H := H1
  clear H1
  replace H := Option.bind_eq_some_iff.mp H
  obtain ⟨t248,A140,H⟩ := H
  replace H : (some (t248,0)) = some (r1,r2) := H
  have A14 := Aside0.mk A140
  clear A140
  simp only [Option.some.injEq,Prod.mk.injEq] at H
  obtain ⟨rfl,rfl⟩ := H
  go_enter Try.func10,Try.ntmps10
  go_wp2_with (first | ((with_reducible refine gate_dst (N := 2) rfl ?_); refine box_event ?hg (N := 2) ?hd (cs := #[.int .i64 a0_0,.int .u64 a0_1,.int .i64 a0_2,.int .i64 a0_3]) (t := 26) ?hr ?_; (case hd => rfl); (case hg => rfl); (case hr => first | (go_simp; done) | (go_simp; rfl)); intro gb242 hg w15 hbox hb; have BK242 := aK (hbox); have GW242 := aK ((by rw [hg]; exact (below_size (mvh HB.out)) : w.heap.size ≤ gb242)); have GE242 := aK ((by rw [hg]; exact (below_size (mvh HB.out)) : w.heap.size ≤ gb242)); replace HB := aK (below_step (mvh HB.out) hb); clear hb hbox hg; obtain ⟨hcz16_0,hcz16_1,hcz16_2,hcz16_3,hfz16_0,hfz16_1,hfz16_2,hfz16_3⟩ := cf4 BK242.out) | (go_at_call 26; (with_reducible refine (reedsol_open.calls k a0_0 a0_1 a0_2 a0_3 t243 t246 _ A3.out).mono ?_); rintro e w ⟨Ap244,rfl,hT_,hb⟩; obtain ⟨b_,p_,c_,d_,g_,rfl,hQ_⟩ := rs_pos hT_ LMc5.out; have HQ245 := Aside0.mk hQ_; clear hQ_; replace BK242 := aK (kb BK242.out hb); replace HR1 := aK (Kd.C_below HR1.out (below_step (mvh HB.out) hb)); have HB00 := aK (below_step (mvh HB.out) hb); replace HB := aK (Below.refl w.heap.size w); have HT245 := Aside0.mk hT_; clear hb hT_; have ho6 := rs_At_size HQ245.out; have hx6 := ho6; obtain ⟨hcz18_0,hcz18_1,hcz18_2,hcz18_3,hfz18_0,hfz18_1,hfz18_2,hfz18_3⟩ := cf4 BK242.out) | (go_at_call 27; (with_reducible refine (reedsol_code_right.calls k _ t243 _ _ l1 true _ ?side1 ?side2 ?side3 A12.out).mono ?_); (case side1 => exact HT245.out); (case side2 => exact mvC HR1.out); (case side3 => exact HC1.out); rintro e w' ⟨rfl,⟨nd,rfl⟩⟩; (try first | exact ⟨rfl,_,World.drewN_drewN _ _ _⟩ | exact ⟨rfl,_,Eq.trans (World.drewN_drewN _ _ _) (congrArg (World.drewN _) (Nat.add_assoc _ _ _))⟩)) | (go_at_call 28; (with_reducible refine (reedsol_code_encode.calls k _ t243 _ _ l1 t248 _ ?side1 ?side2 ?side3 A14.out).mono ?_); (case side1 => exact HT245.out); (case side2 => exact mvC HR1.out); (case side3 => exact HC1.out); rintro e w19 ⟨v249,rfl,ho0,hb⟩; have HO250 := aK (Kd.R_lower ho0 (below_size (mvh HB.out))); replace BK242 := aK (kb BK242.out hb); replace HB := aK (below_step (mvh HB.out) hb); (try clear hb); (try clear ho0)) | go_quiet (first | (go_at_call 27; (with_reducible refine (reedsol_code_right.calls k _ t243 _ _ l1 true _ ?side1 ?side2 ?side3 A12.out).mono ?_); (case side1 => exact HT245.out); (case side2 => exact mvC HR1.out); (case side3 => exact HC1.out); rintro e w' ⟨rfl,⟨nd,rfl⟩⟩; (try first | exact ⟨rfl,_,World.drewN_drewN _ _ _⟩ | exact ⟨rfl,_,Eq.trans (World.drewN_drewN _ _ _) (congrArg (World.drewN _) (Nat.add_assoc _ _ _))⟩))))
  go_ret2
  exact ⟨_,by first | rfl | (simp [errW_none,errW_some] <;> rfl) | (simp [*,errW_none,errW_some] <;> rfl),Kd.R_lower (mvR HO250.out) HB00.out.size,below_step HB00.out (mvh HB.out)⟩
def l4_num.f (a0 : Int) : Option (Int) := some a0
set_option maxHeartbeats 8000000 in
set_option maxRecDepth 100000 in
theorem l4_num.calls (a0 : Int) (r : Int) (w : World) (h : l4_num.f a0 = some r) :
  Calls Try.prog 11 #[.int .i64 a0] w fun e w' => e = .returned (.int .i64 r) ∧ Drawn0 w w' := by
 have H : (some a0) = some r := h
 clear h
 obtain rfl := Option.some.inj H
 go_enter Try.func11,Try.ntmps11
 go_wp2
 go_ret
 exact ⟨by first | rfl | (simp; done) | (simp [*]; done) | (simp [wrap64]; done),by repeat (first | exact Drawn0.refl _ | apply Drawn0.step)⟩

def reedsol_code_fits.f (k : Nat) (a0 : RCode) (l1 : List Int) : Option (Int) := if 0 < a0.size then (if (l1.length : Int) < a0.Par then (some 5) else (if (l1.length : Int) > (wrap64 ((a0.size : Int) - 1)) then (some 6) else ((reedsol_code_right.f k a0 l1).bind fun t251 => (if t251 = true then (some 0) else (some 11))))) else (none)
theorem reedsol_code_fits.mono : ∀ a0 a1 k,LeO (reedsol_code_fits.f k a0 a1) (reedsol_code_fits.f (k + 1) a0 a1) := by
 intro a0 a1 k
 unfold reedsol_code_fits.f
 repeat' with_reducible first
   | exact reedsol_code_right.mono _ _ _
   | exact LeO.refl _
   | exact LeO.none _
   | refine LeO.ite ?_ ?_
   | refine LeO.bind ?_ (fun _ => ?_)
set_option maxHeartbeats 8000000 in
set_option maxRecDepth 100000 in
theorem reedsol_code_fits.calls (k : Nat) (A0 : Option Addr) (a0 : RCode) (A1 : Option Addr) (c1 : Nat) (l1 : List Int) (r : Int) (w : World) (hr0 : rs_OK w A0 a0) (hr1 : Kd.C (Kd.int .u8) w A1 l1.length l1) (hc1 : l1.length ≤ c1) (h : reedsol_code_fits.f k a0 l1 = some r) :
  Calls Try.prog 29 #[.pointer A0,.slice A1 l1.length c1] w fun e w' => e = .returned (.int .i64 r) ∧ Drawn0 w w' := by
 have HR0 := Aside0.mk hr0
 clear hr0
 have HR1 := Aside0.mk hr1
 have HC1 := Aside0.mk hc1
 clear hr1 hc1
 have H : (if 0 < a0.size then (if (l1.length : Int) < a0.Par then (some 5) else (if (l1.length : Int) > (wrap64 ((a0.size : Int) - 1)) then (some 6) else ((reedsol_code_right.f k a0 l1).bind fun t251 => (if t251 = true then (some 0) else (some 11))))) else (none)) = some r := h
 clear h
 by_cases c3 : 0 < a0.size
 rotate_left
 ·rw [if_neg c3] at H
  exact absurd H (by simp)

 rw [if_pos c3] at H
 obtain ⟨b_,p_,c_,d_,g_,rfl,hT_⟩ := rs_pos HR0.out c3
 have HT0 := Aside0.mk hT_
 clear hT_ c3
 by_cases c5 : (l1.length : Int) < a0.Par
 ·rw [if_pos c5] at H
  have c5b0 : decide ((l1.length : Int) < a0.Par) = true := decide_eq_true c5
  clear c5
  obtain rfl := Option.some.inj H
  have ho4 := rs_At_Par HT0.out
  have hx4 := ho4
  go_enter Try.func29,Try.ntmps29
  go_wp2
  go_ret
  exact ⟨by first | rfl | (simp; done) | (simp [*]; done) | (simp [wrap64]; done),by repeat (first | exact Drawn0.refl _ | apply Drawn0.step)⟩
 ·rw [if_neg c5] at H
  have c5b0 : decide ((l1.length : Int) < a0.Par) = false := decide_eq_false c5
  clear c5
  by_cases c7 : (l1.length : Int) > (wrap64 ((a0.size : Int) - 1))
  ·rw [if_pos c7] at H
   have c7b0 : decide ((wrap64 ((a0.size : Int) - 1)) < (l1.length : Int)) = true := decide_eq_true c7
   clear c7
   obtain rfl := Option.some.inj H
   have ho4 := rs_At_Par HT0.out
   have hx4 := ho4
   have ho6 := rs_At_size HT0.out
   have hx6 := ho6
   go_enter Try.func29,Try.ntmps29
   go_wp2
   go_ret
   exact ⟨by first | rfl | (simp; done) | (simp [*]; done) | (simp [wrap64]; done),by repeat (first | exact Drawn0.refl _ | apply Drawn0.step)⟩
  ·rw [if_neg c7] at H
   have c7b0 : decide ((wrap64 ((a0.size : Int) - 1)) < (l1.length : Int)) = false := decide_eq_false c7
   clear c7
   replace H := Option.bind_eq_some_iff.mp H
   obtain ⟨t251,A80,H⟩ := H
   try dsimp only at H
   have A8 := Aside0.mk A80
   clear A80
   by_cases c9 : t251 = true
   ·subst c9
    have H1 : (some 0) = some r := by rw [if_pos rfl] at H; exact H
    clear H
    have H := H1
    clear H1
    obtain rfl := Option.some.inj H
    have ho4 := rs_At_Par HT0.out
    have hx4 := ho4
    have ho6 := rs_At_size HT0.out
    have hx6 := ho6
    go_enter Try.func29,Try.ntmps29
    go_wp2_with (first | (go_at_call 27; (with_reducible refine (reedsol_code_right.calls k _ a0 _ _ l1 true _ ?side1 ?side2 ?side3 A8.out).mono ?_); (case side1 => exact HR0.out); (case side2 => exact mvC HR1.out); (case side3 => exact HC1.out); rintro e w' ⟨rfl,⟨nd,rfl⟩⟩))
    go_ret
    exact ⟨by first | rfl | (simp; done) | (simp [*]; done) | (simp [wrap64]; done),by repeat (first | exact Drawn0.refl _ | apply Drawn0.step)⟩
   ·replace c9 := Bool.eq_false_iff.mpr c9
    subst c9
    have H1 : (some 11) = some r := by rw [if_neg (show ¬ (false = true) by decide)] at H; exact H
    clear H
    have H := H1
    clear H1
    obtain rfl := Option.some.inj H
    have ho4 := rs_At_Par HT0.out
    have hx4 := ho4
    have ho6 := rs_At_size HT0.out
    have hx6 := ho6
    go_enter Try.func29,Try.ntmps29
    go_wp2_with (first | (go_at_call 27; (with_reducible refine (reedsol_code_right.calls k _ a0 _ _ l1 false _ ?side1 ?side2 ?side3 A8.out).mono ?_); (case side1 => exact HR0.out); (case side2 => exact mvC HR1.out); (case side3 => exact HC1.out); rintro e w' ⟨rfl,⟨nd,rfl⟩⟩))
    go_ret
    exact ⟨by first | rfl | (simp; done) | (simp [*]; done) | (simp [wrap64]; done),by repeat (first | exact Drawn0.refl _ | apply Drawn0.step)⟩
end Go.Proofs.Ytpgecdidddoglaa.P

