-- written by mk.sh, a program of this session, over the kit's print
import Derived.Test.YtpgecdidddoglaaRbQAux
import Derived.Test.YtpgecdidddoglaaRbPx0
import Derived.Test.YtpgecdidddoglaaRbPx6
namespace Go.Proofs.Ytpgecdidddoglaa.P
open Go.RowKit Go.Proofs.YtpgecdidddoglaaW.PrintWords Go.Proofs.YtpgecdidddoglaaW.PrintLast Go.Proofs.YtpgecdidddoglaaW.PrintMore
attribute [local go_sem] max2_int min2_int max_two min_two max_three min_three max_four min_four   -- for this text's walks alone
set_option linter.unusedVariables false
set_option linter.unusedSimpArgs false

mutual
def reedsol_code_product.l0 : Nat → RCode → List Int → List Int → List Int → Int → Int → Option (List Int)
 | 0,_,_,_,_,_,_ => none
 | k + 1,x0,x2,x9,x24,x25,x26 => if x26 < x25 then (if 0 ≤ x26 then (if x26 < (x24.length : Int) then (reedsol_code_product.l1 k x0 x2 x9 x26 (rd x24 x26) x24 x25 x26 x2 (x2.length : Int) 0) else (none)) else (none)) else (some x9)
def reedsol_code_product.l1 : Nat → RCode → List Int → List Int → Int → Int → List Int → Int → Int → List Int → Int → Int → Option (List Int)
 | 0,_,_,_,_,_,_,_,_,_,_,_ => none
 | k + 1,x0,x2,x9,x10,x11,x24,x25,x26,x31,x32,x33 => if x33 < x32 then (if 0 ≤ x33 then (if x33 < (x31.length : Int) then (if (wrap64 (x10 + x33)) < (x9.length : Int) then (if 0 ≤ (wrap64 (x10 + x33)) then (if 0 < x0.size then ((reedsol_open_1.f k x0 x11 (rd x31 x33)).bind fun t271 => (reedsol_code_product.l1 k x0 x2 (x9.set ((wrap64 (x10 + x33)) : Int).toNat (Go.bits .xor .u8 (rd x9 (wrap64 (x10 + x33))) t271)) x10 x11 x24 x25 x26 x31 x32 (wrap64 (x33 + 1)))) else (none)) else (none)) else (reedsol_code_product.l1 k x0 x2 x9 x10 x11 x24 x25 x26 x31 x32 (wrap64 (x33 + 1)))) else (none)) else (none)) else (reedsol_code_product.l0 k x0 x2 x9 x24 x25 (wrap64 (x26 + 1)))
end
def reedsol_code_product.f (k : Nat) (a0 : RCode) (l1 : List Int) (l2 : List Int) (a3 : Int) : Option (List Int) := if 0 ≤ (mn a3 (mx 0 (wrap64 ((wrap64 ((l1.length : Int) + (l2.length : Int))) - 1)))) then (if (mn a3 (mx 0 (wrap64 ((wrap64 ((l1.length : Int) + (l2.length : Int))) - 1))) : Int).toNat ≤ 281474976710656 then (reedsol_code_product.l0 k a0 l2 (List.replicate (mn a3 (mx 0 (wrap64 ((wrap64 ((l1.length : Int) + (l2.length : Int))) - 1))) : Int).toNat 0) l1 (l1.length : Int) 0) else (none)) else (none)
theorem reedsol_code_product.mono_l : ∀ k,(∀ y0 y1 y2 y3 y4 y5,LeO (reedsol_code_product.l0 k y0 y1 y2 y3 y4 y5) (reedsol_code_product.l0 (k + 1) y0 y1 y2 y3 y4 y5)) ∧ (∀ y0 y1 y2 y3 y4 y5 y6 y7 y8 y9 y10,LeO (reedsol_code_product.l1 k y0 y1 y2 y3 y4 y5 y6 y7 y8 y9 y10) (reedsol_code_product.l1 (k + 1) y0 y1 y2 y3 y4 y5 y6 y7 y8 y9 y10))
 | 0 => ⟨fun _ _ _ _ _ _ r h => by simp [reedsol_code_product.l0] at h,fun _ _ _ _ _ _ _ _ _ _ _ r h => by simp [reedsol_code_product.l1] at h⟩
 | k + 1 => by
  obtain ⟨ih0,ih1⟩ := reedsol_code_product.mono_l k
  refine ⟨?_,?_⟩
  ·intro y0 y1 y2 y3 y4 y5
   unfold reedsol_code_product.l0
   repeat' with_reducible first
   | exact ih0 _ _ _ _ _ _
   | exact ih1 _ _ _ _ _ _ _ _ _ _ _
   | exact reedsol_open_1.mono _ _ _ _
   | exact LeO.refl _
   | exact LeO.none _
   | refine LeO.ite ?_ ?_
   | refine LeO.bind ?_ (fun _ => ?_)
  ·intro y0 y1 y2 y3 y4 y5 y6 y7 y8 y9 y10
   unfold reedsol_code_product.l1
   repeat' with_reducible first
   | exact ih0 _ _ _ _ _ _
   | exact ih1 _ _ _ _ _ _ _ _ _ _ _
   | exact reedsol_open_1.mono _ _ _ _
   | exact LeO.refl _
   | exact LeO.none _
   | refine LeO.ite ?_ ?_
   | refine LeO.bind ?_ (fun _ => ?_)
theorem reedsol_code_product.mono : ∀ a0 a1 a2 a3 k,LeO (reedsol_code_product.f k a0 a1 a2 a3) (reedsol_code_product.f (k + 1) a0 a1 a2 a3) := by
 intro a0 a1 a2 a3 k
 obtain ⟨ih0,ih1⟩ := reedsol_code_product.mono_l k
 unfold reedsol_code_product.f
 repeat' with_reducible first
   | exact ih0 _ _ _ _ _ _
   | exact ih1 _ _ _ _ _ _ _ _ _ _ _
   | exact reedsol_open_1.mono _ _ _ _
   | exact LeO.refl _
   | exact LeO.none _
   | refine LeO.ite ?_ ?_
   | refine LeO.bind ?_ (fun _ => ?_)
def reedsol_code_product.T9 : Bool × List (List Nat × List Nat) := (true,[([],[]),([],[]),([],[]),([1,2],[1,2]),([0,3],[0,3]),([4],[4]),([],[]),([6],[6]),([7],[7]),([8],[8]),([],[]),([],[]),([9,10,11],[9,10,11]),([5,12],[5,12]),([0,3,0,1,2,3,4,5,6,7,8,9,10,11,12,13],[0,3]),([14,13,12,0,1,2,3,4,5,6,7,8,9,10,11,12,13],[13,14])])
def reedsol_code_product.B9 : List Nat := [0,0,0,6,15,31,0,64,192,448,0,0,4032,8191,16383,32767]
theorem reedsol_code_product.tab9 : rtab .any (opsOf Try.f54 9) = reedsol_code_product.T9 := by kernel_rfl
theorem reedsol_code_product.bits9 : waitsOk reedsol_code_product.T9.2 reedsol_code_product.B9 = true := by kernel_rfl
set_option maxHeartbeats 8000000 in
set_option maxRecDepth 100000 in
theorem reedsol_code_product.calls (k : Nat) (A0 : Option Addr) (a0 : RCode) (A1 : Option Addr) (c1 : Nat) (l1 : List Int) (A2 : Option Addr) (c2 : Nat) (l2 : List Int) (a3 : Int) (r : List Int) (w : World) (hr0 : rs_OK w A0 a0) (hr1 : Kd.C (Kd.int .u8) w A1 l1.length l1) (hc1 : l1.length ≤ c1) (hr2 : Kd.C (Kd.int .u8) w A2 l2.length l2) (hc2 : l2.length ≤ c2) (h : reedsol_code_product.f k a0 l1 l2 a3 = some r) :
  Calls Try.prog 54 #[.pointer A0,.slice A1 l1.length c1,.slice A2 l2.length c2,.int .i64 a3] w fun e w' => ∃ v0_ : Value,e = .returned (v0_) ∧ Kd.R (Kd.int .u8) 5 w' w.heap.size (fun _ => True) v0_ r ∧ Below w.heap.size w w' := by
 have HR0 := Aside0.mk hr0
 clear hr0
 have HR1 := Aside0.mk hr1
 have HC1 := Aside0.mk hc1
 clear hr1 hc1
 have HR2 := Aside0.mk hr2
 have HC2 := Aside0.mk hc2
 clear hr2 hc2
 have HB := aK (Below.refl w.heap.size w)
 have H : (if 0 ≤ (mn a3 (mx 0 (wrap64 ((wrap64 ((l1.length : Int) + (l2.length : Int))) - 1)))) then (if (mn a3 (mx 0 (wrap64 ((wrap64 ((l1.length : Int) + (l2.length : Int))) - 1))) : Int).toNat ≤ 281474976710656 then (reedsol_code_product.l0 k a0 l2 (List.replicate (mn a3 (mx 0 (wrap64 ((wrap64 ((l1.length : Int) + (l2.length : Int))) - 1))) : Int).toNat 0) l1 (l1.length : Int) 0) else (none)) else (none)) = some r := h
 clear h
 obtain ⟨ji5,hji5⟩ : ∃ j_ : Int,(mx 0 (wrap64 ((wrap64 ((l1.length : Int) + (l2.length : Int))) - 1))) = j_ := ⟨_,rfl⟩
 first | rw [hji5] at H | simp only [hji5] at H
 (try (have hji5l : 0 ≤ ji5 := by (rw [← hji5]; unfold mx; (repeat' split) <;> omega)))
 (try (have hji5m : 0 ≤ ji5 := by omega))
 have hji5_ : (if 0 < (wrap64 ((wrap64 ((l1.length : Int) + (l2.length : Int))) - 1)) then (wrap64 ((wrap64 ((l1.length : Int) + (l2.length : Int))) - 1)) else 0) = ji5 := hji5
 obtain ⟨ji6,hji6⟩ : ∃ j_ : Int,(mn a3 (ji5)) = j_ := ⟨_,rfl⟩
 first | rw [hji6] at H | simp only [hji6] at H
 have hji6_ : (if (ji5) < a3 then (ji5) else a3) = ji6 := hji6
 by_cases c7 : 0 ≤ (ji6)
 rotate_left
 ·rw [if_neg c7] at H
  exact absurd H (by simp)

 rw [if_pos c7] at H
 have c7b0 := eq_true c7
 have c7b1 : decide (0 ≤ (ji6)) = true := decide_eq_true c7
 clear c7
 by_cases c8 : (ji6 : Int).toNat ≤ 281474976710656
 rotate_left
 ·rw [if_neg c8] at H
  exact absurd H (by simp)
 rw [if_pos c8] at H
 have c8b0 := eq_true c8
 have c8b1 : decide ((ji6 : Int).toNat ≤ 281474976710656) = true := decide_eq_true c8
 clear c8
 obtain ⟨y265,hy265⟩ : ∃ y_ : List Int,y_ = (List.replicate (ji6 : Int).toNat 0) := ⟨_,rfl⟩
 replace H : (reedsol_code_product.l0 k a0 l2 y265 l1 (l1.length : Int) 0) = some r := by rw [hy265]; exact H
 have Ny265 := Aside0.mk hy265
 clear hy265
 have H' := Aside0.mk H
 clear H
 go_enter Try.func54,Try.ntmps54
 go_wp2_with (first | ((with_reducible refine gate_dst (N := 23) rfl ?_); refine Kd.R_make (Kd.int .u8) _ 5 rfl (N := 23) rfl 27 _ _ rfl ji6 rfl rfl Try.underlying27 (.int .u8 0) 1 info5 rfl (by decide) (by omega) 0 (ok := fun _ => True) (okp := fun _ => True) rfl (fun _ hk => hk) trivial oD (Nat.le_trans (Nat.mul_le_mul_right _ (oD : ji6.toNat ≤ 281474976710656)) (by omega)) (Below.refl _ _) (Nat.le_refl _) ?_; intro v266 w9 ho10 hb hg_ hnew_; clear hg_ hnew_; (first | rw [← Ny265.out] at ho10 | (simp only [Int.reduceToNat] at ho10; rw [← Ny265.out] at ho10)); have HO267 := aK (Kd.R_lower ho10 (below_size (mvh HB.out))); replace HB := aK (below_step (mvh HB.out) hb); clear hb ho10))
 go_loopg [26] k (fun kq v26 w' => ∃ (x9_1 : List Int) (x26_1 : Int),v26 = .int .i64 x26_1 ∧ Aside0 (reedsol_code_product.l0 kq a0 l2 x9_1 l1 (l1.length : Int) x26_1 = some r) ∧ Aside0 (kq ≤ k) ∧ Aside0 (Kd.R (Kd.int .u8) 5 w' w.heap.size (fun _ => True) v266 x9_1) ∧ Aside0 (Below w.heap.size w w'))
 case atStart => exact ⟨(y265),(0),(by first | rfl | (simp; done) | (simp [*]; done) | (simp [wrap64]; done)),H',⟨Nat.le_refl _⟩,⟨mvR HO267.out⟩,⟨mvh HB.out⟩⟩
 case round =>
  clear H'
  (try clear c1); (try clear c2); (try clear p2); (try clear c5); (try clear p6); (try clear c7); (try clear c7b0); (try clear c7b1); (try clear c8); (try clear c8b0); (try clear c8b1)
  obtain ⟨x9_1,x26_1,rfl,HA,HK1,HO_9,HB⟩ := hrel
  cases gk with
  | zero => exact absurd HA.out (by simp [reedsol_code_product.l0])
  | succ k1 =>
   have H := HA.out
   clear HA
   simp only [reedsol_code_product.l0] at H
   by_cases c11 : x26_1 < (l1.length : Int)
   rotate_left
   ·rw [if_neg c11] at H
    have c11b0 : decide (x26_1 < (l1.length : Int)) = false := decide_eq_false c11
    clear c11
    obtain rfl := Option.some.inj H
    go_wp2
    go_ret
    exact ⟨_,by first | rfl | (simp [errW_none,errW_some] <;> rfl) | (simp only [← hji5,← hji6]; first | rfl | (simp [errW_none,errW_some] <;> rfl)) | (simp [*,errW_none,errW_some] <;> rfl),by (with_reducible repeat (first | apply Kd.R_alloc | apply Kd.R_drewN | apply Kd.R_drew)); exact HO_9.out,mvh HB.out⟩
   rw [if_pos c11] at H
   have c11b0 : decide (x26_1 < (l1.length : Int)) = true := decide_eq_true c11
   clear c11
   by_cases c12 : 0 ≤ x26_1
   rotate_left
   ·rw [if_neg c12] at H
    exact absurd H (by simp)
   rw [if_pos c12] at H
   have c12b0 : decide (0 ≤ x26_1) = true := decide_eq_true c12
   clear c12
   by_cases c13 : x26_1 < (l1.length : Int)
   rotate_left
   ·rw [if_neg c13] at H
    exact absurd H (by simp)
   rw [if_pos c13] at H
   have c13b0 : decide (x26_1 < (l1.length : Int)) = true := decide_eq_true c13
   clear c13
   have H' := Aside0.mk H
   clear H
   have p268 : 0 ≤ (x26_1 : Int) := oD
   have q268 : x26_1 < (l1.length : Int) := oD
   obtain ⟨ad268,e268,hx268_0⟩ := Kd.at_int HR1.out x26_1 p268 q268
   cases e268
   replace hx268_0 := (HB.out.cell (World.block_lt_of_cell? w _ hx268_0)).trans hx268_0
   replace p268 := eq_true p268
   replace q268 := eq_true q268
   go_wp2
   go_loopg [33] k1 (fun kq v33 w' => ∃ (x9_2 : List Int) (x33_2 : Int),v33 = .int .i64 x33_2 ∧ Aside0 (reedsol_code_product.l1 kq a0 l2 x9_2 x26_1 (rd l1 x26_1) l1 (l1.length : Int) x26_1 l2 (l2.length : Int) x33_2 = some r) ∧ Aside0 (kq ≤ k1) ∧ Aside0 (Kd.R (Kd.int .u8) 5 w' w.heap.size (fun _ => True) v266 x9_2) ∧ Aside0 (Below w.heap.size w w'))
   case atStart => exact ⟨(x9_1),(0),(by first | rfl | (simp; done) | (simp [*]; done) | (simp [wrap64]; done)),H',⟨Nat.le_refl _⟩,⟨mvR HO_9.out⟩,⟨mvh HB.out⟩⟩
   case round =>
    clear H'
    (try clear c1); (try clear c2); (try clear p2); (try clear q2); (try clear hx2); (try clear c5); (try clear p6); (try clear c7); (try clear c7b0); (try clear c7b1); (try clear c8); (try clear c8b0); (try clear c8b1); (try clear c11); (try clear c11b0); (try clear c12); (try clear c12b0); (try clear c13)
    (try clear c13b0); (try clear hx268_0); (try clear p2); (try clear p268); (try clear p6); (try clear q268)
    obtain ⟨x9_2,x33_2,rfl,HA,HK2,HO_9,HB⟩ := hrel
    cases gk with
    | zero => exact absurd HA.out (by simp [reedsol_code_product.l1])
    | succ k2 =>
     have H := HA.out
     clear HA
     simp only [reedsol_code_product.l1] at H
     by_cases c14 : x33_2 < (l2.length : Int)
     rotate_left
     ·rw [if_neg c14] at H
      have c14b0 : decide (x33_2 < (l2.length : Int)) = false := decide_eq_false c14
      clear c14
      have H' := Aside0.mk H
      clear H
      go_wp2
      go_roundg k2
      case measure => have := HK1.out; have := HK2.out; omega
      case rel => exact ⟨(x9_2),(wrap64 (x26_1 + 1)),(by first | rfl | (simp; done) | (simp [*]; done) | (simp [wrap64]; done)),H',⟨by have := HK1.out; have := HK2.out; omega⟩,⟨mvR HO_9.out⟩,⟨mvh HB.out⟩⟩
     rw [if_pos c14] at H
     have c14b0 : decide (x33_2 < (l2.length : Int)) = true := decide_eq_true c14
     clear c14
     by_cases c15 : 0 ≤ x33_2
     rotate_left
     ·rw [if_neg c15] at H
      exact absurd H (by simp)
     rw [if_pos c15] at H
     have c15b0 : decide (0 ≤ x33_2) = true := decide_eq_true c15
     clear c15
     by_cases c16 : x33_2 < (l2.length : Int)
     rotate_left
     ·rw [if_neg c16] at H
      exact absurd H (by simp)
     rw [if_pos c16] at H
     have c16b0 : decide (x33_2 < (l2.length : Int)) = true := decide_eq_true c16
     clear c16
     by_cases c17 : (wrap64 (x26_1 + x33_2)) < (x9_2.length : Int)
     rotate_left
     ·rw [if_neg c17] at H
      have c17b0 : decide ((wrap64 (x26_1 + x33_2)) < (x9_2.length : Int)) = false := decide_eq_false c17
      clear c17
      have H' := Aside0.mk H
      clear H
      have p269 : 0 ≤ (x33_2 : Int) := oD
      have q269 : x33_2 < (l2.length : Int) := oD
      obtain ⟨ad269,e269,hx269_0⟩ := Kd.at_int HR2.out x33_2 p269 q269
      cases e269
      replace hx269_0 := (HB.out.cell (World.block_lt_of_cell? w _ hx269_0)).trans hx269_0
      replace p269 := eq_true p269
      replace q269 := eq_true q269
      obtain ⟨Ao28,co28,eo28⟩ := Kd.R_slice HO_9.out
      subst eo28
      go_wp2
      go_roundg k2
      case measure => have := HK1.out; have := HK2.out; omega
      case rel => exact ⟨(x9_2),(wrap64 (x33_2 + 1)),(by first | rfl | (simp; done) | (simp [*]; done) | (simp [wrap64]; done)),H',⟨by have := HK1.out; have := HK2.out; omega⟩,⟨mvR HO_9.out⟩,⟨mvh HB.out⟩⟩
     rw [if_pos c17] at H
     have c17b0 : decide ((wrap64 (x26_1 + x33_2)) < (x9_2.length : Int)) = true := decide_eq_true c17
     clear c17
     obtain ⟨ji18,hji18⟩ : ∃ j_ : Int,(wrap64 (x26_1 + x33_2)) = j_ := ⟨_,rfl⟩
     first | rw [hji18] at H | simp only [hji18] at H
     (try rw [hji18] at c17b0)
     have hji18w : (IntKind.i64.wrap (x26_1 + x33_2)) = ji18 := (i64_w _).trans hji18
     by_cases c19 : 0 ≤ (ji18)
     rotate_left
     ·rw [if_neg c19] at H
      exact absurd H (by simp)
     rw [if_pos c19] at H
     have c19b0 : decide (0 ≤ (ji18)) = true := decide_eq_true c19
     clear c19
     by_cases c20 : 0 < a0.size
     rotate_left
     ·rw [if_neg c20] at H
      exact absurd H (by simp)
     rw [if_pos c20] at H
     obtain ⟨b_,p_,c_,d_,g_,rfl,hT_⟩ := rs_pos HR0.out c20
     have HT0 := Aside0.mk hT_
     clear hT_ c20
     replace H := Option.bind_eq_some_iff.mp H
     obtain ⟨t271,A220,H⟩ := H
     try dsimp only at H
     have A22 := Aside0.mk A220
     clear A220
     obtain ⟨y272,hy272⟩ : ∃ y_ : List Int,y_ = (x9_2.set ((ji18) : Int).toNat (Go.bits .xor .u8 (rd x9_2 (ji18)) t271)) := ⟨_,rfl⟩
     replace H : (reedsol_code_product.l1 k2 a0 l2 y272 x26_1 (rd l1 x26_1) l1 (l1.length : Int) x26_1 l2 (l2.length : Int) (wrap64 (x33_2 + 1))) = some r := by rw [hy272]; exact H
     have Ny272 := Aside0.mk hy272
     clear hy272
     have H' := Aside0.mk H
     clear H
     have p269 : 0 ≤ (x33_2 : Int) := oD
     have q269 : x33_2 < (l2.length : Int) := oD
     obtain ⟨ad269,e269,hx269_0⟩ := Kd.at_int HR2.out x33_2 p269 q269
     cases e269
     replace hx269_0 := (HB.out.cell (World.block_lt_of_cell? w _ hx269_0)).trans hx269_0
     replace p269 := eq_true p269
     replace q269 := eq_true q269
     obtain ⟨Ao24,co24,eo24⟩ := Kd.R_slice HO_9.out
     subst eo24
     try go_wp2
     have n0_ := aK (Kd.R_drew HO_9.out)
     have n1_ := aK (below_drew1 HB.out)
     clear HO_9 HB
     have HO_9 := n0_
     have HB := n1_
     clear n0_ n1_
     have p270 : 0 ≤ ((ji18) : Int) := oD
     have q270 : (ji18) < (x9_2.length : Int) := oD
     obtain ⟨ad270,e270,hx270_0⟩ := Kd.at_int (Kd.R_reads' HO_9.out).2.2 (ji18) p270 q270
     cases e270
     replace p270 := eq_true p270
     replace q270 := eq_true q270
     have ho21 := rs_At_mul HT0.out
     have hx21 := (HB.out.cell (World.block_lt_of_cell? w _ ho21)).trans ho21
     refine start_ (n := 16) (S := fun w' => w'.cell? (ad270.add ((ji18)).toNat) = some (.int .u8 (rd x9_2 (ji18))) ∧ w'.cell? ⟨b_,5,none⟩ = some (.func (.func 46) #[] #[.pointer (some ⟨p_,0,none⟩)])) (ds := [15]) (bts 16 0) (by kernel_rfl) rfl rfl ⟨hx270_0,((HB.out.cell (World.block_lt_of_cell? w _ ho21)).trans ho21)⟩ (fun hHeld => ?_); refine with_tabW reedsol_code_product.tab9 reedsol_code_product.bits9 (fun HT_ HW_ => ?_)
     generalize wr.drew = w25 at HO_9 HB hx270_0 hHeld ⊢
     refine pu_ 0 44 16 1 HT_.out ?_; refine pu_ 1 45 16 3 HT_.out ?_; refine pu_ 2 46 16 7 HT_.out ?_; refine pu_ 3 47 16 15 HT_.out ?_; refine pu_ 4 48 16 31 HT_.out ?_; refine pu_ 6 50 16 95 HT_.out ?_; refine pu_ 7 51 16 223 HT_.out ?_; refine pu_ 8 52 16 479 HT_.out ?_; refine pu_ 10 54 16 1503 HT_.out ?_; refine pu_ 11 55 16 3551 HT_.out ?_; refine ta_ 5 49 16 3583 rfl rfl HT_.out HW_.out hHeld (by rintro w' ⟨s0,s1⟩; go_simp; with_reducible rfl) ?_; refine ta_ 9 53 16 4095 rfl rfl HT_.out HW_.out hHeld (by rintro w' ⟨s0,s1⟩; go_simp; with_reducible rfl) ?_
     refine one_ (i := 12) (N := some 56) (bts 16 8191) rfl rfl (one_of HT_.out (by kernel_rfl)) (by decide) (fun K hK => ?_)
     refine goesF_ Try.func46 (by kernel_rfl) rfl #[.int .u8 (rd l1 x26_1),.int .u8 (rd l2 x33_2),.pointer (some ⟨p_,0,none⟩)] (by rfl) rfl rfl (by rfl) (by (try simp only [List.map_toArray,List.map_cons,List.map_nil]); first | done | rfl | (simp only [List.length_drop,List.length_take]; rfl) | (simp [Act.eval,IntKind.wrap_u8,IntKind.wrap_u32]; done)) ?_
     with_reducible refine (reedsol_open_1.calls k2 b_ p_ c_ d_ g_ a0 (rd l1 x26_1) (rd l2 x33_2) t271 _ ?side1 A22.out).mono ?_
     (case side1 => exact (rs_At_below HT0.out HB.out))
     rintro e w26 ⟨rfl,hb⟩
     have HS0_ := (hb.cell (World.block_lt_of_cell? _ _ (hHeld.1))).trans (hHeld.1)
     refine ⟨_,rfl,?_⟩
     have n0_ := aK (Kd.R_below (mvR HO_9.out) hb)
     have n1_ := aK (below_step (mvh HB.out) hb)
     clear HO_9 HB
     have HO_9 := n0_
     have HB := n1_
     clear n0_ n1_
     (try clear hb)
     have p23 : 0 ≤ ((ji18) : Int) := oD
     have q23 : ((ji18) : Int) < ((x9_2.length : Int) : Int) := oD
     obtain ⟨go23,co23,eo23,gb23,gl23,cl23,HG23⟩ := Kd.R_form HO_9.out (by omega)
     (first | cases eo23 | (injection eo23 with ea_ en_ ec_; (first | subst ea_ | (injection ea_ with ea_; subst ea_)); subst ec_; clear en_))
     have GB23 := Aside0.mk gb23
     have GG23 := Aside0.mk HG23
     clear gb23 gl23 HG23
     (first | simp only [add_plain] at hx270_0 | skip)
     obtain ⟨hx23_0,hf23_0⟩ := Kd.R_celln 0 HO_9.out ((ji18) : Int) p23 q23
     replace p23 := eq_true p23
     replace q23 := eq_true q23
     have HP27 := Kd.R_putn HO_9.out ((ji18) : Int) (Go.bits .xor .u8 (rd x9_2 (ji18)) t271)
     rw [← Ny272.out] at HP27
     have HQ27 := Aside0.mk HP27
     clear HP27
     refine hK.out _ _ ⟨HS0_,((HB.out.cell (World.block_lt_of_cell? w _ ho21)).trans ho21)⟩ (fun hHeld => ?_)
     clear hK K
     refine norm_ (a' := ?_) ?_ ?_
     rotate_left
     ·show Act.put _ (some 56) _ = _
      simp only [Act.put,List.setIfInBounds_toArray,List.set_cons_zero,List.set_cons_succ,i64_w,i32_w]
      rfl
     refine pu_ 13 57 16 16383 HT_.out ?_; refine pu_ 14 58 16 32767 HT_.out ?_
     refine last_ (i := 15) (N := none) (bts 16 65535) rfl rfl (one_of HT_.out (by kernel_rfl)) (by decide) (fun K hK => ?_)
     refine skip_ (w1 := ?_) (by rfl) rfl ?_ ?_
     rotate_left
     ·go_simp
      rfl
     refine hK.out _ _ ?_
     clear hK K
     refine done_ (done_of HT_.out (by kernel_rfl)) ?_
     try go_wp2
     go_roundg k2
     case measure => have := HK1.out; have := HK2.out; omega
     case rel => exact ⟨(y272),(wrap64 (x33_2 + 1)),(by first | rfl | (simp; done) | (simp [*]; done) | (simp [wrap64]; done)),H',⟨by have := HK1.out; have := HK2.out; omega⟩,⟨mvR HQ27.out⟩,⟨by repeat (first | (with_reducible first | exact HB.out | apply below_alloc | apply pw_below_drewN | apply below_drew1 | refine below_set ?_ GB23.out) | exact HB.out)⟩⟩
end Go.Proofs.Ytpgecdidddoglaa.P

