-- written by mk.sh, a program of this session, over the kit's print
import Derived.Test.YtpgecdidddoglaaRbPx0
namespace Go.Proofs.Ytpgecdidddoglaa.P
open Go.RowKit Go.Proofs.YtpgecdidddoglaaW.PrintWords Go.Proofs.YtpgecdidddoglaaW.PrintLast Go.Proofs.YtpgecdidddoglaaW.PrintMore
attribute [local go_sem] max2_int min2_int max_two min_two max_three min_three max_four min_four   -- for this text's walks alone
set_option linter.unusedVariables false
set_option linter.unusedSimpArgs false

mutual
def reedsol_places.l0 : Nat → Int → List Bool → Int → List Int → Int → Int → Option (List Bool × Int × Bool)
 | 0,_,_,_,_,_,_ => none
 | k + 1,x0,x7,x8,x13,x14,x15 => if x15 < x14 then (if 0 ≤ x15 then (if x15 < (x13.length : Int) then (if (rd x13 x15) < 0 then (reedsol_places.j1 k x0 x7 x8 (rd x13 x15) x13 x14 x15 true) else (reedsol_places.j1 k x0 x7 x8 (rd x13 x15) x13 x14 x15 (decide ((rd x13 x15) ≥ x0)))) else (none)) else (none)) else (some (x7,x8,true))
def reedsol_places.j1 : Nat → Int → List Bool → Int → Int → List Int → Int → Int → Bool → Option (List Bool × Int × Bool)
 | 0,_,_,_,_,_,_,_,_ => none
 | k + 1,x0,x7,x8,x10,x13,x14,x15,x25 => if x25 = true then (some (([] : List Bool),0,false)) else (if 0 ≤ x10 then (if x10 < (x7.length : Int) then (if rdOf false x7 x10 = true then (reedsol_places.l0 k x0 x7 x8 x13 x14 (wrap64 (x15 + 1))) else (reedsol_places.l0 k x0 (x7.set (x10 : Int).toNat true) (wrap64 (x8 + 1)) x13 x14 (wrap64 (x15 + 1)))) else (none)) else (none))
end
def reedsol_places.f (k : Nat) (a0 : Int) (l1 : List Int) : Option (List Bool × Int × Bool) := if 0 ≤ a0 then (if (a0 : Int).toNat ≤ 281474976710656 then (reedsol_places.l0 k a0 (List.replicate (a0 : Int).toNat false) 0 l1 (l1.length : Int) 0) else (none)) else (none)
theorem reedsol_places.mono_l : ∀ k,(∀ y0 y1 y2 y3 y4 y5,LeO (reedsol_places.l0 k y0 y1 y2 y3 y4 y5) (reedsol_places.l0 (k + 1) y0 y1 y2 y3 y4 y5)) ∧ (∀ y0 y1 y2 y3 y4 y5 y6 y7,LeO (reedsol_places.j1 k y0 y1 y2 y3 y4 y5 y6 y7) (reedsol_places.j1 (k + 1) y0 y1 y2 y3 y4 y5 y6 y7))
 | 0 => ⟨fun _ _ _ _ _ _ r h => by simp [reedsol_places.l0] at h,fun _ _ _ _ _ _ _ _ r h => by simp [reedsol_places.j1] at h⟩
 | k + 1 => by
  obtain ⟨ih0,ih1⟩ := reedsol_places.mono_l k
  refine ⟨?_,?_⟩
  ·intro y0 y1 y2 y3 y4 y5
   unfold reedsol_places.l0
   repeat' with_reducible first
   | exact ih0 _ _ _ _ _ _
   | exact ih1 _ _ _ _ _ _ _ _
   | exact LeO.refl _
   | exact LeO.none _
   | refine LeO.ite ?_ ?_
   | refine LeO.bind ?_ (fun _ => ?_)
  ·intro y0 y1 y2 y3 y4 y5 y6 y7
   unfold reedsol_places.j1
   repeat' with_reducible first
   | exact ih0 _ _ _ _ _ _
   | exact ih1 _ _ _ _ _ _ _ _
   | exact LeO.refl _
   | exact LeO.none _
   | refine LeO.ite ?_ ?_
   | refine LeO.bind ?_ (fun _ => ?_)
theorem reedsol_places.mono : ∀ a0 a1 k,LeO (reedsol_places.f k a0 a1) (reedsol_places.f (k + 1) a0 a1) := by
 intro a0 a1 k
 obtain ⟨ih0,ih1⟩ := reedsol_places.mono_l k
 unfold reedsol_places.f
 repeat' with_reducible first
   | exact ih0 _ _ _ _ _ _
   | exact ih1 _ _ _ _ _ _ _ _
   | exact LeO.refl _
   | exact LeO.none _
   | refine LeO.ite ?_ ?_
   | refine LeO.bind ?_ (fun _ => ?_)
set_option maxHeartbeats 8000000 in
set_option maxRecDepth 100000 in
theorem reedsol_places.calls (k : Nat) (a0 : Int) (A1 : Option Addr) (c1 : Nat) (l1 : List Int) (r1 : List Bool) (r2 : Int) (r3 : Bool) (w : World) (hr1 : Kd.C (Kd.int .i64) w A1 l1.length l1) (hc1 : l1.length ≤ c1) (h : reedsol_places.f k a0 l1 = some (r1,r2,r3)) :
  Calls Try.prog 30 #[.int .i64 a0,.slice A1 l1.length c1] w fun e w' => ∃ v0_ : Value,e = .returned (.tuple #[v0_,.int .i64 r2,.bool r3]) ∧ Kd.R Kd.bool 4 w' w.heap.size (fun _ => True) v0_ r1 ∧ Below w.heap.size w w' := by
 have HR1 := Aside0.mk hr1
 have HC1 := Aside0.mk hc1
 clear hr1 hc1
 have HB := aK (Below.refl w.heap.size w)
 have H : (if 0 ≤ a0 then (if (a0 : Int).toNat ≤ 281474976710656 then (reedsol_places.l0 k a0 (List.replicate (a0 : Int).toNat false) 0 l1 (l1.length : Int) 0) else (none)) else (none)) = some (r1,r2,r3) := h
 clear h
 by_cases c3 : 0 ≤ a0
 rotate_left
 ·rw [if_neg c3] at H
  exact absurd H (by simp)

 rw [if_pos c3] at H
 have c3b0 := eq_true c3
 have c3b1 : decide (0 ≤ a0) = true := decide_eq_true c3
 clear c3
 by_cases c4 : (a0 : Int).toNat ≤ 281474976710656
 rotate_left
 ·rw [if_neg c4] at H
  exact absurd H (by simp)
 rw [if_pos c4] at H
 have c4b0 := eq_true c4
 have c4b1 : decide ((a0 : Int).toNat ≤ 281474976710656) = true := decide_eq_true c4
 clear c4
 obtain ⟨y252,hy252⟩ : ∃ y_ : List Bool,y_ = (List.replicate (a0 : Int).toNat false) := ⟨_,rfl⟩
 replace H : (reedsol_places.l0 k a0 y252 0 l1 (l1.length : Int) 0) = some (r1,r2,r3) := by rw [hy252]; exact H
 have Ny252 := Aside0.mk hy252
 clear hy252
 have H' := Aside0.mk H
 clear H
 go_enter Try.func30,Try.ntmps30
 go_wp2_with (first | ((with_reducible refine gate_dst (N := 12) rfl ?_); refine Kd.R_make Kd.bool _ 4 rfl (N := 12) rfl 68 _ _ rfl a0 rfl rfl Try.underlying68 (.bool false) 1 info4 rfl (by decide) (by omega) false (ok := fun _ => True) (okp := fun _ => True) rfl (fun _ hk => hk) trivial oD (Nat.le_trans (Nat.mul_le_mul_right _ (oD : a0.toNat ≤ 281474976710656)) (by omega)) (Below.refl _ _) (Nat.le_refl _) ?_; intro v253 w5 ho6 hb hg_ hnew_; clear hg_ hnew_; (first | rw [← Ny252.out] at ho6 | (simp only [Int.reduceToNat] at ho6; rw [← Ny252.out] at ho6)); have HO254 := aK (Kd.R_lower ho6 (below_size (mvh HB.out))); replace HB := aK (below_step (mvh HB.out) hb); clear hb ho6))
 go_loopg [8,15] k (fun kq v8 v15 w' => ∃ (x7_1 : List Bool) (x8_1 : Int) (x15_1 : Int),v8 = .int .i64 x8_1 ∧ v15 = .int .i64 x15_1 ∧ Aside0 (reedsol_places.l0 kq a0 x7_1 x8_1 l1 (l1.length : Int) x15_1 = some (r1,r2,r3)) ∧ Aside0 (kq ≤ k) ∧ Aside0 (Kd.R Kd.bool 4 w' w.heap.size (fun _ => True) v253 x7_1) ∧ Aside0 (Below w.heap.size w w'))
 case atStart => exact ⟨(y252),(0),(0),(by first | rfl | (simp; done) | (simp [*]; done) | (simp [wrap64]; done)),(by first | rfl | (simp; done) | (simp [*]; done) | (simp [wrap64]; done)),H',⟨Nat.le_refl _⟩,⟨mvR HO254.out⟩,⟨mvh HB.out⟩⟩
 case round =>
  clear H'
  (try clear c1); (try clear p2); (try clear c3); (try clear c3b0); (try clear c3b1); (try clear c4); (try clear c4b0); (try clear c4b1); (try clear p6)
  obtain ⟨x7_1,x8_1,x15_1,rfl,rfl,HA,HK1,HO_7,HB⟩ := hrel
  cases gk with
  | zero => exact absurd HA.out (by simp [reedsol_places.l0])
  | succ k1 =>
   have H := HA.out
   clear HA
   simp only [reedsol_places.l0] at H
   by_cases c7 : x15_1 < (l1.length : Int)
   rotate_left
   ·rw [if_neg c7] at H
    have c7b0 : decide (x15_1 < (l1.length : Int)) = false := decide_eq_false c7
    clear c7
    simp only [Option.some.injEq,Prod.mk.injEq] at H
    obtain ⟨rfl,rfl,rfl⟩ := H
    go_wp2
    go_ret3
    exact ⟨_,by first | rfl | (simp [errW_none,errW_some] <;> rfl) | (simp [*,errW_none,errW_some] <;> rfl),by (with_reducible repeat (first | apply Kd.R_alloc | apply Kd.R_drewN | apply Kd.R_drew)); exact HO_7.out,mvh HB.out⟩
   rw [if_pos c7] at H
   have c7b0 : decide (x15_1 < (l1.length : Int)) = true := decide_eq_true c7
   clear c7
   by_cases c8 : 0 ≤ x15_1
   rotate_left
   ·rw [if_neg c8] at H
    exact absurd H (by simp)
   rw [if_pos c8] at H
   have c8b0 : decide (0 ≤ x15_1) = true := decide_eq_true c8
   clear c8
   by_cases c9 : x15_1 < (l1.length : Int)
   rotate_left
   ·rw [if_neg c9] at H
    exact absurd H (by simp)
   rw [if_pos c9] at H
   have c9b0 : decide (x15_1 < (l1.length : Int)) = true := decide_eq_true c9
   clear c9
   have HC10 := Aside0.mk H
   clear H
   have p255 : 0 ≤ (x15_1 : Int) := oD
   have q255 : x15_1 < (l1.length : Int) := oD
   obtain ⟨ad255,e255,hx255_0⟩ := Kd.at_int HR1.out x15_1 p255 q255
   cases e255
   replace hx255_0 := (HB.out.cell (World.block_lt_of_cell? w _ hx255_0)).trans hx255_0
   replace p255 := eq_true p255
   replace q255 := eq_true q255
   go_upto_region 6 with (fail)
   go_cut [25] (fun v25 wc => ∃ (kq : Nat) (x25_9 : Bool),v25 = .bool x25_9 ∧ Aside0 (reedsol_places.j1 kq a0 x7_1 x8_1 (rd l1 x15_1) l1 (l1.length : Int) x15_1 x25_9 = some (r1,r2,r3)) ∧ Aside0 (kq ≤ k1) ∧ Aside0 (Kd.R Kd.bool 4 wc w.heap.size (fun _ => True) v253 x7_1) ∧ Aside0 (Below w.heap.size w wc))
   case first =>
    have H := HC10.out
    clear HC10
    by_cases c11 : (rd l1 x15_1) < 0
    ·rw [if_pos c11] at H
     have c11b0 : decide ((rd l1 x15_1) < 0) = true := decide_eq_true c11
     clear c11
     (first | rw [c11b0] | (simp only [i64_w,i32_w]; rw [c11b0]) | rw [c11b1] | skip)
     have H' := Aside0.mk H
     clear H
     go_wp2
     go_meet
     case rel => exact ⟨_,(true),(by first | rfl | (simp; done) | (simp [*]; done) | (simp [wrap64]; done)),H',⟨by have := HK1.out; first | omega | exact Nat.le_refl _⟩,⟨mvR HO_7.out⟩,⟨mvh HB.out⟩⟩
    ·rw [if_neg c11] at H
     have c11b0 : decide ((rd l1 x15_1) < 0) = false := decide_eq_false c11
     clear c11
     (first | rw [c11b0] | (simp only [i64_w,i32_w]; rw [c11b0]) | rw [c11b1] | skip)
     have H' := Aside0.mk H
     clear H
     go_wp2
     go_meet
     case rel => exact ⟨_,(decide ((rd l1 x15_1) ≥ a0)),(by first | rfl | (simp; done) | (simp [*]; done) | (simp [wrap64]; done)),H',⟨by have := HK1.out; first | omega | exact Nat.le_refl _⟩,⟨mvR HO_7.out⟩,⟨mvh HB.out⟩⟩
   case rest =>
    clear HC10
    (try clear c1); (try clear p2); (try clear q2); (try clear hx2); (try clear c3); (try clear c3b0); (try clear c3b1); (try clear c4); (try clear c4b0); (try clear c4b1); (try clear p6); (try clear c7); (try clear c7b0); (try clear c8); (try clear c8b0); (try clear c9); (try clear c9b0); (try clear c11)
    (try clear c11b0); (try clear c11b1); (try clear hx255_0); (try clear p2); (try clear p255); (try clear p6); (try clear q255)
    obtain ⟨kq,x25_9,rfl,HA,HJ9,HO_7,HB⟩ := hcut
    cases kq with
    | zero => exact absurd HA.out (by simp [reedsol_places.j1])
    | succ kj9 =>
     have H := HA.out
     clear HA
     simp only [reedsol_places.j1] at H
     by_cases c12 : x25_9 = true
     ·subst c12
      have H1 : (some (([] : List Bool),0,false)) = some (r1,r2,r3) := by rw [if_pos rfl] at H; exact H
      clear H
      have H := H1
      clear H1
      simp only [Option.some.injEq,Prod.mk.injEq] at H
      obtain ⟨rfl,rfl,rfl⟩ := H
      go_wp2
      go_ret3
      exact ⟨_,by first | rfl | (simp [errW_none,errW_some] <;> rfl) | (simp [*,errW_none,errW_some] <;> rfl),by first | exact Kd.R_nil _ _ _ _ _ | exact Kd.N_nil _ _ _ _ _ | exact Kd.V_nil _ _ _ _ _ | exact Kd.Q_nil _ _ _ _ _ | exact Kd.S_nil _ _ _ _ _,mvh HB.out⟩
     ·replace c12 := Bool.eq_false_iff.mpr c12
      subst c12
      have H1 : (if 0 ≤ (rd l1 x15_1) then (if (rd l1 x15_1) < (x7_1.length : Int) then (if rdOf false x7_1 (rd l1 x15_1) = true then (reedsol_places.l0 kj9 a0 x7_1 x8_1 l1 (l1.length : Int) (wrap64 (x15_1 + 1))) else (reedsol_places.l0 kj9 a0 (x7_1.set ((rd l1 x15_1) : Int).toNat true) (wrap64 (x8_1 + 1)) l1 (l1.length : Int) (wrap64 (x15_1 + 1)))) else (none)) else (none)) = some (r1,r2,r3) := by rw [if_neg (show ¬ (false = true) by decide)] at H; exact H
      clear H
      have H := H1
      clear H1
      by_cases c13 : 0 ≤ (rd l1 x15_1)
      rotate_left
      ·rw [if_neg c13] at H
       exact absurd H (by simp)
      rw [if_pos c13] at H
      have c13b0 : decide (0 ≤ (rd l1 x15_1)) = true := decide_eq_true c13
      clear c13
      by_cases c14 : (rd l1 x15_1) < (x7_1.length : Int)
      rotate_left
      ·rw [if_neg c14] at H
       exact absurd H (by simp)
      rw [if_pos c14] at H
      have c14b0 : decide ((rd l1 x15_1) < (x7_1.length : Int)) = true := decide_eq_true c14
      clear c14
      obtain ⟨bq15,hbq15⟩ : ∃ b_ : Bool,b_ = (rdOf false x7_1 (rd l1 x15_1)) := ⟨_,rfl⟩
      replace H : (if bq15 = true then (reedsol_places.l0 kj9 a0 x7_1 x8_1 l1 (l1.length : Int) (wrap64 (x15_1 + 1))) else (reedsol_places.l0 kj9 a0 (x7_1.set ((rd l1 x15_1) : Int).toNat true) (wrap64 (x8_1 + 1)) l1 (l1.length : Int) (wrap64 (x15_1 + 1)))) = some (r1,r2,r3) := by rw [← hbq15] at H; exact H
      have Nbq15 := Aside0.mk hbq15
      clear hbq15
      by_cases c16 : bq15 = true
      ·subst c16
       have H1 : (reedsol_places.l0 kj9 a0 x7_1 x8_1 l1 (l1.length : Int) (wrap64 (x15_1 + 1))) = some (r1,r2,r3) := by rw [if_pos rfl] at H; exact H
       clear H
       have H := H1
       clear H1
       have H' := Aside0.mk H
       clear H
       obtain ⟨Ao17,co17,eo17⟩ := Kd.R_slice HO_7.out
       subst eo17
       have p256 : 0 ≤ ((rd l1 x15_1) : Int) := oD
       have q256 : (rd l1 x15_1) < (x7_1.length : Int) := oD
       obtain ⟨ad256,e256,hx256_0⟩ := Kd.at_bool (Kd.R_reads' HO_7.out).2.2 (rd l1 x15_1) p256 q256
       (try rw [← Nbq15.out] at hx256_0)
       cases e256
       replace p256 := eq_true p256
       replace q256 := eq_true q256
       go_wp2
       go_roundg kj9
       case measure => have := HK1.out; have := HJ9.out; omega
       case rel => exact ⟨(x7_1),(x8_1),(wrap64 (x15_1 + 1)),(by first | rfl | (simp; done) | (simp [*]; done) | (simp [wrap64]; done)),(by first | rfl | (simp; done) | (simp [*]; done) | (simp [wrap64]; done)),H',⟨by have := HK1.out; have := HJ9.out; omega⟩,⟨mvR HO_7.out⟩,⟨mvh HB.out⟩⟩
      ·replace c16 := Bool.eq_false_iff.mpr c16
       subst c16
       have H1 : (reedsol_places.l0 kj9 a0 (x7_1.set ((rd l1 x15_1) : Int).toNat true) (wrap64 (x8_1 + 1)) l1 (l1.length : Int) (wrap64 (x15_1 + 1))) = some (r1,r2,r3) := by rw [if_neg (show ¬ (false = true) by decide)] at H; exact H
       clear H
       have H := H1
       clear H1
       obtain ⟨y257,hy257⟩ : ∃ y_ : List Bool,y_ = (x7_1.set ((rd l1 x15_1) : Int).toNat true) := ⟨_,rfl⟩
       replace H : (reedsol_places.l0 kj9 a0 y257 (wrap64 (x8_1 + 1)) l1 (l1.length : Int) (wrap64 (x15_1 + 1))) = some (r1,r2,r3) := by rw [hy257]; exact H
       have Ny257 := Aside0.mk hy257
       clear hy257
       have H' := Aside0.mk H
       clear H
       obtain ⟨Ao19,co19,eo19⟩ := Kd.R_slice HO_7.out
       subst eo19
       have p256 : 0 ≤ ((rd l1 x15_1) : Int) := oD
       have q256 : (rd l1 x15_1) < (x7_1.length : Int) := oD
       obtain ⟨ad256,e256,hx256_0⟩ := Kd.at_bool (Kd.R_reads' HO_7.out).2.2 (rd l1 x15_1) p256 q256
       (try rw [← Nbq15.out] at hx256_0)
       cases e256
       replace p256 := eq_true p256
       replace q256 := eq_true q256
       have p18 : 0 ≤ ((rd l1 x15_1) : Int) := oD
       have q18 : ((rd l1 x15_1) : Int) < ((x7_1.length : Int) : Int) := oD
       obtain ⟨go18,co18,eo18,gb18,gl18,cl18,HG18⟩ := Kd.R_form HO_7.out (by omega)
       (first | cases eo18 | (injection eo18 with ea_ en_ ec_; (first | subst ea_ | (injection ea_ with ea_; subst ea_)); subst ec_; clear en_))
       have GB18 := Aside0.mk gb18
       have GG18 := Aside0.mk HG18
       clear gb18 gl18 HG18
       (first | simp only [add_plain] at hx256_0 | skip)
       obtain ⟨hx18_0,hf18_0⟩ := Kd.R_celln false HO_7.out ((rd l1 x15_1) : Int) p18 q18
       replace p18 := eq_true p18
       replace q18 := eq_true q18
       have HP20 := Kd.R_putg HO_7.out ((rd l1 x15_1) : Int) true
       go_wp2_with (first | ((with_reducible refine gate_store (t := 4) (p := 33) rfl ?_); refine store_event (t := 4) (p := 33) (v := ?vo_w21) (w1 := (wc.setCell ⟨go18,((rd l1 x15_1) : Int).toNat,none⟩ (.bool true))) ?hg ?ho ?hn ?hr ?_; (case ho => rfl); (case hg => rfl); (case hn => rfl); (case hr => first | (go_simp; done) | (go_simp; rfl)); intro w21 hw; have hg : wc.grownBy w21 (some go18) := (by rw [hw]; exact HP20.2); have hp_ : Kd.R Kd.bool 4 w21 w.heap.size (fun _ => True) (.slice (some ⟨go18,0,none⟩) x7_1.length co19) y257 := (by rw [hw,Ny257.out]; exact HP20.1); clear HP20; replace HO_7 := aK (hp_); replace HB := aK ((by rw [hw]; exact below_set (HB.out) GB18.out : Below w.heap.size w w21)); clear hg hw hp_))
       go_roundg kj9
       case measure => have := HK1.out; have := HJ9.out; omega
       case rel => exact ⟨(y257),(wrap64 (x8_1 + 1)),(wrap64 (x15_1 + 1)),(by first | rfl | (simp; done) | (simp [*]; done) | (simp [wrap64]; done)),(by first | rfl | (simp; done) | (simp [*]; done) | (simp [wrap64]; done)),H',⟨by have := HK1.out; have := HJ9.out; omega⟩,⟨mvR HO_7.out⟩,⟨mvh HB.out⟩⟩
end Go.Proofs.Ytpgecdidddoglaa.P

