-- written by mk.sh, a program of this session, over the kit's print
import Derived.Test.YtpgecdidddoglaaRbQAux
import Derived.Test.YtpgecdidddoglaaRbPx0
import Derived.Test.YtpgecdidddoglaaRbPx3
import Derived.Test.YtpgecdidddoglaaRbPx9
import Derived.Test.YtpgecdidddoglaaRbPx16
import Derived.Test.YtpgecdidddoglaaRbPx60
namespace Go.Proofs.Ytpgecdidddoglaa.P
open Go.RowKit Go.Proofs.YtpgecdidddoglaaW.PrintWords Go.Proofs.YtpgecdidddoglaaW.PrintLast Go.Proofs.YtpgecdidddoglaaW.PrintMore
attribute [local go_sem] max2_int min2_int max_two min_two max_three min_three max_four min_four   -- for this text's walks alone
set_option linter.unusedVariables false
set_option linter.unusedSimpArgs false

def reedsol_apart.l0 : Nat → List Int → Int → List Int → Int → Option (List Int)
 | 0,_,_,_,_ => none
 | k + 1,x0,x2,x7,x8 => if x8 < (x0.length : Int) then (if 0 ≤ x8 then (if x7.length < 140737488355328 then (reedsol_apart.l0 k x0 x2 (x7 ++ [rd x0 x8]) (wrap64 (x8 + x2))) else (none)) else (none)) else (some x7)
def reedsol_apart.f (k : Nat) (l0 : List Int) (a1 : Int) (a2 : Int) : Option (List Int) := reedsol_apart.l0 k l0 a2 ([] : List Int) a1
theorem reedsol_apart.mono_l : ∀ k,(∀ y0 y1 y2 y3,LeO (reedsol_apart.l0 k y0 y1 y2 y3) (reedsol_apart.l0 (k + 1) y0 y1 y2 y3))
 | 0 => fun _ _ _ _ r h => by simp [reedsol_apart.l0] at h
 | k + 1 => by
  have ih0 := reedsol_apart.mono_l k
  ·intro y0 y1 y2 y3
   unfold reedsol_apart.l0
   repeat' with_reducible first
   | exact ih0 _ _ _ _
   | exact LeO.refl _
   | exact LeO.none _
   | refine LeO.ite ?_ ?_
   | refine LeO.bind ?_ (fun _ => ?_)
theorem reedsol_apart.mono : ∀ a0 a1 a2 k,LeO (reedsol_apart.f k a0 a1 a2) (reedsol_apart.f (k + 1) a0 a1 a2) := by
 intro a0 a1 a2 k
 have ih0 := reedsol_apart.mono_l k
 unfold reedsol_apart.f
 repeat' with_reducible first
   | exact ih0 _ _ _ _
   | exact LeO.refl _
   | exact LeO.none _
   | refine LeO.ite ?_ ?_
   | refine LeO.bind ?_ (fun _ => ?_)
set_option maxHeartbeats 8000000 in
set_option maxRecDepth 100000 in
theorem reedsol_apart.calls (k : Nat) (A0 : Option Addr) (c0 : Nat) (l0 : List Int) (a1 : Int) (a2 : Int) (r : List Int) (w : World) (hr0 : Kd.C (Kd.int .u8) w A0 l0.length l0) (hc0 : l0.length ≤ c0) (h : reedsol_apart.f k l0 a1 a2 = some r) :
  Calls Try.prog 32 #[.slice A0 l0.length c0,.int .i64 a1,.int .i64 a2] w fun e w' => ∃ v0_ : Value,e = .returned (v0_) ∧ Kd.R (Kd.int .u8) 5 w' w.heap.size (fun _ => True) v0_ r ∧ Below w.heap.size w w' := by
 have HR0 := Aside0.mk hr0
 have HC0 := Aside0.mk hc0
 clear hr0 hc0
 have HB := aK (Below.refl w.heap.size w)
 have H : (reedsol_apart.l0 k l0 a2 ([] : List Int) a1) = some r := h
 clear h
 have H' := Aside0.mk H
 clear H
 go_enter Try.func32,Try.ntmps32
 go_wp2
 go_loopg [7,8] k (fun kq v7 v8 w' => ∃ (x7_1 : List Int) (x8_1 : Int),v8 = .int .i64 x8_1 ∧ Aside0 (reedsol_apart.l0 kq l0 a2 x7_1 x8_1 = some r) ∧ Aside0 (kq ≤ k) ∧ Aside0 (Kd.R (Kd.int .u8) 5 w' w.heap.size (fun _ => True) v7 x7_1) ∧ Aside0 (Below w.heap.size w w'))
 case atStart => exact ⟨(([] : List Int)),(a1),(by first | rfl | (simp; done) | (simp [*]; done) | (simp [wrap64]; done)),H',⟨Nat.le_refl _⟩,⟨by first | exact Kd.R_nil _ _ _ _ _ | exact Kd.N_nil _ _ _ _ _ | exact Kd.V_nil _ _ _ _ _ | exact Kd.Q_nil _ _ _ _ _ | exact Kd.S_nil _ _ _ _ _⟩,⟨mvh HB.out⟩⟩
 case round =>
  clear H'
  (try clear p2); (try clear c3)
  obtain ⟨x7_1,x8_1,rfl,HA,HK1,HO_7,HB⟩ := hrel
  cases gk with
  | zero => exact absurd HA.out (by simp [reedsol_apart.l0])
  | succ k1 =>
   have H := HA.out
   clear HA
   simp only [reedsol_apart.l0] at H
   by_cases c4 : x8_1 < (l0.length : Int)
   rotate_left
   ·rw [if_neg c4] at H
    have c4b0 : decide (x8_1 < (l0.length : Int)) = false := decide_eq_false c4
    clear c4
    obtain rfl := Option.some.inj H
    go_wp2
    go_ret
    exact ⟨_,by first | rfl | (simp [errW_none,errW_some] <;> rfl) | (simp [*,errW_none,errW_some] <;> rfl),by (with_reducible repeat (first | apply Kd.R_alloc | apply Kd.R_drewN | apply Kd.R_drew)); exact HO_7.out,mvh HB.out⟩


   rw [if_pos c4] at H
   have c4b0 : decide (x8_1 < (l0.length : Int)) = true := decide_eq_true c4
   clear c4
   by_cases c5 : 0 ≤ x8_1
   rotate_left
   ·rw [if_neg c5] at H
    exact absurd H (by simp)
   rw [if_pos c5] at H
   have c5b0 : decide (0 ≤ x8_1) = true := decide_eq_true c5
   clear c5
   by_cases c6 : x7_1.length < 140737488355328
   rotate_left
   ·rw [if_neg c6] at H
    exact absurd H (by simp)
   rw [if_pos c6] at H
   have LMc6 := Aside0.mk c6
   clear c6
   obtain ⟨y465,hy465⟩ : ∃ y_ : List Int,y_ = (x7_1 ++ [rd l0 x8_1]) := ⟨_,rfl⟩
   replace H : (reedsol_apart.l0 k1 l0 a2 y465 (wrap64 (x8_1 + a2))) = some r := by rw [hy465]; exact H
   have Ny465 := Aside0.mk hy465
   clear hy465
   have H' := Aside0.mk H
   clear H
   have p464 : 0 ≤ (x8_1 : Int) := oD
   have q464 : x8_1 < (l0.length : Int) := oD
   obtain ⟨ad464,e464,hx464_0⟩ := Kd.at_int HR0.out x8_1 p464 q464
   cases e464
   replace hx464_0 := (HB.out.cell (World.block_lt_of_cell? w _ hx464_0)).trans hx464_0
   replace p464 := eq_true p464
   replace q464 := eq_true q464
   go_wp2_with (first | ((with_reducible refine gate_builtin (b := .append) (xs := #[.tmp 17,.tmp 22]) rfl ?_); at_builtin; refine Kd.R_append (Kd.int .u8) (w0 := w) w.heap.size rfl (.tmp 17) (.tmp 22) 27 5 (.int .u8 0) 1 rfl Try.underlying27 info5 rfl (by decide) (by omega) u7 x7_1 (rd l0 x8_1) [.int .u8 (rd l0 x8_1)] (fun _ => True) (fun _ => False) rfl rfl ?aP (fun _ hk => hk.elim) ?aF ?aO ?aB ?aS ?aL ?_; (case aP => exact rfl); (case aB => exact (mvh HB.out)); (case aF => exact (fun _ _ => trivial)); (case aO => exact (mvR HO_7.out)); (case aS => exact (below_size (mvh HB.out))); (case aL => have := LMc6.out; omega); intro v466 w7 ho hb hg hat; rw [← Ny465.out] at ho; replace HB := aK (hb); have HO467 := aK (ho); clear HO_7; clear ho hb hg hat))
   go_roundg k1
   case measure => have := HK1.out; omega
   case rel => exact ⟨(y465),(wrap64 (x8_1 + a2)),(by first | rfl | (simp; done) | (simp [*]; done) | (simp [wrap64]; done)),H',⟨by have := HK1.out; omega⟩,⟨mvR HO467.out⟩,⟨mvh HB.out⟩⟩
mutual
def reedsol_together.l0 : Nat → List (List Int) → List Int → Int → Int → Option (List Int)
 | 0,_,_,_,_ => none
 | k + 1,x0,x3,x10,x11 => if x11 < x10 then (reedsol_together.l1 k x0 x3 x11 x10 x11 x0 (x0.length : Int) 0) else (some x3)
def reedsol_together.l1 : Nat → List (List Int) → List Int → Int → Int → Int → List (List Int) → Int → Int → Option (List Int)
 | 0,_,_,_,_,_,_,_,_ => none
 | k + 1,x0,x3,x4,x10,x11,x14,x15,x16 => if x16 < x15 then (if 0 ≤ x16 then (if x16 < (x14.length : Int) then (if 0 ≤ x4 then (if x4 < ((rd_L4 x14 x16).length : Int) then (if x3.length < 140737488355328 then (reedsol_together.l1 k x0 (x3 ++ [rd (rd_L4 x14 x16) x4]) x4 x10 x11 x14 x15 (wrap64 (x16 + 1))) else (none)) else (none)) else (none)) else (none)) else (none)) else (reedsol_together.l0 k x0 x3 x10 (wrap64 (x11 + 1)))
end
def reedsol_together.f (k : Nat) (l0 : List (List Int)) : Option (List Int) := if 0 < (l0.length : Int) then (reedsol_together.l0 k l0 ([] : List Int) ((rd_L4 l0 0).length : Int) 0) else (none)
theorem reedsol_together.mono_l : ∀ k,(∀ y0 y1 y2 y3,LeO (reedsol_together.l0 k y0 y1 y2 y3) (reedsol_together.l0 (k + 1) y0 y1 y2 y3)) ∧ (∀ y0 y1 y2 y3 y4 y5 y6 y7,LeO (reedsol_together.l1 k y0 y1 y2 y3 y4 y5 y6 y7) (reedsol_together.l1 (k + 1) y0 y1 y2 y3 y4 y5 y6 y7))
 | 0 => ⟨fun _ _ _ _ r h => by simp [reedsol_together.l0] at h,fun _ _ _ _ _ _ _ _ r h => by simp [reedsol_together.l1] at h⟩
 | k + 1 => by
  obtain ⟨ih0,ih1⟩ := reedsol_together.mono_l k
  refine ⟨?_,?_⟩
  ·intro y0 y1 y2 y3
   unfold reedsol_together.l0
   repeat' with_reducible first
   | exact ih0 _ _ _ _
   | exact ih1 _ _ _ _ _ _ _ _
   | exact LeO.refl _
   | exact LeO.none _
   | refine LeO.ite ?_ ?_
   | refine LeO.bind ?_ (fun _ => ?_)
  ·intro y0 y1 y2 y3 y4 y5 y6 y7
   unfold reedsol_together.l1
   repeat' with_reducible first
   | exact ih0 _ _ _ _
   | exact ih1 _ _ _ _ _ _ _ _
   | exact LeO.refl _
   | exact LeO.none _
   | refine LeO.ite ?_ ?_
   | refine LeO.bind ?_ (fun _ => ?_)
theorem reedsol_together.mono : ∀ a0 k,LeO (reedsol_together.f k a0) (reedsol_together.f (k + 1) a0) := by
 intro a0 k
 obtain ⟨ih0,ih1⟩ := reedsol_together.mono_l k
 unfold reedsol_together.f
 repeat' with_reducible first
   | exact ih0 _ _ _ _
   | exact ih1 _ _ _ _ _ _ _ _
   | exact LeO.refl _
   | exact LeO.none _
   | refine LeO.ite ?_ ?_
   | refine LeO.bind ?_ (fun _ => ?_)
set_option maxHeartbeats 8000000 in
set_option maxRecDepth 100000 in
theorem reedsol_together.calls (k : Nat) (A0 : Option Addr) (c0 : Nat) (l0 : List (List Int)) (r : List Int) (w : World) (hr0 : Kd.C (Kd.slice 5 (Kd.int .u8)) w A0 l0.length l0) (hc0 : l0.length ≤ c0) (h : reedsol_together.f k l0 = some r) :
  Calls Try.prog 33 #[.slice A0 l0.length c0] w fun e w' => ∃ v0_ : Value,e = .returned (v0_) ∧ Kd.R (Kd.int .u8) 5 w' w.heap.size (fun _ => True) v0_ r ∧ Below w.heap.size w w' := by
 have HR0 := Aside0.mk hr0
 have HC0 := Aside0.mk hc0
 clear hr0 hc0
 have HB := aK (Below.refl w.heap.size w)
 have H : (if 0 < (l0.length : Int) then (reedsol_together.l0 k l0 ([] : List Int) ((rd_L4 l0 0).length : Int) 0) else (none)) = some r := h
 clear h
 by_cases c2 : 0 < (l0.length : Int)
 rotate_left
 ·rw [if_neg c2] at H
  exact absurd H (by simp)


 rw [if_pos c2] at H
 have c2b0 : decide (0 < (l0.length : Int)) = true := decide_eq_true c2
 have c2b1 : decide (0 < l0.length) = true := decide_eq_true (by omega)
 clear c2
 have H' := Aside0.mk H
 clear H
 have p468 : 0 ≤ (0 : Int) := (by omega)
 have q468 : 0 < (l0.length : Int) := oD
 obtain ⟨ad468,A468_0,c468_0,e468,hx468_0,hl468_0,hi468_0⟩ := at_L4 HR0.out 0 p468 q468
 cases e468
 have qi468 : (0 < l0.length) = True := eq_true (by omega)
 (try rw [show ((0 : Int)).toNat = 0 from rfl] at hx468_0)
 (try rw [Addr.add_zero'] at hx468_0)
 have HR468_0 := Aside0.mk hi468_0
 have HC468_0 := Aside0.mk hl468_0
 clear hi468_0 hl468_0
 replace p468 := eq_true p468
 replace q468 := eq_true q468
 go_enter Try.func33,Try.ntmps33
 go_wp2
 go_loopg [3,11] k (fun kq v3 v11 w' => ∃ (x3_1 : List Int) (x11_1 : Int),v11 = .int .i64 x11_1 ∧ Aside0 (reedsol_together.l0 kq l0 x3_1 ((rd_L4 l0 0).length : Int) x11_1 = some r) ∧ Aside0 (kq ≤ k) ∧ Aside0 (Kd.R (Kd.int .u8) 5 w' w.heap.size (fun _ => True) v3 x3_1) ∧ Aside0 (Below w.heap.size w w'))
 case atStart => exact ⟨(([] : List Int)),(0),(by first | rfl | (simp; done) | (simp [*]; done) | (simp [wrap64]; done)),H',⟨Nat.le_refl _⟩,⟨by first | exact Kd.R_nil _ _ _ _ _ | exact Kd.N_nil _ _ _ _ _ | exact Kd.V_nil _ _ _ _ _ | exact Kd.Q_nil _ _ _ _ _ | exact Kd.S_nil _ _ _ _ _⟩,⟨mvh HB.out⟩⟩
 case round =>
  clear H'
  (try clear c2); (try clear c2b0); (try clear c2b1); (try clear p2); (try clear hx468_0); (try clear p468); (try clear q468)
  obtain ⟨x3_1,x11_1,rfl,HA,HK1,HO_3,HB⟩ := hrel
  cases gk with
  | zero => exact absurd HA.out (by simp [reedsol_together.l0])
  | succ k1 =>
   have H := HA.out
   clear HA
   simp only [reedsol_together.l0] at H
   by_cases c3 : x11_1 < ((rd_L4 l0 0).length : Int)
   rotate_left
   ·rw [if_neg c3] at H
    have c3b0 : decide (x11_1 < ((rd_L4 l0 0).length : Int)) = false := decide_eq_false c3
    clear c3
    obtain rfl := Option.some.inj H
    go_wp2
    go_ret
    exact ⟨_,by first | rfl | (simp [errW_none,errW_some] <;> rfl) | (simp [*,errW_none,errW_some] <;> rfl),by (with_reducible repeat (first | apply Kd.R_alloc | apply Kd.R_drewN | apply Kd.R_drew)); exact HO_3.out,mvh HB.out⟩
   rw [if_pos c3] at H
   have c3b0 : decide (x11_1 < ((rd_L4 l0 0).length : Int)) = true := decide_eq_true c3
   clear c3
   have H' := Aside0.mk H
   clear H
   go_wp2
   go_loopg [3,16] k1 (fun kq v3 v16 w' => ∃ (x3_2 : List Int) (x16_2 : Int),v16 = .int .i64 x16_2 ∧ Aside0 (reedsol_together.l1 kq l0 x3_2 x11_1 ((rd_L4 l0 0).length : Int) x11_1 l0 (l0.length : Int) x16_2 = some r) ∧ Aside0 (kq ≤ k1) ∧ Aside0 (Kd.R (Kd.int .u8) 5 w' w.heap.size (fun _ => True) v3 x3_2) ∧ Aside0 (Below w.heap.size w w'))
   case atStart => exact ⟨(x3_1),(0),(by first | rfl | (simp; done) | (simp [*]; done) | (simp [wrap64]; done)),H',⟨Nat.le_refl _⟩,⟨mvR HO_3.out⟩,⟨mvh HB.out⟩⟩
   case round =>
    clear H'
    (try clear c2); (try clear c2b0); (try clear c2b1); (try clear p2); (try clear c3); (try clear c3b0); (try clear hx468_0); (try clear p2); (try clear p468); (try clear q468)
    obtain ⟨x3_2,x16_2,rfl,HA,HK2,HO_3,HB⟩ := hrel
    cases gk with
    | zero => exact absurd HA.out (by simp [reedsol_together.l1])
    | succ k2 =>
     have H := HA.out
     clear HA
     simp only [reedsol_together.l1] at H
     by_cases c4 : x16_2 < (l0.length : Int)
     rotate_left
     ·rw [if_neg c4] at H
      have c4b0 : decide (x16_2 < (l0.length : Int)) = false := decide_eq_false c4
      clear c4
      have H' := Aside0.mk H
      clear H
      go_wp2
      go_roundg k2
      case measure => have := HK1.out; have := HK2.out; omega
      case rel => exact ⟨(x3_2),(wrap64 (x11_1 + 1)),(by first | rfl | (simp; done) | (simp [*]; done) | (simp [wrap64]; done)),H',⟨by have := HK1.out; have := HK2.out; omega⟩,⟨mvR HO_3.out⟩,⟨mvh HB.out⟩⟩
     rw [if_pos c4] at H
     have c4b0 : decide (x16_2 < (l0.length : Int)) = true := decide_eq_true c4
     clear c4
     by_cases c5 : 0 ≤ x16_2
     rotate_left
     ·rw [if_neg c5] at H
      exact absurd H (by simp)
     rw [if_pos c5] at H
     have c5b0 : decide (0 ≤ x16_2) = true := decide_eq_true c5
     clear c5
     by_cases c6 : x16_2 < (l0.length : Int)
     rotate_left
     ·rw [if_neg c6] at H
      exact absurd H (by simp)
     rw [if_pos c6] at H
     have c6b0 : decide (x16_2 < (l0.length : Int)) = true := decide_eq_true c6
     clear c6
     by_cases c7 : 0 ≤ x11_1
     rotate_left
     ·rw [if_neg c7] at H
      exact absurd H (by simp)
     rw [if_pos c7] at H
     have c7b0 : decide (0 ≤ x11_1) = true := decide_eq_true c7
     clear c7
     by_cases c8 : x11_1 < ((rd_L4 l0 x16_2).length : Int)
     rotate_left
     ·rw [if_neg c8] at H
      exact absurd H (by simp)
     rw [if_pos c8] at H
     have c8b0 : decide (x11_1 < ((rd_L4 l0 x16_2).length : Int)) = true := decide_eq_true c8
     clear c8
     by_cases c9 : x3_2.length < 140737488355328
     rotate_left
     ·rw [if_neg c9] at H
      exact absurd H (by simp)
     rw [if_pos c9] at H
     have LMc9 := Aside0.mk c9
     clear c9
     obtain ⟨y471,hy471⟩ : ∃ y_ : List Int,y_ = (x3_2 ++ [rd (rd_L4 l0 x16_2) x11_1]) := ⟨_,rfl⟩
     replace H : (reedsol_together.l1 k2 l0 y471 x11_1 ((rd_L4 l0 0).length : Int) x11_1 l0 (l0.length : Int) (wrap64 (x16_2 + 1))) = some r := by rw [hy471]; exact H
     have Ny471 := Aside0.mk hy471
     clear hy471
     have H' := Aside0.mk H
     clear H
     have p469 : 0 ≤ (x16_2 : Int) := oD
     have q469 : x16_2 < (l0.length : Int) := oD
     obtain ⟨ad469,A469_0,c469_0,e469,hx469_0,hl469_0,hi469_0⟩ := at_L4 HR0.out x16_2 p469 q469
     obtain rfl : ad468 = ad469 := (by injection e469)
     replace hx469_0 := (HB.out.cell (World.block_lt_of_cell? w _ hx469_0)).trans hx469_0
     have HR469_0 := Aside0.mk hi469_0
     have HC469_0 := Aside0.mk hl469_0
     clear hi469_0 hl469_0
     replace p469 := eq_true p469
     replace q469 := eq_true q469
     have p470 : 0 ≤ (x11_1 : Int) := oD
     have q470 : x11_1 < ((rd_L4 l0 x16_2).length : Int) := oD
     obtain ⟨ad470,e470,hx470_0⟩ := Kd.at_int HR469_0.out x11_1 p470 q470
     cases e470
     replace hx470_0 := (HB.out.cell (World.block_lt_of_cell? w _ hx470_0)).trans hx470_0
     replace p470 := eq_true p470
     replace q470 := eq_true q470
     go_wp2_with (first | ((with_reducible refine gate_builtin (b := .append) (xs := #[.tmp 20,.tmp 25]) rfl ?_); at_builtin; refine Kd.R_append (Kd.int .u8) (w0 := w) w.heap.size rfl (.tmp 20) (.tmp 25) 27 5 (.int .u8 0) 1 rfl Try.underlying27 info5 rfl (by decide) (by omega) u3 x3_2 (rd (rd_L4 l0 x16_2) x11_1) [.int .u8 (rd (rd_L4 l0 x16_2) x11_1)] (fun _ => True) (fun _ => False) rfl rfl ?aP (fun _ hk => hk.elim) ?aF ?aO ?aB ?aS ?aL ?_; (case aP => exact rfl); (case aB => exact (mvh HB.out)); (case aF => exact (fun _ _ => trivial)); (case aO => exact (mvR HO_3.out)); (case aS => exact (below_size (mvh HB.out))); (case aL => have := LMc9.out; omega); intro v472 w10 ho hb hg hat; rw [← Ny471.out] at ho; replace HB := aK (hb); have HO473 := aK (ho); clear HO_3; clear ho hb hg hat))
     go_roundg k2
     case measure => have := HK1.out; have := HK2.out; omega
     case rel => exact ⟨(y471),(wrap64 (x16_2 + 1)),(by first | rfl | (simp; done) | (simp [*]; done) | (simp [wrap64]; done)),H',⟨by have := HK1.out; have := HK2.out; omega⟩,⟨mvR HO473.out⟩,⟨mvh HB.out⟩⟩
end Go.Proofs.Ytpgecdidddoglaa.P

