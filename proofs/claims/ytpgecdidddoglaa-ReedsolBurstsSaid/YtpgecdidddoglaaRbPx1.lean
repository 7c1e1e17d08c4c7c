-- written by mk.sh, a program of this session, over the kit's print
import Derived.Test.YtpgecdidddoglaaRbPx0
namespace Go.Proofs.Ytpgecdidddoglaa.P
open Go.RowKit Go.Proofs.YtpgecdidddoglaaW.PrintWords Go.Proofs.YtpgecdidddoglaaW.PrintLast Go.Proofs.YtpgecdidddoglaaW.PrintMore
attribute [local go_sem] max2_int min2_int max_two min_two max_three min_three max_four min_four   -- for this text's walks alone
set_option linter.unusedVariables false
set_option linter.unusedSimpArgs false

def r2_Degree.l0 : Nat → Int → Int → Option (Int)
 | 0,_,_ => none
 | k + 1,x0,x3 => if x0 = 0 then (some x3) else (r2_Degree.l0 k (x0 / 2) (wrap64 (x3 + 1)))
def r2_Degree.f (k : Nat) (a0 : Int) : Option (Int) := r2_Degree.l0 k a0 (-1)
theorem r2_Degree.mono_l : ∀ k,(∀ y0 y1,LeO (r2_Degree.l0 k y0 y1) (r2_Degree.l0 (k + 1) y0 y1))
 | 0 => fun _ _ r h => by simp [r2_Degree.l0] at h
 | k + 1 => by
  have ih0 := r2_Degree.mono_l k
  ·intro y0 y1
   unfold r2_Degree.l0
   repeat' with_reducible first
   | exact ih0 _ _
   | exact LeO.refl _
   | exact LeO.none _
   | refine LeO.ite ?_ ?_
   | refine LeO.bind ?_ (fun _ => ?_)
theorem r2_Degree.mono : ∀ a0 k,LeO (r2_Degree.f k a0) (r2_Degree.f (k + 1) a0) := by
 intro a0 k
 have ih0 := r2_Degree.mono_l k
 unfold r2_Degree.f
 repeat' with_reducible first
   | exact ih0 _ _
   | exact LeO.refl _
   | exact LeO.none _
   | refine LeO.ite ?_ ?_
   | refine LeO.bind ?_ (fun _ => ?_)
set_option maxHeartbeats 8000000 in
set_option maxRecDepth 100000 in
theorem r2_Degree.calls (k : Nat) (a0 : Int) (r : Int) (w : World) (h : r2_Degree.f k a0 = some r) :
  Calls Try.prog 40 #[.int .u64 a0] w fun e w' => e = .returned (.int .i64 r) ∧ Drawn0 w w' := by
 have H : (r2_Degree.l0 k a0 (-1)) = some r := h
 clear h
 have H' := Aside0.mk H
 clear H
 go_enter Try.func40,Try.ntmps40
 go_wp2
 go_loopg [0,3] k (fun kq v0 v3 w' => ∃ (x0_1 : Int) (x3_1 : Int),v0 = .int .u64 x0_1 ∧ v3 = .int .i64 x3_1 ∧ Aside0 (r2_Degree.l0 kq x0_1 x3_1 = some r) ∧ Aside0 (kq ≤ k) ∧ Drawn0 w w')
 case atStart => exact ⟨(a0),((-1)),(by first | rfl | (simp; done) | (simp [*]; done) | (simp [wrap64]; done)),(by first | rfl | (simp; done) | (simp [*]; done) | (simp [wrap64]; done)),H',⟨Nat.le_refl _⟩,by repeat (first | exact Drawn0.refl _ | apply Drawn0.step)⟩
 case round =>
  clear H'
  obtain ⟨x0_1,x3_1,rfl,rfl,HA,HK1,⟨m1,rfl⟩⟩ := hrel
  cases gk with
  | zero => exact absurd HA.out (by simp [r2_Degree.l0])
  | succ k1 =>
   have H := HA.out
   clear HA
   simp only [r2_Degree.l0] at H
   by_cases c2 : x0_1 = 0
   ·rw [if_pos c2] at H
    have c2b0 : (x0_1 == 0) = true := beq_iff_eq.mpr c2
    have c2b1 : (x0_1 != 0) = false := bne_eq_false_iff_eq.mpr c2
    clear c2
    obtain rfl := Option.some.inj H
    go_wp2
    go_ret
    exact ⟨by first | rfl | (simp; done) | (simp [*]; done) | (simp [wrap64]; done),by repeat (first | exact Drawn0.refl _ | apply Drawn0.step)⟩
   ·rw [if_neg c2] at H
    have c2b0 : (x0_1 == 0) = false := beq_eq_false_iff_ne.mpr c2
    have c2b1 : (x0_1 != 0) = true := bne_iff_ne.mpr c2
    have H' := Aside0.mk H
    clear H
    go_wp2
    go_roundg k1
    case measure => have := HK1.out; omega
    case rel => exact ⟨(x0_1 / 2),(wrap64 (x3_1 + 1)),(by first | rfl | (simp; done) | (simp [*]; done) | (simp [wrap64]; done)),(by first | rfl | (simp; done) | (simp [*]; done) | (simp [wrap64]; done)),H',⟨by have := HK1.out; omega⟩,by repeat (first | exact Drawn0.refl _ | apply Drawn0.step)⟩

def r2_Bit.f (a0 : Int) (a1 : Int) : Option (Int) := if 0 ≤ (IntKind.u64.wrap (a1)) then (some (Go.bits .and .u64 (shr .u64 a0 (IntKind.u64.wrap (a1))) 1)) else (none)
set_option maxHeartbeats 8000000 in
set_option maxRecDepth 100000 in
theorem r2_Bit.calls (a0 : Int) (a1 : Int) (r : Int) (w : World) (h : r2_Bit.f a0 a1 = some r) :
  Calls Try.prog 65 #[.int .u64 a0,.int .i64 a1] w fun e w' => e = .returned (.int .u64 r) ∧ Drawn0 w w' := by
 have H : (if 0 ≤ (IntKind.u64.wrap (a1)) then (some (Go.bits .and .u64 (shr .u64 a0 (IntKind.u64.wrap (a1))) 1)) else (none)) = some r := h
 clear h
 obtain ⟨ji3,hji3⟩ : ∃ j_ : Int,(IntKind.u64.wrap (a1)) = j_ := ⟨_,rfl⟩
 first | rw [hji3] at H | simp only [hji3] at H
 by_cases c4 : 0 ≤ (ji3)
 rotate_left
 ·rw [if_neg c4] at H
  exact absurd H (by simp)


 rw [if_pos c4] at H
 have c4b0 := eq_true c4
 have c4b1 : decide (0 ≤ (ji3)) = true := decide_eq_true c4
 clear c4
 obtain ⟨ji5,hji5⟩ : ∃ j_ : Int,(shr .u64 a0 (ji3)) = j_ := ⟨_,rfl⟩
 first | rw [hji5] at H | simp only [hji5] at H
 have hji5_ : (a0 / 2 ^ min (ji3).toNat 64) = ji5 := hji5
 have hji5z : (ji3) ≤ 64 → (a0 / 2 ^ (ji3).toNat) = ji5 := shr_small hji5
 obtain rfl := Option.some.inj H
 go_enter Try.func65,Try.ntmps65
 go_wp2
 go_ret
 exact ⟨by first | rfl | (simp; done) | (simp only [← hji3,← hji5] <;> (first | rfl | simp)) | (simp [*]; done) | (simp [wrap64]; done),by repeat (first | exact Drawn0.refl _ | apply Drawn0.step)⟩
mutual
def r2_Whole.l0 : Nat → Int → Int → Int → Int → Int → Int → Int → Option (Int × Int)
 | 0,_,_,_,_,_,_,_ => none
 | k + 1,x0,x1,x2,x8,x9,x10,x11 => if x11 ≥ 0 then (if x11 ≥ 64 then ((r2_Bit.f x0 (wrap64 (x11 - 64))).bind fun t102 => (r2_Whole.j1 k x0 x1 x2 x8 x9 x10 x11 t102)) else ((r2_Bit.f x1 x11).bind fun t103 => (r2_Whole.j1 k x0 x1 x2 x8 x9 x10 x11 t103))) else (some (x8,x9))
def r2_Whole.j1 : Nat → Int → Int → Int → Int → Int → Int → Int → Int → Option (Int × Int)
 | 0,_,_,_,_,_,_,_,_ => none
 | k + 1,x0,x1,x2,x8,x9,x10,x11,x12 => if x10 = 0 then (r2_Whole.l0 k x0 x1 x2 (Go.bits .or .u64 (IntKind.u64.wrap (x8 * 2)) x12) x9 x10 (wrap64 (x11 - 1))) else ((r2_Bit.f (Go.bits .or .u64 (IntKind.u64.wrap (x9 * 2)) x12) x10).bind fun t104 => (if t104 = 1 then (r2_Whole.l0 k x0 x1 x2 (Go.bits .or .u64 (IntKind.u64.wrap (x8 * 2)) 1) (Go.bits .xor .u64 (Go.bits .or .u64 (IntKind.u64.wrap (x9 * 2)) x12) x2) x10 (wrap64 (x11 - 1))) else (r2_Whole.l0 k x0 x1 x2 (IntKind.u64.wrap (x8 * 2)) (Go.bits .or .u64 (IntKind.u64.wrap (x9 * 2)) x12) x10 (wrap64 (x11 - 1)))))
end
def r2_Whole.f (k : Nat) (a0 : Int) (a1 : Int) (a2 : Int) : Option (Int × Int) := (r2_Degree.f k a2).bind fun t101 => (r2_Whole.l0 k a0 a1 a2 0 0 t101 127)
theorem r2_Whole.mono_l : ∀ k,(∀ y0 y1 y2 y3 y4 y5 y6,LeO (r2_Whole.l0 k y0 y1 y2 y3 y4 y5 y6) (r2_Whole.l0 (k + 1) y0 y1 y2 y3 y4 y5 y6)) ∧ (∀ y0 y1 y2 y3 y4 y5 y6 y7,LeO (r2_Whole.j1 k y0 y1 y2 y3 y4 y5 y6 y7) (r2_Whole.j1 (k + 1) y0 y1 y2 y3 y4 y5 y6 y7))
 | 0 => ⟨fun _ _ _ _ _ _ _ r h => by simp [r2_Whole.l0] at h,fun _ _ _ _ _ _ _ _ r h => by simp [r2_Whole.j1] at h⟩
 | k + 1 => by
  obtain ⟨ih0,ih1⟩ := r2_Whole.mono_l k
  refine ⟨?_,?_⟩
  ·intro y0 y1 y2 y3 y4 y5 y6
   unfold r2_Whole.l0
   repeat' with_reducible first
   | exact ih0 _ _ _ _ _ _ _
   | exact ih1 _ _ _ _ _ _ _ _
   | exact r2_Degree.mono _ _
   | exact LeO.refl _
   | exact LeO.none _
   | refine LeO.ite ?_ ?_
   | refine LeO.bind ?_ (fun _ => ?_)
  ·intro y0 y1 y2 y3 y4 y5 y6 y7
   unfold r2_Whole.j1
   repeat' with_reducible first
   | exact ih0 _ _ _ _ _ _ _
   | exact ih1 _ _ _ _ _ _ _ _
   | exact r2_Degree.mono _ _
   | exact LeO.refl _
   | exact LeO.none _
   | refine LeO.ite ?_ ?_
   | refine LeO.bind ?_ (fun _ => ?_)
theorem r2_Whole.mono : ∀ a0 a1 a2 k,LeO (r2_Whole.f k a0 a1 a2) (r2_Whole.f (k + 1) a0 a1 a2) := by
 intro a0 a1 a2 k
 obtain ⟨ih0,ih1⟩ := r2_Whole.mono_l k
 unfold r2_Whole.f
 repeat' with_reducible first
   | exact ih0 _ _ _ _ _ _ _
   | exact ih1 _ _ _ _ _ _ _ _
   | exact r2_Degree.mono _ _
   | exact LeO.refl _
   | exact LeO.none _
   | refine LeO.ite ?_ ?_
   | refine LeO.bind ?_ (fun _ => ?_)
set_option maxHeartbeats 8000000 in
set_option maxRecDepth 100000 in
theorem r2_Whole.calls (k : Nat) (a0 : Int) (a1 : Int) (a2 : Int) (r1 : Int) (r2 : Int) (w : World) (h : r2_Whole.f k a0 a1 a2 = some (r1,r2)) :
  Calls Try.prog 78 #[.int .u64 a0,.int .u64 a1,.int .u64 a2] w fun e w' => e = .returned (.tuple #[.int .u64 r1,.int .u64 r2]) ∧ Drawn0 w w' := by
 have H : ((r2_Degree.f k a2).bind fun t101 => (r2_Whole.l0 k a0 a1 a2 0 0 t101 127)) = some (r1,r2) := h
 clear h
 replace H := Option.bind_eq_some_iff.mp H
 obtain ⟨t101,A40,H⟩ := H
 try dsimp only at H
 have A4 := Aside0.mk A40
 clear A40
 have H' := Aside0.mk H
 clear H
 go_enter Try.func78,Try.ntmps78
 go_wp2_with (first | (go_at_call 40; (with_reducible refine (r2_Degree.calls k a2 t101 _ A4.out).mono ?_); rintro e w' ⟨rfl,⟨nd,rfl⟩⟩))
 go_loopg [8,9,11] k (fun kq v8 v9 v11 w' => ∃ (x8_1 : Int) (x9_1 : Int) (x11_1 : Int),v8 = .int .u64 x8_1 ∧ v9 = .int .u64 x9_1 ∧ v11 = .int .i64 x11_1 ∧ Aside0 (r2_Whole.l0 kq a0 a1 a2 x8_1 x9_1 t101 x11_1 = some (r1,r2)) ∧ Aside0 (kq ≤ k) ∧ Drawn0 w w')
 case atStart => exact ⟨(0),(0),(127),(by first | rfl | (simp; done) | (simp [*]; done) | (simp [wrap64]; done)),(by first | rfl | (simp; done) | (simp [*]; done) | (simp [wrap64]; done)),(by first | rfl | (simp; done) | (simp [*]; done) | (simp [wrap64]; done)),H',⟨Nat.le_refl _⟩,by repeat (first | exact Drawn0.refl _ | apply Drawn0.step)⟩
 case round =>
  clear H'
  (try clear p2); (try clear c4)
  obtain ⟨x8_1,x9_1,x11_1,rfl,rfl,rfl,HA,HK1,⟨m1,rfl⟩⟩ := hrel
  cases gk with
  | zero => exact absurd HA.out (by simp [r2_Whole.l0])
  | succ k1 =>
   have H := HA.out
   clear HA
   simp only [r2_Whole.l0] at H
   by_cases c5 : x11_1 ≥ 0
   rotate_left
   ·rw [if_neg c5] at H
    have c5b0 : decide (0 ≤ x11_1) = false := decide_eq_false c5
    clear c5
    simp only [Option.some.injEq,Prod.mk.injEq] at H
    obtain ⟨rfl,rfl⟩ := H
    go_wp2
    go_ret2
    exact ⟨by first | rfl | (simp; done) | (simp [*]; done) | (simp [wrap64]; done),by repeat (first | exact Drawn0.refl _ | apply Drawn0.step)⟩


   rw [if_pos c5] at H
   have c5b0 : decide (0 ≤ x11_1) = true := decide_eq_true c5
   clear c5
   have HC6 := Aside0.mk H
   clear H
   go_upto_if 20 with (fail)
   go_cut [12] (fun v12 wc => ∃ (kq : Nat) (x12_5 : Int),v12 = .int .u64 x12_5 ∧ Aside0 (r2_Whole.j1 kq a0 a1 a2 x8_1 x9_1 t101 x11_1 x12_5 = some (r1,r2)) ∧ Aside0 (kq ≤ k1) ∧ Drawn0 w wc)
   case first =>
    have H := HC6.out
    clear HC6
    by_cases c7 : x11_1 ≥ 64
    ·rw [if_pos c7] at H
     have c7b0 : decide (64 ≤ x11_1) = true := decide_eq_true c7
     clear c7
     (first | rw [c7b0] | (simp only [i64_w,i32_w]; rw [c7b0]) | rw [c7b1] | skip)
     replace H := Option.bind_eq_some_iff.mp H
     obtain ⟨t102,A80,H⟩ := H
     try dsimp only at H
     have A8 := Aside0.mk A80
     clear A80
     have H' := Aside0.mk H
     clear H
     go_wp2_with (first | (go_at_call 65; (with_reducible refine (r2_Bit.calls a0 (wrap64 (x11_1 - 64)) t102 _ A8.out).mono ?_); rintro e w' ⟨rfl,⟨nd,rfl⟩⟩))
     go_meet
     case rel => exact ⟨_,(t102),(by first | rfl | (simp; done) | (simp [*]; done) | (simp [wrap64]; done)),H',⟨by have := HK1.out; first | omega | exact Nat.le_refl _⟩,by repeat (first | exact Drawn0.refl _ | apply Drawn0.step)⟩
    ·rw [if_neg c7] at H
     have c7b0 : decide (64 ≤ x11_1) = false := decide_eq_false c7
     clear c7
     (first | rw [c7b0] | (simp only [i64_w,i32_w]; rw [c7b0]) | rw [c7b1] | skip)
     replace H := Option.bind_eq_some_iff.mp H
     obtain ⟨t103,A90,H⟩ := H
     try dsimp only at H
     have A9 := Aside0.mk A90
     clear A90
     have H' := Aside0.mk H
     clear H
     go_wp2_with (first | (go_at_call 65; (with_reducible refine (r2_Bit.calls a1 x11_1 t103 _ A9.out).mono ?_); rintro e w' ⟨rfl,⟨nd,rfl⟩⟩))
     go_meet
     case rel => exact ⟨_,(t103),(by first | rfl | (simp; done) | (simp [*]; done) | (simp [wrap64]; done)),H',⟨by have := HK1.out; first | omega | exact Nat.le_refl _⟩,by repeat (first | exact Drawn0.refl _ | apply Drawn0.step)⟩
   case rest =>
    clear HC6
    (try clear p2); (try clear c4); (try clear c5); (try clear c5b0); (try clear c6); (try clear p6); (try clear c7); (try clear c7b0); (try clear c7b1); (try clear p2)
    obtain ⟨kq,x12_5,rfl,HA,HJ5,⟨mc5,rfl⟩⟩ := hcut
    cases kq with
    | zero => exact absurd HA.out (by simp [r2_Whole.j1])
    | succ kj5 =>
     have H := HA.out
     clear HA
     simp only [r2_Whole.j1] at H
     by_cases c10 : t101 = 0
     ·rw [if_pos c10] at H
      have c10b0 : (t101 == 0) = true := beq_iff_eq.mpr c10
      have c10b1 : (t101 != 0) = false := bne_eq_false_iff_eq.mpr c10
      clear c10
      have H' := Aside0.mk H
      clear H
      go_wp2
      go_roundg kj5
      case measure => have := HK1.out; have := HJ5.out; omega
      case rel => exact ⟨(Go.bits .or .u64 (IntKind.u64.wrap (x8_1 * 2)) x12_5),(x9_1),(wrap64 (x11_1 - 1)),(by first | rfl | (simp; done) | (simp [*]; done) | (simp [wrap64]; done)),(by first | rfl | (simp; done) | (simp [*]; done) | (simp [wrap64]; done)),(by first | rfl | (simp; done) | (simp [*]; done) | (simp [wrap64]; done)),H',⟨by have := HK1.out; have := HJ5.out; omega⟩,by repeat (first | exact Drawn0.refl _ | apply Drawn0.step)⟩
     ·rw [if_neg c10] at H
      have c10b0 : (t101 == 0) = false := beq_eq_false_iff_ne.mpr c10
      have c10b1 : (t101 != 0) = true := bne_iff_ne.mpr c10
      replace H := Option.bind_eq_some_iff.mp H
      obtain ⟨t104,A110,H⟩ := H
      try dsimp only at H
      have A11 := Aside0.mk A110
      clear A110
      by_cases c12 : t104 = 1
      rotate_left
      ·rw [if_neg c12] at H
       have c12b0 : (t104 == 1) = false := beq_eq_false_iff_ne.mpr c12
       have c12b1 : (t104 != 1) = true := bne_iff_ne.mpr c12
       have H' := Aside0.mk H
       clear H
       go_wp2_with (first | (go_at_call 65; (with_reducible refine (r2_Bit.calls (Go.bits .or .u64 (IntKind.u64.wrap (x9_1 * 2)) x12_5) t101 t104 _ A11.out).mono ?_); rintro e w' ⟨rfl,⟨nd,rfl⟩⟩))
       go_roundg kj5
       case measure => have := HK1.out; have := HJ5.out; omega
       case rel => exact ⟨(IntKind.u64.wrap (x8_1 * 2)),(Go.bits .or .u64 (IntKind.u64.wrap (x9_1 * 2)) x12_5),(wrap64 (x11_1 - 1)),(by first | rfl | (simp; done) | (simp [*]; done) | (simp [wrap64]; done)),(by first | rfl | (simp; done) | (simp [*]; done) | (simp [wrap64]; done)),(by first | rfl | (simp; done) | (simp [*]; done) | (simp [wrap64]; done)),H',⟨by have := HK1.out; have := HJ5.out; omega⟩,by repeat (first | exact Drawn0.refl _ | apply Drawn0.step)⟩
      rw [if_pos c12] at H
      have c12b0 : (t104 == 1) = true := beq_iff_eq.mpr c12
      have c12b1 : (t104 != 1) = false := bne_eq_false_iff_eq.mpr c12
      clear c12
      have H' := Aside0.mk H
      clear H
      go_wp2_with (first | (go_at_call 65; (with_reducible refine (r2_Bit.calls (Go.bits .or .u64 (IntKind.u64.wrap (x9_1 * 2)) x12_5) t101 t104 _ A11.out).mono ?_); rintro e w' ⟨rfl,⟨nd,rfl⟩⟩))
      go_roundg kj5
      case measure => have := HK1.out; have := HJ5.out; omega
      case rel => exact ⟨(Go.bits .or .u64 (IntKind.u64.wrap (x8_1 * 2)) 1),(Go.bits .xor .u64 (Go.bits .or .u64 (IntKind.u64.wrap (x9_1 * 2)) x12_5) a2),(wrap64 (x11_1 - 1)),(by first | rfl | (simp; done) | (simp [*]; done) | (simp [wrap64]; done)),(by first | rfl | (simp; done) | (simp [*]; done) | (simp [wrap64]; done)),(by first | rfl | (simp; done) | (simp [*]; done) | (simp [wrap64]; done)),H',⟨by have := HK1.out; have := HJ5.out; omega⟩,by repeat (first | exact Drawn0.refl _ | apply Drawn0.step)⟩
def r2_Rest.l0 : Nat → Int → Int → Int → Int → Option (Int)
 | 0,_,_,_,_ => none
 | k + 1,x0,x1,x5,x6 => if x6 ≥ x5 then ((r2_Bit.f x0 x6).bind fun t107 => (if t107 = 1 then (if 0 ≤ (IntKind.u64.wrap (wrap64 (x6 - x5))) then (r2_Rest.l0 k (Go.bits .xor .u64 x0 (shl .u64 x1 (IntKind.u64.wrap (wrap64 (x6 - x5))))) x1 x5 (wrap64 (x6 - 1))) else (none)) else (r2_Rest.l0 k x0 x1 x5 (wrap64 (x6 - 1))))) else (some x0)
def r2_Rest.f (k : Nat) (a0 : Int) (a1 : Int) : Option (Int) := (r2_Degree.f k a1).bind fun t105 => ((r2_Degree.f k a0).bind fun t106 => (r2_Rest.l0 k a0 a1 t105 t106))
theorem r2_Rest.mono_l : ∀ k,(∀ y0 y1 y2 y3,LeO (r2_Rest.l0 k y0 y1 y2 y3) (r2_Rest.l0 (k + 1) y0 y1 y2 y3))
 | 0 => fun _ _ _ _ r h => by simp [r2_Rest.l0] at h
 | k + 1 => by
  have ih0 := r2_Rest.mono_l k
  ·intro y0 y1 y2 y3
   unfold r2_Rest.l0
   repeat' with_reducible first
   | exact ih0 _ _ _ _
   | exact r2_Degree.mono _ _
   | exact LeO.refl _
   | exact LeO.none _
   | refine LeO.ite ?_ ?_
   | refine LeO.bind ?_ (fun _ => ?_)
theorem r2_Rest.mono : ∀ a0 a1 k,LeO (r2_Rest.f k a0 a1) (r2_Rest.f (k + 1) a0 a1) := by
 intro a0 a1 k
 have ih0 := r2_Rest.mono_l k
 unfold r2_Rest.f
 repeat' with_reducible first
   | exact ih0 _ _ _ _
   | exact r2_Degree.mono _ _
   | exact LeO.refl _
   | exact LeO.none _
   | refine LeO.ite ?_ ?_
   | refine LeO.bind ?_ (fun _ => ?_)
set_option maxHeartbeats 8000000 in
set_option maxRecDepth 100000 in
theorem r2_Rest.calls (k : Nat) (a0 : Int) (a1 : Int) (r : Int) (w : World) (h : r2_Rest.f k a0 a1 = some r) :
  Calls Try.prog 81 #[.int .u64 a0,.int .u64 a1] w fun e w' => e = .returned (.int .u64 r) ∧ Drawn0 w w' := by
 have H : ((r2_Degree.f k a1).bind fun t105 => ((r2_Degree.f k a0).bind fun t106 => (r2_Rest.l0 k a0 a1 t105 t106))) = some r := h
 clear h
 replace H := Option.bind_eq_some_iff.mp H
 obtain ⟨t105,A30,H⟩ := H
 try dsimp only at H
 have A3 := Aside0.mk A30
 clear A30
 replace H := Option.bind_eq_some_iff.mp H
 obtain ⟨t106,A40,H⟩ := H
 replace H : (r2_Rest.l0 k a0 a1 t105 t106) = some r := H
 have A4 := Aside0.mk A40
 clear A40
 have H' := Aside0.mk H
 clear H
 go_enter Try.func81,Try.ntmps81
 go_wp2_with (first | (go_at_call 40; (with_reducible refine (r2_Degree.calls k a1 t105 _ A3.out).mono ?_); rintro e w' ⟨rfl,⟨nd,rfl⟩⟩) | (go_at_call 40; (with_reducible refine (r2_Degree.calls k a0 t106 _ A4.out).mono ?_); rintro e w' ⟨rfl,⟨nd,rfl⟩⟩))
 go_loopg [0,6] k (fun kq v0 v6 w' => ∃ (x0_1 : Int) (x6_1 : Int),v0 = .int .u64 x0_1 ∧ v6 = .int .i64 x6_1 ∧ Aside0 (r2_Rest.l0 kq x0_1 a1 t105 x6_1 = some r) ∧ Aside0 (kq ≤ k) ∧ Drawn0 w w')
 case atStart => exact ⟨(a0),(t106),(by first | rfl | (simp; done) | (simp [*]; done) | (simp [wrap64]; done)),(by first | rfl | (simp; done) | (simp [*]; done) | (simp [wrap64]; done)),H',⟨Nat.le_refl _⟩,by repeat (first | exact Drawn0.refl _ | apply Drawn0.step)⟩
 case round =>
  clear H'
  (try clear p2); (try clear c4)
  obtain ⟨x0_1,x6_1,rfl,rfl,HA,HK1,⟨m1,rfl⟩⟩ := hrel
  cases gk with
  | zero => exact absurd HA.out (by simp [r2_Rest.l0])
  | succ k1 =>
   have H := HA.out
   clear HA
   simp only [r2_Rest.l0] at H
   by_cases c5 : x6_1 ≥ t105
   rotate_left
   ·rw [if_neg c5] at H
    have c5b0 : decide (t105 ≤ x6_1) = false := decide_eq_false c5
    clear c5
    obtain rfl := Option.some.inj H
    go_wp2
    go_ret
    exact ⟨by first | rfl | (simp; done) | (simp [*]; done) | (simp [wrap64]; done),by repeat (first | exact Drawn0.refl _ | apply Drawn0.step)⟩


   rw [if_pos c5] at H
   have c5b0 : decide (t105 ≤ x6_1) = true := decide_eq_true c5
   clear c5
   replace H := Option.bind_eq_some_iff.mp H
   obtain ⟨t107,A60,H⟩ := H
   try dsimp only at H
   have A6 := Aside0.mk A60
   clear A60
   by_cases c7 : t107 = 1
   rotate_left
   ·rw [if_neg c7] at H
    have c7b0 : (t107 == 1) = false := beq_eq_false_iff_ne.mpr c7
    have c7b1 : (t107 != 1) = true := bne_iff_ne.mpr c7
    have H' := Aside0.mk H
    clear H
    go_wp2_with (first | (go_at_call 65; (with_reducible refine (r2_Bit.calls x0_1 x6_1 t107 _ A6.out).mono ?_); rintro e w' ⟨rfl,⟨nd,rfl⟩⟩))
    go_roundg k1
    case measure => have := HK1.out; omega
    case rel => exact ⟨(x0_1),(wrap64 (x6_1 - 1)),(by first | rfl | (simp; done) | (simp [*]; done) | (simp [wrap64]; done)),(by first | rfl | (simp; done) | (simp [*]; done) | (simp [wrap64]; done)),H',⟨by have := HK1.out; omega⟩,by repeat (first | exact Drawn0.refl _ | apply Drawn0.step)⟩
   rw [if_pos c7] at H
   have c7b0 : (t107 == 1) = true := beq_iff_eq.mpr c7
   have c7b1 : (t107 != 1) = false := bne_eq_false_iff_eq.mpr c7
   clear c7
   obtain ⟨ji8,hji8⟩ : ∃ j_ : Int,(IntKind.u64.wrap (wrap64 (x6_1 - t105))) = j_ := ⟨_,rfl⟩
   first | rw [hji8] at H | simp only [hji8] at H
   (try rw [hji8] at A6)
   by_cases c9 : 0 ≤ (ji8)
   rotate_left
   ·rw [if_neg c9] at H
    exact absurd H (by simp)
   rw [if_pos c9] at H
   have c9b0 := eq_true c9
   have c9b1 : decide (0 ≤ (ji8)) = true := decide_eq_true c9
   clear c9
   obtain ⟨ji10,hji10⟩ : ∃ j_ : Int,(shl .u64 a1 (ji8)) = j_ := ⟨_,rfl⟩
   first | rw [hji10] at H | simp only [hji10] at H
   (try rw [hji10] at A6)
   have hji10_ : (IntKind.u64.wrap (a1 * 2 ^ min (ji8).toNat 64)) = ji10 := hji10
   have hji10z : (ji8) ≤ 64 → (IntKind.u64.wrap (a1 * 2 ^ (ji8).toNat)) = ji10 := shl_small hji10
   have H' := Aside0.mk H
   clear H
   go_wp2_with (first | (go_at_call 65; (with_reducible refine (r2_Bit.calls x0_1 x6_1 t107 _ A6.out).mono ?_); rintro e w' ⟨rfl,⟨nd,rfl⟩⟩))
   go_roundg k1
   case measure => have := HK1.out; omega
   case rel => exact ⟨(Go.bits .xor .u64 x0_1 (ji10)),(wrap64 (x6_1 - 1)),(by first | rfl | (simp; done) | (simp only [← hji10] <;> (first | rfl | simp)) | (simp [*]; done) | (simp [wrap64]; done)),(by first | rfl | (simp; done) | (simp [*]; done) | (simp [wrap64]; done)),H',⟨by have := HK1.out; omega⟩,by repeat (first | exact Drawn0.refl _ | apply Drawn0.step)⟩
mutual
def r2_Factor.l0 : Nat → Int → List (S122) → Int → Option ((List (S122)) × Int)
 | 0,_,_,_ => none
 | k + 1,x0,x4,x5 => (r2_Degree.f k x0).bind fun t109 => (if t109 > 0 then ((r2_Degree.f k x5).bind fun t110 => ((r2_Degree.f k x0).bind fun t111 => (if (wrap64 (2 * t110)) > t111 then (r2_Factor.j1 k x0 x4 x0) else (r2_Factor.j1 k x0 x4 x5)))) else (some (x4,0)))
def r2_Factor.j1 : Nat → Int → List (S122) → Int → Option ((List (S122)) × Int)
 | 0,_,_,_ => none
 | k + 1,x0,x4,x5 => r2_Factor.l1 k x0 x4 x5 0
def r2_Factor.l1 : Nat → Int → List (S122) → Int → Int → Option ((List (S122)) × Int)
 | 0,_,_,_,_ => none
 | k + 1,x0,x4,x5,x6 => if x0 = 1 then (if x6 > 0 then (if x4.length < 8796093022208 then (r2_Factor.l0 k x0 (x4 ++ [(⟨x5,x6⟩ : S122)]) (IntKind.u64.wrap (x5 + 1))) else (none)) else (r2_Factor.l0 k x0 x4 (IntKind.u64.wrap (x5 + 1)))) else ((r2_Rest.f k x0 x5).bind fun t115 => (if t115 = 0 then ((r2_Whole.f k 0 x0 x5).bind fun bt116 => (r2_Factor.l1 k bt116.1 x4 x5 (wrap64 (x6 + 1)))) else (if x6 > 0 then (if x4.length < 8796093022208 then (r2_Factor.l0 k x0 (x4 ++ [(⟨x5,x6⟩ : S122)]) (IntKind.u64.wrap (x5 + 1))) else (none)) else (r2_Factor.l0 k x0 x4 (IntKind.u64.wrap (x5 + 1))))))
end
def r2_Factor.f (k : Nat) (a0 : Int) : Option ((List (S122)) × Int) := if a0 = 0 then (some (([] : List (S122)),20)) else ((r2_Degree.f k a0).bind fun t108 => (if t108 > 32 then (some (([] : List (S122)),21)) else (r2_Factor.l0 k a0 ([] : List (S122)) 2)))
theorem r2_Factor.mono_l : ∀ k,(∀ y0 y1 y2,LeO (r2_Factor.l0 k y0 y1 y2) (r2_Factor.l0 (k + 1) y0 y1 y2)) ∧ (∀ y0 y1 y2,LeO (r2_Factor.j1 k y0 y1 y2) (r2_Factor.j1 (k + 1) y0 y1 y2)) ∧ (∀ y0 y1 y2 y3,LeO (r2_Factor.l1 k y0 y1 y2 y3) (r2_Factor.l1 (k + 1) y0 y1 y2 y3))
 | 0 => ⟨fun _ _ _ r h => by simp [r2_Factor.l0] at h,fun _ _ _ r h => by simp [r2_Factor.j1] at h,fun _ _ _ _ r h => by simp [r2_Factor.l1] at h⟩
 | k + 1 => by
  obtain ⟨ih0,ih1,ih2⟩ := r2_Factor.mono_l k
  refine ⟨?_,?_,?_⟩
  ·intro y0 y1 y2
   unfold r2_Factor.l0
   repeat' with_reducible first
   | exact ih0 _ _ _
   | exact ih1 _ _ _
   | exact ih2 _ _ _ _
   | exact r2_Degree.mono _ _
   | exact r2_Rest.mono _ _ _
   | exact r2_Whole.mono _ _ _ _
   | exact LeO.refl _
   | exact LeO.none _
   | refine LeO.ite ?_ ?_
   | refine LeO.bind ?_ (fun _ => ?_)
  ·intro y0 y1 y2
   unfold r2_Factor.j1
   repeat' with_reducible first
   | exact ih0 _ _ _
   | exact ih1 _ _ _
   | exact ih2 _ _ _ _
   | exact r2_Degree.mono _ _
   | exact r2_Rest.mono _ _ _
   | exact r2_Whole.mono _ _ _ _
   | exact LeO.refl _
   | exact LeO.none _
   | refine LeO.ite ?_ ?_
   | refine LeO.bind ?_ (fun _ => ?_)
  ·intro y0 y1 y2 y3
   unfold r2_Factor.l1
   repeat' with_reducible first
   | exact ih0 _ _ _
   | exact ih1 _ _ _
   | exact ih2 _ _ _ _
   | exact r2_Degree.mono _ _
   | exact r2_Rest.mono _ _ _
   | exact r2_Whole.mono _ _ _ _
   | exact LeO.refl _
   | exact LeO.none _
   | refine LeO.ite ?_ ?_
   | refine LeO.bind ?_ (fun _ => ?_)
theorem r2_Factor.mono : ∀ a0 k,LeO (r2_Factor.f k a0) (r2_Factor.f (k + 1) a0) := by
 intro a0 k
 obtain ⟨ih0,ih1,ih2⟩ := r2_Factor.mono_l k
 unfold r2_Factor.f
 repeat' with_reducible first
   | exact ih0 _ _ _
   | exact ih1 _ _ _
   | exact ih2 _ _ _ _
   | exact r2_Degree.mono _ _
   | exact r2_Rest.mono _ _ _
   | exact r2_Whole.mono _ _ _ _
   | exact LeO.refl _
   | exact LeO.none _
   | refine LeO.ite ?_ ?_
   | refine LeO.bind ?_ (fun _ => ?_)
set_option maxHeartbeats 8000000 in
set_option maxRecDepth 100000 in
theorem r2_Factor.calls (k : Nat) (a0 : Int) (r1 : List (S122)) (r2 : Int) (w : World) (h : r2_Factor.f k a0 = some (r1,r2)) :
  Calls Try.prog 77 #[.int .u64 a0] w fun e w' => ∃ v0_ : Value,e = .returned (.tuple #[v0_,.int .i64 r2]) ∧ Kd.R k122 122 w' w.heap.size (fun _ => True) v0_ r1 ∧ Below w.heap.size w w' := by
 have hu122 := Try.underlying122
 have HB := aK (Below.refl w.heap.size w)
 have H : (if a0 = 0 then (some (([] : List (S122)),20)) else ((r2_Degree.f k a0).bind fun t108 => (if t108 > 32 then (some (([] : List (S122)),21)) else (r2_Factor.l0 k a0 ([] : List (S122)) 2)))) = some (r1,r2) := h
 clear h
 by_cases c2 : a0 = 0
 ·rw [if_pos c2] at H
  have c2b0 : (a0 == 0) = true := beq_iff_eq.mpr c2
  have c2b1 : (a0 != 0) = false := bne_eq_false_iff_eq.mpr c2
  clear c2
  simp only [Option.some.injEq,Prod.mk.injEq] at H
  obtain ⟨rfl,rfl⟩ := H
  go_enter Try.func77,Try.ntmps77
  go_wp2
  go_ret2
  exact ⟨_,by first | rfl | (simp [errW_none,errW_some] <;> rfl) | (simp [*,errW_none,errW_some] <;> rfl),by first | exact Kd.R_nil _ _ _ _ _ | exact Kd.N_nil _ _ _ _ _ | exact Kd.V_nil _ _ _ _ _ | exact Kd.Q_nil _ _ _ _ _ | exact Kd.S_nil _ _ _ _ _,mvh HB.out⟩
 ·rw [if_neg c2] at H
  have c2b0 : (a0 == 0) = false := beq_eq_false_iff_ne.mpr c2
  have c2b1 : (a0 != 0) = true := bne_iff_ne.mpr c2
  replace H := Option.bind_eq_some_iff.mp H
  obtain ⟨t108,A30,H⟩ := H
  try dsimp only at H
  have A3 := Aside0.mk A30
  clear A30
  by_cases c4 : t108 > 32
  ·rw [if_pos c4] at H
   have c4b0 : decide (32 < t108) = true := decide_eq_true c4
   clear c4
   simp only [Option.some.injEq,Prod.mk.injEq] at H
   obtain ⟨rfl,rfl⟩ := H
   go_enter Try.func77,Try.ntmps77
   go_wp2_with (first | ((with_reducible refine gate_callee (f := 40) rfl ?_); refine goesL_ (some 10) rfl rfl Try.func40 (by kernel_rfl) rfl #[.int .u64 a0] rfl (by (try simp only [List.map_toArray,List.map_cons,List.map_nil]) <;> rfl) ?_; (with_reducible refine (r2_Degree.calls k a0 t108 _ A3.out).mono ?_); rintro e w' ⟨rfl,⟨nd,rfl⟩⟩; refine ⟨_,rfl,?_⟩))
   go_ret2
   exact ⟨_,by first | rfl | (simp [errW_none,errW_some] <;> rfl) | (simp [*,errW_none,errW_some] <;> rfl),by first | exact Kd.R_nil _ _ _ _ _ | exact Kd.N_nil _ _ _ _ _ | exact Kd.V_nil _ _ _ _ _ | exact Kd.Q_nil _ _ _ _ _ | exact Kd.S_nil _ _ _ _ _,mvh HB.out⟩
  ·rw [if_neg c4] at H
   have c4b0 : decide (32 < t108) = false := decide_eq_false c4
   clear c4
   have H' := Aside0.mk H
   clear H
   go_enter Try.func77,Try.ntmps77
   go_wp2_with (first | ((with_reducible refine gate_callee (f := 40) rfl ?_); refine goesL_ (some 10) rfl rfl Try.func40 (by kernel_rfl) rfl #[.int .u64 a0] rfl (by (try simp only [List.map_toArray,List.map_cons,List.map_nil]) <;> rfl) ?_; (with_reducible refine (r2_Degree.calls k a0 t108 _ A3.out).mono ?_); rintro e w' ⟨rfl,⟨nd,rfl⟩⟩; refine ⟨_,rfl,?_⟩))
   go_loopg [0,4,5] k (fun kq v0 v4 v5 w' => ∃ (x0_1 : Int) (x4_1 : List (S122)) (x5_1 : Int),v0 = .int .u64 x0_1 ∧ v5 = .int .u64 x5_1 ∧ Aside0 (r2_Factor.l0 kq x0_1 x4_1 x5_1 = some (r1,r2)) ∧ Aside0 (kq ≤ k) ∧ Aside0 (Kd.R k122 122 w' w.heap.size (fun _ => True) v4 x4_1) ∧ Aside0 (Below w.heap.size w w'))
   case atStart => exact ⟨(a0),(([] : List (S122))),(2),(by first | rfl | (simp; done) | (simp [*]; done) | (simp [wrap64]; done)),(by first | rfl | (simp; done) | (simp [*]; done) | (simp [wrap64]; done)),H',⟨Nat.le_refl _⟩,⟨by first | exact Kd.R_nil _ _ _ _ _ | exact Kd.N_nil _ _ _ _ _ | exact Kd.V_nil _ _ _ _ _ | exact Kd.Q_nil _ _ _ _ _ | exact Kd.S_nil _ _ _ _ _⟩,⟨mvh HB.out⟩⟩
   case round =>
    clear H'
    (try clear c2); (try clear c2b0); (try clear c2b1); (try clear p2); (try clear c4); (try clear c4b0)
    obtain ⟨x0_1,x4_1,x5_1,rfl,rfl,HA,HK1,HO_4,HB⟩ := hrel
    cases gk with
    | zero => exact absurd HA.out (by simp [r2_Factor.l0])
    | succ k1 =>
     have H := HA.out
     clear HA
     simp only [r2_Factor.l0] at H
     replace H := Option.bind_eq_some_iff.mp H
     obtain ⟨t109,A50,H⟩ := H
     try dsimp only at H
     have A5 := Aside0.mk A50
     clear A50
     by_cases c6 : t109 > 0
     ·rw [if_pos c6] at H
      have c6b0 : decide (0 < t109) = true := decide_eq_true c6
      clear c6
      replace H := Option.bind_eq_some_iff.mp H
      obtain ⟨t110,A70,H⟩ := H
      try dsimp only at H
      have A7 := Aside0.mk A70
      clear A70
      replace H := Option.bind_eq_some_iff.mp H
      obtain ⟨t111,A80,H⟩ := H
      try dsimp only at H
      have A8 := Aside0.mk A80
      clear A80
      have HC9 := Aside0.mk H
      clear H
      go_upto_if 22 with (first | ((with_reducible refine gate_callee (f := 40) rfl ?_); refine goesL_ (some 13) rfl rfl Try.func40 (by kernel_rfl) rfl #[.int .u64 x0_1] rfl (by (try simp only [List.map_toArray,List.map_cons,List.map_nil]) <;> rfl) ?_; (with_reducible refine (r2_Degree.calls k1 x0_1 t109 _ A5.out).mono ?_); rintro e w' ⟨rfl,⟨nd,rfl⟩⟩; refine ⟨_,rfl,?_⟩) | ((with_reducible refine gate_callee (f := 40) rfl ?_); refine goesL_ (some 18) rfl rfl Try.func40 (by kernel_rfl) rfl #[.int .u64 x5_1] rfl (by (try simp only [List.map_toArray,List.map_cons,List.map_nil]) <;> rfl) ?_; (with_reducible refine (r2_Degree.calls k1 x5_1 t110 _ A7.out).mono ?_); rintro e w' ⟨rfl,⟨nd,rfl⟩⟩; refine ⟨_,rfl,?_⟩) | ((with_reducible refine gate_callee (f := 40) rfl ?_); refine goesL_ (some 21) rfl rfl Try.func40 (by kernel_rfl) rfl #[.int .u64 x0_1] rfl (by (try simp only [List.map_toArray,List.map_cons,List.map_nil]) <;> rfl) ?_; (with_reducible refine (r2_Degree.calls k1 x0_1 t111 _ A8.out).mono ?_); rintro e w' ⟨rfl,⟨nd,rfl⟩⟩; refine ⟨_,rfl,?_⟩))
      (try simp only [Act.put,List.setIfInBounds_toArray,List.set_cons_zero,List.set_cons_succ])
      go_cut [5] (fun v5 wc => ∃ (kq : Nat) (x5_8 : Int),v5 = .int .u64 x5_8 ∧ Aside0 (r2_Factor.j1 kq x0_1 x4_1 x5_8 = some (r1,r2)) ∧ Aside0 (kq ≤ k1) ∧ Aside0 (Kd.R k122 122 wc w.heap.size (fun _ => True) u4 x4_1) ∧ Aside0 (Below w.heap.size w wc))
      case first =>
       have H := HC9.out
       clear HC9
       by_cases c10 : (wrap64 (2 * t110)) > t111
       ·rw [if_pos c10] at H
        have c10b0 : decide (t111 < (wrap64 (2 * t110))) = true := decide_eq_true c10
        clear c10
        (first | rw [c10b0] | (simp only [i64_w,i32_w]; rw [c10b0]) | rw [c10b1] | skip)
        have H' := Aside0.mk H
        clear H
        go_wp2
        go_meet
        case rel => exact ⟨_,(x0_1),(by first | rfl | (simp; done) | (simp [*]; done) | (simp [wrap64]; done)),H',⟨by have := HK1.out; first | omega | exact Nat.le_refl _⟩,⟨mvR HO_4.out⟩,⟨mvh HB.out⟩⟩
       ·rw [if_neg c10] at H
        have c10b0 : decide (t111 < (wrap64 (2 * t110))) = false := decide_eq_false c10
        clear c10
        (first | rw [c10b0] | (simp only [i64_w,i32_w]; rw [c10b0]) | rw [c10b1] | skip)
        have H' := Aside0.mk H
        clear H
        go_wp2
        go_meet
        case rel => exact ⟨_,(x5_1),(by first | rfl | (simp; done) | (simp [*]; done) | (simp [wrap64]; done)),H',⟨by have := HK1.out; first | omega | exact Nat.le_refl _⟩,⟨mvR HO_4.out⟩,⟨mvh HB.out⟩⟩
      case rest =>
       clear HC9
       (try clear c1); (try clear c2); (try clear c2b0); (try clear c2b1); (try clear p2); (try clear c4); (try clear c4b0); (try clear c6); (try clear c6b0); (try clear p6); (try clear c7); (try clear c10); (try clear c10b0); (try clear c10b1); (try clear p2)
       obtain ⟨kq,x5_8,rfl,HA,HJ8,HO_4,HB⟩ := hcut
       cases kq with
       | zero => exact absurd HA.out (by simp [r2_Factor.j1])
       | succ kj8 =>
        have H := HA.out
        clear HA
        simp only [r2_Factor.j1] at H
        have H' := Aside0.mk H
        clear H
        go_wp2
        go_loopg [0,6] kj8 (fun kq v0 v6 w' => ∃ (x0_3 : Int) (x6_3 : Int),v0 = .int .u64 x0_3 ∧ v6 = .int .i64 x6_3 ∧ Aside0 (r2_Factor.l1 kq x0_3 x4_1 x5_8 x6_3 = some (r1,r2)) ∧ Aside0 (kq ≤ kj8) ∧ Aside0 (Kd.R k122 122 w' w.heap.size (fun _ => True) u4 x4_1) ∧ Aside0 (Below w.heap.size w w'))
        case atStart => exact ⟨(x0_1),(0),(by first | rfl | (simp; done) | (simp [*]; done) | (simp [wrap64]; done)),(by first | rfl | (simp; done) | (simp [*]; done) | (simp [wrap64]; done)),H',⟨Nat.le_refl _⟩,⟨mvR HO_4.out⟩,⟨mvh HB.out⟩⟩
        case round =>
         clear H'
         (try clear c1); (try clear c2); (try clear c2b0); (try clear c2b1); (try clear p2); (try clear c4); (try clear c4b0); (try clear c6); (try clear c6b0); (try clear p6); (try clear c7); (try clear c10); (try clear c10b0); (try clear c10b1); (try clear p2); (try clear p6)
         obtain ⟨x0_3,x6_3,rfl,rfl,HA,HK3,HO_4,HB⟩ := hrel
         cases gk with
         | zero => exact absurd HA.out (by simp [r2_Factor.l1])
         | succ k3 =>
          have H := HA.out
          clear HA
          simp only [r2_Factor.l1] at H
          by_cases c11 : x0_3 = 1
          ·rw [if_pos c11] at H
           have c11b0 : (x0_3 == 1) = true := beq_iff_eq.mpr c11
           have c11b1 : (x0_3 != 1) = false := bne_eq_false_iff_eq.mpr c11
           clear c11
           by_cases c12 : x6_3 > 0
           ·rw [if_pos c12] at H
            have c12b0 : decide (0 < x6_3) = true := decide_eq_true c12
            clear c12
            by_cases c13 : x4_1.length < 8796093022208
            ·rw [if_pos c13] at H
             have LMc13 := Aside0.mk c13
             clear c13
             obtain ⟨y112,hy112⟩ : ∃ y_ : List (S122),y_ = (x4_1 ++ [(⟨x5_8,x6_3⟩ : S122)]) := ⟨_,rfl⟩
             replace H : (r2_Factor.l0 k3 x0_3 y112 (IntKind.u64.wrap (x5_8 + 1))) = some (r1,r2) := by rw [hy112]; exact H
             have Ny112 := Aside0.mk hy112
             clear hy112
             have H' := Aside0.mk H
             clear H
             go_wp2_with (first | ((with_reducible refine gate_builtin (b := .append) (xs := #[.tmp 42,.tmp 46]) rfl ?_); at_builtin; refine Kd.R_append k122 (w0 := w) w.heap.size rfl (.tmp 42) (.tmp 46) 118 122 (.agg #[(.int .u64 0),(.int .i64 0)]) 16 rfl Try.underlying118 info122 rfl (by decide) (by omega) u4 x4_1 (⟨x5_8,x6_3⟩ : S122) [.int .u64 x5_8,.int .i64 x6_3] (fun _ => True) (fun _ => False) rfl rfl ?aP (fun _ hk => hk.elim) ?aF ?aO ?aB ?aS ?aL ?_; (case aP => exact k122_mkM _ _ _ (⟨x5_8,x6_3⟩ : S122)); (case aB => exact (mvh HB.out)); (case aF => exact (fun _ _ => trivial)); (case aO => exact (mvR HO_4.out)); (case aS => exact (below_size (mvh HB.out))); (case aL => have := LMc13.out; omega); intro v113 w14 ho hb hg hat; rw [← Ny112.out] at ho; replace HB := aK (hb); have HO114 := aK (ho); clear HO_4; clear ho hb hg hat))
             go_roundg k3
             case measure => have := HK1.out; have := HJ8.out; have := HK3.out; omega
             case rel => exact ⟨(x0_3),(y112),(IntKind.u64.wrap (x5_8 + 1)),(by first | rfl | (simp; done) | (simp [*]; done) | (simp [wrap64]; done)),(by first | rfl | (simp; done) | (simp [*]; done) | (simp [wrap64]; done)),H',⟨by have := HK1.out; have := HJ8.out; have := HK3.out; omega⟩,⟨mvR HO114.out⟩,⟨mvh HB.out⟩⟩
            ·rw [if_neg c13] at H
             exact absurd H (by simp)
           ·rw [if_neg c12] at H
            have c12b0 : decide (0 < x6_3) = false := decide_eq_false c12
            clear c12
            have H' := Aside0.mk H
            clear H
            go_wp2
            go_roundg k3
            case measure => have := HK1.out; have := HJ8.out; have := HK3.out; omega
            case rel => exact ⟨(x0_3),(x4_1),(IntKind.u64.wrap (x5_8 + 1)),(by first | rfl | (simp; done) | (simp [*]; done) | (simp [wrap64]; done)),(by first | rfl | (simp; done) | (simp [*]; done) | (simp [wrap64]; done)),H',⟨by have := HK1.out; have := HJ8.out; have := HK3.out; omega⟩,⟨mvR HO_4.out⟩,⟨mvh HB.out⟩⟩
          ·rw [if_neg c11] at H
           have c11b0 : (x0_3 == 1) = false := beq_eq_false_iff_ne.mpr c11
           have c11b1 : (x0_3 != 1) = true := bne_iff_ne.mpr c11
           replace H := Option.bind_eq_some_iff.mp H
           obtain ⟨t115,A150,H⟩ := H
           try dsimp only at H
           have A15 := Aside0.mk A150
           clear A150
           by_cases c16 : t115 = 0
           ·rw [if_pos c16] at H
            have c16b0 : (t115 == 0) = true := beq_iff_eq.mpr c16
            have c16b1 : (t115 != 0) = false := bne_eq_false_iff_eq.mpr c16
            clear c16
            replace H := Option.bind_eq_some_iff.mp H
            obtain ⟨⟨t116,t117⟩,A170,H⟩ := H
            try dsimp only at H
            have A17 := Aside0.mk A170
            clear A170
            have H' := Aside0.mk H
            clear H
            go_wp2_with (first | (go_at_call 81; (with_reducible refine (r2_Rest.calls k3 x0_3 x5_8 t115 _ A15.out).mono ?_); rintro e w' ⟨rfl,⟨nd,rfl⟩⟩) | ((with_reducible refine gate_callee (f := 78) rfl ?_); refine goesL_ (some 35) rfl rfl Try.func78 (by kernel_rfl) rfl #[.int .u64 0,.int .u64 x0_3,.int .u64 x5_8] rfl (by (try simp only [List.map_toArray,List.map_cons,List.map_nil]) <;> rfl) ?_; (with_reducible refine (r2_Whole.calls k3 0 x0_3 x5_8 t116 t117 _ A17.out).mono ?_); rintro e w' ⟨rfl,⟨nd,rfl⟩⟩; refine ⟨_,rfl,?_⟩))
            go_roundg k3
            case measure => have := HK1.out; have := HJ8.out; have := HK3.out; omega
            case rel => exact ⟨(t116),(wrap64 (x6_3 + 1)),(by first | rfl | (simp; done) | (simp [*]; done) | (simp [wrap64]; done)),(by first | rfl | (simp; done) | (simp [*]; done) | (simp [wrap64]; done)),H',⟨by have := HK1.out; have := HJ8.out; have := HK3.out; omega⟩,⟨mvR HO_4.out⟩,⟨mvh HB.out⟩⟩
           ·rw [if_neg c16] at H
            have c16b0 : (t115 == 0) = false := beq_eq_false_iff_ne.mpr c16
            have c16b1 : (t115 != 0) = true := bne_iff_ne.mpr c16
            by_cases c18 : x6_3 > 0
            ·rw [if_pos c18] at H
             have c18b0 : decide (0 < x6_3) = true := decide_eq_true c18
             clear c18
             by_cases c19 : x4_1.length < 8796093022208
             ·rw [if_pos c19] at H
              have LMc19 := Aside0.mk c19
              clear c19
              obtain ⟨y118,hy118⟩ : ∃ y_ : List (S122),y_ = (x4_1 ++ [(⟨x5_8,x6_3⟩ : S122)]) := ⟨_,rfl⟩
              replace H : (r2_Factor.l0 k3 x0_3 y118 (IntKind.u64.wrap (x5_8 + 1))) = some (r1,r2) := by rw [hy118]; exact H
              have Ny118 := Aside0.mk hy118
              clear hy118
              have H' := Aside0.mk H
              clear H
              go_wp2_with (first | (go_at_call 81; (with_reducible refine (r2_Rest.calls k3 x0_3 x5_8 t115 _ A15.out).mono ?_); rintro e w' ⟨rfl,⟨nd,rfl⟩⟩) | ((with_reducible refine gate_builtin (b := .append) (xs := #[.tmp 42,.tmp 46]) rfl ?_); at_builtin; refine Kd.R_append k122 (w0 := w) w.heap.size rfl (.tmp 42) (.tmp 46) 118 122 (.agg #[(.int .u64 0),(.int .i64 0)]) 16 rfl Try.underlying118 info122 rfl (by decide) (by omega) u4 x4_1 (⟨x5_8,x6_3⟩ : S122) [.int .u64 x5_8,.int .i64 x6_3] (fun _ => True) (fun _ => False) rfl rfl ?aP (fun _ hk => hk.elim) ?aF ?aO ?aB ?aS ?aL ?_; (case aP => exact k122_mkM _ _ _ (⟨x5_8,x6_3⟩ : S122)); (case aB => exact (mvh HB.out)); (case aF => exact (fun _ _ => trivial)); (case aO => exact (mvR HO_4.out)); (case aS => exact (below_size (mvh HB.out))); (case aL => have := LMc19.out; omega); intro v119 w20 ho hb hg hat; rw [← Ny118.out] at ho; replace HB := aK (hb); have HO120 := aK (ho); clear HO_4; clear ho hb hg hat))
              go_roundg k3
              case measure => have := HK1.out; have := HJ8.out; have := HK3.out; omega
              case rel => exact ⟨(x0_3),(y118),(IntKind.u64.wrap (x5_8 + 1)),(by first | rfl | (simp; done) | (simp [*]; done) | (simp [wrap64]; done)),(by first | rfl | (simp; done) | (simp [*]; done) | (simp [wrap64]; done)),H',⟨by have := HK1.out; have := HJ8.out; have := HK3.out; omega⟩,⟨mvR HO120.out⟩,⟨mvh HB.out⟩⟩
             ·rw [if_neg c19] at H
              exact absurd H (by simp)
            ·rw [if_neg c18] at H
             have c18b0 : decide (0 < x6_3) = false := decide_eq_false c18
             clear c18
             have H' := Aside0.mk H
             clear H
             go_wp2_with (first | (go_at_call 81; (with_reducible refine (r2_Rest.calls k3 x0_3 x5_8 t115 _ A15.out).mono ?_); rintro e w' ⟨rfl,⟨nd,rfl⟩⟩))
             go_roundg k3
             case measure => have := HK1.out; have := HJ8.out; have := HK3.out; omega
             case rel => exact ⟨(x0_3),(x4_1),(IntKind.u64.wrap (x5_8 + 1)),(by first | rfl | (simp; done) | (simp [*]; done) | (simp [wrap64]; done)),(by first | rfl | (simp; done) | (simp [*]; done) | (simp [wrap64]; done)),H',⟨by have := HK1.out; have := HJ8.out; have := HK3.out; omega⟩,⟨mvR HO_4.out⟩,⟨mvh HB.out⟩⟩
     ·rw [if_neg c6] at H
      have c6b0 : decide (0 < t109) = false := decide_eq_false c6
      clear c6
      simp only [Option.some.injEq,Prod.mk.injEq] at H
      obtain ⟨rfl,rfl⟩ := H
      go_wp2_with (first | ((with_reducible refine gate_callee (f := 40) rfl ?_); refine goesL_ (some 13) rfl rfl Try.func40 (by kernel_rfl) rfl #[.int .u64 x0_1] rfl (by (try simp only [List.map_toArray,List.map_cons,List.map_nil]) <;> rfl) ?_; (with_reducible refine (r2_Degree.calls k1 x0_1 t109 _ A5.out).mono ?_); rintro e w' ⟨rfl,⟨nd,rfl⟩⟩; refine ⟨_,rfl,?_⟩))
      go_ret2
      exact ⟨_,by first | rfl | (simp [errW_none,errW_some] <;> rfl) | (simp [*,errW_none,errW_some] <;> rfl),by (with_reducible repeat (first | apply Kd.R_alloc | apply Kd.R_drewN | apply Kd.R_drew)); exact HO_4.out,mvh HB.out⟩

def r2_Irreducible.f (k : Nat) (a0 : Int) : Option (Bool × Int) := (r2_Degree.f k a0).bind fun t121 => (if t121 < 1 then (some (false,21)) else ((r2_Degree.f k a0).bind fun t122 => (if t122 > 32 then (some (false,21)) else ((r2_Factor.f k a0).bind fun bt123 => (if (bt123.1.length : Int) = 1 then (if 0 < (bt123.1.length : Int) then (some ((((rd_T122 bt123.1 0).f1) == 1),0)) else (none)) else (some (false,0)))))))
theorem r2_Irreducible.mono : ∀ a0 k,LeO (r2_Irreducible.f k a0) (r2_Irreducible.f (k + 1) a0) := by
 intro a0 k
 unfold r2_Irreducible.f
 repeat' with_reducible first
   | exact r2_Degree.mono _ _
   | exact r2_Factor.mono _ _
   | exact LeO.refl _
   | exact LeO.none _
   | refine LeO.ite ?_ ?_
   | refine LeO.bind ?_ (fun _ => ?_)
set_option maxHeartbeats 8000000 in
set_option maxRecDepth 100000 in
theorem r2_Irreducible.calls (k : Nat) (a0 : Int) (r1 : Bool) (r2 : Int) (w : World) (h : r2_Irreducible.f k a0 = some (r1,r2)) :
  Calls Try.prog 64 #[.int .u64 a0] w fun e w' => e = .returned (.tuple #[.bool r1,.int .i64 r2]) ∧ Below w.heap.size w w' := by
 have HB := aK (Below.refl w.heap.size w)
 have H : ((r2_Degree.f k a0).bind fun t121 => (if t121 < 1 then (some (false,21)) else ((r2_Degree.f k a0).bind fun t122 => (if t122 > 32 then (some (false,21)) else ((r2_Factor.f k a0).bind fun bt123 => (if (bt123.1.length : Int) = 1 then (if 0 < (bt123.1.length : Int) then (some ((((rd_T122 bt123.1 0).f1) == 1),0)) else (none)) else (some (false,0)))))))) = some (r1,r2) := h
 clear h
 replace H := Option.bind_eq_some_iff.mp H
 obtain ⟨t121,A20,H⟩ := H
 try dsimp only at H
 have A2 := Aside0.mk A20
 clear A20
 by_cases c3 : t121 < 1
 ·rw [if_pos c3] at H
  have c3b0 : decide (t121 < 1) = true := decide_eq_true c3
  clear c3
  simp only [Option.some.injEq,Prod.mk.injEq] at H
  obtain ⟨rfl,rfl⟩ := H
  go_enter Try.func64,Try.ntmps64
  go_wp2_with (first | ((with_reducible refine gate_callee (f := 40) rfl ?_); refine goesL_ (some 7) rfl rfl Try.func40 (by kernel_rfl) rfl #[.int .u64 a0] rfl (by (try simp only [List.map_toArray,List.map_cons,List.map_nil]) <;> rfl) ?_; (with_reducible refine (r2_Degree.calls k a0 t121 _ A2.out).mono ?_); rintro e w' ⟨rfl,⟨nd,rfl⟩⟩; refine ⟨_,rfl,?_⟩))
  go_ret2
  exact ⟨by first | rfl | (simp [errW_none,errW_some] <;> rfl) | (simp [*,errW_none,errW_some] <;> rfl),mvh HB.out⟩
 ·rw [if_neg c3] at H
  have c3b0 : decide (t121 < 1) = false := decide_eq_false c3
  clear c3
  replace H := Option.bind_eq_some_iff.mp H
  obtain ⟨t122,A40,H⟩ := H
  try dsimp only at H
  have A4 := Aside0.mk A40
  clear A40
  by_cases c5 : t122 > 32
  ·rw [if_pos c5] at H
   have c5b0 : decide (32 < t122) = true := decide_eq_true c5
   clear c5
   simp only [Option.some.injEq,Prod.mk.injEq] at H
   obtain ⟨rfl,rfl⟩ := H
   go_enter Try.func64,Try.ntmps64
   go_wp2_with (first | ((with_reducible refine gate_callee (f := 40) rfl ?_); refine goesL_ (some 7) rfl rfl Try.func40 (by kernel_rfl) rfl #[.int .u64 a0] rfl (by (try simp only [List.map_toArray,List.map_cons,List.map_nil]) <;> rfl) ?_; (with_reducible refine (r2_Degree.calls k a0 t121 _ A2.out).mono ?_); rintro e w' ⟨rfl,⟨nd,rfl⟩⟩; refine ⟨_,rfl,?_⟩) | (go_at_call 40; (with_reducible refine (r2_Degree.calls k a0 t122 _ A4.out).mono ?_); rintro e w' ⟨rfl,⟨nd,rfl⟩⟩))
   go_ret2
   exact ⟨by first | rfl | (simp [errW_none,errW_some] <;> rfl) | (simp [*,errW_none,errW_some] <;> rfl),mvh HB.out⟩
  ·rw [if_neg c5] at H
   have c5b0 : decide (32 < t122) = false := decide_eq_false c5
   clear c5
   replace H := Option.bind_eq_some_iff.mp H
   obtain ⟨⟨t123,t124⟩,A60,H⟩ := H
   try dsimp only at H
   have A6 := Aside0.mk A60
   clear A60
   by_cases c7 : (t123.length : Int) = 1
   ·rw [if_pos c7] at H
    have c7b0 : ((t123.length : Int) == 1) = true := beq_iff_eq.mpr c7
    have c7b1 : ((t123.length : Int) != 1) = false := bne_eq_false_iff_eq.mpr c7
    clear c7
    by_cases c8 : 0 < (t123.length : Int)
    ·rw [if_pos c8] at H
     have c8b0 : decide (0 < (t123.length : Int)) = true := decide_eq_true c8
     have c8b1 : decide (0 < t123.length) = true := decide_eq_true (by omega)
     clear c8
     simp only [Option.some.injEq,Prod.mk.injEq] at H
     obtain ⟨rfl,rfl⟩ := H
     go_enter Try.func64,Try.ntmps64
     go_wp2_with (first | ((with_reducible refine gate_callee (f := 40) rfl ?_); refine goesL_ (some 7) rfl rfl Try.func40 (by kernel_rfl) rfl #[.int .u64 a0] rfl (by (try simp only [List.map_toArray,List.map_cons,List.map_nil]) <;> rfl) ?_; (with_reducible refine (r2_Degree.calls k a0 t121 _ A2.out).mono ?_); rintro e w' ⟨rfl,⟨nd,rfl⟩⟩; refine ⟨_,rfl,?_⟩) | (go_at_call 40; (with_reducible refine (r2_Degree.calls k a0 t122 _ A4.out).mono ?_); rintro e w' ⟨rfl,⟨nd,rfl⟩⟩) | ((with_reducible refine gate_callee (f := 77) rfl ?_); refine goesL_ (some 16) rfl rfl Try.func77 (by kernel_rfl) rfl #[.int .u64 a0] rfl (by (try simp only [List.map_toArray,List.map_cons,List.map_nil]) <;> rfl) ?_; (with_reducible refine (r2_Factor.calls k a0 t123 t124 _ A6.out).mono ?_); rintro e w9 ⟨v125,rfl,ho0,hb⟩; refine ⟨_,rfl,?_⟩; have HO126 := aK (Kd.R_lower ho0 (below_size (mvh HB.out))); replace HB := aK (below_step (mvh HB.out) hb); (try clear hb); (try clear ho0); obtain ⟨Ao10,co10,eo10⟩ := Kd.R_slice HO126.out; subst eo10; have p127 : 0 ≤ (0 : Int) := (by omega); have q127 : 0 < (t123.length : Int) := oD; obtain ⟨ad127,e127,hx127_0,hx127_1⟩ := at_T122 (Kd.R_reads' HO126.out).2.2 0 p127 q127; cases e127; have qi127 : (0 < t123.length) = True := eq_true (by omega); (try rw [show ((0 : Int)).toNat = 0 from rfl] at hx127_0); (try rw [show 0 * 2 = 0 from rfl] at hx127_0); (try rw [Addr.add_zero'] at hx127_0); (try rw [show ((0 : Int)).toNat = 0 from rfl] at hx127_1); (try rw [show 0 * 2 = 0 from rfl] at hx127_1); (try rw [Addr.add_zero'] at hx127_1); replace p127 := eq_true p127; replace q127 := eq_true q127))
     go_ret2
     exact ⟨by first | rfl | (simp [errW_none,errW_some] <;> rfl) | (simp [*,errW_none,errW_some] <;> rfl),mvh HB.out⟩
    ·rw [if_neg c8] at H
     exact absurd H (by simp)
   ·rw [if_neg c7] at H
    have c7b0 : ((t123.length : Int) == 1) = false := beq_eq_false_iff_ne.mpr c7
    have c7b1 : ((t123.length : Int) != 1) = true := bne_iff_ne.mpr c7
    simp only [Option.some.injEq,Prod.mk.injEq] at H
    obtain ⟨rfl,rfl⟩ := H
    go_enter Try.func64,Try.ntmps64
    go_wp2_with (first | ((with_reducible refine gate_callee (f := 40) rfl ?_); refine goesL_ (some 7) rfl rfl Try.func40 (by kernel_rfl) rfl #[.int .u64 a0] rfl (by (try simp only [List.map_toArray,List.map_cons,List.map_nil]) <;> rfl) ?_; (with_reducible refine (r2_Degree.calls k a0 t121 _ A2.out).mono ?_); rintro e w' ⟨rfl,⟨nd,rfl⟩⟩; refine ⟨_,rfl,?_⟩) | (go_at_call 40; (with_reducible refine (r2_Degree.calls k a0 t122 _ A4.out).mono ?_); rintro e w' ⟨rfl,⟨nd,rfl⟩⟩) | ((with_reducible refine gate_callee (f := 77) rfl ?_); refine goesL_ (some 16) rfl rfl Try.func77 (by kernel_rfl) rfl #[.int .u64 a0] rfl (by (try simp only [List.map_toArray,List.map_cons,List.map_nil]) <;> rfl) ?_; (with_reducible refine (r2_Factor.calls k a0 t123 t124 _ A6.out).mono ?_); rintro e w11 ⟨v125,rfl,ho0,hb⟩; refine ⟨_,rfl,?_⟩; have HO126 := aK (Kd.R_lower ho0 (below_size (mvh HB.out))); replace HB := aK (below_step (mvh HB.out) hb); (try clear hb); (try clear ho0); obtain ⟨Ao12,co12,eo12⟩ := Kd.R_slice HO126.out; subst eo12))
    go_ret2
    exact ⟨by first | rfl | (simp [errW_none,errW_some] <;> rfl) | (simp [*,errW_none,errW_some] <;> rfl),mvh HB.out⟩

end Go.Proofs.Ytpgecdidddoglaa.P

