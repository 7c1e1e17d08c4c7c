-- written by mk.sh, a program of this session, over the kit's print
import Derived.Test.YtpgecdidddoglaaRbPx0
import Derived.Test.YtpgecdidddoglaaRbPx4
namespace Go.Proofs.Ytpgecdidddoglaa.P
open Go.RowKit Go.Proofs.YtpgecdidddoglaaW.PrintWords Go.Proofs.YtpgecdidddoglaaW.PrintLast Go.Proofs.YtpgecdidddoglaaW.PrintMore
attribute [local go_sem] max2_int min2_int max_two min_two max_three min_three max_four min_four   -- for this text's walks alone
set_option linter.unusedVariables false
set_option linter.unusedSimpArgs false

def poly_prime.l0 : Nat → Int → Int → Int → Int → Option (Bool)
 | 0,_,_,_,_ => none
 | k + 1,x0,x3,x4,x5 => if x5 ≤ x3 then ((poly_MulMod.f k x4 x4 x0).bind fun bt164 => (if x5 < x3 then (if x5 = 0 then (none) else (if (Int.tmod x3 x5) = 0 then ((poly_rest.f k 2 x0).bind fun t166 => ((poly_Gcd.f k (Go.bits .xor .u64 bt164.1 t166) x0).bind fun t167 => (if t167 = 1 then (poly_prime.l0 k x0 x3 bt164.1 (wrap64 (x5 + 1))) else (some false)))) else (poly_prime.l0 k x0 x3 bt164.1 (wrap64 (x5 + 1))))) else (poly_prime.l0 k x0 x3 bt164.1 (wrap64 (x5 + 1))))) else ((poly_rest.f k 2 x0).bind fun t163 => (some (x4 == t163)))
def poly_prime.f (k : Nat) (a0 : Int) : Option (Bool) := (poly_Degree.f a0).bind fun t161 => ((poly_rest.f k 2 a0).bind fun t162 => (poly_prime.l0 k a0 t161 t162 1))
theorem poly_prime.mono_l : ∀ k,(∀ y0 y1 y2 y3,LeO (poly_prime.l0 k y0 y1 y2 y3) (poly_prime.l0 (k + 1) y0 y1 y2 y3))
 | 0 => fun _ _ _ _ r h => by simp [poly_prime.l0] at h
 | k + 1 => by
  have ih0 := poly_prime.mono_l k
  ·intro y0 y1 y2 y3
   unfold poly_prime.l0
   repeat' with_reducible first
   | exact ih0 _ _ _ _
   | exact poly_Gcd.mono _ _ _
   | exact poly_MulMod.mono _ _ _ _
   | exact poly_rest.mono _ _ _
   | exact LeO.refl _
   | exact LeO.none _
   | refine LeO.ite ?_ ?_
   | refine LeO.bind ?_ (fun _ => ?_)
theorem poly_prime.mono : ∀ a0 k,LeO (poly_prime.f k a0) (poly_prime.f (k + 1) a0) := by
 intro a0 k
 have ih0 := poly_prime.mono_l k
 unfold poly_prime.f
 repeat' with_reducible first
   | exact ih0 _ _ _ _
   | exact poly_Gcd.mono _ _ _
   | exact poly_MulMod.mono _ _ _ _
   | exact poly_rest.mono _ _ _
   | exact LeO.refl _
   | exact LeO.none _
   | refine LeO.ite ?_ ?_
   | refine LeO.bind ?_ (fun _ => ?_)
set_option maxHeartbeats 8000000 in
set_option maxRecDepth 100000 in
theorem poly_prime.calls (k : Nat) (a0 : Int) (r : Bool) (w : World) (h : poly_prime.f k a0 = some r) :
  Calls Try.prog 83 #[.int .u64 a0] w fun e w' => e = .returned (.bool r) ∧ Drawn0 w w' := by
 have H : ((poly_Degree.f a0).bind fun t161 => ((poly_rest.f k 2 a0).bind fun t162 => (poly_prime.l0 k a0 t161 t162 1))) = some r := h
 clear h
 replace H := Option.bind_eq_some_iff.mp H
 obtain ⟨t161,A20,H⟩ := H
 try dsimp only at H
 have A2 := Aside0.mk A20
 clear A20
 replace H := Option.bind_eq_some_iff.mp H
 obtain ⟨t162,A30,H⟩ := H
 try dsimp only at H
 have A3 := Aside0.mk A30
 clear A30
 have H' := Aside0.mk H
 clear H
 go_enter Try.func83,Try.ntmps83
 go_wp2_with (first | (go_at_call 79; (with_reducible refine (poly_Degree.calls a0 t161 _ A2.out).mono ?_); rintro e w' ⟨rfl,⟨nd,rfl⟩⟩) | (go_at_call 85; (with_reducible refine (poly_rest.calls k 2 a0 t162 _ A3.out).mono ?_); rintro e w' ⟨rfl,⟨nd,rfl⟩⟩))
 go_loopg [4,5] k (fun kq v4 v5 w' => ∃ (x4_1 : Int) (x5_1 : Int),v4 = .int .u64 x4_1 ∧ v5 = .int .i64 x5_1 ∧ Aside0 (poly_prime.l0 kq a0 t161 x4_1 x5_1 = some r) ∧ Aside0 (kq ≤ k) ∧ Drawn0 w w')
 case atStart => exact ⟨(t162),(1),(by first | rfl | (simp; done) | (simp [*]; done) | (simp [wrap64]; done)),(by first | rfl | (simp; done) | (simp [*]; done) | (simp [wrap64]; done)),H',⟨Nat.le_refl _⟩,by repeat (first | exact Drawn0.refl _ | apply Drawn0.step)⟩
 case round =>
  clear H'
  try clear p2
  obtain ⟨x4_1,x5_1,rfl,rfl,HA,HK1,⟨m1,rfl⟩⟩ := hrel
  cases gk with
  | zero => exact absurd HA.out (by simp [poly_prime.l0])
  | succ k1 =>
   have H := HA.out
   clear HA
   simp only [poly_prime.l0] at H
   by_cases c4 : x5_1 ≤ t161
   rotate_left
   ·rw [if_neg c4] at H
    have c4b0 : decide (x5_1 ≤ t161) = false := decide_eq_false c4
    clear c4
    replace H := Option.bind_eq_some_iff.mp H
    obtain ⟨t163,A120,H⟩ := H
    replace H : (some (x4_1 == t163)) = some r := H
    have A12 := Aside0.mk A120
    clear A120
    obtain rfl := Option.some.inj H
    go_wp2_with (first | (go_at_call 85; (with_reducible refine (poly_rest.calls k1 2 a0 t163 _ A12.out).mono ?_); rintro e w' ⟨rfl,⟨nd,rfl⟩⟩))
    go_ret
    exact ⟨by first | rfl | (simp; done) | (simp [*]; done) | (simp [wrap64]; done),by repeat (first | exact Drawn0.refl _ | apply Drawn0.step)⟩


   rw [if_pos c4] at H
   have c4b0 : decide (x5_1 ≤ t161) = true := decide_eq_true c4
   clear c4
   replace H := Option.bind_eq_some_iff.mp H
   obtain ⟨⟨t164,t165⟩,A50,H⟩ := H
   try dsimp only at H
   have A5 := Aside0.mk A50
   clear A50
   by_cases c6 : x5_1 < t161
   rotate_left
   ·rw [if_neg c6] at H
    have c6b0 : decide (x5_1 < t161) = false := decide_eq_false c6
    clear c6
    have H' := Aside0.mk H
    clear H
    go_wp2_with (first | (go_at_call 86; (with_reducible refine (poly_MulMod.calls k1 x4_1 x4_1 a0 t164 t165 _ A5.out).mono ?_); rintro e w' ⟨rfl,⟨nd,rfl⟩⟩))
    go_roundg k1
    case measure => have := HK1.out; omega
    case rel => exact ⟨(t164),(wrap64 (x5_1 + 1)),(by first | rfl | (simp; done) | (simp [*]; done) | (simp [wrap64]; done)),(by first | rfl | (simp; done) | (simp [*]; done) | (simp [wrap64]; done)),H',⟨by have := HK1.out; omega⟩,by repeat (first | exact Drawn0.refl _ | apply Drawn0.step)⟩
   rw [if_pos c6] at H
   have c6b0 : decide (x5_1 < t161) = true := decide_eq_true c6
   clear c6
   by_cases c7 : x5_1 = 0
   ·rw [if_pos c7] at H
    exact absurd H (by simp)
   ·rw [if_neg c7] at H
    have c7b0 : (x5_1 == 0) = false := beq_eq_false_iff_ne.mpr c7
    have c7b1 : (x5_1 != 0) = true := bne_iff_ne.mpr c7
    by_cases c8 : (Int.tmod t161 x5_1) = 0
    rotate_left
    ·rw [if_neg c8] at H
     have c8b0 : ((Int.tmod t161 x5_1) == 0) = false := beq_eq_false_iff_ne.mpr c8
     have c8b1 : ((Int.tmod t161 x5_1) != 0) = true := bne_iff_ne.mpr c8
     have H' := Aside0.mk H
     clear H
     go_wp2_with (first | (go_at_call 86; (with_reducible refine (poly_MulMod.calls k1 x4_1 x4_1 a0 t164 t165 _ A5.out).mono ?_); rintro e w' ⟨rfl,⟨nd,rfl⟩⟩))
     go_roundg k1
     case measure => have := HK1.out; omega
     case rel => exact ⟨(t164),(wrap64 (x5_1 + 1)),(by first | rfl | (simp; done) | (simp [*]; done) | (simp [wrap64]; done)),(by first | rfl | (simp; done) | (simp [*]; done) | (simp [wrap64]; done)),H',⟨by have := HK1.out; omega⟩,by repeat (first | exact Drawn0.refl _ | apply Drawn0.step)⟩
    rw [if_pos c8] at H
    have c8b0 : ((Int.tmod t161 x5_1) == 0) = true := beq_iff_eq.mpr c8
    have c8b1 : ((Int.tmod t161 x5_1) != 0) = false := bne_eq_false_iff_eq.mpr c8
    clear c8
    replace H := Option.bind_eq_some_iff.mp H
    obtain ⟨t166,A90,H⟩ := H
    try dsimp only at H
    have A9 := Aside0.mk A90
    clear A90
    replace H := Option.bind_eq_some_iff.mp H
    obtain ⟨t167,A100,H⟩ := H
    try dsimp only at H
    have A10 := Aside0.mk A100
    clear A100
    by_cases c11 : t167 = 1
    rotate_left
    ·rw [if_neg c11] at H
     have c11b0 : (t167 == 1) = false := beq_eq_false_iff_ne.mpr c11
     have c11b1 : (t167 != 1) = true := bne_iff_ne.mpr c11
     obtain rfl := Option.some.inj H
     go_wp2_with (first | (go_at_call 86; (with_reducible refine (poly_MulMod.calls k1 x4_1 x4_1 a0 t164 t165 _ A5.out).mono ?_); rintro e w' ⟨rfl,⟨nd,rfl⟩⟩) | (go_at_call 85; (with_reducible refine (poly_rest.calls k1 2 a0 t166 _ A9.out).mono ?_); rintro e w' ⟨rfl,⟨nd,rfl⟩⟩) | (go_at_call 87; (with_reducible refine (poly_Gcd.calls k1 (Go.bits .xor .u64 t164 t166) a0 t167 _ A10.out).mono ?_); rintro e w' ⟨rfl,⟨nd,rfl⟩⟩))
     go_ret
     exact ⟨by first | rfl | (simp; done) | (simp [*]; done) | (simp [wrap64]; done),by repeat (first | exact Drawn0.refl _ | apply Drawn0.step)⟩
    rw [if_pos c11] at H
    have c11b0 : (t167 == 1) = true := beq_iff_eq.mpr c11
    have c11b1 : (t167 != 1) = false := bne_eq_false_iff_eq.mpr c11
    clear c11
    have H' := Aside0.mk H
    clear H
    go_wp2_with (first | (go_at_call 86; (with_reducible refine (poly_MulMod.calls k1 x4_1 x4_1 a0 t164 t165 _ A5.out).mono ?_); rintro e w' ⟨rfl,⟨nd,rfl⟩⟩) | (go_at_call 85; (with_reducible refine (poly_rest.calls k1 2 a0 t166 _ A9.out).mono ?_); rintro e w' ⟨rfl,⟨nd,rfl⟩⟩) | (go_at_call 87; (with_reducible refine (poly_Gcd.calls k1 (Go.bits .xor .u64 t164 t166) a0 t167 _ A10.out).mono ?_); rintro e w' ⟨rfl,⟨nd,rfl⟩⟩))
    go_roundg k1
    case measure => have := HK1.out; omega
    case rel => exact ⟨(t164),(wrap64 (x5_1 + 1)),(by first | rfl | (simp; done) | (simp [*]; done) | (simp [wrap64]; done)),(by first | rfl | (simp; done) | (simp [*]; done) | (simp [wrap64]; done)),H',⟨by have := HK1.out; omega⟩,by repeat (first | exact Drawn0.refl _ | apply Drawn0.step)⟩
mutual
def poly_Order.j0 : Nat → Int → Bool → Option (Int × Int)
 | 0,_,_ => none
 | k + 1,x0,x15 => if x15 = true then (some (0,21)) else (if (Go.bits .and .u64 x0 1) = 0 then (some (0,22)) else ((poly_rest.f k 1 x0).bind fun t169 => ((poly_rest.f k 2 x0).bind fun t170 => (poly_Order.l0 k x0 t169 t170 1))))
def poly_Order.l0 : Nat → Int → Int → Int → Int → Option (Int × Int)
 | 0,_,_,_,_ => none
 | k + 1,x0,x5,x6,x7 => if x6 = x5 then (some (x7,0)) else ((poly_rest.f k (IntKind.u64.wrap (x6 * 2)) x0).bind fun t171 => (poly_Order.l0 k x0 x5 t171 (wrap64 (x7 + 1))))
end
def poly_Order.f (k : Nat) (a0 : Int) : Option (Int × Int) := (poly_Degree.f a0).bind fun t168 => (if t168 < 0 then (poly_Order.j0 k a0 true) else (poly_Order.j0 k a0 (decide (t168 > 20))))
theorem poly_Order.mono_l : ∀ k,(∀ y0 y1,LeO (poly_Order.j0 k y0 y1) (poly_Order.j0 (k + 1) y0 y1)) ∧ (∀ y0 y1 y2 y3,LeO (poly_Order.l0 k y0 y1 y2 y3) (poly_Order.l0 (k + 1) y0 y1 y2 y3))
 | 0 => ⟨fun _ _ r h => by simp [poly_Order.j0] at h,fun _ _ _ _ r h => by simp [poly_Order.l0] at h⟩
 | k + 1 => by
  obtain ⟨ih0,ih1⟩ := poly_Order.mono_l k
  refine ⟨?_,?_⟩
  ·intro y0 y1
   unfold poly_Order.j0
   repeat' with_reducible first
   | exact ih0 _ _
   | exact ih1 _ _ _ _
   | exact poly_rest.mono _ _ _
   | exact LeO.refl _
   | exact LeO.none _
   | refine LeO.ite ?_ ?_
   | refine LeO.bind ?_ (fun _ => ?_)
  ·intro y0 y1 y2 y3
   unfold poly_Order.l0
   repeat' with_reducible first
   | exact ih0 _ _
   | exact ih1 _ _ _ _
   | exact poly_rest.mono _ _ _
   | exact LeO.refl _
   | exact LeO.none _
   | refine LeO.ite ?_ ?_
   | refine LeO.bind ?_ (fun _ => ?_)
theorem poly_Order.mono : ∀ a0 k,LeO (poly_Order.f k a0) (poly_Order.f (k + 1) a0) := by
 intro a0 k
 obtain ⟨ih0,ih1⟩ := poly_Order.mono_l k
 unfold poly_Order.f
 repeat' with_reducible first
   | exact ih0 _ _
   | exact ih1 _ _ _ _
   | exact poly_rest.mono _ _ _
   | exact LeO.refl _
   | exact LeO.none _
   | refine LeO.ite ?_ ?_
   | refine LeO.bind ?_ (fun _ => ?_)
set_option maxHeartbeats 8000000 in
set_option maxRecDepth 100000 in
theorem poly_Order.calls (k : Nat) (a0 : Int) (r1 : Int) (r2 : Int) (w : World) (h : poly_Order.f k a0 = some (r1,r2)) :
  Calls Try.prog 84 #[.int .u64 a0] w fun e w' => e = .returned (.tuple #[.int .i64 r1,.int .i64 r2]) ∧ Drawn0 w w' := by
 have H : ((poly_Degree.f a0).bind fun t168 => (if t168 < 0 then (poly_Order.j0 k a0 true) else (poly_Order.j0 k a0 (decide (t168 > 20))))) = some (r1,r2) := h
 clear h
 replace H := Option.bind_eq_some_iff.mp H
 obtain ⟨t168,A20,H⟩ := H
 try dsimp only at H
 have A2 := Aside0.mk A20
 clear A20
 have HC3 := Aside0.mk H
 clear H
 go_enter Try.func84,Try.ntmps84
 go_upto_region 2 with (first | (go_at_call 79; (with_reducible refine (poly_Degree.calls a0 t168 _ A2.out).mono ?_); rintro e w' ⟨rfl,⟨nd,rfl⟩⟩))
 (try simp only [Act.put,List.setIfInBounds_toArray,List.set_cons_zero,List.set_cons_succ])
 go_cut [15] (fun v15 wc => ∃ (kq : Nat) (x15_2 : Bool),v15 = .bool x15_2 ∧ Aside0 (poly_Order.j0 kq a0 x15_2 = some (r1,r2)) ∧ Aside0 (kq ≤ k) ∧ Drawn0 w wc)
 case first =>
  have H := HC3.out
  clear HC3
  by_cases c4 : t168 < 0
  ·rw [if_pos c4] at H
   have c4b0 : decide (t168 < 0) = true := decide_eq_true c4
   clear c4
   (first | rw [c4b0] | (simp only [i64_w,i32_w]; rw [c4b0]) | rw [c4b1] | skip)
   have H' := Aside0.mk H
   clear H
   go_wp2
   go_meet
   case rel => exact ⟨_,(true),(by first | rfl | (simp; done) | (simp [*]; done) | (simp [wrap64]; done)),H',⟨by first | omega | exact Nat.le_refl _⟩,by repeat (first | exact Drawn0.refl _ | apply Drawn0.step)⟩
  ·rw [if_neg c4] at H
   have c4b0 : decide (t168 < 0) = false := decide_eq_false c4
   clear c4
   (first | rw [c4b0] | (simp only [i64_w,i32_w]; rw [c4b0]) | rw [c4b1] | skip)
   have H' := Aside0.mk H
   clear H
   go_wp2
   go_meet
   case rel => exact ⟨_,(decide (t168 > 20)),(by first | rfl | (simp; done) | (simp [*]; done) | (simp [wrap64]; done)),H',⟨by first | omega | exact Nat.le_refl _⟩,by repeat (first | exact Drawn0.refl _ | apply Drawn0.step)⟩
 case rest =>
  clear HC3
  (try clear p2); (try clear c4); (try clear c4b0); (try clear c4b1)
  obtain ⟨kq,x15_2,rfl,HA,HJ2,⟨mc2,rfl⟩⟩ := hcut
  cases kq with
  | zero => exact absurd HA.out (by simp [poly_Order.j0])
  | succ kj2 =>
   have H := HA.out
   clear HA
   simp only [poly_Order.j0] at H
   by_cases c5 : x15_2 = true
   ·subst c5
    have H1 : (some (0,21)) = some (r1,r2) := by rw [if_pos rfl] at H; exact H
    clear H
    have H := H1
    clear H1
    simp only [Option.some.injEq,Prod.mk.injEq] at H
    obtain ⟨rfl,rfl⟩ := H
    go_wp2
    go_ret2
    exact ⟨by first | rfl | (simp; done) | (simp [*]; done) | (simp [wrap64]; done),by repeat (first | exact Drawn0.refl _ | apply Drawn0.step)⟩
   ·replace c5 := Bool.eq_false_iff.mpr c5
    subst c5
    have H1 : (if (Go.bits .and .u64 a0 1) = 0 then (some (0,22)) else ((poly_rest.f kj2 1 a0).bind fun t169 => ((poly_rest.f kj2 2 a0).bind fun t170 => (poly_Order.l0 kj2 a0 t169 t170 1)))) = some (r1,r2) := by rw [if_neg (show ¬ (false = true) by decide)] at H; exact H
    clear H
    have H := H1
    clear H1
    by_cases c6 : (Go.bits .and .u64 a0 1) = 0
    ·rw [if_pos c6] at H
     have c6b0 : ((Go.bits .and .u64 a0 1) == 0) = true := beq_iff_eq.mpr c6
     have c6b1 : ((Go.bits .and .u64 a0 1) != 0) = false := bne_eq_false_iff_eq.mpr c6
     clear c6
     simp only [Option.some.injEq,Prod.mk.injEq] at H
     obtain ⟨rfl,rfl⟩ := H
     go_wp2
     go_ret2
     exact ⟨by first | rfl | (simp; done) | (simp [*]; done) | (simp [wrap64]; done),by repeat (first | exact Drawn0.refl _ | apply Drawn0.step)⟩
    ·rw [if_neg c6] at H
     have c6b0 : ((Go.bits .and .u64 a0 1) == 0) = false := beq_eq_false_iff_ne.mpr c6
     have c6b1 : ((Go.bits .and .u64 a0 1) != 0) = true := bne_iff_ne.mpr c6
     replace H := Option.bind_eq_some_iff.mp H
     obtain ⟨t169,A70,H⟩ := H
     try dsimp only at H
     have A7 := Aside0.mk A70
     clear A70
     replace H := Option.bind_eq_some_iff.mp H
     obtain ⟨t170,A80,H⟩ := H
     try dsimp only at H
     have A8 := Aside0.mk A80
     clear A80
     have H' := Aside0.mk H
     clear H
     go_wp2_with (first | (go_at_call 85; (with_reducible refine (poly_rest.calls kj2 1 a0 t169 _ A7.out).mono ?_); rintro e w' ⟨rfl,⟨nd,rfl⟩⟩) | (go_at_call 85; (with_reducible refine (poly_rest.calls kj2 2 a0 t170 _ A8.out).mono ?_); rintro e w' ⟨rfl,⟨nd,rfl⟩⟩))
     go_loopg [6,7] kj2 (fun kq v6 v7 w' => ∃ (x6_2 : Int) (x7_2 : Int),v6 = .int .u64 x6_2 ∧ v7 = .int .i64 x7_2 ∧ Aside0 (poly_Order.l0 kq a0 t169 x6_2 x7_2 = some (r1,r2)) ∧ Aside0 (kq ≤ kj2) ∧ Drawn0 w w')
     case atStart => exact ⟨(t170),(1),(by first | rfl | (simp; done) | (simp [*]; done) | (simp [wrap64]; done)),(by first | rfl | (simp; done) | (simp [*]; done) | (simp [wrap64]; done)),H',⟨Nat.le_refl _⟩,by repeat (first | exact Drawn0.refl _ | apply Drawn0.step)⟩
     case round =>
      clear H'
      (try clear c2); (try clear p2); (try clear c4); (try clear c4b0); (try clear c4b1); (try clear c5); (try clear c6); (try clear c6b0); (try clear c6b1); (try clear p6); (try clear c7); (try clear c8); (try clear p2)
      obtain ⟨x6_2,x7_2,rfl,rfl,HA,HK2,⟨m2,rfl⟩⟩ := hrel
      cases gk with
      | zero => exact absurd HA.out (by simp [poly_Order.l0])
      | succ k2 =>
       have H := HA.out
       clear HA
       simp only [poly_Order.l0] at H
       by_cases c9 : x6_2 = t169
       ·rw [if_pos c9] at H
        have c9b0 : (x6_2 == t169) = true := beq_iff_eq.mpr c9
        have c9b1 : (x6_2 != t169) = false := bne_eq_false_iff_eq.mpr c9
        clear c9
        simp only [Option.some.injEq,Prod.mk.injEq] at H
        obtain ⟨rfl,rfl⟩ := H
        go_wp2
        go_ret2
        exact ⟨by first | rfl | (simp; done) | (simp [*]; done) | (simp [wrap64]; done),by repeat (first | exact Drawn0.refl _ | apply Drawn0.step)⟩
       ·rw [if_neg c9] at H
        have c9b0 : (x6_2 == t169) = false := beq_eq_false_iff_ne.mpr c9
        have c9b1 : (x6_2 != t169) = true := bne_iff_ne.mpr c9
        replace H := Option.bind_eq_some_iff.mp H
        obtain ⟨t171,A100,H⟩ := H
        try dsimp only at H
        have A10 := Aside0.mk A100
        clear A100
        have H' := Aside0.mk H
        clear H
        go_wp2_with (first | (go_at_call 85; (with_reducible refine (poly_rest.calls k2 (IntKind.u64.wrap (x6_2 * 2)) a0 t171 _ A10.out).mono ?_); rintro e w' ⟨rfl,⟨nd,rfl⟩⟩))
        go_roundg k2
        case measure => have := HJ2.out; have := HK2.out; omega
        case rel => exact ⟨(t171),(wrap64 (x7_2 + 1)),(by first | rfl | (simp; done) | (simp [*]; done) | (simp [wrap64]; done)),(by first | rfl | (simp; done) | (simp [*]; done) | (simp [wrap64]; done)),H',⟨by have := HJ2.out; have := HK2.out; omega⟩,by repeat (first | exact Drawn0.refl _ | apply Drawn0.step)⟩

def poly_Primitive.j0 : Nat → Int → Int → Bool → Option (Bool × Int)
 | 0,_,_,_ => none
 | k + 1,x0,x4,x14 => if x14 = true then (some (false,21)) else (if (Go.bits .and .u64 x0 1) = 0 then (some (false,0)) else ((poly_prime.f k x0).bind fun t173 => (if t173 = true then ((poly_Order.f k x0).bind fun bt174 => (if 0 ≤ x4 then (some ((bt174.1 == (wrap64 ((shl .i64 1 x4) - 1))),0)) else (none))) else (some (false,0)))))
def poly_Primitive.f (k : Nat) (a0 : Int) : Option (Bool × Int) := (poly_Degree.f a0).bind fun t172 => (if t172 < 1 then (poly_Primitive.j0 k a0 t172 true) else (poly_Primitive.j0 k a0 t172 (decide (t172 > 20))))
theorem poly_Primitive.mono_l : ∀ k,(∀ y0 y1 y2,LeO (poly_Primitive.j0 k y0 y1 y2) (poly_Primitive.j0 (k + 1) y0 y1 y2))
 | 0 => fun _ _ _ r h => by simp [poly_Primitive.j0] at h
 | k + 1 => by
  have ih0 := poly_Primitive.mono_l k
  ·intro y0 y1 y2
   unfold poly_Primitive.j0
   repeat' with_reducible first
   | exact ih0 _ _ _
   | exact poly_Order.mono _ _
   | exact poly_prime.mono _ _
   | exact LeO.refl _
   | exact LeO.none _
   | refine LeO.ite ?_ ?_
   | refine LeO.bind ?_ (fun _ => ?_)
theorem poly_Primitive.mono : ∀ a0 k,LeO (poly_Primitive.f k a0) (poly_Primitive.f (k + 1) a0) := by
 intro a0 k
 have ih0 := poly_Primitive.mono_l k
 unfold poly_Primitive.f
 repeat' with_reducible first
   | exact ih0 _ _ _
   | exact poly_Order.mono _ _
   | exact poly_prime.mono _ _
   | exact LeO.refl _
   | exact LeO.none _
   | refine LeO.ite ?_ ?_
   | refine LeO.bind ?_ (fun _ => ?_)
set_option maxHeartbeats 8000000 in
set_option maxRecDepth 100000 in
theorem poly_Primitive.calls (k : Nat) (a0 : Int) (r1 : Bool) (r2 : Int) (w : World) (h : poly_Primitive.f k a0 = some (r1,r2)) :
  Calls Try.prog 80 #[.int .u64 a0] w fun e w' => e = .returned (.tuple #[.bool r1,.int .i64 r2]) ∧ Drawn0 w w' := by
 have H : ((poly_Degree.f a0).bind fun t172 => (if t172 < 1 then (poly_Primitive.j0 k a0 t172 true) else (poly_Primitive.j0 k a0 t172 (decide (t172 > 20))))) = some (r1,r2) := h
 clear h
 replace H := Option.bind_eq_some_iff.mp H
 obtain ⟨t172,A20,H⟩ := H
 try dsimp only at H
 have A2 := Aside0.mk A20
 clear A20
 have HC3 := Aside0.mk H
 clear H
 go_enter Try.func80,Try.ntmps80
 go_upto_region 2 with (first | (go_at_call 79; (with_reducible refine (poly_Degree.calls a0 t172 _ A2.out).mono ?_); rintro e w' ⟨rfl,⟨nd,rfl⟩⟩))
 (try simp only [Act.put,List.setIfInBounds_toArray,List.set_cons_zero,List.set_cons_succ])
 go_cut [14] (fun v14 wc => ∃ (kq : Nat) (x14_2 : Bool),v14 = .bool x14_2 ∧ Aside0 (poly_Primitive.j0 kq a0 t172 x14_2 = some (r1,r2)) ∧ Aside0 (kq ≤ k) ∧ Drawn0 w wc)
 case first =>
  have H := HC3.out
  clear HC3
  by_cases c4 : t172 < 1
  ·rw [if_pos c4] at H
   have c4b0 : decide (t172 < 1) = true := decide_eq_true c4
   clear c4
   (first | rw [c4b0] | (simp only [i64_w,i32_w]; rw [c4b0]) | rw [c4b1] | skip)
   have H' := Aside0.mk H
   clear H
   go_wp2
   go_meet
   case rel => exact ⟨_,(true),(by first | rfl | (simp; done) | (simp [*]; done) | (simp [wrap64]; done)),H',⟨by first | omega | exact Nat.le_refl _⟩,by repeat (first | exact Drawn0.refl _ | apply Drawn0.step)⟩
  ·rw [if_neg c4] at H
   have c4b0 : decide (t172 < 1) = false := decide_eq_false c4
   clear c4
   (first | rw [c4b0] | (simp only [i64_w,i32_w]; rw [c4b0]) | rw [c4b1] | skip)
   have H' := Aside0.mk H
   clear H
   go_wp2
   go_meet
   case rel => exact ⟨_,(decide (t172 > 20)),(by first | rfl | (simp; done) | (simp [*]; done) | (simp [wrap64]; done)),H',⟨by first | omega | exact Nat.le_refl _⟩,by repeat (first | exact Drawn0.refl _ | apply Drawn0.step)⟩
 case rest =>
  clear HC3
  (try clear p2); (try clear c4); (try clear c4b0); (try clear c4b1)
  obtain ⟨kq,x14_2,rfl,HA,HJ2,⟨mc2,rfl⟩⟩ := hcut
  cases kq with
  | zero => exact absurd HA.out (by simp [poly_Primitive.j0])
  | succ kj2 =>
   have H := HA.out
   clear HA
   simp only [poly_Primitive.j0] at H
   by_cases c5 : x14_2 = true
   ·subst c5
    have H1 : (some (false,21)) = some (r1,r2) := by rw [if_pos rfl] at H; exact H
    clear H
    have H := H1
    clear H1
    simp only [Option.some.injEq,Prod.mk.injEq] at H
    obtain ⟨rfl,rfl⟩ := H
    go_wp2
    go_ret2
    exact ⟨by first | rfl | (simp; done) | (simp [*]; done) | (simp [wrap64]; done),by repeat (first | exact Drawn0.refl _ | apply Drawn0.step)⟩
   ·replace c5 := Bool.eq_false_iff.mpr c5
    subst c5
    have H1 : (if (Go.bits .and .u64 a0 1) = 0 then (some (false,0)) else ((poly_prime.f kj2 a0).bind fun t173 => (if t173 = true then ((poly_Order.f kj2 a0).bind fun bt174 => (if 0 ≤ t172 then (some ((bt174.1 == (wrap64 ((shl .i64 1 t172) - 1))),0)) else (none))) else (some (false,0))))) = some (r1,r2) := by rw [if_neg (show ¬ (false = true) by decide)] at H; exact H
    clear H
    have H := H1
    clear H1
    by_cases c6 : (Go.bits .and .u64 a0 1) = 0
    ·rw [if_pos c6] at H
     have c6b0 : ((Go.bits .and .u64 a0 1) == 0) = true := beq_iff_eq.mpr c6
     have c6b1 : ((Go.bits .and .u64 a0 1) != 0) = false := bne_eq_false_iff_eq.mpr c6
     clear c6
     simp only [Option.some.injEq,Prod.mk.injEq] at H
     obtain ⟨rfl,rfl⟩ := H
     go_wp2
     go_ret2
     exact ⟨by first | rfl | (simp; done) | (simp [*]; done) | (simp [wrap64]; done),by repeat (first | exact Drawn0.refl _ | apply Drawn0.step)⟩
    ·rw [if_neg c6] at H
     have c6b0 : ((Go.bits .and .u64 a0 1) == 0) = false := beq_eq_false_iff_ne.mpr c6
     have c6b1 : ((Go.bits .and .u64 a0 1) != 0) = true := bne_iff_ne.mpr c6
     replace H := Option.bind_eq_some_iff.mp H
     obtain ⟨t173,A70,H⟩ := H
     try dsimp only at H
     have A7 := Aside0.mk A70
     clear A70
     by_cases c8 : t173 = true
     rotate_left
     ·replace c8 := Bool.eq_false_iff.mpr c8
      subst c8
      have H1 : (some (false,0)) = some (r1,r2) := by rw [if_neg (show ¬ (false = true) by decide)] at H; exact H
      clear H
      have H := H1
      clear H1
      simp only [Option.some.injEq,Prod.mk.injEq] at H
      obtain ⟨rfl,rfl⟩ := H
      go_wp2_with (first | (go_at_call 83; (with_reducible refine (poly_prime.calls kj2 a0 false _ A7.out).mono ?_); rintro e w' ⟨rfl,⟨nd,rfl⟩⟩))
      go_ret2
      exact ⟨by first | rfl | (simp; done) | (simp [*]; done) | (simp [wrap64]; done),by repeat (first | exact Drawn0.refl _ | apply Drawn0.step)⟩


     subst c8
     have H1 : ((poly_Order.f kj2 a0).bind fun bt174 => (if 0 ≤ t172 then (some ((bt174.1 == (wrap64 ((shl .i64 1 t172) - 1))),0)) else (none))) = some (r1,r2) := by rw [if_pos rfl] at H; exact H
     clear H
     have H := H1
     clear H1
     replace H := Option.bind_eq_some_iff.mp H
     obtain ⟨⟨t174,t175⟩,A90,H⟩ := H
     try dsimp only at H
     have A9 := Aside0.mk A90
     clear A90
     by_cases c10 : 0 ≤ t172
     rotate_left
     ·rw [if_neg c10] at H
      exact absurd H (by simp)
     rw [if_pos c10] at H
     have c10b0 := eq_true c10
     have c10b1 : decide (0 ≤ t172) = true := decide_eq_true c10
     clear c10
     obtain ⟨ji11,hji11⟩ : ∃ j_ : Int,(shl .i64 1 t172) = j_ := ⟨_,rfl⟩
     first | rw [hji11] at H | simp only [hji11] at H
     (try rw [hji11] at A7)
     (try rw [hji11] at A9)
     have hji11_ : (IntKind.i64.wrap (1 * 2 ^ min t172.toNat 64)) = ji11 := hji11
     have hji11z : t172 ≤ 64 → (IntKind.i64.wrap (1 * 2 ^ t172.toNat)) = ji11 := shl_small hji11
     have hji11u : (IntKind.i64.wrap (2 ^ min t172.toNat 64)) = ji11 := by have h_ := hji11_; rw [Int.one_mul] at h_; exact h_
     have hji11v : t172 ≤ 64 → (IntKind.i64.wrap (2 ^ t172.toNat)) = ji11 := fun hle_ => by have h_ := hji11z hle_; rw [Int.one_mul] at h_; exact h_
     have hji11y : (wrap64 (1 * 2 ^ min t172.toNat 64)) = ji11 := (i64_w _).symm.trans hji11_
     have hji11x : t172 ≤ 64 → (wrap64 (1 * 2 ^ t172.toNat)) = ji11 := fun h_ => (i64_w _).symm.trans (hji11z h_)
     simp only [Option.some.injEq,Prod.mk.injEq] at H
     obtain ⟨rfl,rfl⟩ := H
     go_wp2_with (first | (go_at_call 83; (with_reducible refine (poly_prime.calls kj2 a0 true _ A7.out).mono ?_); rintro e w' ⟨rfl,⟨nd,rfl⟩⟩) | (go_at_call 84; (with_reducible refine (poly_Order.calls kj2 a0 t174 t175 _ A9.out).mono ?_); rintro e w' ⟨rfl,⟨nd,rfl⟩⟩))
     go_ret2
     exact ⟨by first | rfl | (simp; done) | (simp only [← hji11] <;> (first | rfl | simp)) | (simp [*]; done) | (simp [wrap64]; done),by repeat (first | exact Drawn0.refl _ | apply Drawn0.step)⟩
def galois_Check.j0 : Nat → Bool → Int → Int → Option (Int)
 | 0,_,_,_ => none
 | k + 1,x20,x177000,x177001 => if x20 = true then (some 320) else ((poly_Primitive.f k x177001).bind fun bt178 => (if bt178.2 = 0 then (if bt178.1 = true then (some 0) else (some 320)) else (some 320)))
def galois_Check.f (k : Nat) (a0_0 : Int) (a0_1 : Int) : Option (Int) := if a0_0 < 3 then (galois_Check.j0 k true a0_0 a0_1) else (if a0_0 > 8 then (galois_Check.j0 k true a0_0 a0_1) else ((poly_Degree.f a0_1).bind fun t177 => (galois_Check.j0 k (t177 != a0_0) a0_0 a0_1)))
theorem galois_Check.mono_l : ∀ k,(∀ y0 y1 y2,LeO (galois_Check.j0 k y0 y1 y2) (galois_Check.j0 (k + 1) y0 y1 y2))
 | 0 => fun _ _ _ r h => by simp [galois_Check.j0] at h
 | k + 1 => by
  have ih0 := galois_Check.mono_l k
  ·intro y0 y1 y2
   unfold galois_Check.j0
   repeat' with_reducible first
   | exact ih0 _ _ _
   | exact poly_Primitive.mono _ _
   | exact LeO.refl _
   | exact LeO.none _
   | refine LeO.ite ?_ ?_
   | refine LeO.bind ?_ (fun _ => ?_)
theorem galois_Check.mono : ∀ a0 a1 k,LeO (galois_Check.f k a0 a1) (galois_Check.f (k + 1) a0 a1) := by
 intro a0 a1 k
 have ih0 := galois_Check.mono_l k
 unfold galois_Check.f
 repeat' with_reducible first
   | exact ih0 _ _ _
   | exact poly_Primitive.mono _ _
   | exact LeO.refl _
   | exact LeO.none _
   | refine LeO.ite ?_ ?_
   | refine LeO.bind ?_ (fun _ => ?_)
set_option maxHeartbeats 8000000 in
set_option maxRecDepth 100000 in
theorem galois_Check.calls (k : Nat) (a0_0 : Int) (a0_1 : Int) (r : Int) (w : World) (h : galois_Check.f k a0_0 a0_1 = some r) :
  Calls Try.prog 67 #[.agg #[.int .i64 a0_0,.int .u64 a0_1]] w fun e w' => e = .returned (.int .i64 r) ∧ Below w.heap.size w w' := by
 have hu24 := Try.underlying24
 have HB := aK (Below.refl w.heap.size w)
 have H : (if a0_0 < 3 then (galois_Check.j0 k true a0_0 a0_1) else (if a0_0 > 8 then (galois_Check.j0 k true a0_0 a0_1) else ((poly_Degree.f a0_1).bind fun t177 => (galois_Check.j0 k (t177 != a0_0) a0_0 a0_1)))) = some r := h
 clear h
 have HC2 := Aside0.mk H
 clear H
 go_enter Try.func67,Try.ntmps67
 go_upto_region 1 with (first | ((with_reducible refine gate_dst (N := 1) rfl ?_); refine box_event ?hg (N := 1) ?hd (cs := #[.int .i64 a0_0,.int .u64 a0_1]) (t := 24) ?hr ?_; (case hd => rfl); (case hg => rfl); (case hr => first | (go_simp; done) | (go_simp; rfl)); intro gb176 hg w3 hbox hb; have BK176 := aK (hbox); have GW176 := aK ((by rw [hg]; exact (below_size (mvh HB.out)) : w.heap.size ≤ gb176)); have GE176 := aK ((by rw [hg]; exact (below_size (mvh HB.out)) : w.heap.size ≤ gb176)); replace HB := aK (below_step (mvh HB.out) hb); clear hb hbox hg))
 repeat (go_quiet (first | ((with_reducible refine gate_dst (N := 1) rfl ?_); refine box_event ?hg (N := 1) ?hd (cs := #[.int .i64 a0_0,.int .u64 a0_1]) (t := 24) ?hr ?_; (case hd => rfl); (case hg => rfl); (case hr => first | (go_simp; done) | (go_simp; rfl)); intro gb176 hg w3 hbox hb; have BK176 := aK (hbox); have GW176 := aK ((by rw [hg]; exact (below_size (mvh HB.out)) : w.heap.size ≤ gb176)); have GE176 := aK ((by rw [hg]; exact (below_size (mvh HB.out)) : w.heap.size ≤ gb176)); replace HB := aK (below_step (mvh HB.out) hb); clear hb hbox hg)); go_upto_region 1 with (first | ((with_reducible refine gate_dst (N := 1) rfl ?_); refine box_event ?hg (N := 1) ?hd (cs := #[.int .i64 a0_0,.int .u64 a0_1]) (t := 24) ?hr ?_; (case hd => rfl); (case hg => rfl); (case hr => first | (go_simp; done) | (go_simp; rfl)); intro gb176 hg w3 hbox hb; have BK176 := aK (hbox); have GW176 := aK ((by rw [hg]; exact (below_size (mvh HB.out)) : w.heap.size ≤ gb176)); have GE176 := aK ((by rw [hg]; exact (below_size (mvh HB.out)) : w.heap.size ≤ gb176)); replace HB := aK (below_step (mvh HB.out) hb); clear hb hbox hg)))
 (try simp only [Act.put,List.setIfInBounds_toArray,List.set_cons_zero,List.set_cons_succ])
 go_cut [20] (fun v20 wc => ∃ (kq : Nat) (x20_1 : Bool),v20 = .bool x20_1 ∧ Aside0 (galois_Check.j0 kq x20_1 a0_0 a0_1 = some r) ∧ Aside0 (kq ≤ k) ∧ Aside0 (wc.heap[gb176]? = some (.cells #[.int .i64 a0_0,.int .u64 a0_1] 24 (0,0))) ∧ Aside0 (Below w.heap.size w wc))
 case first =>
  have H := HC2.out
  clear HC2
  by_cases c4 : a0_0 < 3
  ·rw [if_pos c4] at H
   have c4b0 : decide (a0_0 < 3) = true := decide_eq_true c4
   clear c4
   (first | rw [c4b0] | (simp only [i64_w,i32_w]; rw [c4b0]) | rw [c4b1] | skip)
   have H' := Aside0.mk H
   clear H
   obtain ⟨hcz5_0,hcz5_1,hfz5_0,hfz5_1⟩ := cf2 BK176.out
   go_wp2
   repeat (go_quiet (fail); try go_wp2)
   go_meet
   case rel => exact ⟨_,(true),(by first | rfl | (simp; done) | (simp [*]; done) | (simp [wrap64]; done)),H',⟨by first | omega | exact Nat.le_refl _⟩,⟨mvb BK176.out⟩,⟨mvh HB.out⟩⟩
  ·rw [if_neg c4] at H
   have c4b0 : decide (a0_0 < 3) = false := decide_eq_false c4
   clear c4
   (first | rw [c4b0] | (simp only [i64_w,i32_w]; rw [c4b0]) | rw [c4b1] | skip)
   by_cases c6 : a0_0 > 8
   ·rw [if_pos c6] at H
    have c6b0 : decide (8 < a0_0) = true := decide_eq_true c6
    clear c6
    have H' := Aside0.mk H
    clear H
    obtain ⟨hcz7_0,hcz7_1,hfz7_0,hfz7_1⟩ := cf2 BK176.out
    go_wp2
    repeat (go_quiet (fail); try go_wp2)
    go_meet
    case rel => exact ⟨_,(true),(by first | rfl | (simp; done) | (simp [*]; done) | (simp [wrap64]; done)),H',⟨by first | omega | exact Nat.le_refl _⟩,⟨mvb BK176.out⟩,⟨mvh HB.out⟩⟩
   ·rw [if_neg c6] at H
    have c6b0 : decide (8 < a0_0) = false := decide_eq_false c6
    clear c6
    replace H := Option.bind_eq_some_iff.mp H
    obtain ⟨t177,A80,H⟩ := H
    try dsimp only at H
    have A8 := Aside0.mk A80
    clear A80
    have H' := Aside0.mk H
    clear H
    obtain ⟨hcz9_0,hcz9_1,hfz9_0,hfz9_1⟩ := cf2 BK176.out
    go_wp2_with (first | (go_at_call 79; (with_reducible refine (poly_Degree.calls a0_1 t177 _ A8.out).mono ?_); rintro e w' ⟨rfl,⟨nd,rfl⟩⟩; (try first | exact ⟨rfl,_,World.drewN_drewN _ _ _⟩ | exact ⟨rfl,_,Eq.trans (World.drewN_drewN _ _ _) (congrArg (World.drewN _) (Nat.add_assoc _ _ _))⟩)) | go_quiet (first | (go_at_call 79; (with_reducible refine (poly_Degree.calls a0_1 t177 _ A8.out).mono ?_); rintro e w' ⟨rfl,⟨nd,rfl⟩⟩; (try first | exact ⟨rfl,_,World.drewN_drewN _ _ _⟩ | exact ⟨rfl,_,Eq.trans (World.drewN_drewN _ _ _) (congrArg (World.drewN _) (Nat.add_assoc _ _ _))⟩))))
    go_meet
    case rel => exact ⟨_,((t177 != a0_0)),(by first | rfl | (simp; done) | (simp [*]; done) | (simp [wrap64]; done)),H',⟨by first | omega | exact Nat.le_refl _⟩,⟨mvb BK176.out⟩,⟨mvh HB.out⟩⟩
 case rest =>
  clear HC2
  (try clear p2); (try clear c4); (try clear c4b0); (try clear c4b1); (try clear c6); (try clear c6b0); (try clear p6); (try clear hcz5_0); (try clear hcz5_1); (try clear hcz7_0); (try clear hcz7_1); (try clear hcz9_0); (try clear hcz9_1); (try clear hfz5_0); (try clear hfz5_1); (try clear hfz7_0); (try clear hfz7_1)
  (try clear hfz9_0); (try clear hfz9_1)
  obtain ⟨kq,x20_1,rfl,HA,HJ1,BK176,HB⟩ := hcut
  cases kq with
  | zero => exact absurd HA.out (by simp [galois_Check.j0])
  | succ kj1 =>
   have H := HA.out
   clear HA
   simp only [galois_Check.j0] at H
   by_cases c10 : x20_1 = true
   ·subst c10
    have H1 : (some 320) = some r := by rw [if_pos rfl] at H; exact H
    clear H
    have H := H1
    clear H1
    obtain rfl := Option.some.inj H
    go_wp2
    repeat (go_quiet (fail); try go_wp2)
    go_ret
    exact ⟨by first | rfl | (simp [errW_none,errW_some] <;> rfl) | (simp [*,errW_none,errW_some] <;> rfl),mvh HB.out⟩
   ·replace c10 := Bool.eq_false_iff.mpr c10
    subst c10
    have H1 : ((poly_Primitive.f kj1 a0_1).bind fun bt178 => (if bt178.2 = 0 then (if bt178.1 = true then (some 0) else (some 320)) else (some 320))) = some r := by rw [if_neg (show ¬ (false = true) by decide)] at H; exact H
    clear H
    have H := H1
    clear H1
    replace H := Option.bind_eq_some_iff.mp H
    obtain ⟨⟨t178,t179⟩,A110,H⟩ := H
    try dsimp only at H
    have A11 := Aside0.mk A110
    clear A110
    by_cases c12 : t179 = 0
    rotate_left
    ·rw [if_neg c12] at H
     have c12b0 : (t179 == 0) = false := beq_eq_false_iff_ne.mpr c12
     have c12b1 : (t179 != 0) = true := bne_iff_ne.mpr c12
     obtain rfl := Option.some.inj H
     obtain ⟨hcz16_0,hcz16_1,hfz16_0,hfz16_1⟩ := cf2 BK176.out
     go_wp2_with (first | (go_at_call 80; (with_reducible refine (poly_Primitive.calls kj1 a0_1 t178 t179 _ A11.out).mono ?_); rintro e w' ⟨rfl,⟨nd,rfl⟩⟩; (try first | exact ⟨rfl,_,World.drewN_drewN _ _ _⟩ | exact ⟨rfl,_,Eq.trans (World.drewN_drewN _ _ _) (congrArg (World.drewN _) (Nat.add_assoc _ _ _))⟩)) | go_quiet (first | (go_at_call 80; (with_reducible refine (poly_Primitive.calls kj1 a0_1 t178 t179 _ A11.out).mono ?_); rintro e w' ⟨rfl,⟨nd,rfl⟩⟩; (try first | exact ⟨rfl,_,World.drewN_drewN _ _ _⟩ | exact ⟨rfl,_,Eq.trans (World.drewN_drewN _ _ _) (congrArg (World.drewN _) (Nat.add_assoc _ _ _))⟩))))
     go_ret
     exact ⟨by first | rfl | (simp [errW_none,errW_some] <;> rfl) | (simp [*,errW_none,errW_some] <;> rfl),mvh HB.out⟩


    rw [if_pos c12] at H
    have c12b0 : (t179 == 0) = true := beq_iff_eq.mpr c12
    have c12b1 : (t179 != 0) = false := bne_eq_false_iff_eq.mpr c12
    clear c12
    by_cases c13 : t178 = true
    ·subst c13
     have H1 : (some 0) = some r := by rw [if_pos rfl] at H; exact H
     clear H
     have H := H1
     clear H1
     obtain rfl := Option.some.inj H
     obtain ⟨hcz14_0,hcz14_1,hfz14_0,hfz14_1⟩ := cf2 BK176.out
     go_wp2_with (first | (go_at_call 80; (with_reducible refine (poly_Primitive.calls kj1 a0_1 true t179 _ A11.out).mono ?_); rintro e w' ⟨rfl,⟨nd,rfl⟩⟩; (try first | exact ⟨rfl,_,World.drewN_drewN _ _ _⟩ | exact ⟨rfl,_,Eq.trans (World.drewN_drewN _ _ _) (congrArg (World.drewN _) (Nat.add_assoc _ _ _))⟩)) | go_quiet (first | (go_at_call 80; (with_reducible refine (poly_Primitive.calls kj1 a0_1 true t179 _ A11.out).mono ?_); rintro e w' ⟨rfl,⟨nd,rfl⟩⟩; (try first | exact ⟨rfl,_,World.drewN_drewN _ _ _⟩ | exact ⟨rfl,_,Eq.trans (World.drewN_drewN _ _ _) (congrArg (World.drewN _) (Nat.add_assoc _ _ _))⟩))))
     go_ret
     exact ⟨by first | rfl | (simp [errW_none,errW_some] <;> rfl) | (simp [*,errW_none,errW_some] <;> rfl),mvh HB.out⟩
    ·replace c13 := Bool.eq_false_iff.mpr c13
     subst c13
     have H1 : (some 320) = some r := by rw [if_neg (show ¬ (false = true) by decide)] at H; exact H
     clear H
     have H := H1
     clear H1
     obtain rfl := Option.some.inj H
     obtain ⟨hcz15_0,hcz15_1,hfz15_0,hfz15_1⟩ := cf2 BK176.out
     go_wp2_with (first | (go_at_call 80; (with_reducible refine (poly_Primitive.calls kj1 a0_1 false t179 _ A11.out).mono ?_); rintro e w' ⟨rfl,⟨nd,rfl⟩⟩; (try first | exact ⟨rfl,_,World.drewN_drewN _ _ _⟩ | exact ⟨rfl,_,Eq.trans (World.drewN_drewN _ _ _) (congrArg (World.drewN _) (Nat.add_assoc _ _ _))⟩)) | go_quiet (first | (go_at_call 80; (with_reducible refine (poly_Primitive.calls kj1 a0_1 false t179 _ A11.out).mono ?_); rintro e w' ⟨rfl,⟨nd,rfl⟩⟩; (try first | exact ⟨rfl,_,World.drewN_drewN _ _ _⟩ | exact ⟨rfl,_,Eq.trans (World.drewN_drewN _ _ _) (congrArg (World.drewN _) (Nat.add_assoc _ _ _))⟩))))
     go_ret
     exact ⟨by first | rfl | (simp [errW_none,errW_some] <;> rfl) | (simp [*,errW_none,errW_some] <;> rfl),mvh HB.out⟩
def reedsol_Check.f (k : Nat) (a0_0 : Int) (a0_1 : Int) (a0_2 : Int) (a0_3 : Int) : Option (Int) := (galois_Check.f k a0_0 a0_1).bind fun t181 => (if t181 = 0 then (if 0 ≤ a0_0 then (if a0_2 < 0 then (some 330) else (if a0_2 > (wrap64 ((shl .i64 1 a0_0) - 2)) then (some 330) else (if a0_3 < 1 then (some 330) else (if a0_3 > (wrap64 ((shl .i64 1 a0_0) - 2)) then (some 330) else (some 0))))) else (none)) else (some t181))
theorem reedsol_Check.mono : ∀ a0 a1 a2 a3 k,LeO (reedsol_Check.f k a0 a1 a2 a3) (reedsol_Check.f (k + 1) a0 a1 a2 a3) := by
 intro a0 a1 a2 a3 k
 unfold reedsol_Check.f
 repeat' with_reducible first
   | exact galois_Check.mono _ _ _
   | exact LeO.refl _
   | exact LeO.none _
   | refine LeO.ite ?_ ?_
   | refine LeO.bind ?_ (fun _ => ?_)
set_option maxHeartbeats 8000000 in
set_option maxRecDepth 100000 in
theorem reedsol_Check.calls (k : Nat) (a0_0 : Int) (a0_1 : Int) (a0_2 : Int) (a0_3 : Int) (r : Int) (w : World) (h : reedsol_Check.f k a0_0 a0_1 a0_2 a0_3 = some r) :
  Calls Try.prog 42 #[.agg #[.int .i64 a0_0,.int .u64 a0_1,.int .i64 a0_2,.int .i64 a0_3]] w fun e w' => e = .returned (.int .i64 r) ∧ Below w.heap.size w w' := by
 have hu26 := Try.underlying26
 have hu24 := Try.underlying24
 have HB := aK (Below.refl w.heap.size w)
 have H : ((galois_Check.f k a0_0 a0_1).bind fun t181 => (if t181 = 0 then (if 0 ≤ a0_0 then (if a0_2 < 0 then (some 330) else (if a0_2 > (wrap64 ((shl .i64 1 a0_0) - 2)) then (some 330) else (if a0_3 < 1 then (some 330) else (if a0_3 > (wrap64 ((shl .i64 1 a0_0) - 2)) then (some 330) else (some 0))))) else (none)) else (some t181))) = some r := h
 clear h
 replace H := Option.bind_eq_some_iff.mp H
 obtain ⟨t181,A20,H⟩ := H
 try dsimp only at H
 have A2 := Aside0.mk A20
 clear A20
 by_cases c3 : t181 = 0
 rotate_left
 ·rw [if_neg c3] at H
  have c3b0 : (t181 == 0) = false := beq_eq_false_iff_ne.mpr c3
  have c3b1 : (t181 != 0) = true := bne_iff_ne.mpr c3
  obtain rfl := Option.some.inj H
  go_enter Try.func42,Try.ntmps42
  go_wp2_with (first | ((with_reducible refine gate_dst (N := 1) rfl ?_); refine box_event ?hg (N := 1) ?hd (cs := #[.int .i64 a0_0,.int .u64 a0_1,.int .i64 a0_2,.int .i64 a0_3]) (t := 26) ?hr ?_; (case hd => rfl); (case hg => rfl); (case hr => first | (go_simp; done) | (go_simp; rfl)); intro gb180 hg w30 hbox hb; have BK180 := aK (hbox); have GW180 := aK ((by rw [hg]; exact (below_size (mvh HB.out)) : w.heap.size ≤ gb180)); have GE180 := aK ((by rw [hg]; exact (below_size (mvh HB.out)) : w.heap.size ≤ gb180)); replace HB := aK (below_step (mvh HB.out) hb); clear hb hbox hg; obtain ⟨hcz31_0,hcz31_1,hcz31_2,hcz31_3,hfz31_0,hfz31_1,hfz31_2,hfz31_3⟩ := cf4 BK180.out) | (go_at_call 67; (with_reducible refine (galois_Check.calls k a0_0 a0_1 t181 _ A2.out).mono ?_); rintro e w32 ⟨rfl,hb⟩; replace BK180 := aK (kb BK180.out hb); replace HB := aK (below_step (mvh HB.out) hb); (try clear hb)))
  go_ret
  exact ⟨by first | rfl | (simp [errW_none,errW_some] <;> rfl) | (simp [*,errW_none,errW_some] <;> rfl),mvh HB.out⟩

 rw [if_pos c3] at H
 have c3b0 : (t181 == 0) = true := beq_iff_eq.mpr c3
 have c3b1 : (t181 != 0) = false := bne_eq_false_iff_eq.mpr c3
 clear c3
 by_cases c4 : 0 ≤ a0_0
 rotate_left
 ·rw [if_neg c4] at H
  exact absurd H (by simp)
 rw [if_pos c4] at H
 have c4b0 := eq_true c4
 have c4b1 : decide (0 ≤ a0_0) = true := decide_eq_true c4
 clear c4
 obtain ⟨ji5,hji5⟩ : ∃ j_ : Int,(shl .i64 1 a0_0) = j_ := ⟨_,rfl⟩
 first | rw [hji5] at H | simp only [hji5] at H
 (try rw [hji5] at A2)
 have hji5_ : (IntKind.i64.wrap (1 * 2 ^ min a0_0.toNat 64)) = ji5 := hji5
 have hji5z : a0_0 ≤ 64 → (IntKind.i64.wrap (1 * 2 ^ a0_0.toNat)) = ji5 := shl_small hji5
 have hji5u : (IntKind.i64.wrap (2 ^ min a0_0.toNat 64)) = ji5 := by have h_ := hji5_; rw [Int.one_mul] at h_; exact h_
 have hji5v : a0_0 ≤ 64 → (IntKind.i64.wrap (2 ^ a0_0.toNat)) = ji5 := fun hle_ => by have h_ := hji5z hle_; rw [Int.one_mul] at h_; exact h_
 have hji5y : (wrap64 (1 * 2 ^ min a0_0.toNat 64)) = ji5 := (i64_w _).symm.trans hji5_
 have hji5x : a0_0 ≤ 64 → (wrap64 (1 * 2 ^ a0_0.toNat)) = ji5 := fun h_ => (i64_w _).symm.trans (hji5z h_)
 by_cases c6 : a0_2 < 0
 ·rw [if_pos c6] at H
  have c6b0 : decide (a0_2 < 0) = true := decide_eq_true c6
  clear c6
  obtain rfl := Option.some.inj H
  go_enter Try.func42,Try.ntmps42
  go_wp2_with (first | ((with_reducible refine gate_dst (N := 1) rfl ?_); refine box_event ?hg (N := 1) ?hd (cs := #[.int .i64 a0_0,.int .u64 a0_1,.int .i64 a0_2,.int .i64 a0_3]) (t := 26) ?hr ?_; (case hd => rfl); (case hg => rfl); (case hr => first | (go_simp; done) | (go_simp; rfl)); intro gb180 hg w7 hbox hb; have BK180 := aK (hbox); have GW180 := aK ((by rw [hg]; exact (below_size (mvh HB.out)) : w.heap.size ≤ gb180)); have GE180 := aK ((by rw [hg]; exact (below_size (mvh HB.out)) : w.heap.size ≤ gb180)); replace HB := aK (below_step (mvh HB.out) hb); clear hb hbox hg; obtain ⟨hcz8_0,hcz8_1,hcz8_2,hcz8_3,hfz8_0,hfz8_1,hfz8_2,hfz8_3⟩ := cf4 BK180.out) | (go_at_call 67; (with_reducible refine (galois_Check.calls k a0_0 a0_1 t181 _ A2.out).mono ?_); rintro e w9 ⟨rfl,hb⟩; replace BK180 := aK (kb BK180.out hb); replace HB := aK (below_step (mvh HB.out) hb); (try clear hb); obtain ⟨hcz10_0,hcz10_1,hcz10_2,hcz10_3,hfz10_0,hfz10_1,hfz10_2,hfz10_3⟩ := cf4 BK180.out))
  go_ret
  exact ⟨by first | rfl | (simp [errW_none,errW_some] <;> rfl) | (simp only [← hji5]; first | rfl | (simp [errW_none,errW_some] <;> rfl)) | (simp [*,errW_none,errW_some] <;> rfl),mvh HB.out⟩
 ·rw [if_neg c6] at H
  have c6b0 : decide (a0_2 < 0) = false := decide_eq_false c6
  clear c6
  by_cases c11 : a0_2 > (wrap64 ((ji5) - 2))
  ·rw [if_pos c11] at H
   have c11b0 : decide ((wrap64 ((ji5) - 2)) < a0_2) = true := decide_eq_true c11
   clear c11
   obtain rfl := Option.some.inj H
   go_enter Try.func42,Try.ntmps42
   go_wp2_with (first | ((with_reducible refine gate_dst (N := 1) rfl ?_); refine box_event ?hg (N := 1) ?hd (cs := #[.int .i64 a0_0,.int .u64 a0_1,.int .i64 a0_2,.int .i64 a0_3]) (t := 26) ?hr ?_; (case hd => rfl); (case hg => rfl); (case hr => first | (go_simp; done) | (go_simp; rfl)); intro gb180 hg w12 hbox hb; have BK180 := aK (hbox); have GW180 := aK ((by rw [hg]; exact (below_size (mvh HB.out)) : w.heap.size ≤ gb180)); have GE180 := aK ((by rw [hg]; exact (below_size (mvh HB.out)) : w.heap.size ≤ gb180)); replace HB := aK (below_step (mvh HB.out) hb); clear hb hbox hg; obtain ⟨hcz13_0,hcz13_1,hcz13_2,hcz13_3,hfz13_0,hfz13_1,hfz13_2,hfz13_3⟩ := cf4 BK180.out) | (go_at_call 67; (with_reducible refine (galois_Check.calls k a0_0 a0_1 t181 _ A2.out).mono ?_); rintro e w14 ⟨rfl,hb⟩; replace BK180 := aK (kb BK180.out hb); replace HB := aK (below_step (mvh HB.out) hb); (try clear hb); obtain ⟨hcz15_0,hcz15_1,hcz15_2,hcz15_3,hfz15_0,hfz15_1,hfz15_2,hfz15_3⟩ := cf4 BK180.out))
   go_ret
   exact ⟨by first | rfl | (simp [errW_none,errW_some] <;> rfl) | (simp only [← hji5]; first | rfl | (simp [errW_none,errW_some] <;> rfl)) | (simp [*,errW_none,errW_some] <;> rfl),mvh HB.out⟩
  ·rw [if_neg c11] at H
   have c11b0 : decide ((wrap64 ((ji5) - 2)) < a0_2) = false := decide_eq_false c11
   clear c11
   by_cases c16 : a0_3 < 1
   ·rw [if_pos c16] at H
    have c16b0 : decide (a0_3 < 1) = true := decide_eq_true c16
    clear c16
    obtain rfl := Option.some.inj H
    go_enter Try.func42,Try.ntmps42
    go_wp2_with (first | ((with_reducible refine gate_dst (N := 1) rfl ?_); refine box_event ?hg (N := 1) ?hd (cs := #[.int .i64 a0_0,.int .u64 a0_1,.int .i64 a0_2,.int .i64 a0_3]) (t := 26) ?hr ?_; (case hd => rfl); (case hg => rfl); (case hr => first | (go_simp; done) | (go_simp; rfl)); intro gb180 hg w17 hbox hb; have BK180 := aK (hbox); have GW180 := aK ((by rw [hg]; exact (below_size (mvh HB.out)) : w.heap.size ≤ gb180)); have GE180 := aK ((by rw [hg]; exact (below_size (mvh HB.out)) : w.heap.size ≤ gb180)); replace HB := aK (below_step (mvh HB.out) hb); clear hb hbox hg; obtain ⟨hcz18_0,hcz18_1,hcz18_2,hcz18_3,hfz18_0,hfz18_1,hfz18_2,hfz18_3⟩ := cf4 BK180.out) | (go_at_call 67; (with_reducible refine (galois_Check.calls k a0_0 a0_1 t181 _ A2.out).mono ?_); rintro e w19 ⟨rfl,hb⟩; replace BK180 := aK (kb BK180.out hb); replace HB := aK (below_step (mvh HB.out) hb); (try clear hb); obtain ⟨hcz20_0,hcz20_1,hcz20_2,hcz20_3,hfz20_0,hfz20_1,hfz20_2,hfz20_3⟩ := cf4 BK180.out))
    go_ret
    exact ⟨by first | rfl | (simp [errW_none,errW_some] <;> rfl) | (simp only [← hji5]; first | rfl | (simp [errW_none,errW_some] <;> rfl)) | (simp [*,errW_none,errW_some] <;> rfl),mvh HB.out⟩
   ·rw [if_neg c16] at H
    have c16b0 : decide (a0_3 < 1) = false := decide_eq_false c16
    clear c16
    by_cases c21 : a0_3 > (wrap64 ((ji5) - 2))
    ·rw [if_pos c21] at H
     have c21b0 : decide ((wrap64 ((ji5) - 2)) < a0_3) = true := decide_eq_true c21
     clear c21
     obtain rfl := Option.some.inj H
     go_enter Try.func42,Try.ntmps42
     go_wp2_with (first | ((with_reducible refine gate_dst (N := 1) rfl ?_); refine box_event ?hg (N := 1) ?hd (cs := #[.int .i64 a0_0,.int .u64 a0_1,.int .i64 a0_2,.int .i64 a0_3]) (t := 26) ?hr ?_; (case hd => rfl); (case hg => rfl); (case hr => first | (go_simp; done) | (go_simp; rfl)); intro gb180 hg w22 hbox hb; have BK180 := aK (hbox); have GW180 := aK ((by rw [hg]; exact (below_size (mvh HB.out)) : w.heap.size ≤ gb180)); have GE180 := aK ((by rw [hg]; exact (below_size (mvh HB.out)) : w.heap.size ≤ gb180)); replace HB := aK (below_step (mvh HB.out) hb); clear hb hbox hg; obtain ⟨hcz23_0,hcz23_1,hcz23_2,hcz23_3,hfz23_0,hfz23_1,hfz23_2,hfz23_3⟩ := cf4 BK180.out) | (go_at_call 67; (with_reducible refine (galois_Check.calls k a0_0 a0_1 t181 _ A2.out).mono ?_); rintro e w24 ⟨rfl,hb⟩; replace BK180 := aK (kb BK180.out hb); replace HB := aK (below_step (mvh HB.out) hb); (try clear hb); obtain ⟨hcz25_0,hcz25_1,hcz25_2,hcz25_3,hfz25_0,hfz25_1,hfz25_2,hfz25_3⟩ := cf4 BK180.out))
     go_ret
     exact ⟨by first | rfl | (simp [errW_none,errW_some] <;> rfl) | (simp only [← hji5]; first | rfl | (simp [errW_none,errW_some] <;> rfl)) | (simp [*,errW_none,errW_some] <;> rfl),mvh HB.out⟩
    ·rw [if_neg c21] at H
     have c21b0 : decide ((wrap64 ((ji5) - 2)) < a0_3) = false := decide_eq_false c21
     clear c21
     obtain rfl := Option.some.inj H
     go_enter Try.func42,Try.ntmps42
     go_wp2_with (first | ((with_reducible refine gate_dst (N := 1) rfl ?_); refine box_event ?hg (N := 1) ?hd (cs := #[.int .i64 a0_0,.int .u64 a0_1,.int .i64 a0_2,.int .i64 a0_3]) (t := 26) ?hr ?_; (case hd => rfl); (case hg => rfl); (case hr => first | (go_simp; done) | (go_simp; rfl)); intro gb180 hg w26 hbox hb; have BK180 := aK (hbox); have GW180 := aK ((by rw [hg]; exact (below_size (mvh HB.out)) : w.heap.size ≤ gb180)); have GE180 := aK ((by rw [hg]; exact (below_size (mvh HB.out)) : w.heap.size ≤ gb180)); replace HB := aK (below_step (mvh HB.out) hb); clear hb hbox hg; obtain ⟨hcz27_0,hcz27_1,hcz27_2,hcz27_3,hfz27_0,hfz27_1,hfz27_2,hfz27_3⟩ := cf4 BK180.out) | (go_at_call 67; (with_reducible refine (galois_Check.calls k a0_0 a0_1 t181 _ A2.out).mono ?_); rintro e w28 ⟨rfl,hb⟩; replace BK180 := aK (kb BK180.out hb); replace HB := aK (below_step (mvh HB.out) hb); (try clear hb); obtain ⟨hcz29_0,hcz29_1,hcz29_2,hcz29_3,hfz29_0,hfz29_1,hfz29_2,hfz29_3⟩ := cf4 BK180.out))
     go_ret
     exact ⟨by first | rfl | (simp [errW_none,errW_some] <;> rfl) | (simp only [← hji5]; first | rfl | (simp [errW_none,errW_some] <;> rfl)) | (simp [*,errW_none,errW_some] <;> rfl),mvh HB.out⟩
end Go.Proofs.Ytpgecdidddoglaa.P

