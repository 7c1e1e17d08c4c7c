-- written by mk.sh, a program of this session, over the kit's print
import Derived.Test.YtdhnjnkjhfomiaaRwPx0
import Derived.Test.YtdhnjnkjhfomiaaRwPx1
namespace Go.Proofs.Ytdhnjnkjhfomiaa.P
open Go.RowKit Go.Proofs.YtdhnjnkjhfomiaaW.PrintWords Go.Proofs.YtdhnjnkjhfomiaaW.PrintLast Go.Proofs.YtdhnjnkjhfomiaaW.PrintMore
attribute [local go_sem] max2_int min2_int max_two min_two max_three min_three max_four min_four   -- for this text's walks alone
set_option linter.unusedVariables false
set_option linter.unusedSimpArgs false

def poly_Gcd.l0 : Nat → Int → Int → Option (Int)
 | 0,_,_ => none
 | k + 1,x0,x1 => if x1 = 0 then (some x0) else ((poly_rest.f k x0 x1).bind fun t111 => (poly_Gcd.l0 k x1 t111))
def poly_Gcd.f (k : Nat) (a0 : Int) (a1 : Int) : Option (Int) := poly_Gcd.l0 k a0 a1
theorem poly_Gcd.mono_l : ∀ k,(∀ y0 y1,LeO (poly_Gcd.l0 k y0 y1) (poly_Gcd.l0 (k + 1) y0 y1))
 | 0 => fun _ _ r h => by simp [poly_Gcd.l0] at h
 | k + 1 => by
  have ih0 := poly_Gcd.mono_l k
  ·intro y0 y1
   unfold poly_Gcd.l0
   repeat' first
   | (with_reducible exact ih0 _ _)
   | (with_reducible exact poly_rest.mono _ _ _)
   | (with_reducible exact LeO.refl _)
   | (with_reducible exact LeO.none _)
   | (with_reducible refine LeO.ite ?_ ?_)
   | (with_reducible refine LeO.bind ?_ (fun _ => ?_))
theorem poly_Gcd.mono : ∀ a0 a1 k,LeO (poly_Gcd.f k a0 a1) (poly_Gcd.f (k + 1) a0 a1) := by
 intro a0 a1 k
 have ih0 := poly_Gcd.mono_l k
 unfold poly_Gcd.f
 repeat' first
   | (with_reducible exact ih0 _ _)
   | (with_reducible exact poly_rest.mono _ _ _)
   | (with_reducible exact LeO.refl _)
   | (with_reducible exact LeO.none _)
   | (with_reducible refine LeO.ite ?_ ?_)
   | (with_reducible refine LeO.bind ?_ (fun _ => ?_))
set_option maxHeartbeats 8000000 in
set_option maxRecDepth 100000 in
theorem poly_Gcd.calls (k : Nat) (a0 : Int) (a1 : Int) (r : Int) (w : World) (h : poly_Gcd.f k a0 a1 = some r) :
  Calls Try.prog 77 #[.int .u64 a0,.int .u64 a1] w fun e w' => e = .returned (.int .u64 r) ∧ Drawn0 w w' := by
 have H : (poly_Gcd.l0 k a0 a1) = some r := h
 clear h
 have H' := Aside0.mk H
 clear H
 go_enter Try.func77,Try.ntmps77
 go_wp2
 go_loopg [0,1] k (fun kq v0 v1 w' => ∃ (x0_1 : Int) (x1_1 : Int),v0 = .int .u64 x0_1 ∧ v1 = .int .u64 x1_1 ∧ Aside0 (poly_Gcd.l0 kq x0_1 x1_1 = some r) ∧ Aside0 (kq ≤ k) ∧ Drawn0 w w')
 case atStart => exact ⟨(a0),(a1),(by first | rfl | (simp; done) | (simp [*]; done) | (simp [wrap64]; done)),(by first | rfl | (simp; done) | (simp [*]; done) | (simp [wrap64]; done)),H',⟨Nat.le_refl _⟩,by repeat (first | exact Drawn0.refl _ | apply Drawn0.step)⟩
 case round =>
  clear H'
  try clear p2
  obtain ⟨x0_1,x1_1,rfl,rfl,HA,HK1,⟨m1,rfl⟩⟩ := hrel
  cases gk with
  | zero => exact absurd HA.out (by simp [poly_Gcd.l0])
  | succ k1 =>
   have H := HA.out
   clear HA
   simp only [poly_Gcd.l0] at H
   by_cases c3 : x1_1 = 0
   ·rw [if_pos c3] at H
    have c3b0 : (x1_1 == 0) = true := beq_iff_eq.mpr c3
    have c3b1 : (x1_1 != 0) = false := bne_eq_false_iff_eq.mpr c3
    clear c3
    obtain rfl := Option.some.inj H
    go_wp2
    go_ret
    exact ⟨by first | rfl | (simp; done) | (simp [*]; done) | (simp [wrap64]; done),by repeat (first | exact Drawn0.refl _ | apply Drawn0.step)⟩
   ·rw [if_neg c3] at H
    have c3b0 : (x1_1 == 0) = false := beq_eq_false_iff_ne.mpr c3
    have c3b1 : (x1_1 != 0) = true := bne_iff_ne.mpr c3
    replace H := Option.bind_eq_some_iff.mp H
    obtain ⟨t111,A40,H⟩ := H
    replace H : (poly_Gcd.l0 k1 x1_1 t111) = some r := H
    have A4 := Aside0.mk A40
    clear A40
    have H' := Aside0.mk H
    clear H
    go_wp2_with (first | (go_at_call 75; (with_reducible refine (poly_rest.calls k1 x0_1 x1_1 t111 _ A4.out).mono ?_); rintro e w' ⟨rfl,⟨nd,rfl⟩⟩))
    go_roundg k1
    case measure => have := HK1.out; omega
    case rel => exact ⟨(x1_1),(t111),(by first | rfl | (simp; done) | (simp [*]; done) | (simp [wrap64]; done)),(by first | rfl | (simp; done) | (simp [*]; done) | (simp [wrap64]; done)),H',⟨by have := HK1.out; omega⟩,by repeat (first | exact Drawn0.refl _ | apply Drawn0.step)⟩

def poly_prime.l0 : Nat → Int → Int → Int → Int → Option (Bool)
 | 0,_,_,_,_ => none
 | k + 1,x0,x3,x4,x5 => if x5 ≤ x3 then ((poly_MulMod.f k x4 x4 x0).bind fun bt115 => (if x5 < x3 then (if x5 = 0 then (none) else (if (Int.tmod x3 x5) = 0 then ((poly_rest.f k 2 x0).bind fun t117 => ((poly_Gcd.f k (Go.bits .xor .u64 bt115.1 t117) x0).bind fun t118 => (if t118 = 1 then (poly_prime.l0 k x0 x3 bt115.1 (wrap64 (x5 + 1))) else (some false)))) else (poly_prime.l0 k x0 x3 bt115.1 (wrap64 (x5 + 1))))) else (poly_prime.l0 k x0 x3 bt115.1 (wrap64 (x5 + 1))))) else ((poly_rest.f k 2 x0).bind fun t114 => (some (x4 == t114)))
def poly_prime.f (k : Nat) (a0 : Int) : Option (Bool) := (poly_Degree.f a0).bind fun t112 => ((poly_rest.f k 2 a0).bind fun t113 => (poly_prime.l0 k a0 t112 t113 1))
theorem poly_prime.mono_l : ∀ k,(∀ y0 y1 y2 y3,LeO (poly_prime.l0 k y0 y1 y2 y3) (poly_prime.l0 (k + 1) y0 y1 y2 y3))
 | 0 => fun _ _ _ _ r h => by simp [poly_prime.l0] at h
 | k + 1 => by
  have ih0 := poly_prime.mono_l k
  ·intro y0 y1 y2 y3
   unfold poly_prime.l0
   repeat' first
   | (with_reducible exact ih0 _ _ _ _)
   | (with_reducible exact poly_Gcd.mono _ _ _)
   | (with_reducible exact poly_MulMod.mono _ _ _ _)
   | (with_reducible exact poly_rest.mono _ _ _)
   | (with_reducible exact LeO.refl _)
   | (with_reducible exact LeO.none _)
   | (with_reducible refine LeO.ite ?_ ?_)
   | (with_reducible refine LeO.bind ?_ (fun _ => ?_))
theorem poly_prime.mono : ∀ a0 k,LeO (poly_prime.f k a0) (poly_prime.f (k + 1) a0) := by
 intro a0 k
 have ih0 := poly_prime.mono_l k
 unfold poly_prime.f
 repeat' first
   | (with_reducible exact ih0 _ _ _ _)
   | (with_reducible exact poly_Gcd.mono _ _ _)
   | (with_reducible exact poly_MulMod.mono _ _ _ _)
   | (with_reducible exact poly_rest.mono _ _ _)
   | (with_reducible exact LeO.refl _)
   | (with_reducible exact LeO.none _)
   | (with_reducible refine LeO.ite ?_ ?_)
   | (with_reducible refine LeO.bind ?_ (fun _ => ?_))
set_option maxHeartbeats 8000000 in
set_option maxRecDepth 100000 in
theorem poly_prime.calls (k : Nat) (a0 : Int) (r : Bool) (w : World) (h : poly_prime.f k a0 = some r) :
  Calls Try.prog 70 #[.int .u64 a0] w fun e w' => e = .returned (.bool r) ∧ Drawn0 w w' := by
 have H : ((poly_Degree.f a0).bind fun t112 => ((poly_rest.f k 2 a0).bind fun t113 => (poly_prime.l0 k a0 t112 t113 1))) = some r := h
 clear h
 replace H := Option.bind_eq_some_iff.mp H
 obtain ⟨t112,A20,H⟩ := H
 try dsimp only at H
 have A2 := Aside0.mk A20
 clear A20
 replace H := Option.bind_eq_some_iff.mp H
 obtain ⟨t113,A30,H⟩ := H
 try dsimp only at H
 have A3 := Aside0.mk A30
 clear A30
 have H' := Aside0.mk H
 clear H
 go_enter Try.func70,Try.ntmps70
 go_wp2_with (first | (go_at_call 55; (with_reducible refine (poly_Degree.calls a0 t112 _ A2.out).mono ?_); rintro e w' ⟨rfl,⟨nd,rfl⟩⟩) | (go_at_call 75; (with_reducible refine (poly_rest.calls k 2 a0 t113 _ A3.out).mono ?_); rintro e w' ⟨rfl,⟨nd,rfl⟩⟩))
 go_loopg [4,5] k (fun kq v4 v5 w' => ∃ (x4_1 : Int) (x5_1 : Int),v4 = .int .u64 x4_1 ∧ v5 = .int .i64 x5_1 ∧ Aside0 (poly_prime.l0 kq a0 t112 x4_1 x5_1 = some r) ∧ Aside0 (kq ≤ k) ∧ Drawn0 w w')
 case atStart => exact ⟨(t113),(1),(by first | rfl | (simp; done) | (simp [*]; done) | (simp [wrap64]; done)),(by first | rfl | (simp; done) | (simp [*]; done) | (simp [wrap64]; done)),H',⟨Nat.le_refl _⟩,by repeat (first | exact Drawn0.refl _ | apply Drawn0.step)⟩
 case round =>
  clear H'
  try clear p2
  obtain ⟨x4_1,x5_1,rfl,rfl,HA,HK1,⟨m1,rfl⟩⟩ := hrel
  cases gk with
  | zero => exact absurd HA.out (by simp [poly_prime.l0])
  | succ k1 =>
   have H := HA.out
   clear HA
   simp only [poly_prime.l0] at H
   by_cases c4 : x5_1 ≤ t112
   rotate_left
   ·rw [if_neg c4] at H
    have c4b0 : decide (x5_1 ≤ t112) = false := decide_eq_false c4
    clear c4
    replace H := Option.bind_eq_some_iff.mp H
    obtain ⟨t114,A120,H⟩ := H
    replace H : (some (x4_1 == t114)) = some r := H
    have A12 := Aside0.mk A120
    clear A120
    obtain rfl := Option.some.inj H
    go_wp2_with (first | (go_at_call 75; (with_reducible refine (poly_rest.calls k1 2 a0 t114 _ A12.out).mono ?_); rintro e w' ⟨rfl,⟨nd,rfl⟩⟩))
    go_ret
    exact ⟨by first | rfl | (simp; done) | (simp [*]; done) | (simp [wrap64]; done),by repeat (first | exact Drawn0.refl _ | apply Drawn0.step)⟩


   rw [if_pos c4] at H
   have c4b0 : decide (x5_1 ≤ t112) = true := decide_eq_true c4
   clear c4
   replace H := Option.bind_eq_some_iff.mp H
   obtain ⟨⟨t115,t116⟩,A50,H⟩ := H
   try dsimp only at H
   have A5 := Aside0.mk A50
   clear A50
   by_cases c6 : x5_1 < t112
   rotate_left
   ·rw [if_neg c6] at H
    have c6b0 : decide (x5_1 < t112) = false := decide_eq_false c6
    clear c6
    have H' := Aside0.mk H
    clear H
    go_wp2_with (first | (go_at_call 76; (with_reducible refine (poly_MulMod.calls k1 x4_1 x4_1 a0 t115 t116 _ A5.out).mono ?_); rintro e w' ⟨rfl,⟨nd,rfl⟩⟩))
    go_roundg k1
    case measure => have := HK1.out; omega
    case rel => exact ⟨(t115),(wrap64 (x5_1 + 1)),(by first | rfl | (simp; done) | (simp [*]; done) | (simp [wrap64]; done)),(by first | rfl | (simp; done) | (simp [*]; done) | (simp [wrap64]; done)),H',⟨by have := HK1.out; omega⟩,by repeat (first | exact Drawn0.refl _ | apply Drawn0.step)⟩
   rw [if_pos c6] at H
   have c6b0 : decide (x5_1 < t112) = true := decide_eq_true c6
   clear c6
   by_cases c7 : x5_1 = 0
   ·rw [if_pos c7] at H
    exact absurd H (by simp)
   ·rw [if_neg c7] at H
    have c7b0 : (x5_1 == 0) = false := beq_eq_false_iff_ne.mpr c7
    have c7b1 : (x5_1 != 0) = true := bne_iff_ne.mpr c7
    by_cases c8 : (Int.tmod t112 x5_1) = 0
    rotate_left
    ·rw [if_neg c8] at H
     have c8b0 : ((Int.tmod t112 x5_1) == 0) = false := beq_eq_false_iff_ne.mpr c8
     have c8b1 : ((Int.tmod t112 x5_1) != 0) = true := bne_iff_ne.mpr c8
     have H' := Aside0.mk H
     clear H
     go_wp2_with (first | (go_at_call 76; (with_reducible refine (poly_MulMod.calls k1 x4_1 x4_1 a0 t115 t116 _ A5.out).mono ?_); rintro e w' ⟨rfl,⟨nd,rfl⟩⟩))
     go_roundg k1
     case measure => have := HK1.out; omega
     case rel => exact ⟨(t115),(wrap64 (x5_1 + 1)),(by first | rfl | (simp; done) | (simp [*]; done) | (simp [wrap64]; done)),(by first | rfl | (simp; done) | (simp [*]; done) | (simp [wrap64]; done)),H',⟨by have := HK1.out; omega⟩,by repeat (first | exact Drawn0.refl _ | apply Drawn0.step)⟩
    rw [if_pos c8] at H
    have c8b0 : ((Int.tmod t112 x5_1) == 0) = true := beq_iff_eq.mpr c8
    have c8b1 : ((Int.tmod t112 x5_1) != 0) = false := bne_eq_false_iff_eq.mpr c8
    clear c8
    replace H := Option.bind_eq_some_iff.mp H
    obtain ⟨t117,A90,H⟩ := H
    try dsimp only at H
    have A9 := Aside0.mk A90
    clear A90
    replace H := Option.bind_eq_some_iff.mp H
    obtain ⟨t118,A100,H⟩ := H
    try dsimp only at H
    have A10 := Aside0.mk A100
    clear A100
    by_cases c11 : t118 = 1
    rotate_left
    ·rw [if_neg c11] at H
     have c11b0 : (t118 == 1) = false := beq_eq_false_iff_ne.mpr c11
     have c11b1 : (t118 != 1) = true := bne_iff_ne.mpr c11
     obtain rfl := Option.some.inj H
     go_wp2_with (first | (go_at_call 76; (with_reducible refine (poly_MulMod.calls k1 x4_1 x4_1 a0 t115 t116 _ A5.out).mono ?_); rintro e w' ⟨rfl,⟨nd,rfl⟩⟩) | (go_at_call 75; (with_reducible refine (poly_rest.calls k1 2 a0 t117 _ A9.out).mono ?_); rintro e w' ⟨rfl,⟨nd,rfl⟩⟩) | (go_at_call 77; (with_reducible refine (poly_Gcd.calls k1 (Go.bits .xor .u64 t115 t117) a0 t118 _ A10.out).mono ?_); rintro e w' ⟨rfl,⟨nd,rfl⟩⟩))
     go_ret
     exact ⟨by first | rfl | (simp; done) | (simp [*]; done) | (simp [wrap64]; done),by repeat (first | exact Drawn0.refl _ | apply Drawn0.step)⟩
    rw [if_pos c11] at H
    have c11b0 : (t118 == 1) = true := beq_iff_eq.mpr c11
    have c11b1 : (t118 != 1) = false := bne_eq_false_iff_eq.mpr c11
    clear c11
    have H' := Aside0.mk H
    clear H
    go_wp2_with (first | (go_at_call 76; (with_reducible refine (poly_MulMod.calls k1 x4_1 x4_1 a0 t115 t116 _ A5.out).mono ?_); rintro e w' ⟨rfl,⟨nd,rfl⟩⟩) | (go_at_call 75; (with_reducible refine (poly_rest.calls k1 2 a0 t117 _ A9.out).mono ?_); rintro e w' ⟨rfl,⟨nd,rfl⟩⟩) | (go_at_call 77; (with_reducible refine (poly_Gcd.calls k1 (Go.bits .xor .u64 t115 t117) a0 t118 _ A10.out).mono ?_); rintro e w' ⟨rfl,⟨nd,rfl⟩⟩))
    go_roundg k1
    case measure => have := HK1.out; omega
    case rel => exact ⟨(t115),(wrap64 (x5_1 + 1)),(by first | rfl | (simp; done) | (simp [*]; done) | (simp [wrap64]; done)),(by first | rfl | (simp; done) | (simp [*]; done) | (simp [wrap64]; done)),H',⟨by have := HK1.out; omega⟩,by repeat (first | exact Drawn0.refl _ | apply Drawn0.step)⟩
mutual
def poly_Order.j0 : Nat → Int → Bool → Option (Int × Int)
 | 0,_,_ => none
 | k + 1,x0,x15 => if x15 = true then (some (0,21)) else (if (Go.bits .and .u64 x0 1) = 0 then (some (0,22)) else ((poly_rest.f k 1 x0).bind fun t120 => ((poly_rest.f k 2 x0).bind fun t121 => (poly_Order.l0 k x0 t120 t121 1))))
def poly_Order.l0 : Nat → Int → Int → Int → Int → Option (Int × Int)
 | 0,_,_,_,_ => none
 | k + 1,x0,x5,x6,x7 => if x6 = x5 then (some (x7,0)) else ((poly_rest.f k (IntKind.u64.wrap (x6 * 2)) x0).bind fun t122 => (poly_Order.l0 k x0 x5 t122 (wrap64 (x7 + 1))))
end
def poly_Order.f (k : Nat) (a0 : Int) : Option (Int × Int) := (poly_Degree.f a0).bind fun t119 => (if t119 < 0 then (poly_Order.j0 k a0 true) else (poly_Order.j0 k a0 (decide (t119 > 20))))
theorem poly_Order.mono_l : ∀ k,(∀ y0 y1,LeO (poly_Order.j0 k y0 y1) (poly_Order.j0 (k + 1) y0 y1)) ∧ (∀ y0 y1 y2 y3,LeO (poly_Order.l0 k y0 y1 y2 y3) (poly_Order.l0 (k + 1) y0 y1 y2 y3))
 | 0 => ⟨fun _ _ r h => by simp [poly_Order.j0] at h,fun _ _ _ _ r h => by simp [poly_Order.l0] at h⟩
 | k + 1 => by
  obtain ⟨ih0,ih1⟩ := poly_Order.mono_l k
  refine ⟨?_,?_⟩
  ·intro y0 y1
   unfold poly_Order.j0
   repeat' first
   | (with_reducible exact ih0 _ _)
   | (with_reducible exact ih1 _ _ _ _)
   | (with_reducible exact poly_rest.mono _ _ _)
   | (with_reducible exact LeO.refl _)
   | (with_reducible exact LeO.none _)
   | (with_reducible refine LeO.ite ?_ ?_)
   | (with_reducible refine LeO.bind ?_ (fun _ => ?_))
  ·intro y0 y1 y2 y3
   unfold poly_Order.l0
   repeat' first
   | (with_reducible exact ih0 _ _)
   | (with_reducible exact ih1 _ _ _ _)
   | (with_reducible exact poly_rest.mono _ _ _)
   | (with_reducible exact LeO.refl _)
   | (with_reducible exact LeO.none _)
   | (with_reducible refine LeO.ite ?_ ?_)
   | (with_reducible refine LeO.bind ?_ (fun _ => ?_))
theorem poly_Order.mono : ∀ a0 k,LeO (poly_Order.f k a0) (poly_Order.f (k + 1) a0) := by
 intro a0 k
 obtain ⟨ih0,ih1⟩ := poly_Order.mono_l k
 unfold poly_Order.f
 repeat' first
   | (with_reducible exact ih0 _ _)
   | (with_reducible exact ih1 _ _ _ _)
   | (with_reducible exact poly_rest.mono _ _ _)
   | (with_reducible exact LeO.refl _)
   | (with_reducible exact LeO.none _)
   | (with_reducible refine LeO.ite ?_ ?_)
   | (with_reducible refine LeO.bind ?_ (fun _ => ?_))
set_option maxHeartbeats 8000000 in
set_option maxRecDepth 100000 in
theorem poly_Order.calls (k : Nat) (a0 : Int) (r1 : Int) (r2 : Int) (w : World) (h : poly_Order.f k a0 = some (r1,r2)) :
  Calls Try.prog 71 #[.int .u64 a0] w fun e w' => e = .returned (.tuple #[.int .i64 r1,.int .i64 r2]) ∧ Drawn0 w w' := by
 have H : ((poly_Degree.f a0).bind fun t119 => (if t119 < 0 then (poly_Order.j0 k a0 true) else (poly_Order.j0 k a0 (decide (t119 > 20))))) = some (r1,r2) := h
 clear h
 replace H := Option.bind_eq_some_iff.mp H
 obtain ⟨t119,A20,H⟩ := H
 try dsimp only at H
 have A2 := Aside0.mk A20
 clear A20
 have HC3 := Aside0.mk H
 clear H
 go_enter Try.func71,Try.ntmps71
 go_upto_region 2 with (first | (go_at_call 55; (with_reducible refine (poly_Degree.calls a0 t119 _ A2.out).mono ?_); rintro e w' ⟨rfl,⟨nd,rfl⟩⟩))
 (try simp only [Act.put,List.setIfInBounds_toArray,List.set_cons_zero,List.set_cons_succ])
 go_cut [15] (fun v15 wc => ∃ (kq : Nat) (x15_2 : Bool),v15 = .bool x15_2 ∧ Aside0 (poly_Order.j0 kq a0 x15_2 = some (r1,r2)) ∧ Aside0 (kq ≤ k) ∧ Drawn0 w wc)
 case first =>
  have H := HC3.out
  clear HC3
  by_cases c4 : t119 < 0
  ·rw [if_pos c4] at H
   have c4b0 : decide (t119 < 0) = true := decide_eq_true c4
   clear c4
   (first | rw [c4b0] | (simp only [i64_w,i32_w]; rw [c4b0]) | rw [c4b1] | skip)
   have H' := Aside0.mk H
   clear H
   go_wp2
   go_meet
   case rel => exact ⟨_,(true),(by first | rfl | (simp; done) | (simp [*]; done) | (simp [wrap64]; done)),H',⟨by first | omega | exact Nat.le_refl _⟩,by repeat (first | exact Drawn0.refl _ | apply Drawn0.step)⟩
  ·rw [if_neg c4] at H
   have c4b0 : decide (t119 < 0) = false := decide_eq_false c4
   clear c4
   (first | rw [c4b0] | (simp only [i64_w,i32_w]; rw [c4b0]) | rw [c4b1] | skip)
   have H' := Aside0.mk H
   clear H
   go_wp2
   go_meet
   case rel => exact ⟨_,(decide (t119 > 20)),(by first | rfl | (simp; done) | (simp [*]; done) | (simp [wrap64]; done)),H',⟨by first | omega | exact Nat.le_refl _⟩,by repeat (first | exact Drawn0.refl _ | apply Drawn0.step)⟩
 case rest =>
  clear HC3
  (try clear p2); (try clear c4); (try clear c4b0); (try clear c4b1)
  obtain ⟨kq,x15_2,rfl,HA,HJ2,⟨mc2,rfl⟩⟩ := hcut
  cases kq with
  | zero => exact absurd HA.out (by simp [poly_Order.j0])
  | succ kj2 =>
   have H := HA.out
   clear HA
   simp only [poly_Order.j0] at H
   by_cases c5 : x15_2 = true
   ·subst c5
    have H1 : (some (0,21)) = some (r1,r2) := by rw [if_pos rfl] at H; exact H
    clear H
    have H := H1
    clear H1
    simp only [Option.some.injEq,Prod.mk.injEq] at H
    obtain ⟨rfl,rfl⟩ := H
    go_wp2
    go_ret2
    exact ⟨by first | rfl | (simp; done) | (simp [*]; done) | (simp [wrap64]; done),by repeat (first | exact Drawn0.refl _ | apply Drawn0.step)⟩
   ·replace c5 := Bool.eq_false_iff.mpr c5
    subst c5
    have H1 : (if (Go.bits .and .u64 a0 1) = 0 then (some (0,22)) else ((poly_rest.f kj2 1 a0).bind fun t120 => ((poly_rest.f kj2 2 a0).bind fun t121 => (poly_Order.l0 kj2 a0 t120 t121 1)))) = some (r1,r2) := by rw [if_neg (show ¬ (false = true) by decide)] at H; exact H
    clear H
    have H := H1
    clear H1
    by_cases c6 : (Go.bits .and .u64 a0 1) = 0
    ·rw [if_pos c6] at H
     have c6b0 : ((Go.bits .and .u64 a0 1) == 0) = true := beq_iff_eq.mpr c6
     have c6b1 : ((Go.bits .and .u64 a0 1) != 0) = false := bne_eq_false_iff_eq.mpr c6
     clear c6
     simp only [Option.some.injEq,Prod.mk.injEq] at H
     obtain ⟨rfl,rfl⟩ := H
     go_wp2
     go_ret2
     exact ⟨by first | rfl | (simp; done) | (simp [*]; done) | (simp [wrap64]; done),by repeat (first | exact Drawn0.refl _ | apply Drawn0.step)⟩
    ·rw [if_neg c6] at H
     have c6b0 : ((Go.bits .and .u64 a0 1) == 0) = false := beq_eq_false_iff_ne.mpr c6
     have c6b1 : ((Go.bits .and .u64 a0 1) != 0) = true := bne_iff_ne.mpr c6
     replace H := Option.bind_eq_some_iff.mp H
     obtain ⟨t120,A70,H⟩ := H
     try dsimp only at H
     have A7 := Aside0.mk A70
     clear A70
     replace H := Option.bind_eq_some_iff.mp H
     obtain ⟨t121,A80,H⟩ := H
     try dsimp only at H
     have A8 := Aside0.mk A80
     clear A80
     have H' := Aside0.mk H
     clear H
     go_wp2_with (first | (go_at_call 75; (with_reducible refine (poly_rest.calls kj2 1 a0 t120 _ A7.out).mono ?_); rintro e w' ⟨rfl,⟨nd,rfl⟩⟩) | (go_at_call 75; (with_reducible refine (poly_rest.calls kj2 2 a0 t121 _ A8.out).mono ?_); rintro e w' ⟨rfl,⟨nd,rfl⟩⟩))
     go_loopg [6,7] kj2 (fun kq v6 v7 w' => ∃ (x6_2 : Int) (x7_2 : Int),v6 = .int .u64 x6_2 ∧ v7 = .int .i64 x7_2 ∧ Aside0 (poly_Order.l0 kq a0 t120 x6_2 x7_2 = some (r1,r2)) ∧ Aside0 (kq ≤ kj2) ∧ Drawn0 w w')
     case atStart => exact ⟨(t121),(1),(by first | rfl | (simp; done) | (simp [*]; done) | (simp [wrap64]; done)),(by first | rfl | (simp; done) | (simp [*]; done) | (simp [wrap64]; done)),H',⟨Nat.le_refl _⟩,by repeat (first | exact Drawn0.refl _ | apply Drawn0.step)⟩
     case round =>
      clear H'
      (try clear c2); (try clear p2); (try clear c4); (try clear c4b0); (try clear c4b1); (try clear c5); (try clear c6); (try clear c6b0); (try clear c6b1); (try clear p6); (try clear c7); (try clear p2)
      obtain ⟨x6_2,x7_2,rfl,rfl,HA,HK2,⟨m2,rfl⟩⟩ := hrel
      cases gk with
      | zero => exact absurd HA.out (by simp [poly_Order.l0])
      | succ k2 =>
       have H := HA.out
       clear HA
       simp only [poly_Order.l0] at H
       by_cases c9 : x6_2 = t120
       ·rw [if_pos c9] at H
        have c9b0 : (x6_2 == t120) = true := beq_iff_eq.mpr c9
        have c9b1 : (x6_2 != t120) = false := bne_eq_false_iff_eq.mpr c9
        clear c9
        simp only [Option.some.injEq,Prod.mk.injEq] at H
        obtain ⟨rfl,rfl⟩ := H
        go_wp2
        go_ret2
        exact ⟨by first | rfl | (simp; done) | (simp [*]; done) | (simp [wrap64]; done),by repeat (first | exact Drawn0.refl _ | apply Drawn0.step)⟩
       ·rw [if_neg c9] at H
        have c9b0 : (x6_2 == t120) = false := beq_eq_false_iff_ne.mpr c9
        have c9b1 : (x6_2 != t120) = true := bne_iff_ne.mpr c9
        replace H := Option.bind_eq_some_iff.mp H
        obtain ⟨t122,A100,H⟩ := H
        try dsimp only at H
        have A10 := Aside0.mk A100
        clear A100
        have H' := Aside0.mk H
        clear H
        go_wp2_with (first | (go_at_call 75; (with_reducible refine (poly_rest.calls k2 (IntKind.u64.wrap (x6_2 * 2)) a0 t122 _ A10.out).mono ?_); rintro e w' ⟨rfl,⟨nd,rfl⟩⟩))
        go_roundg k2
        case measure => have := HJ2.out; have := HK2.out; omega
        case rel => exact ⟨(t122),(wrap64 (x7_2 + 1)),(by first | rfl | (simp; done) | (simp [*]; done) | (simp [wrap64]; done)),(by first | rfl | (simp; done) | (simp [*]; done) | (simp [wrap64]; done)),H',⟨by have := HJ2.out; have := HK2.out; omega⟩,by repeat (first | exact Drawn0.refl _ | apply Drawn0.step)⟩

def poly_Primitive.j0 : Nat → Int → Int → Bool → Option (Bool × Int)
 | 0,_,_,_ => none
 | k + 1,x0,x4,x14 => if x14 = true then (some (false,21)) else (if (Go.bits .and .u64 x0 1) = 0 then (some (false,0)) else ((poly_prime.f k x0).bind fun t124 => (if t124 = true then ((poly_Order.f k x0).bind fun bt125 => (if 0 ≤ x4 then (some ((bt125.1 == (wrap64 ((shl .i64 1 x4) - 1))),0)) else (none))) else (some (false,0)))))
def poly_Primitive.f (k : Nat) (a0 : Int) : Option (Bool × Int) := (poly_Degree.f a0).bind fun t123 => (if t123 < 1 then (poly_Primitive.j0 k a0 t123 true) else (poly_Primitive.j0 k a0 t123 (decide (t123 > 20))))
theorem poly_Primitive.mono_l : ∀ k,(∀ y0 y1 y2,LeO (poly_Primitive.j0 k y0 y1 y2) (poly_Primitive.j0 (k + 1) y0 y1 y2))
 | 0 => fun _ _ _ r h => by simp [poly_Primitive.j0] at h
 | k + 1 => by
  have ih0 := poly_Primitive.mono_l k
  ·intro y0 y1 y2
   unfold poly_Primitive.j0
   repeat' first
   | (with_reducible exact ih0 _ _ _)
   | (with_reducible exact poly_Order.mono _ _)
   | (with_reducible exact poly_prime.mono _ _)
   | (with_reducible exact LeO.refl _)
   | (with_reducible exact LeO.none _)
   | (with_reducible refine LeO.ite ?_ ?_)
   | (with_reducible refine LeO.bind ?_ (fun _ => ?_))
theorem poly_Primitive.mono : ∀ a0 k,LeO (poly_Primitive.f k a0) (poly_Primitive.f (k + 1) a0) := by
 intro a0 k
 have ih0 := poly_Primitive.mono_l k
 unfold poly_Primitive.f
 repeat' first
   | (with_reducible exact ih0 _ _ _)
   | (with_reducible exact poly_Order.mono _ _)
   | (with_reducible exact poly_prime.mono _ _)
   | (with_reducible exact LeO.refl _)
   | (with_reducible exact LeO.none _)
   | (with_reducible refine LeO.ite ?_ ?_)
   | (with_reducible refine LeO.bind ?_ (fun _ => ?_))
set_option maxHeartbeats 8000000 in
set_option maxRecDepth 100000 in
theorem poly_Primitive.calls (k : Nat) (a0 : Int) (r1 : Bool) (r2 : Int) (w : World) (h : poly_Primitive.f k a0 = some (r1,r2)) :
  Calls Try.prog 56 #[.int .u64 a0] w fun e w' => e = .returned (.tuple #[.bool r1,.int .i64 r2]) ∧ Drawn0 w w' := by
 have H : ((poly_Degree.f a0).bind fun t123 => (if t123 < 1 then (poly_Primitive.j0 k a0 t123 true) else (poly_Primitive.j0 k a0 t123 (decide (t123 > 20))))) = some (r1,r2) := h
 clear h
 replace H := Option.bind_eq_some_iff.mp H
 obtain ⟨t123,A20,H⟩ := H
 try dsimp only at H
 have A2 := Aside0.mk A20
 clear A20
 have HC3 := Aside0.mk H
 clear H
 go_enter Try.func56,Try.ntmps56
 go_upto_region 2 with (first | (go_at_call 55; (with_reducible refine (poly_Degree.calls a0 t123 _ A2.out).mono ?_); rintro e w' ⟨rfl,⟨nd,rfl⟩⟩))
 (try simp only [Act.put,List.setIfInBounds_toArray,List.set_cons_zero,List.set_cons_succ])
 go_cut [14] (fun v14 wc => ∃ (kq : Nat) (x14_2 : Bool),v14 = .bool x14_2 ∧ Aside0 (poly_Primitive.j0 kq a0 t123 x14_2 = some (r1,r2)) ∧ Aside0 (kq ≤ k) ∧ Drawn0 w wc)
 case first =>
  have H := HC3.out
  clear HC3
  by_cases c4 : t123 < 1
  ·rw [if_pos c4] at H
   have c4b0 : decide (t123 < 1) = true := decide_eq_true c4
   clear c4
   (first | rw [c4b0] | (simp only [i64_w,i32_w]; rw [c4b0]) | rw [c4b1] | skip)
   have H' := Aside0.mk H
   clear H
   go_wp2
   go_meet
   case rel => exact ⟨_,(true),(by first | rfl | (simp; done) | (simp [*]; done) | (simp [wrap64]; done)),H',⟨by first | omega | exact Nat.le_refl _⟩,by repeat (first | exact Drawn0.refl _ | apply Drawn0.step)⟩
  ·rw [if_neg c4] at H
   have c4b0 : decide (t123 < 1) = false := decide_eq_false c4
   clear c4
   (first | rw [c4b0] | (simp only [i64_w,i32_w]; rw [c4b0]) | rw [c4b1] | skip)
   have H' := Aside0.mk H
   clear H
   go_wp2
   go_meet
   case rel => exact ⟨_,(decide (t123 > 20)),(by first | rfl | (simp; done) | (simp [*]; done) | (simp [wrap64]; done)),H',⟨by first | omega | exact Nat.le_refl _⟩,by repeat (first | exact Drawn0.refl _ | apply Drawn0.step)⟩
 case rest =>
  clear HC3
  (try clear p2); (try clear c4); (try clear c4b0); (try clear c4b1)
  obtain ⟨kq,x14_2,rfl,HA,HJ2,⟨mc2,rfl⟩⟩ := hcut
  cases kq with
  | zero => exact absurd HA.out (by simp [poly_Primitive.j0])
  | succ kj2 =>
   have H := HA.out
   clear HA
   simp only [poly_Primitive.j0] at H
   by_cases c5 : x14_2 = true
   ·subst c5
    have H1 : (some (false,21)) = some (r1,r2) := by rw [if_pos rfl] at H; exact H
    clear H
    have H := H1
    clear H1
    simp only [Option.some.injEq,Prod.mk.injEq] at H
    obtain ⟨rfl,rfl⟩ := H
    go_wp2
    go_ret2
    exact ⟨by first | rfl | (simp; done) | (simp [*]; done) | (simp [wrap64]; done),by repeat (first | exact Drawn0.refl _ | apply Drawn0.step)⟩
   ·replace c5 := Bool.eq_false_iff.mpr c5
    subst c5
    have H1 : (if (Go.bits .and .u64 a0 1) = 0 then (some (false,0)) else ((poly_prime.f kj2 a0).bind fun t124 => (if t124 = true then ((poly_Order.f kj2 a0).bind fun bt125 => (if 0 ≤ t123 then (some ((bt125.1 == (wrap64 ((shl .i64 1 t123) - 1))),0)) else (none))) else (some (false,0))))) = some (r1,r2) := by rw [if_neg (show ¬ (false = true) by decide)] at H; exact H
    clear H
    have H := H1
    clear H1
    by_cases c6 : (Go.bits .and .u64 a0 1) = 0
    ·rw [if_pos c6] at H
     have c6b0 : ((Go.bits .and .u64 a0 1) == 0) = true := beq_iff_eq.mpr c6
     have c6b1 : ((Go.bits .and .u64 a0 1) != 0) = false := bne_eq_false_iff_eq.mpr c6
     clear c6
     simp only [Option.some.injEq,Prod.mk.injEq] at H
     obtain ⟨rfl,rfl⟩ := H
     go_wp2
     go_ret2
     exact ⟨by first | rfl | (simp; done) | (simp [*]; done) | (simp [wrap64]; done),by repeat (first | exact Drawn0.refl _ | apply Drawn0.step)⟩
    ·rw [if_neg c6] at H
     have c6b0 : ((Go.bits .and .u64 a0 1) == 0) = false := beq_eq_false_iff_ne.mpr c6
     have c6b1 : ((Go.bits .and .u64 a0 1) != 0) = true := bne_iff_ne.mpr c6
     replace H := Option.bind_eq_some_iff.mp H
     obtain ⟨t124,A70,H⟩ := H
     try dsimp only at H
     have A7 := Aside0.mk A70
     clear A70
     by_cases c8 : t124 = true
     rotate_left
     ·replace c8 := Bool.eq_false_iff.mpr c8
      subst c8
      have H1 : (some (false,0)) = some (r1,r2) := by rw [if_neg (show ¬ (false = true) by decide)] at H; exact H
      clear H
      have H := H1
      clear H1
      simp only [Option.some.injEq,Prod.mk.injEq] at H
      obtain ⟨rfl,rfl⟩ := H
      go_wp2_with (first | (go_at_call 70; (with_reducible refine (poly_prime.calls kj2 a0 false _ A7.out).mono ?_); rintro e w' ⟨rfl,⟨nd,rfl⟩⟩))
      go_ret2
      exact ⟨by first | rfl | (simp; done) | (simp [*]; done) | (simp [wrap64]; done),by repeat (first | exact Drawn0.refl _ | apply Drawn0.step)⟩


     subst c8
     have H1 : ((poly_Order.f kj2 a0).bind fun bt125 => (if 0 ≤ t123 then (some ((bt125.1 == (wrap64 ((shl .i64 1 t123) - 1))),0)) else (none))) = some (r1,r2) := by rw [if_pos rfl] at H; exact H
     clear H
     have H := H1
     clear H1
     replace H := Option.bind_eq_some_iff.mp H
     obtain ⟨⟨t125,t126⟩,A90,H⟩ := H
     try dsimp only at H
     have A9 := Aside0.mk A90
     clear A90
     by_cases c10 : 0 ≤ t123
     rotate_left
     ·rw [if_neg c10] at H
      exact absurd H (by simp)
     rw [if_pos c10] at H
     have c10b0 := eq_true c10
     have c10b1 : decide (0 ≤ t123) = true := decide_eq_true c10
     clear c10
     obtain ⟨ji11,hji11⟩ : ∃ j_ : Int,(shl .i64 1 t123) = j_ := ⟨_,rfl⟩
     first | rw [hji11] at H | simp only [hji11] at H
     (try rw [hji11] at A7)
     (try rw [hji11] at A9)
     have hji11_ : (IntKind.i64.wrap (1 * 2 ^ min t123.toNat 64)) = ji11 := hji11
     have hji11z : t123 ≤ 64 → (IntKind.i64.wrap (1 * 2 ^ t123.toNat)) = ji11 := shl_small hji11
     have hji11u : (IntKind.i64.wrap (2 ^ min t123.toNat 64)) = ji11 := by have h_ := hji11_; rw [Int.one_mul] at h_; exact h_
     have hji11v : t123 ≤ 64 → (IntKind.i64.wrap (2 ^ t123.toNat)) = ji11 := fun hle_ => by have h_ := hji11z hle_; rw [Int.one_mul] at h_; exact h_
     have hji11y : (wrap64 (1 * 2 ^ min t123.toNat 64)) = ji11 := (i64_w _).symm.trans hji11_
     have hji11x : t123 ≤ 64 → (wrap64 (1 * 2 ^ t123.toNat)) = ji11 := fun h_ => (i64_w _).symm.trans (hji11z h_)
     simp only [Option.some.injEq,Prod.mk.injEq] at H
     obtain ⟨rfl,rfl⟩ := H
     go_wp2_with (first | (go_at_call 70; (with_reducible refine (poly_prime.calls kj2 a0 true _ A7.out).mono ?_); rintro e w' ⟨rfl,⟨nd,rfl⟩⟩) | (go_at_call 71; (with_reducible refine (poly_Order.calls kj2 a0 t125 t126 _ A9.out).mono ?_); rintro e w' ⟨rfl,⟨nd,rfl⟩⟩))
     go_ret2
     exact ⟨by first | rfl | (simp; done) | (simp only [← hji11] <;> (first | rfl | simp)) | (simp [*]; done) | (simp [wrap64]; done),by repeat (first | exact Drawn0.refl _ | apply Drawn0.step)⟩
def galois_Check.j0 : Nat → Bool → Int → Int → Option (Int)
 | 0,_,_,_ => none
 | k + 1,x20,x128000,x128001 => if x20 = true then (some 320) else ((poly_Primitive.f k x128001).bind fun bt129 => (if bt129.2 = 0 then (if bt129.1 = true then (some 0) else (some 320)) else (some 320)))
def galois_Check.f (k : Nat) (a0_0 : Int) (a0_1 : Int) : Option (Int) := if a0_0 < 3 then (galois_Check.j0 k true a0_0 a0_1) else (if a0_0 > 8 then (galois_Check.j0 k true a0_0 a0_1) else ((poly_Degree.f a0_1).bind fun t128 => (galois_Check.j0 k (t128 != a0_0) a0_0 a0_1)))
theorem galois_Check.mono_l : ∀ k,(∀ y0 y1 y2,LeO (galois_Check.j0 k y0 y1 y2) (galois_Check.j0 (k + 1) y0 y1 y2))
 | 0 => fun _ _ _ r h => by simp [galois_Check.j0] at h
 | k + 1 => by
  have ih0 := galois_Check.mono_l k
  ·intro y0 y1 y2
   unfold galois_Check.j0
   repeat' first
   | (with_reducible exact ih0 _ _ _)
   | (with_reducible exact poly_Primitive.mono _ _)
   | (with_reducible exact LeO.refl _)
   | (with_reducible exact LeO.none _)
   | (with_reducible refine LeO.ite ?_ ?_)
   | (with_reducible refine LeO.bind ?_ (fun _ => ?_))
theorem galois_Check.mono : ∀ a0 a1 k,LeO (galois_Check.f k a0 a1) (galois_Check.f (k + 1) a0 a1) := by
 intro a0 a1 k
 have ih0 := galois_Check.mono_l k
 unfold galois_Check.f
 repeat' first
   | (with_reducible exact ih0 _ _ _)
   | (with_reducible exact poly_Primitive.mono _ _)
   | (with_reducible exact LeO.refl _)
   | (with_reducible exact LeO.none _)
   | (with_reducible refine LeO.ite ?_ ?_)
   | (with_reducible refine LeO.bind ?_ (fun _ => ?_))
set_option maxHeartbeats 8000000 in
set_option maxRecDepth 100000 in
theorem galois_Check.calls (k : Nat) (a0_0 : Int) (a0_1 : Int) (r : Int) (w : World) (h : galois_Check.f k a0_0 a0_1 = some r) :
  Calls Try.prog 41 #[.agg #[.int .i64 a0_0,.int .u64 a0_1]] w fun e w' => e = .returned (.int .i64 r) ∧ Below w.heap.size w w' := by
 have hu24 := Try.underlying24
 have HB := aK (Below.refl w.heap.size w)
 have H : (if a0_0 < 3 then (galois_Check.j0 k true a0_0 a0_1) else (if a0_0 > 8 then (galois_Check.j0 k true a0_0 a0_1) else ((poly_Degree.f a0_1).bind fun t128 => (galois_Check.j0 k (t128 != a0_0) a0_0 a0_1)))) = some r := h
 clear h
 have HC2 := Aside0.mk H
 clear H
 go_enter Try.func41,Try.ntmps41
 go_upto_region 1 with (first | ((with_reducible refine gate_dst (N := 1) rfl ?_); refine box_event ?hg (N := 1) ?hd (cs := #[.int .i64 a0_0,.int .u64 a0_1]) (t := 24) ?hr ?_; (case hd => rfl); (case hg => rfl); (case hr => first | (go_simp; done) | (go_simp; rfl)); intro gb127 hg w3 hbox hb; have n0_ := aK (below_step (mvh HB.out) hb); have n1_ := aK (hbox); have n2_ := aK ((by rw [hg]; exact (below_size (mvh HB.out)) : w.heap.size ≤ gb127)); have n3_ := aK ((by rw [hg]; exact (below_size (mvh HB.out)) : w.heap.size ≤ gb127)); clear HB; have HB := n0_; have BK127 := n1_; have GW127 := n2_; have GE127 := n3_; clear n0_ n1_ n2_ n3_; clear hb hbox hg))
 repeat (go_quiet (first | ((with_reducible refine gate_dst (N := 1) rfl ?_); refine box_event ?hg (N := 1) ?hd (cs := #[.int .i64 a0_0,.int .u64 a0_1]) (t := 24) ?hr ?_; (case hd => rfl); (case hg => rfl); (case hr => first | (go_simp; done) | (go_simp; rfl)); intro gb127 hg w3 hbox hb; have n0_ := aK (below_step (mvh HB.out) hb); have n1_ := aK (hbox); have n2_ := aK ((by rw [hg]; exact (below_size (mvh HB.out)) : w.heap.size ≤ gb127)); have n3_ := aK ((by rw [hg]; exact (below_size (mvh HB.out)) : w.heap.size ≤ gb127)); clear HB; have HB := n0_; have BK127 := n1_; have GW127 := n2_; have GE127 := n3_; clear n0_ n1_ n2_ n3_; clear hb hbox hg)); go_upto_region 1 with (first | ((with_reducible refine gate_dst (N := 1) rfl ?_); refine box_event ?hg (N := 1) ?hd (cs := #[.int .i64 a0_0,.int .u64 a0_1]) (t := 24) ?hr ?_; (case hd => rfl); (case hg => rfl); (case hr => first | (go_simp; done) | (go_simp; rfl)); intro gb127 hg w3 hbox hb; have n0_ := aK (below_step (mvh HB.out) hb); have n1_ := aK (hbox); have n2_ := aK ((by rw [hg]; exact (below_size (mvh HB.out)) : w.heap.size ≤ gb127)); have n3_ := aK ((by rw [hg]; exact (below_size (mvh HB.out)) : w.heap.size ≤ gb127)); clear HB; have HB := n0_; have BK127 := n1_; have GW127 := n2_; have GE127 := n3_; clear n0_ n1_ n2_ n3_; clear hb hbox hg)))
 (try simp only [Act.put,List.setIfInBounds_toArray,List.set_cons_zero,List.set_cons_succ])
 go_cut [20] (fun v20 wc => ∃ (kq : Nat) (x20_1 : Bool),v20 = .bool x20_1 ∧ Aside0 (galois_Check.j0 kq x20_1 a0_0 a0_1 = some r) ∧ Aside0 (kq ≤ k) ∧ Aside0 (wc.heap[gb127]? = some (.cells #[.int .i64 a0_0,.int .u64 a0_1] 24 (0,0))) ∧ Aside0 (Below w.heap.size w wc))
 case first =>
  have H := HC2.out
  clear HC2
  by_cases c4 : a0_0 < 3
  ·rw [if_pos c4] at H
   have c4b0 : decide (a0_0 < 3) = true := decide_eq_true c4
   clear c4
   (first | rw [c4b0] | (simp only [i64_w,i32_w]; rw [c4b0]) | rw [c4b1] | skip)
   have H' := Aside0.mk H
   clear H
   obtain ⟨hcz5_0,hcz5_1,hfz5_0,hfz5_1⟩ := cf2 BK127.out
   go_wp2
   repeat (go_quiet (fail); try go_wp2)
   go_meet
   case rel => exact ⟨_,(true),(by first | rfl | (simp; done) | (simp [*]; done) | (simp [wrap64]; done)),H',⟨by first | omega | exact Nat.le_refl _⟩,⟨mvb BK127.out⟩,⟨mvh HB.out⟩⟩
  ·rw [if_neg c4] at H
   have c4b0 : decide (a0_0 < 3) = false := decide_eq_false c4
   clear c4
   (first | rw [c4b0] | (simp only [i64_w,i32_w]; rw [c4b0]) | rw [c4b1] | skip)
   by_cases c6 : a0_0 > 8
   ·rw [if_pos c6] at H
    have c6b0 : decide (8 < a0_0) = true := decide_eq_true c6
    clear c6
    have H' := Aside0.mk H
    clear H
    obtain ⟨hcz7_0,hcz7_1,hfz7_0,hfz7_1⟩ := cf2 BK127.out
    go_wp2
    repeat (go_quiet (fail); try go_wp2)
    go_meet
    case rel => exact ⟨_,(true),(by first | rfl | (simp; done) | (simp [*]; done) | (simp [wrap64]; done)),H',⟨by first | omega | exact Nat.le_refl _⟩,⟨mvb BK127.out⟩,⟨mvh HB.out⟩⟩
   ·rw [if_neg c6] at H
    have c6b0 : decide (8 < a0_0) = false := decide_eq_false c6
    clear c6
    replace H := Option.bind_eq_some_iff.mp H
    obtain ⟨t128,A80,H⟩ := H
    try dsimp only at H
    have A8 := Aside0.mk A80
    clear A80
    have H' := Aside0.mk H
    clear H
    obtain ⟨hcz9_0,hcz9_1,hfz9_0,hfz9_1⟩ := cf2 BK127.out
    go_wp2_with (first | (go_at_call 55; (with_reducible refine (poly_Degree.calls a0_1 t128 _ A8.out).mono ?_); rintro e w' ⟨rfl,⟨nd,rfl⟩⟩; (try first | exact ⟨rfl,_,World.drewN_drewN _ _ _⟩ | exact ⟨rfl,_,Eq.trans (World.drewN_drewN _ _ _) (congrArg (World.drewN _) (Nat.add_assoc _ _ _))⟩)))
    repeat (go_quiet (first | (go_at_call 55; (with_reducible refine (poly_Degree.calls a0_1 t128 _ A8.out).mono ?_); rintro e w' ⟨rfl,⟨nd,rfl⟩⟩; (try first | exact ⟨rfl,_,World.drewN_drewN _ _ _⟩ | exact ⟨rfl,_,Eq.trans (World.drewN_drewN _ _ _) (congrArg (World.drewN _) (Nat.add_assoc _ _ _))⟩))); try go_wp2_with (first | (go_at_call 55; (with_reducible refine (poly_Degree.calls a0_1 t128 _ A8.out).mono ?_); rintro e w' ⟨rfl,⟨nd,rfl⟩⟩; (try first | exact ⟨rfl,_,World.drewN_drewN _ _ _⟩ | exact ⟨rfl,_,Eq.trans (World.drewN_drewN _ _ _) (congrArg (World.drewN _) (Nat.add_assoc _ _ _))⟩))))
    go_meet
    case rel => exact ⟨_,((t128 != a0_0)),(by first | rfl | (simp; done) | (simp [*]; done) | (simp [wrap64]; done)),H',⟨by first | omega | exact Nat.le_refl _⟩,⟨mvb BK127.out⟩,⟨mvh HB.out⟩⟩
 case rest =>
  clear HC2
  (try clear p2); (try clear c4); (try clear c4b0); (try clear c4b1); (try clear c6); (try clear c6b0); (try clear p6); (try clear hcz5_0); (try clear hcz5_1); (try clear hcz7_0); (try clear hcz7_1); (try clear hcz9_0); (try clear hcz9_1); (try clear hfz5_0); (try clear hfz5_1); (try clear hfz7_0); (try clear hfz7_1)
  (try clear hfz9_0); (try clear hfz9_1)
  obtain ⟨kq,x20_1,rfl,HA,HJ1,BK127,HB⟩ := hcut
  cases kq with
  | zero => exact absurd HA.out (by simp [galois_Check.j0])
  | succ kj1 =>
   have H := HA.out
   clear HA
   simp only [galois_Check.j0] at H
   by_cases c10 : x20_1 = true
   ·subst c10
    have H1 : (some 320) = some r := by rw [if_pos rfl] at H; exact H
    clear H
    have H := H1
    clear H1
    obtain rfl := Option.some.inj H
    go_wp2
    repeat (go_quiet (fail); try go_wp2)
    go_ret
    exact ⟨by first | rfl | (simp [errW_none,errW_some] <;> rfl) | (simp [*,errW_none,errW_some] <;> rfl),mvh HB.out⟩
   ·replace c10 := Bool.eq_false_iff.mpr c10
    subst c10
    have H1 : ((poly_Primitive.f kj1 a0_1).bind fun bt129 => (if bt129.2 = 0 then (if bt129.1 = true then (some 0) else (some 320)) else (some 320))) = some r := by rw [if_neg (show ¬ (false = true) by decide)] at H; exact H
    clear H
    have H := H1
    clear H1
    replace H := Option.bind_eq_some_iff.mp H
    obtain ⟨⟨t129,t130⟩,A110,H⟩ := H
    try dsimp only at H
    have A11 := Aside0.mk A110
    clear A110
    by_cases c12 : t130 = 0
    rotate_left
    ·rw [if_neg c12] at H
     have c12b0 : (t130 == 0) = false := beq_eq_false_iff_ne.mpr c12
     have c12b1 : (t130 != 0) = true := bne_iff_ne.mpr c12
     obtain rfl := Option.some.inj H
     obtain ⟨hcz16_0,hcz16_1,hfz16_0,hfz16_1⟩ := cf2 BK127.out
     go_wp2_with (first | (go_at_call 56; (with_reducible refine (poly_Primitive.calls kj1 a0_1 t129 t130 _ A11.out).mono ?_); rintro e w' ⟨rfl,⟨nd,rfl⟩⟩; (try first | exact ⟨rfl,_,World.drewN_drewN _ _ _⟩ | exact ⟨rfl,_,Eq.trans (World.drewN_drewN _ _ _) (congrArg (World.drewN _) (Nat.add_assoc _ _ _))⟩)))
     repeat (go_quiet (first | (go_at_call 56; (with_reducible refine (poly_Primitive.calls kj1 a0_1 t129 t130 _ A11.out).mono ?_); rintro e w' ⟨rfl,⟨nd,rfl⟩⟩; (try first | exact ⟨rfl,_,World.drewN_drewN _ _ _⟩ | exact ⟨rfl,_,Eq.trans (World.drewN_drewN _ _ _) (congrArg (World.drewN _) (Nat.add_assoc _ _ _))⟩))); try go_wp2_with (first | (go_at_call 56; (with_reducible refine (poly_Primitive.calls kj1 a0_1 t129 t130 _ A11.out).mono ?_); rintro e w' ⟨rfl,⟨nd,rfl⟩⟩; (try first | exact ⟨rfl,_,World.drewN_drewN _ _ _⟩ | exact ⟨rfl,_,Eq.trans (World.drewN_drewN _ _ _) (congrArg (World.drewN _) (Nat.add_assoc _ _ _))⟩))))
     go_ret
     exact ⟨by first | rfl | (simp [errW_none,errW_some] <;> rfl) | (simp [*,errW_none,errW_some] <;> rfl),mvh HB.out⟩

    rw [if_pos c12] at H
    have c12b0 : (t130 == 0) = true := beq_iff_eq.mpr c12
    have c12b1 : (t130 != 0) = false := bne_eq_false_iff_eq.mpr c12
    clear c12
    by_cases c13 : t129 = true
    ·subst c13
     have H1 : (some 0) = some r := by rw [if_pos rfl] at H; exact H
     clear H
     have H := H1
     clear H1
     obtain rfl := Option.some.inj H
     obtain ⟨hcz14_0,hcz14_1,hfz14_0,hfz14_1⟩ := cf2 BK127.out
     go_wp2_with (first | (go_at_call 56; (with_reducible refine (poly_Primitive.calls kj1 a0_1 true t130 _ A11.out).mono ?_); rintro e w' ⟨rfl,⟨nd,rfl⟩⟩; (try first | exact ⟨rfl,_,World.drewN_drewN _ _ _⟩ | exact ⟨rfl,_,Eq.trans (World.drewN_drewN _ _ _) (congrArg (World.drewN _) (Nat.add_assoc _ _ _))⟩)))
     repeat (go_quiet (first | (go_at_call 56; (with_reducible refine (poly_Primitive.calls kj1 a0_1 true t130 _ A11.out).mono ?_); rintro e w' ⟨rfl,⟨nd,rfl⟩⟩; (try first | exact ⟨rfl,_,World.drewN_drewN _ _ _⟩ | exact ⟨rfl,_,Eq.trans (World.drewN_drewN _ _ _) (congrArg (World.drewN _) (Nat.add_assoc _ _ _))⟩))); try go_wp2_with (first | (go_at_call 56; (with_reducible refine (poly_Primitive.calls kj1 a0_1 true t130 _ A11.out).mono ?_); rintro e w' ⟨rfl,⟨nd,rfl⟩⟩; (try first | exact ⟨rfl,_,World.drewN_drewN _ _ _⟩ | exact ⟨rfl,_,Eq.trans (World.drewN_drewN _ _ _) (congrArg (World.drewN _) (Nat.add_assoc _ _ _))⟩))))
     go_ret
     exact ⟨by first | rfl | (simp [errW_none,errW_some] <;> rfl) | (simp [*,errW_none,errW_some] <;> rfl),mvh HB.out⟩
    ·replace c13 := Bool.eq_false_iff.mpr c13
     subst c13
     have H1 : (some 320) = some r := by rw [if_neg (show ¬ (false = true) by decide)] at H; exact H
     clear H
     have H := H1
     clear H1
     obtain rfl := Option.some.inj H
     obtain ⟨hcz15_0,hcz15_1,hfz15_0,hfz15_1⟩ := cf2 BK127.out
     go_wp2_with (first | (go_at_call 56; (with_reducible refine (poly_Primitive.calls kj1 a0_1 false t130 _ A11.out).mono ?_); rintro e w' ⟨rfl,⟨nd,rfl⟩⟩; (try first | exact ⟨rfl,_,World.drewN_drewN _ _ _⟩ | exact ⟨rfl,_,Eq.trans (World.drewN_drewN _ _ _) (congrArg (World.drewN _) (Nat.add_assoc _ _ _))⟩)))
     repeat (go_quiet (first | (go_at_call 56; (with_reducible refine (poly_Primitive.calls kj1 a0_1 false t130 _ A11.out).mono ?_); rintro e w' ⟨rfl,⟨nd,rfl⟩⟩; (try first | exact ⟨rfl,_,World.drewN_drewN _ _ _⟩ | exact ⟨rfl,_,Eq.trans (World.drewN_drewN _ _ _) (congrArg (World.drewN _) (Nat.add_assoc _ _ _))⟩))); try go_wp2_with (first | (go_at_call 56; (with_reducible refine (poly_Primitive.calls kj1 a0_1 false t130 _ A11.out).mono ?_); rintro e w' ⟨rfl,⟨nd,rfl⟩⟩; (try first | exact ⟨rfl,_,World.drewN_drewN _ _ _⟩ | exact ⟨rfl,_,Eq.trans (World.drewN_drewN _ _ _) (congrArg (World.drewN _) (Nat.add_assoc _ _ _))⟩))))
     go_ret
     exact ⟨by first | rfl | (simp [errW_none,errW_some] <;> rfl) | (simp [*,errW_none,errW_some] <;> rfl),mvh HB.out⟩
end Go.Proofs.Ytdhnjnkjhfomiaa.P

