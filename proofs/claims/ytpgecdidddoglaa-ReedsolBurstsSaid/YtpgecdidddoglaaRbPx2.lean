-- written by mk.sh, a program of this session, over the kit's print
import Derived.Test.YtpgecdidddoglaaRbPx0
import Derived.Test.YtpgecdidddoglaaRbPx1
namespace Go.Proofs.Ytpgecdidddoglaa.P
open Go.RowKit Go.Proofs.YtpgecdidddoglaaW.PrintWords Go.Proofs.YtpgecdidddoglaaW.PrintLast Go.Proofs.YtpgecdidddoglaaW.PrintMore
attribute [local go_sem] max2_int min2_int max_two min_two max_three min_three max_four min_four   -- for this text's walks alone
set_option linter.unusedVariables false
set_option linter.unusedSimpArgs false

mutual
def r2_Order.j0 : Nat → Int → Bool → Option (Int × Int)
 | 0,_,_ => none
 | k + 1,x0,x15 => if x15 = true then (some (0,21)) else ((r2_Bit.f x0 0).bind fun t130 => (if t130 = 0 then (some (0,22)) else ((r2_Whole.f k 0 1 x0).bind fun bt131 => (r2_Order.l0 k x0 bt131.2 bt131.2 1))))
def r2_Order.l0 : Nat → Int → Int → Int → Int → Option (Int × Int)
 | 0,_,_,_,_ => none
 | k + 1,x0,x5,x6,x7 => (r2_Degree.f k (IntKind.u64.wrap (x6 * 2))).bind fun t133 => ((r2_Degree.f k x0).bind fun t134 => (if t133 = t134 then (if x0 = 1 then (some (x7,0)) else (if (Go.bits .xor .u64 (IntKind.u64.wrap (x6 * 2)) x0) = x5 then (some (x7,0)) else (r2_Order.l0 k x0 x5 (Go.bits .xor .u64 (IntKind.u64.wrap (x6 * 2)) x0) (wrap64 (x7 + 1))))) else (if x0 = 1 then (some (x7,0)) else (if (IntKind.u64.wrap (x6 * 2)) = x5 then (some (x7,0)) else (r2_Order.l0 k x0 x5 (IntKind.u64.wrap (x6 * 2)) (wrap64 (x7 + 1)))))))
end
def r2_Order.f (k : Nat) (a0 : Int) : Option (Int × Int) := (r2_Degree.f k a0).bind fun t128 => (if t128 < 0 then (r2_Order.j0 k a0 true) else ((r2_Degree.f k a0).bind fun t129 => (r2_Order.j0 k a0 (decide (t129 > 20)))))
theorem r2_Order.mono_l : ∀ k,(∀ y0 y1,LeO (r2_Order.j0 k y0 y1) (r2_Order.j0 (k + 1) y0 y1)) ∧ (∀ y0 y1 y2 y3,LeO (r2_Order.l0 k y0 y1 y2 y3) (r2_Order.l0 (k + 1) y0 y1 y2 y3))
 | 0 => ⟨fun _ _ r h => by simp [r2_Order.j0] at h,fun _ _ _ _ r h => by simp [r2_Order.l0] at h⟩
 | k + 1 => by
  obtain ⟨ih0,ih1⟩ := r2_Order.mono_l k
  refine ⟨?_,?_⟩
  ·intro y0 y1
   unfold r2_Order.j0
   repeat' with_reducible first
   | exact ih0 _ _
   | exact ih1 _ _ _ _
   | exact r2_Degree.mono _ _
   | exact r2_Whole.mono _ _ _ _
   | exact LeO.refl _
   | exact LeO.none _
   | refine LeO.ite ?_ ?_
   | refine LeO.bind ?_ (fun _ => ?_)
  ·intro y0 y1 y2 y3
   unfold r2_Order.l0
   repeat' with_reducible first
   | exact ih0 _ _
   | exact ih1 _ _ _ _
   | exact r2_Degree.mono _ _
   | exact r2_Whole.mono _ _ _ _
   | exact LeO.refl _
   | exact LeO.none _
   | refine LeO.ite ?_ ?_
   | refine LeO.bind ?_ (fun _ => ?_)
theorem r2_Order.mono : ∀ a0 k,LeO (r2_Order.f k a0) (r2_Order.f (k + 1) a0) := by
 intro a0 k
 obtain ⟨ih0,ih1⟩ := r2_Order.mono_l k
 unfold r2_Order.f
 repeat' with_reducible first
   | exact ih0 _ _
   | exact ih1 _ _ _ _
   | exact r2_Degree.mono _ _
   | exact r2_Whole.mono _ _ _ _
   | exact LeO.refl _
   | exact LeO.none _
   | refine LeO.ite ?_ ?_
   | refine LeO.bind ?_ (fun _ => ?_)
set_option maxHeartbeats 8000000 in
set_option maxRecDepth 100000 in
theorem r2_Order.calls (k : Nat) (a0 : Int) (r1 : Int) (r2 : Int) (w : World) (h : r2_Order.f k a0 = some (r1,r2)) :
  Calls Try.prog 66 #[.int .u64 a0] w fun e w' => e = .returned (.tuple #[.int .i64 r1,.int .i64 r2]) ∧ Drawn0 w w' := by
 have H : ((r2_Degree.f k a0).bind fun t128 => (if t128 < 0 then (r2_Order.j0 k a0 true) else ((r2_Degree.f k a0).bind fun t129 => (r2_Order.j0 k a0 (decide (t129 > 20)))))) = some (r1,r2) := h
 clear h
 have HC2 := Aside0.mk H
 clear H
 go_enter Try.func66,Try.ntmps66
 go_upto_region 1 with (fail)
 go_cut [15] (fun v15 wc => ∃ (kq : Nat) (x15_1 : Bool),v15 = .bool x15_1 ∧ Aside0 (r2_Order.j0 kq a0 x15_1 = some (r1,r2)) ∧ Aside0 (kq ≤ k) ∧ Drawn0 w wc)
 case first =>
  have H := HC2.out
  clear HC2
  replace H := Option.bind_eq_some_iff.mp H
  obtain ⟨t128,A30,H⟩ := H
  try dsimp only at H
  have A3 := Aside0.mk A30
  clear A30
  by_cases c4 : t128 < 0
  ·rw [if_pos c4] at H
   have c4b0 : decide (t128 < 0) = true := decide_eq_true c4
   clear c4
   (first | rw [c4b0] | (simp only [i64_w,i32_w]; rw [c4b0]) | rw [c4b1] | skip)
   have H' := Aside0.mk H
   clear H
   go_wp2_with (first | ((with_reducible refine gate_callee (f := 40) rfl ?_); refine goesL_ (some 9) rfl rfl Try.func40 (by kernel_rfl) rfl #[.int .u64 a0] rfl (by (try simp only [List.map_toArray,List.map_cons,List.map_nil]) <;> rfl) ?_; (with_reducible refine (r2_Degree.calls k a0 t128 _ A3.out).mono ?_); rintro e w' ⟨rfl,⟨nd,rfl⟩⟩; refine ⟨_,rfl,?_⟩))
   go_meet
   case rel => exact ⟨_,(true),(by first | rfl | (simp; done) | (simp [*]; done) | (simp [wrap64]; done)),H',⟨by first | omega | exact Nat.le_refl _⟩,by repeat (first | exact Drawn0.refl _ | apply Drawn0.step)⟩
  ·rw [if_neg c4] at H
   have c4b0 : decide (t128 < 0) = false := decide_eq_false c4
   clear c4
   (first | rw [c4b0] | (simp only [i64_w,i32_w]; rw [c4b0]) | rw [c4b1] | skip)
   replace H := Option.bind_eq_some_iff.mp H
   obtain ⟨t129,A50,H⟩ := H
   try dsimp only at H
   have A5 := Aside0.mk A50
   clear A50
   have H' := Aside0.mk H
   clear H
   go_wp2_with (first | ((with_reducible refine gate_callee (f := 40) rfl ?_); refine goesL_ (some 9) rfl rfl Try.func40 (by kernel_rfl) rfl #[.int .u64 a0] rfl (by (try simp only [List.map_toArray,List.map_cons,List.map_nil]) <;> rfl) ?_; (with_reducible refine (r2_Degree.calls k a0 t128 _ A3.out).mono ?_); rintro e w' ⟨rfl,⟨nd,rfl⟩⟩; refine ⟨_,rfl,?_⟩) | (go_at_call 40; (with_reducible refine (r2_Degree.calls k a0 t129 _ A5.out).mono ?_); rintro e w' ⟨rfl,⟨nd,rfl⟩⟩))
   go_meet
   case rel => exact ⟨_,(decide (t129 > 20)),(by first | rfl | (simp; done) | (simp [*]; done) | (simp [wrap64]; done)),H',⟨by first | omega | exact Nat.le_refl _⟩,by repeat (first | exact Drawn0.refl _ | apply Drawn0.step)⟩
 case rest =>
  clear HC2
  (try clear p2); (try clear c4); (try clear c4b0); (try clear c4b1)
  obtain ⟨kq,x15_1,rfl,HA,HJ1,⟨mc1,rfl⟩⟩ := hcut
  cases kq with
  | zero => exact absurd HA.out (by simp [r2_Order.j0])
  | succ kj1 =>
   have H := HA.out
   clear HA
   simp only [r2_Order.j0] at H
   by_cases c6 : x15_1 = true
   ·subst c6
    have H1 : (some (0,21)) = some (r1,r2) := by rw [if_pos rfl] at H; exact H
    clear H
    have H := H1
    clear H1
    simp only [Option.some.injEq,Prod.mk.injEq] at H
    obtain ⟨rfl,rfl⟩ := H
    go_wp2
    go_ret2
    exact ⟨by first | rfl | (simp; done) | (simp [*]; done) | (simp [wrap64]; done),by repeat (first | exact Drawn0.refl _ | apply Drawn0.step)⟩
   ·replace c6 := Bool.eq_false_iff.mpr c6
    subst c6
    have H1 : ((r2_Bit.f a0 0).bind fun t130 => (if t130 = 0 then (some (0,22)) else ((r2_Whole.f kj1 0 1 a0).bind fun bt131 => (r2_Order.l0 kj1 a0 bt131.2 bt131.2 1)))) = some (r1,r2) := by rw [if_neg (show ¬ (false = true) by decide)] at H; exact H
    clear H
    have H := H1
    clear H1
    replace H := Option.bind_eq_some_iff.mp H
    obtain ⟨t130,A70,H⟩ := H
    try dsimp only at H
    have A7 := Aside0.mk A70
    clear A70
    by_cases c8 : t130 = 0
    ·rw [if_pos c8] at H
     have c8b0 : (t130 == 0) = true := beq_iff_eq.mpr c8
     have c8b1 : (t130 != 0) = false := bne_eq_false_iff_eq.mpr c8
     clear c8
     simp only [Option.some.injEq,Prod.mk.injEq] at H
     obtain ⟨rfl,rfl⟩ := H
     go_wp2_with (first | ((with_reducible refine gate_callee (f := 65) rfl ?_); refine goesL_ (some 17) rfl rfl Try.func65 (by kernel_rfl) rfl #[.int .u64 a0,.int .i64 0] rfl (by (try simp only [List.map_toArray,List.map_cons,List.map_nil]) <;> rfl) ?_; (with_reducible refine (r2_Bit.calls a0 0 t130 _ A7.out).mono ?_); rintro e w' ⟨rfl,⟨nd,rfl⟩⟩; refine ⟨_,rfl,?_⟩))
     go_ret2
     exact ⟨by first | rfl | (simp; done) | (simp [*]; done) | (simp [wrap64]; done),by repeat (first | exact Drawn0.refl _ | apply Drawn0.step)⟩
    ·rw [if_neg c8] at H
     have c8b0 : (t130 == 0) = false := beq_eq_false_iff_ne.mpr c8
     have c8b1 : (t130 != 0) = true := bne_iff_ne.mpr c8
     replace H := Option.bind_eq_some_iff.mp H
     obtain ⟨⟨t131,t132⟩,A90,H⟩ := H
     try dsimp only at H
     have A9 := Aside0.mk A90
     clear A90
     have H' := Aside0.mk H
     clear H
     go_wp2_with (first | ((with_reducible refine gate_callee (f := 65) rfl ?_); refine goesL_ (some 17) rfl rfl Try.func65 (by kernel_rfl) rfl #[.int .u64 a0,.int .i64 0] rfl (by (try simp only [List.map_toArray,List.map_cons,List.map_nil]) <;> rfl) ?_; (with_reducible refine (r2_Bit.calls a0 0 t130 _ A7.out).mono ?_); rintro e w' ⟨rfl,⟨nd,rfl⟩⟩; refine ⟨_,rfl,?_⟩) | ((with_reducible refine gate_callee (f := 78) rfl ?_); refine goesL_ (some 21) rfl rfl Try.func78 (by kernel_rfl) rfl #[.int .u64 0,.int .u64 1,.int .u64 a0] rfl (by (try simp only [List.map_toArray,List.map_cons,List.map_nil]) <;> rfl) ?_; (with_reducible refine (r2_Whole.calls kj1 0 1 a0 t131 t132 _ A9.out).mono ?_); rintro e w' ⟨rfl,⟨nd,rfl⟩⟩; refine ⟨_,rfl,?_⟩))
     go_loopg [6,7] kj1 (fun kq v6 v7 w' => ∃ (x6_2 : Int) (x7_2 : Int),v6 = .int .u64 x6_2 ∧ v7 = .int .i64 x7_2 ∧ Aside0 (r2_Order.l0 kq a0 t132 x6_2 x7_2 = some (r1,r2)) ∧ Aside0 (kq ≤ kj1) ∧ Drawn0 w w')
     case atStart => exact ⟨(t132),(1),(by first | rfl | (simp; done) | (simp [*]; done) | (simp [wrap64]; done)),(by first | rfl | (simp; done) | (simp [*]; done) | (simp [wrap64]; done)),H',⟨Nat.le_refl _⟩,by repeat (first | exact Drawn0.refl _ | apply Drawn0.step)⟩
     case round =>
      clear H'
      (try clear c1); (try clear p2); (try clear c4); (try clear c4b0); (try clear c4b1); (try clear c6); (try clear p6); (try clear c7); (try clear c8); (try clear c8b0); (try clear c8b1); (try clear p2)
      obtain ⟨x6_2,x7_2,rfl,rfl,HA,HK2,⟨m2,rfl⟩⟩ := hrel
      cases gk with
      | zero => exact absurd HA.out (by simp [r2_Order.l0])
      | succ k2 =>
       have H := HA.out
       clear HA
       simp only [r2_Order.l0] at H
       replace H := Option.bind_eq_some_iff.mp H
       obtain ⟨t133,A100,H⟩ := H
       try dsimp only at H
       have A10 := Aside0.mk A100
       clear A100
       replace H := Option.bind_eq_some_iff.mp H
       obtain ⟨t134,A110,H⟩ := H
       try dsimp only at H
       have A11 := Aside0.mk A110
       clear A110
       by_cases c12 : t133 = t134
       ·rw [if_pos c12] at H
        have c12b0 : (t133 == t134) = true := beq_iff_eq.mpr c12
        have c12b1 : (t133 != t134) = false := bne_eq_false_iff_eq.mpr c12
        clear c12
        by_cases c13 : a0 = 1
        ·rw [if_pos c13] at H
         have c13b0 : (a0 == 1) = true := beq_iff_eq.mpr c13
         have c13b1 : (a0 != 1) = false := bne_eq_false_iff_eq.mpr c13
         clear c13
         simp only [Option.some.injEq,Prod.mk.injEq] at H
         obtain ⟨rfl,rfl⟩ := H
         go_wp2_with (first | ((with_reducible refine gate_callee (f := 40) rfl ?_); refine goesL_ (some 30) rfl rfl Try.func40 (by kernel_rfl) rfl #[.int .u64 (IntKind.u64.wrap (x6_2 * 2))] rfl (by (try simp only [List.map_toArray,List.map_cons,List.map_nil]) <;> rfl) ?_; (with_reducible refine (r2_Degree.calls k2 (IntKind.u64.wrap (x6_2 * 2)) t133 _ A10.out).mono ?_); rintro e w' ⟨rfl,⟨nd,rfl⟩⟩; refine ⟨_,rfl,?_⟩) | ((with_reducible refine gate_callee (f := 40) rfl ?_); refine goesL_ (some 32) rfl rfl Try.func40 (by kernel_rfl) rfl #[.int .u64 a0] rfl (by (try simp only [List.map_toArray,List.map_cons,List.map_nil]) <;> rfl) ?_; (with_reducible refine (r2_Degree.calls k2 a0 t134 _ A11.out).mono ?_); rintro e w' ⟨rfl,⟨nd,rfl⟩⟩; refine ⟨_,rfl,?_⟩))
         go_ret2
         exact ⟨by first | rfl | (simp; done) | (simp [*]; done) | (simp [wrap64]; done),by repeat (first | exact Drawn0.refl _ | apply Drawn0.step)⟩
        ·rw [if_neg c13] at H
         have c13b0 : (a0 == 1) = false := beq_eq_false_iff_ne.mpr c13
         have c13b1 : (a0 != 1) = true := bne_iff_ne.mpr c13
         by_cases c14 : (Go.bits .xor .u64 (IntKind.u64.wrap (x6_2 * 2)) a0) = t132
         ·rw [if_pos c14] at H
          have c14b0 : ((Go.bits .xor .u64 (IntKind.u64.wrap (x6_2 * 2)) a0) == t132) = true := beq_iff_eq.mpr c14
          have c14b1 : ((Go.bits .xor .u64 (IntKind.u64.wrap (x6_2 * 2)) a0) != t132) = false := bne_eq_false_iff_eq.mpr c14
          clear c14
          simp only [Option.some.injEq,Prod.mk.injEq] at H
          obtain ⟨rfl,rfl⟩ := H
          go_wp2_with (first | ((with_reducible refine gate_callee (f := 40) rfl ?_); refine goesL_ (some 30) rfl rfl Try.func40 (by kernel_rfl) rfl #[.int .u64 (IntKind.u64.wrap (x6_2 * 2))] rfl (by (try simp only [List.map_toArray,List.map_cons,List.map_nil]) <;> rfl) ?_; (with_reducible refine (r2_Degree.calls k2 (IntKind.u64.wrap (x6_2 * 2)) t133 _ A10.out).mono ?_); rintro e w' ⟨rfl,⟨nd,rfl⟩⟩; refine ⟨_,rfl,?_⟩) | ((with_reducible refine gate_callee (f := 40) rfl ?_); refine goesL_ (some 32) rfl rfl Try.func40 (by kernel_rfl) rfl #[.int .u64 a0] rfl (by (try simp only [List.map_toArray,List.map_cons,List.map_nil]) <;> rfl) ?_; (with_reducible refine (r2_Degree.calls k2 a0 t134 _ A11.out).mono ?_); rintro e w' ⟨rfl,⟨nd,rfl⟩⟩; refine ⟨_,rfl,?_⟩))
          go_ret2
          exact ⟨by first | rfl | (simp; done) | (simp [*]; done) | (simp [wrap64]; done),by repeat (first | exact Drawn0.refl _ | apply Drawn0.step)⟩
         ·rw [if_neg c14] at H
          have c14b0 : ((Go.bits .xor .u64 (IntKind.u64.wrap (x6_2 * 2)) a0) == t132) = false := beq_eq_false_iff_ne.mpr c14
          have c14b1 : ((Go.bits .xor .u64 (IntKind.u64.wrap (x6_2 * 2)) a0) != t132) = true := bne_iff_ne.mpr c14
          have H' := Aside0.mk H
          clear H
          go_wp2_with (first | ((with_reducible refine gate_callee (f := 40) rfl ?_); refine goesL_ (some 30) rfl rfl Try.func40 (by kernel_rfl) rfl #[.int .u64 (IntKind.u64.wrap (x6_2 * 2))] rfl (by (try simp only [List.map_toArray,List.map_cons,List.map_nil]) <;> rfl) ?_; (with_reducible refine (r2_Degree.calls k2 (IntKind.u64.wrap (x6_2 * 2)) t133 _ A10.out).mono ?_); rintro e w' ⟨rfl,⟨nd,rfl⟩⟩; refine ⟨_,rfl,?_⟩) | ((with_reducible refine gate_callee (f := 40) rfl ?_); refine goesL_ (some 32) rfl rfl Try.func40 (by kernel_rfl) rfl #[.int .u64 a0] rfl (by (try simp only [List.map_toArray,List.map_cons,List.map_nil]) <;> rfl) ?_; (with_reducible refine (r2_Degree.calls k2 a0 t134 _ A11.out).mono ?_); rintro e w' ⟨rfl,⟨nd,rfl⟩⟩; refine ⟨_,rfl,?_⟩))
          go_roundg k2
          case measure => have := HJ1.out; have := HK2.out; omega
          case rel => exact ⟨(Go.bits .xor .u64 (IntKind.u64.wrap (x6_2 * 2)) a0),(wrap64 (x7_2 + 1)),(by first | rfl | (simp; done) | (simp [*]; done) | (simp [wrap64]; done)),(by first | rfl | (simp; done) | (simp [*]; done) | (simp [wrap64]; done)),H',⟨by have := HJ1.out; have := HK2.out; omega⟩,by repeat (first | exact Drawn0.refl _ | apply Drawn0.step)⟩
       ·rw [if_neg c12] at H
        have c12b0 : (t133 == t134) = false := beq_eq_false_iff_ne.mpr c12
        have c12b1 : (t133 != t134) = true := bne_iff_ne.mpr c12
        by_cases c15 : a0 = 1
        ·rw [if_pos c15] at H
         have c15b0 : (a0 == 1) = true := beq_iff_eq.mpr c15
         have c15b1 : (a0 != 1) = false := bne_eq_false_iff_eq.mpr c15
         clear c15
         simp only [Option.some.injEq,Prod.mk.injEq] at H
         obtain ⟨rfl,rfl⟩ := H
         go_wp2_with (first | ((with_reducible refine gate_callee (f := 40) rfl ?_); refine goesL_ (some 30) rfl rfl Try.func40 (by kernel_rfl) rfl #[.int .u64 (IntKind.u64.wrap (x6_2 * 2))] rfl (by (try simp only [List.map_toArray,List.map_cons,List.map_nil]) <;> rfl) ?_; (with_reducible refine (r2_Degree.calls k2 (IntKind.u64.wrap (x6_2 * 2)) t133 _ A10.out).mono ?_); rintro e w' ⟨rfl,⟨nd,rfl⟩⟩; refine ⟨_,rfl,?_⟩) | ((with_reducible refine gate_callee (f := 40) rfl ?_); refine goesL_ (some 32) rfl rfl Try.func40 (by kernel_rfl) rfl #[.int .u64 a0] rfl (by (try simp only [List.map_toArray,List.map_cons,List.map_nil]) <;> rfl) ?_; (with_reducible refine (r2_Degree.calls k2 a0 t134 _ A11.out).mono ?_); rintro e w' ⟨rfl,⟨nd,rfl⟩⟩; refine ⟨_,rfl,?_⟩))
         go_ret2
         exact ⟨by first | rfl | (simp; done) | (simp [*]; done) | (simp [wrap64]; done),by repeat (first | exact Drawn0.refl _ | apply Drawn0.step)⟩
        ·rw [if_neg c15] at H
         have c15b0 : (a0 == 1) = false := beq_eq_false_iff_ne.mpr c15
         have c15b1 : (a0 != 1) = true := bne_iff_ne.mpr c15
         by_cases c16 : (IntKind.u64.wrap (x6_2 * 2)) = t132
         ·rw [if_pos c16] at H
          have c16b0 : ((IntKind.u64.wrap (x6_2 * 2)) == t132) = true := beq_iff_eq.mpr c16
          have c16b1 : ((IntKind.u64.wrap (x6_2 * 2)) != t132) = false := bne_eq_false_iff_eq.mpr c16
          clear c16
          simp only [Option.some.injEq,Prod.mk.injEq] at H
          obtain ⟨rfl,rfl⟩ := H
          go_wp2_with (first | ((with_reducible refine gate_callee (f := 40) rfl ?_); refine goesL_ (some 30) rfl rfl Try.func40 (by kernel_rfl) rfl #[.int .u64 (IntKind.u64.wrap (x6_2 * 2))] rfl (by (try simp only [List.map_toArray,List.map_cons,List.map_nil]) <;> rfl) ?_; (with_reducible refine (r2_Degree.calls k2 (IntKind.u64.wrap (x6_2 * 2)) t133 _ A10.out).mono ?_); rintro e w' ⟨rfl,⟨nd,rfl⟩⟩; refine ⟨_,rfl,?_⟩) | ((with_reducible refine gate_callee (f := 40) rfl ?_); refine goesL_ (some 32) rfl rfl Try.func40 (by kernel_rfl) rfl #[.int .u64 a0] rfl (by (try simp only [List.map_toArray,List.map_cons,List.map_nil]) <;> rfl) ?_; (with_reducible refine (r2_Degree.calls k2 a0 t134 _ A11.out).mono ?_); rintro e w' ⟨rfl,⟨nd,rfl⟩⟩; refine ⟨_,rfl,?_⟩))
          go_ret2
          exact ⟨by first | rfl | (simp; done) | (simp [*]; done) | (simp [wrap64]; done),by repeat (first | exact Drawn0.refl _ | apply Drawn0.step)⟩
         ·rw [if_neg c16] at H
          have c16b0 : ((IntKind.u64.wrap (x6_2 * 2)) == t132) = false := beq_eq_false_iff_ne.mpr c16
          have c16b1 : ((IntKind.u64.wrap (x6_2 * 2)) != t132) = true := bne_iff_ne.mpr c16
          have H' := Aside0.mk H
          clear H
          go_wp2_with (first | ((with_reducible refine gate_callee (f := 40) rfl ?_); refine goesL_ (some 30) rfl rfl Try.func40 (by kernel_rfl) rfl #[.int .u64 (IntKind.u64.wrap (x6_2 * 2))] rfl (by (try simp only [List.map_toArray,List.map_cons,List.map_nil]) <;> rfl) ?_; (with_reducible refine (r2_Degree.calls k2 (IntKind.u64.wrap (x6_2 * 2)) t133 _ A10.out).mono ?_); rintro e w' ⟨rfl,⟨nd,rfl⟩⟩; refine ⟨_,rfl,?_⟩) | ((with_reducible refine gate_callee (f := 40) rfl ?_); refine goesL_ (some 32) rfl rfl Try.func40 (by kernel_rfl) rfl #[.int .u64 a0] rfl (by (try simp only [List.map_toArray,List.map_cons,List.map_nil]) <;> rfl) ?_; (with_reducible refine (r2_Degree.calls k2 a0 t134 _ A11.out).mono ?_); rintro e w' ⟨rfl,⟨nd,rfl⟩⟩; refine ⟨_,rfl,?_⟩))
          go_roundg k2
          case measure => have := HJ1.out; have := HK2.out; omega
          case rel => exact ⟨(IntKind.u64.wrap (x6_2 * 2)),(wrap64 (x7_2 + 1)),(by first | rfl | (simp; done) | (simp [*]; done) | (simp [wrap64]; done)),(by first | rfl | (simp; done) | (simp [*]; done) | (simp [wrap64]; done)),H',⟨by have := HJ1.out; have := HK2.out; omega⟩,by repeat (first | exact Drawn0.refl _ | apply Drawn0.step)⟩

def r2_Primitive.j0 : Nat → Int → Int → Bool → Option (Bool × Int)
 | 0,_,_,_ => none
 | k + 1,x0,x4,x16 => if x16 = true then (some (false,21)) else ((r2_Irreducible.f k x0).bind fun bt136 => (if bt136.1 = true then ((r2_Bit.f x0 0).bind fun t138 => (if t138 = 0 then (some (false,0)) else ((r2_Order.f k x0).bind fun bt139 => (if 0 ≤ (IntKind.u64.wrap (x4)) then (some ((bt139.1 == (wrap64 ((shl .i64 1 (IntKind.u64.wrap (x4))) - 1))),0)) else (none))))) else (some (false,0))))
def r2_Primitive.f (k : Nat) (a0 : Int) : Option (Bool × Int) := (r2_Degree.f k a0).bind fun t135 => (if t135 < 1 then (r2_Primitive.j0 k a0 t135 true) else (r2_Primitive.j0 k a0 t135 (decide (t135 > 20))))
theorem r2_Primitive.mono_l : ∀ k,(∀ y0 y1 y2,LeO (r2_Primitive.j0 k y0 y1 y2) (r2_Primitive.j0 (k + 1) y0 y1 y2))
 | 0 => fun _ _ _ r h => by simp [r2_Primitive.j0] at h
 | k + 1 => by
  have ih0 := r2_Primitive.mono_l k
  ·intro y0 y1 y2
   unfold r2_Primitive.j0
   repeat' with_reducible first
   | exact ih0 _ _ _
   | exact r2_Degree.mono _ _
   | exact r2_Irreducible.mono _ _
   | exact r2_Order.mono _ _
   | exact LeO.refl _
   | exact LeO.none _
   | refine LeO.ite ?_ ?_
   | refine LeO.bind ?_ (fun _ => ?_)
theorem r2_Primitive.mono : ∀ a0 k,LeO (r2_Primitive.f k a0) (r2_Primitive.f (k + 1) a0) := by
 intro a0 k
 have ih0 := r2_Primitive.mono_l k
 unfold r2_Primitive.f
 repeat' with_reducible first
   | exact ih0 _ _ _
   | exact r2_Degree.mono _ _
   | exact r2_Irreducible.mono _ _
   | exact r2_Order.mono _ _
   | exact LeO.refl _
   | exact LeO.none _
   | refine LeO.ite ?_ ?_
   | refine LeO.bind ?_ (fun _ => ?_)
set_option maxHeartbeats 8000000 in
set_option maxRecDepth 100000 in
theorem r2_Primitive.calls (k : Nat) (a0 : Int) (r1 : Bool) (r2 : Int) (w : World) (h : r2_Primitive.f k a0 = some (r1,r2)) :
  Calls Try.prog 41 #[.int .u64 a0] w fun e w' => e = .returned (.tuple #[.bool r1,.int .i64 r2]) ∧ Below w.heap.size w w' := by
 have HB := aK (Below.refl w.heap.size w)
 have H : ((r2_Degree.f k a0).bind fun t135 => (if t135 < 1 then (r2_Primitive.j0 k a0 t135 true) else (r2_Primitive.j0 k a0 t135 (decide (t135 > 20))))) = some (r1,r2) := h
 clear h
 replace H := Option.bind_eq_some_iff.mp H
 obtain ⟨t135,A20,H⟩ := H
 try dsimp only at H
 have A2 := Aside0.mk A20
 clear A20
 have HC3 := Aside0.mk H
 clear H
 go_enter Try.func41,Try.ntmps41
 go_upto_region 2 with (first | (go_at_call 40; (with_reducible refine (r2_Degree.calls k a0 t135 _ A2.out).mono ?_); rintro e w' ⟨rfl,⟨nd,rfl⟩⟩))
 (try simp only [Act.put,List.setIfInBounds_toArray,List.set_cons_zero,List.set_cons_succ])
 go_cut [16] (fun v16 wc => ∃ (kq : Nat) (x16_2 : Bool),v16 = .bool x16_2 ∧ Aside0 (r2_Primitive.j0 kq a0 t135 x16_2 = some (r1,r2)) ∧ Aside0 (kq ≤ k) ∧ Aside0 (Below w.heap.size w wc))
 case first =>
  have H := HC3.out
  clear HC3
  by_cases c4 : t135 < 1
  ·rw [if_pos c4] at H
   have c4b0 : decide (t135 < 1) = true := decide_eq_true c4
   clear c4
   (first | rw [c4b0] | (simp only [i64_w,i32_w]; rw [c4b0]) | rw [c4b1] | skip)
   have H' := Aside0.mk H
   clear H
   go_wp2
   go_meet
   case rel => exact ⟨_,(true),(by first | rfl | (simp; done) | (simp [*]; done) | (simp [wrap64]; done)),H',⟨by first | omega | exact Nat.le_refl _⟩,⟨mvh HB.out⟩⟩
  ·rw [if_neg c4] at H
   have c4b0 : decide (t135 < 1) = false := decide_eq_false c4
   clear c4
   (first | rw [c4b0] | (simp only [i64_w,i32_w]; rw [c4b0]) | rw [c4b1] | skip)
   have H' := Aside0.mk H
   clear H
   go_wp2
   go_meet
   case rel => exact ⟨_,(decide (t135 > 20)),(by first | rfl | (simp; done) | (simp [*]; done) | (simp [wrap64]; done)),H',⟨by first | omega | exact Nat.le_refl _⟩,⟨mvh HB.out⟩⟩
 case rest =>
  clear HC3
  (try clear p2); (try clear c4); (try clear c4b0); (try clear c4b1)
  obtain ⟨kq,x16_2,rfl,HA,HJ2,HB⟩ := hcut
  cases kq with
  | zero => exact absurd HA.out (by simp [r2_Primitive.j0])
  | succ kj2 =>
   have H := HA.out
   clear HA
   simp only [r2_Primitive.j0] at H
   by_cases c5 : x16_2 = true
   ·subst c5
    have H1 : (some (false,21)) = some (r1,r2) := by rw [if_pos rfl] at H; exact H
    clear H
    have H := H1
    clear H1
    simp only [Option.some.injEq,Prod.mk.injEq] at H
    obtain ⟨rfl,rfl⟩ := H
    go_wp2
    go_ret2
    exact ⟨by first | rfl | (simp [errW_none,errW_some] <;> rfl) | (simp [*,errW_none,errW_some] <;> rfl),mvh HB.out⟩
   ·replace c5 := Bool.eq_false_iff.mpr c5
    subst c5
    have H1 : ((r2_Irreducible.f kj2 a0).bind fun bt136 => (if bt136.1 = true then ((r2_Bit.f a0 0).bind fun t138 => (if t138 = 0 then (some (false,0)) else ((r2_Order.f kj2 a0).bind fun bt139 => (if 0 ≤ (IntKind.u64.wrap (t135)) then (some ((bt139.1 == (wrap64 ((shl .i64 1 (IntKind.u64.wrap (t135))) - 1))),0)) else (none))))) else (some (false,0)))) = some (r1,r2) := by rw [if_neg (show ¬ (false = true) by decide)] at H; exact H
    clear H
    have H := H1
    clear H1
    replace H := Option.bind_eq_some_iff.mp H
    obtain ⟨⟨t136,t137⟩,A60,H⟩ := H
    try dsimp only at H
    have A6 := Aside0.mk A60
    clear A60
    by_cases c7 : t136 = true
    rotate_left
    ·replace c7 := Bool.eq_false_iff.mpr c7
     subst c7
     have H1 : (some (false,0)) = some (r1,r2) := by rw [if_neg (show ¬ (false = true) by decide)] at H; exact H
     clear H
     have H := H1
     clear H1
     simp only [Option.some.injEq,Prod.mk.injEq] at H
     obtain ⟨rfl,rfl⟩ := H
     go_wp2_with (first | (go_at_call 64; (with_reducible refine (r2_Irreducible.calls kj2 a0 false t137 _ A6.out).mono ?_); rintro e w16 ⟨rfl,hb⟩; replace HB := aK (below_step (mvh HB.out) hb); (try clear hb)))
     go_ret2
     exact ⟨by first | rfl | (simp [errW_none,errW_some] <;> rfl) | (simp [*,errW_none,errW_some] <;> rfl),mvh HB.out⟩


    subst c7
    have H1 : ((r2_Bit.f a0 0).bind fun t138 => (if t138 = 0 then (some (false,0)) else ((r2_Order.f kj2 a0).bind fun bt139 => (if 0 ≤ (IntKind.u64.wrap (t135)) then (some ((bt139.1 == (wrap64 ((shl .i64 1 (IntKind.u64.wrap (t135))) - 1))),0)) else (none))))) = some (r1,r2) := by rw [if_pos rfl] at H; exact H
    clear H
    have H := H1
    clear H1
    replace H := Option.bind_eq_some_iff.mp H
    obtain ⟨t138,A80,H⟩ := H
    try dsimp only at H
    have A8 := Aside0.mk A80
    clear A80
    by_cases c9 : t138 = 0
    ·rw [if_pos c9] at H
     have c9b0 : (t138 == 0) = true := beq_iff_eq.mpr c9
     have c9b1 : (t138 != 0) = false := bne_eq_false_iff_eq.mpr c9
     clear c9
     simp only [Option.some.injEq,Prod.mk.injEq] at H
     obtain ⟨rfl,rfl⟩ := H
     go_wp2_with (first | (go_at_call 64; (with_reducible refine (r2_Irreducible.calls kj2 a0 true t137 _ A6.out).mono ?_); rintro e w10 ⟨rfl,hb⟩; replace HB := aK (below_step (mvh HB.out) hb); (try clear hb)) | (go_at_call 65; (with_reducible refine (r2_Bit.calls a0 0 t138 _ A8.out).mono ?_); rintro e w' ⟨rfl,⟨nd,rfl⟩⟩))
     go_ret2
     exact ⟨by first | rfl | (simp [errW_none,errW_some] <;> rfl) | (simp [*,errW_none,errW_some] <;> rfl),mvh HB.out⟩
    ·rw [if_neg c9] at H
     have c9b0 : (t138 == 0) = false := beq_eq_false_iff_ne.mpr c9
     have c9b1 : (t138 != 0) = true := bne_iff_ne.mpr c9
     replace H := Option.bind_eq_some_iff.mp H
     obtain ⟨⟨t139,t140⟩,A110,H⟩ := H
     try dsimp only at H
     have A11 := Aside0.mk A110
     clear A110
     obtain ⟨ji12,hji12⟩ : ∃ j_ : Int,(IntKind.u64.wrap (t135)) = j_ := ⟨_,rfl⟩
     first | rw [hji12] at H | simp only [hji12] at H
     (try rw [hji12] at A6)
     (try rw [hji12] at A8)
     (try rw [hji12] at A11)
     by_cases c13 : 0 ≤ (ji12)
     rotate_left
     ·rw [if_neg c13] at H
      exact absurd H (by simp)
     rw [if_pos c13] at H
     have c13b0 := eq_true c13
     have c13b1 : decide (0 ≤ (ji12)) = true := decide_eq_true c13
     clear c13
     obtain ⟨ji14,hji14⟩ : ∃ j_ : Int,(shl .i64 1 (ji12)) = j_ := ⟨_,rfl⟩
     first | rw [hji14] at H | simp only [hji14] at H
     (try rw [hji14] at A6)
     (try rw [hji14] at A8)
     (try rw [hji14] at A11)
     have hji14_ : (IntKind.i64.wrap (1 * 2 ^ min (ji12).toNat 64)) = ji14 := hji14
     have hji14z : (ji12) ≤ 64 → (IntKind.i64.wrap (1 * 2 ^ (ji12).toNat)) = ji14 := shl_small hji14
     have hji14u : (IntKind.i64.wrap (2 ^ min (ji12).toNat 64)) = ji14 := by have h_ := hji14_; rw [Int.one_mul] at h_; exact h_
     have hji14v : (ji12) ≤ 64 → (IntKind.i64.wrap (2 ^ (ji12).toNat)) = ji14 := fun hle_ => by have h_ := hji14z hle_; rw [Int.one_mul] at h_; exact h_
     have hji14y : (wrap64 (1 * 2 ^ min (ji12).toNat 64)) = ji14 := (i64_w _).symm.trans hji14_
     have hji14x : (ji12) ≤ 64 → (wrap64 (1 * 2 ^ (ji12).toNat)) = ji14 := fun h_ => (i64_w _).symm.trans (hji14z h_)
     simp only [Option.some.injEq,Prod.mk.injEq] at H
     obtain ⟨rfl,rfl⟩ := H
     go_wp2_with (first | (go_at_call 64; (with_reducible refine (r2_Irreducible.calls kj2 a0 true t137 _ A6.out).mono ?_); rintro e w15 ⟨rfl,hb⟩; replace HB := aK (below_step (mvh HB.out) hb); (try clear hb)) | (go_at_call 65; (with_reducible refine (r2_Bit.calls a0 0 t138 _ A8.out).mono ?_); rintro e w' ⟨rfl,⟨nd,rfl⟩⟩) | (go_at_call 66; (with_reducible refine (r2_Order.calls kj2 a0 t139 t140 _ A11.out).mono ?_); rintro e w' ⟨rfl,⟨nd,rfl⟩⟩))
     go_ret2
     exact ⟨by first | rfl | (simp [errW_none,errW_some] <;> rfl) | (simp only [← hji12,← hji14]; first | rfl | (simp [errW_none,errW_some] <;> rfl)) | (simp [*,errW_none,errW_some] <;> rfl),mvh HB.out⟩
def r3_Check.j0 : Nat → Bool → Int → Int → Option (Int)
 | 0,_,_,_ => none
 | k + 1,x20,x142000,x142001 => if x20 = true then (some 320) else ((r2_Primitive.f k x142001).bind fun bt143 => (if bt143.1 = true then (some 0) else (some 320)))
def r3_Check.f (k : Nat) (a0_0 : Int) (a0_1 : Int) : Option (Int) := if a0_0 < 3 then (r3_Check.j0 k true a0_0 a0_1) else (if a0_0 > 8 then (r3_Check.j0 k true a0_0 a0_1) else ((r2_Degree.f k a0_1).bind fun t142 => (r3_Check.j0 k (t142 != a0_0) a0_0 a0_1)))
theorem r3_Check.mono_l : ∀ k,(∀ y0 y1 y2,LeO (r3_Check.j0 k y0 y1 y2) (r3_Check.j0 (k + 1) y0 y1 y2))
 | 0 => fun _ _ _ r h => by simp [r3_Check.j0] at h
 | k + 1 => by
  have ih0 := r3_Check.mono_l k
  ·intro y0 y1 y2
   unfold r3_Check.j0
   repeat' with_reducible first
   | exact ih0 _ _ _
   | exact r2_Degree.mono _ _
   | exact r2_Primitive.mono _ _
   | exact LeO.refl _
   | exact LeO.none _
   | refine LeO.ite ?_ ?_
   | refine LeO.bind ?_ (fun _ => ?_)
theorem r3_Check.mono : ∀ a0 a1 k,LeO (r3_Check.f k a0 a1) (r3_Check.f (k + 1) a0 a1) := by
 intro a0 a1 k
 have ih0 := r3_Check.mono_l k
 unfold r3_Check.f
 repeat' with_reducible first
   | exact ih0 _ _ _
   | exact r2_Degree.mono _ _
   | exact r2_Primitive.mono _ _
   | exact LeO.refl _
   | exact LeO.none _
   | refine LeO.ite ?_ ?_
   | refine LeO.bind ?_ (fun _ => ?_)
set_option maxHeartbeats 8000000 in
set_option maxRecDepth 100000 in
theorem r3_Check.calls (k : Nat) (a0_0 : Int) (a0_1 : Int) (r : Int) (w : World) (h : r3_Check.f k a0_0 a0_1 = some r) :
  Calls Try.prog 23 #[.agg #[.int .i64 a0_0,.int .u64 a0_1]] w fun e w' => e = .returned (.int .i64 r) ∧ Below w.heap.size w w' := by
 have hu24 := Try.underlying24
 have HB := aK (Below.refl w.heap.size w)
 have H : (if a0_0 < 3 then (r3_Check.j0 k true a0_0 a0_1) else (if a0_0 > 8 then (r3_Check.j0 k true a0_0 a0_1) else ((r2_Degree.f k a0_1).bind fun t142 => (r3_Check.j0 k (t142 != a0_0) a0_0 a0_1)))) = some r := h
 clear h
 have HC2 := Aside0.mk H
 clear H
 go_enter Try.func23,Try.ntmps23
 go_upto_region 1 with (first | ((with_reducible refine gate_dst (N := 1) rfl ?_); refine box_event ?hg (N := 1) ?hd (cs := #[.int .i64 a0_0,.int .u64 a0_1]) (t := 24) ?hr ?_; (case hd => rfl); (case hg => rfl); (case hr => first | (go_simp; done) | (go_simp; rfl)); intro gb141 hg w3 hbox hb; have BK141 := aK (hbox); have GW141 := aK ((by rw [hg]; exact (below_size (mvh HB.out)) : w.heap.size ≤ gb141)); have GE141 := aK ((by rw [hg]; exact (below_size (mvh HB.out)) : w.heap.size ≤ gb141)); replace HB := aK (below_step (mvh HB.out) hb); clear hb hbox hg))
 repeat (go_quiet (first | ((with_reducible refine gate_dst (N := 1) rfl ?_); refine box_event ?hg (N := 1) ?hd (cs := #[.int .i64 a0_0,.int .u64 a0_1]) (t := 24) ?hr ?_; (case hd => rfl); (case hg => rfl); (case hr => first | (go_simp; done) | (go_simp; rfl)); intro gb141 hg w3 hbox hb; have BK141 := aK (hbox); have GW141 := aK ((by rw [hg]; exact (below_size (mvh HB.out)) : w.heap.size ≤ gb141)); have GE141 := aK ((by rw [hg]; exact (below_size (mvh HB.out)) : w.heap.size ≤ gb141)); replace HB := aK (below_step (mvh HB.out) hb); clear hb hbox hg)); go_upto_region 1 with (first | ((with_reducible refine gate_dst (N := 1) rfl ?_); refine box_event ?hg (N := 1) ?hd (cs := #[.int .i64 a0_0,.int .u64 a0_1]) (t := 24) ?hr ?_; (case hd => rfl); (case hg => rfl); (case hr => first | (go_simp; done) | (go_simp; rfl)); intro gb141 hg w3 hbox hb; have BK141 := aK (hbox); have GW141 := aK ((by rw [hg]; exact (below_size (mvh HB.out)) : w.heap.size ≤ gb141)); have GE141 := aK ((by rw [hg]; exact (below_size (mvh HB.out)) : w.heap.size ≤ gb141)); replace HB := aK (below_step (mvh HB.out) hb); clear hb hbox hg)))
 (try simp only [Act.put,List.setIfInBounds_toArray,List.set_cons_zero,List.set_cons_succ])
 go_cut [20] (fun v20 wc => ∃ (kq : Nat) (x20_1 : Bool),v20 = .bool x20_1 ∧ Aside0 (r3_Check.j0 kq x20_1 a0_0 a0_1 = some r) ∧ Aside0 (kq ≤ k) ∧ Aside0 (wc.heap[gb141]? = some (.cells #[.int .i64 a0_0,.int .u64 a0_1] 24 (0,0))) ∧ Aside0 (Below w.heap.size w wc))
 case first =>
  have H := HC2.out
  clear HC2
  by_cases c4 : a0_0 < 3
  ·rw [if_pos c4] at H
   have c4b0 : decide (a0_0 < 3) = true := decide_eq_true c4
   clear c4
   (first | rw [c4b0] | (simp only [i64_w,i32_w]; rw [c4b0]) | rw [c4b1] | skip)
   have H' := Aside0.mk H
   clear H
   obtain ⟨hcz5_0,hcz5_1,hfz5_0,hfz5_1⟩ := cf2 BK141.out
   go_wp2
   repeat (go_quiet (fail); try go_wp2)
   go_meet
   case rel => exact ⟨_,(true),(by first | rfl | (simp; done) | (simp [*]; done) | (simp [wrap64]; done)),H',⟨by first | omega | exact Nat.le_refl _⟩,⟨mvb BK141.out⟩,⟨mvh HB.out⟩⟩
  ·rw [if_neg c4] at H
   have c4b0 : decide (a0_0 < 3) = false := decide_eq_false c4
   clear c4
   (first | rw [c4b0] | (simp only [i64_w,i32_w]; rw [c4b0]) | rw [c4b1] | skip)
   by_cases c6 : a0_0 > 8
   ·rw [if_pos c6] at H
    have c6b0 : decide (8 < a0_0) = true := decide_eq_true c6
    clear c6
    have H' := Aside0.mk H
    clear H
    obtain ⟨hcz7_0,hcz7_1,hfz7_0,hfz7_1⟩ := cf2 BK141.out
    go_wp2
    repeat (go_quiet (fail); try go_wp2)
    go_meet
    case rel => exact ⟨_,(true),(by first | rfl | (simp; done) | (simp [*]; done) | (simp [wrap64]; done)),H',⟨by first | omega | exact Nat.le_refl _⟩,⟨mvb BK141.out⟩,⟨mvh HB.out⟩⟩
   ·rw [if_neg c6] at H
    have c6b0 : decide (8 < a0_0) = false := decide_eq_false c6
    clear c6
    replace H := Option.bind_eq_some_iff.mp H
    obtain ⟨t142,A80,H⟩ := H
    try dsimp only at H
    have A8 := Aside0.mk A80
    clear A80
    have H' := Aside0.mk H
    clear H
    obtain ⟨hcz9_0,hcz9_1,hfz9_0,hfz9_1⟩ := cf2 BK141.out
    go_wp2_with (first | (go_at_call 40; (with_reducible refine (r2_Degree.calls k a0_1 t142 _ A8.out).mono ?_); rintro e w' ⟨rfl,⟨nd,rfl⟩⟩; (try first | exact ⟨rfl,_,World.drewN_drewN _ _ _⟩ | exact ⟨rfl,_,Eq.trans (World.drewN_drewN _ _ _) (congrArg (World.drewN _) (Nat.add_assoc _ _ _))⟩)) | go_quiet (first | (go_at_call 40; (with_reducible refine (r2_Degree.calls k a0_1 t142 _ A8.out).mono ?_); rintro e w' ⟨rfl,⟨nd,rfl⟩⟩; (try first | exact ⟨rfl,_,World.drewN_drewN _ _ _⟩ | exact ⟨rfl,_,Eq.trans (World.drewN_drewN _ _ _) (congrArg (World.drewN _) (Nat.add_assoc _ _ _))⟩))))
    go_meet
    case rel => exact ⟨_,((t142 != a0_0)),(by first | rfl | (simp; done) | (simp [*]; done) | (simp [wrap64]; done)),H',⟨by first | omega | exact Nat.le_refl _⟩,⟨mvb BK141.out⟩,⟨mvh HB.out⟩⟩
 case rest =>
  clear HC2
  (try clear c2); (try clear p2); (try clear c4); (try clear c4b0); (try clear c4b1); (try clear c6); (try clear c6b0); (try clear p6); (try clear hcz5_0); (try clear hcz5_1); (try clear hcz7_0); (try clear hcz7_1); (try clear hcz9_0); (try clear hcz9_1); (try clear hfz5_0); (try clear hfz5_1); (try clear hfz7_0)
  (try clear hfz7_1); (try clear hfz9_0); (try clear hfz9_1)
  obtain ⟨kq,x20_1,rfl,HA,HJ1,BK141,HB⟩ := hcut
  cases kq with
  | zero => exact absurd HA.out (by simp [r3_Check.j0])
  | succ kj1 =>
   have H := HA.out
   clear HA
   simp only [r3_Check.j0] at H
   by_cases c10 : x20_1 = true
   ·subst c10
    have H1 : (some 320) = some r := by rw [if_pos rfl] at H; exact H
    clear H
    have H := H1
    clear H1
    obtain rfl := Option.some.inj H
    go_wp2
    repeat (go_quiet (fail); try go_wp2)
    go_ret
    exact ⟨by first | rfl | (simp [errW_none,errW_some] <;> rfl) | (simp [*,errW_none,errW_some] <;> rfl),mvh HB.out⟩
   ·replace c10 := Bool.eq_false_iff.mpr c10
    subst c10
    have H1 : ((r2_Primitive.f kj1 a0_1).bind fun bt143 => (if bt143.1 = true then (some 0) else (some 320))) = some r := by rw [if_neg (show ¬ (false = true) by decide)] at H; exact H
    clear H
    have H := H1
    clear H1
    replace H := Option.bind_eq_some_iff.mp H
    obtain ⟨⟨t143,t144⟩,A110,H⟩ := H
    try dsimp only at H
    have A11 := Aside0.mk A110
    clear A110
    by_cases c12 : t143 = true
    ·subst c12
     have H1 : (some 0) = some r := by rw [if_pos rfl] at H; exact H
     clear H
     have H := H1
     clear H1
     obtain rfl := Option.some.inj H
     obtain ⟨hcz13_0,hcz13_1,hfz13_0,hfz13_1⟩ := cf2 BK141.out
     go_wp2_with (first | (go_at_call 41; (with_reducible refine (r2_Primitive.calls kj1 a0_1 true t144 _ A11.out).mono ?_); rintro e w14 ⟨rfl,hb⟩; replace BK141 := aK (kb BK141.out hb); replace HB := aK (below_step (mvh HB.out) hb); (try clear hb)) | go_quiet (fail))
     go_ret
     exact ⟨by first | rfl | (simp [errW_none,errW_some] <;> rfl) | (simp [*,errW_none,errW_some] <;> rfl),mvh HB.out⟩
    ·replace c12 := Bool.eq_false_iff.mpr c12
     subst c12
     have H1 : (some 320) = some r := by rw [if_neg (show ¬ (false = true) by decide)] at H; exact H
     clear H
     have H := H1
     clear H1
     obtain rfl := Option.some.inj H
     obtain ⟨hcz15_0,hcz15_1,hfz15_0,hfz15_1⟩ := cf2 BK141.out
     go_wp2_with (first | (go_at_call 41; (with_reducible refine (r2_Primitive.calls kj1 a0_1 false t144 _ A11.out).mono ?_); rintro e w16 ⟨rfl,hb⟩; replace BK141 := aK (kb BK141.out hb); replace HB := aK (below_step (mvh HB.out) hb); (try clear hb)) | go_quiet (fail))
     go_ret
     exact ⟨by first | rfl | (simp [errW_none,errW_some] <;> rfl) | (simp [*,errW_none,errW_some] <;> rfl),mvh HB.out⟩

def r4_q1.f (a0_0 : Int) (a0_1 : Int) : Option (Int) := if 0 ≤ (IntKind.u64.wrap (a0_0)) then (some (wrap64 ((shl .i64 1 (IntKind.u64.wrap (a0_0))) - 1))) else (none)
set_option maxHeartbeats 8000000 in
set_option maxRecDepth 100000 in
theorem r4_q1.calls (a0_0 : Int) (a0_1 : Int) (r : Int) (w : World) (h : r4_q1.f a0_0 a0_1 = some r) :
  Calls Try.prog 24 #[.agg #[.int .i64 a0_0,.int .u64 a0_1]] w fun e w' => e = .returned (.int .i64 r) ∧ Below w.heap.size w w' := by
 have hu24 := Try.underlying24
 have HB := aK (Below.refl w.heap.size w)
 have H : (if 0 ≤ (IntKind.u64.wrap (a0_0)) then (some (wrap64 ((shl .i64 1 (IntKind.u64.wrap (a0_0))) - 1))) else (none)) = some r := h
 clear h
 obtain ⟨ji2,hji2⟩ : ∃ j_ : Int,(IntKind.u64.wrap (a0_0)) = j_ := ⟨_,rfl⟩
 first | rw [hji2] at H | simp only [hji2] at H
 by_cases c3 : 0 ≤ (ji2)
 rotate_left
 ·rw [if_neg c3] at H
  exact absurd H (by simp)

 rw [if_pos c3] at H
 have c3b0 := eq_true c3
 have c3b1 : decide (0 ≤ (ji2)) = true := decide_eq_true c3
 clear c3
 obtain ⟨ji4,hji4⟩ : ∃ j_ : Int,(shl .i64 1 (ji2)) = j_ := ⟨_,rfl⟩
 first | rw [hji4] at H | simp only [hji4] at H
 have hji4_ : (IntKind.i64.wrap (1 * 2 ^ min (ji2).toNat 64)) = ji4 := hji4
 have hji4z : (ji2) ≤ 64 → (IntKind.i64.wrap (1 * 2 ^ (ji2).toNat)) = ji4 := shl_small hji4
 have hji4u : (IntKind.i64.wrap (2 ^ min (ji2).toNat 64)) = ji4 := by have h_ := hji4_; rw [Int.one_mul] at h_; exact h_
 have hji4v : (ji2) ≤ 64 → (IntKind.i64.wrap (2 ^ (ji2).toNat)) = ji4 := fun hle_ => by have h_ := hji4z hle_; rw [Int.one_mul] at h_; exact h_
 have hji4y : (wrap64 (1 * 2 ^ min (ji2).toNat 64)) = ji4 := (i64_w _).symm.trans hji4_
 have hji4x : (ji2) ≤ 64 → (wrap64 (1 * 2 ^ (ji2).toNat)) = ji4 := fun h_ => (i64_w _).symm.trans (hji4z h_)
 obtain rfl := Option.some.inj H
 go_enter Try.func24,Try.ntmps24
 go_wp2_with (first | ((with_reducible refine gate_dst (N := 1) rfl ?_); refine box_event ?hg (N := 1) ?hd (cs := #[.int .i64 a0_0,.int .u64 a0_1]) (t := 24) ?hr ?_; (case hd => rfl); (case hg => rfl); (case hr => first | (go_simp; done) | (go_simp; rfl)); intro gb145 hg w5 hbox hb; have BK145 := aK (hbox); have GW145 := aK ((by rw [hg]; exact (below_size (mvh HB.out)) : w.heap.size ≤ gb145)); have GE145 := aK ((by rw [hg]; exact (below_size (mvh HB.out)) : w.heap.size ≤ gb145)); replace HB := aK (below_step (mvh HB.out) hb); clear hb hbox hg; obtain ⟨hcz6_0,hcz6_1,hfz6_0,hfz6_1⟩ := cf2 BK145.out))
 go_ret
 exact ⟨by first | rfl | (simp [errW_none,errW_some] <;> rfl) | (simp only [← hji2,← hji4]; first | rfl | (simp [errW_none,errW_some] <;> rfl)) | (simp [*,errW_none,errW_some] <;> rfl),mvh HB.out⟩
end Go.Proofs.Ytpgecdidddoglaa.P

