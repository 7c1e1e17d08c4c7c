import Derived.Test.YtjdkamhnbheofaaGpPx0
import Derived.Test.YtjdkamhnbheofaaGpPx5
import Derived.Test.YtjdkamhnbheofaaGpPx6
import Derived.Test.YtjdkamhnbheofaaGpPx7
import Derived.Test.YtjdkamhnbheofaaGpPx8
import Derived.Test.YtjdkamhnbheofaaGpPx9
import Derived.Test.YtjdkamhnbheofaaGpPx10
import Derived.Test.YtjdkamhnbheofaaGpPx11
import Derived.Test.YtjdkamhnbheofaaGpPx12
import Derived.Test.YtjdkamhnbheofaaGpPx13
import Derived.Test.YtjdkamhnbheofaaGpPx14
import Derived.Test.YtjdkamhnbheofaaGpPx15
import Derived.Test.YtjdkamhnbheofaaGpPx16
import Derived.Test.YtjdkamhnbheofaaGpPx17
import Derived.Test.YtjdkamhnbheofaaGpPx18
import Derived.Test.YtjdkamhnbheofaaGpPx19
import Derived.Test.YtjdkamhnbheofaaGpPx20
import Derived.Test.YtjdkamhnbheofaaGpQApart3
-- written by mk.sh, a program of this session, over the kit's print
namespace Go.Proofs.Ytjdkamhnbheofaa.P
open Go.Proofs.YtjdkamhnbheofaaW
open Go.RowKit Go.Proofs.YtjdkamhnbheofaaW.PrintWords Go.Proofs.YtjdkamhnbheofaaW.PrintLast Go.Proofs.YtjdkamhnbheofaaW.PrintMore
attribute [local go_sem] max2_int min2_int max_two min_two max_three min_three max_four min_four   -- for this text's walks alone
set_option linter.unusedVariables false
set_option linter.unusedSimpArgs false

mutual
def l3_GaloisPolys.j0 : Nat → List Int → List Int → Int → GTab → Bool → Bool → Int → Int → Option (Bool)
 | 0, _, _, _, _, _, _, _, _ => none
 | k + 1, x1, x2, x3, x9, x11, x55, x549000, x549001 => if x55 = true then (some x11) else ((l1_Lent.f x1).bind fun t554 => ((l1_Lent.f x2).bind fun t557 => ((gT_Eval.f k x9 t554 x3).bind fun bt560 => ((gT_Plus.f k x9 t554 t557).bind fun bt562 => ((gT_Times.f k x9 t554 t557).bind fun bt566 => ((gT_Divide.f k x9 t554 t557).bind fun bt570 => ((gT_Gcd.f k x9 t554 t557).bind fun bt577 => ((gT_Derive.f k x9 t554).bind fun bt581 => ((gT_Roots.f k x9 t554).bind fun bt585 => ((r3_Eval.f k x549000 x549001 x1 x3).bind fun bt589 => ((r3_Plus.f k x549000 x549001 x1 x2).bind fun bt591 => ((r3_Times.f k x549000 x549001 x1 x2).bind fun bt595 => ((r3_Divide.f k x549000 x549001 x1 x2).bind fun bt599 => ((r3_Gcd.f k x549000 x549001 x1 x2).bind fun bt606 => ((r3_Derive.f k x549000 x549001 x1).bind fun bt610 => ((r3_Roots.f k x549000 x549001 x1).bind fun bt614 => (if bt560.1 = bt589.1 then ((l3_num.f bt560.2).bind fun t618 => (if t618 = bt589.2 then ((l3_num.f bt562.2).bind fun t619 => (if t619 = bt591.2 then ((l3_num.f bt566.2).bind fun t620 => (if t620 = bt591.2 then ((l3_num.f bt570.2.2).bind fun t621 => (if t621 = bt599.2.2 then ((l3_num.f bt577.2).bind fun t622 => (if t622 = bt591.2 then ((l3_num.f bt581.2).bind fun t623 => (if t623 = bt610.2 then ((l3_num.f bt585.2).bind fun t624 => (l3_GaloisPolys.j1 k x1 x2 t554 t557 bt562.1 bt566.1 bt570.1 bt570.2.1 bt577.1 bt581.1 bt585.1 bt591.1 bt595.1 bt599.1 bt599.2.1 bt606.1 bt610.1 bt614.1 (t624 != bt614.2))) else (l3_GaloisPolys.j1 k x1 x2 t554 t557 bt562.1 bt566.1 bt570.1 bt570.2.1 bt577.1 bt581.1 bt585.1 bt591.1 bt595.1 bt599.1 bt599.2.1 bt606.1 bt610.1 bt614.1 true))) else (l3_GaloisPolys.j1 k x1 x2 t554 t557 bt562.1 bt566.1 bt570.1 bt570.2.1 bt577.1 bt581.1 bt585.1 bt591.1 bt595.1 bt599.1 bt599.2.1 bt606.1 bt610.1 bt614.1 true))) else (l3_GaloisPolys.j1 k x1 x2 t554 t557 bt562.1 bt566.1 bt570.1 bt570.2.1 bt577.1 bt581.1 bt585.1 bt591.1 bt595.1 bt599.1 bt599.2.1 bt606.1 bt610.1 bt614.1 true))) else (l3_GaloisPolys.j1 k x1 x2 t554 t557 bt562.1 bt566.1 bt570.1 bt570.2.1 bt577.1 bt581.1 bt585.1 bt591.1 bt595.1 bt599.1 bt599.2.1 bt606.1 bt610.1 bt614.1 true))) else (l3_GaloisPolys.j1 k x1 x2 t554 t557 bt562.1 bt566.1 bt570.1 bt570.2.1 bt577.1 bt581.1 bt585.1 bt591.1 bt595.1 bt599.1 bt599.2.1 bt606.1 bt610.1 bt614.1 true))) else (l3_GaloisPolys.j1 k x1 x2 t554 t557 bt562.1 bt566.1 bt570.1 bt570.2.1 bt577.1 bt581.1 bt585.1 bt591.1 bt595.1 bt599.1 bt599.2.1 bt606.1 bt610.1 bt614.1 true))) else (l3_GaloisPolys.j1 k x1 x2 t554 t557 bt562.1 bt566.1 bt570.1 bt570.2.1 bt577.1 bt581.1 bt585.1 bt591.1 bt595.1 bt599.1 bt599.2.1 bt606.1 bt610.1 bt614.1 true))))))))))))))))))
def l3_GaloisPolys.j1 : Nat → List Int → List Int → List Int → List Int → List Int → List Int → List Int → List Int → List Int → List Int → List Int → List Int → List Int → List Int → List Int → List Int → List Int → List Int → Bool → Option (Bool)
 | 0, _, _, _, _, _, _, _, _, _, _, _, _, _, _, _, _, _, _, _ => none
 | k + 1, x1, x2, x12, x13, x16, x18, x20, x21, x23, x25, x27, x31, x33, x35, x36, x38, x40, x42, x201 => if x201 = true then (some false) else ((l3_same.f x16 x31).bind fun t625 => (if t625 = true then ((l3_same.f x18 x33).bind fun t626 => (if t626 = true then ((l3_same.f x20 x35).bind fun t627 => (if t627 = true then ((l3_same.f x21 x36).bind fun t628 => (if t628 = true then ((l3_same.f x23 x38).bind fun t629 => (if t629 = true then ((l3_same.f x25 x40).bind fun t630 => (if t630 = true then ((l3_same.f x27 x42).bind fun t631 => (l3_GaloisPolys.j2 k x1 x2 x12 x13 x16 x18 x20 x21 x23 x25 x27 (!t631))) else (l3_GaloisPolys.j2 k x1 x2 x12 x13 x16 x18 x20 x21 x23 x25 x27 true))) else (l3_GaloisPolys.j2 k x1 x2 x12 x13 x16 x18 x20 x21 x23 x25 x27 true))) else (l3_GaloisPolys.j2 k x1 x2 x12 x13 x16 x18 x20 x21 x23 x25 x27 true))) else (l3_GaloisPolys.j2 k x1 x2 x12 x13 x16 x18 x20 x21 x23 x25 x27 true))) else (l3_GaloisPolys.j2 k x1 x2 x12 x13 x16 x18 x20 x21 x23 x25 x27 true))) else (l3_GaloisPolys.j2 k x1 x2 x12 x13 x16 x18 x20 x21 x23 x25 x27 true)))
def l3_GaloisPolys.j2 : Nat → List Int → List Int → List Int → List Int → List Int → List Int → List Int → List Int → List Int → List Int → List Int → Bool → Option (Bool)
 | 0, _, _, _, _, _, _, _, _, _, _, _, _ => none
 | k + 1, x1, x2, x12, x13, x16, x18, x20, x21, x23, x25, x27, x241 => if x241 = true then (some false) else ((l1_Stays.f x12 x1).bind fun t632 => (if t632 = true then ((l1_Stays.f x13 x2).bind fun t633 => (if t633 = true then ((l1_ApartBytes.f (([x16, x18, x20, x21, x23, x25, x27, x12, x13] : List (List Int)))).bind fun t637 => (some t637)) else (some false))) else (some false)))
end
def l3_GaloisPolys.f (k : Nat) (a0_0 : Int) (a0_1 : Int) (l1 : List Int) (l2 : List Int) (a3 : Int) : Option (Bool) := (l3_made.f k a0_0 a0_1).bind fun bt549 => (if bt549.2.1 = true then (l3_GaloisPolys.j0 k l1 l2 a3 bt549.1 bt549.2.2 (!bt549.2.2) a0_0 a0_1) else (l3_GaloisPolys.j0 k l1 l2 a3 bt549.1 bt549.2.2 true a0_0 a0_1))
theorem l3_GaloisPolys.mono_l : ∀ k, (∀ y0 y1 y2 y3 y4 y5 y6 y7, LeO (l3_GaloisPolys.j0 k y0 y1 y2 y3 y4 y5 y6 y7) (l3_GaloisPolys.j0 (k + 1) y0 y1 y2 y3 y4 y5 y6 y7)) ∧ (∀ y0 y1 y2 y3 y4 y5 y6 y7 y8 y9 y10 y11 y12 y13 y14 y15 y16 y17 y18, LeO (l3_GaloisPolys.j1 k y0 y1 y2 y3 y4 y5 y6 y7 y8 y9 y10 y11 y12 y13 y14 y15 y16 y17 y18) (l3_GaloisPolys.j1 (k + 1) y0 y1 y2 y3 y4 y5 y6 y7 y8 y9 y10 y11 y12 y13 y14 y15 y16 y17 y18)) ∧ (∀ y0 y1 y2 y3 y4 y5 y6 y7 y8 y9 y10 y11, LeO (l3_GaloisPolys.j2 k y0 y1 y2 y3 y4 y5 y6 y7 y8 y9 y10 y11) (l3_GaloisPolys.j2 (k + 1) y0 y1 y2 y3 y4 y5 y6 y7 y8 y9 y10 y11))
 | 0 => ⟨fun _ _ _ _ _ _ _ _ r h => by simp [l3_GaloisPolys.j0] at h, fun _ _ _ _ _ _ _ _ _ _ _ _ _ _ _ _ _ _ _ r h => by simp [l3_GaloisPolys.j1] at h, fun _ _ _ _ _ _ _ _ _ _ _ _ r h => by simp [l3_GaloisPolys.j2] at h⟩
 | k + 1 => by
  obtain ⟨ih0, ih1, ih2⟩ := l3_GaloisPolys.mono_l k
  refine ⟨?_, ?_, ?_⟩
  ·intro y0 y1 y2 y3 y4 y5 y6 y7
   unfold l3_GaloisPolys.j0
   repeat' first
   | (with_reducible exact ih0 _ _ _ _ _ _ _ _)
   | (with_reducible exact ih1 _ _ _ _ _ _ _ _ _ _ _ _ _ _ _ _ _ _ _)
   | (with_reducible exact ih2 _ _ _ _ _ _ _ _ _ _ _ _)
   | (with_reducible exact gT_Derive.mono _ _ _)
   | (with_reducible exact gT_Divide.mono _ _ _ _)
   | (with_reducible exact gT_Eval.mono _ _ _ _)
   | (with_reducible exact gT_Gcd.mono _ _ _ _)
   | (with_reducible exact gT_Plus.mono _ _ _ _)
   | (with_reducible exact gT_Roots.mono _ _ _)
   | (with_reducible exact gT_Times.mono _ _ _ _)
   | (with_reducible exact l3_made.mono _ _ _)
   | (with_reducible exact r3_Derive.mono _ _ _ _)
   | (with_reducible exact r3_Divide.mono _ _ _ _ _)
   | (with_reducible exact r3_Eval.mono _ _ _ _ _)
   | (with_reducible exact r3_Gcd.mono _ _ _ _ _)
   | (with_reducible exact r3_Plus.mono _ _ _ _ _)
   | (with_reducible exact r3_Roots.mono _ _ _ _)
   | (with_reducible exact r3_Times.mono _ _ _ _ _)
   | (with_reducible exact LeO.refl _)
   | (with_reducible exact LeO.none _)
   | (with_reducible refine LeO.ite ?_ ?_)
   | (with_reducible refine LeO.bind ?_ (fun _ => ?_))
  ·intro y0 y1 y2 y3 y4 y5 y6 y7 y8 y9 y10 y11 y12 y13 y14 y15 y16 y17 y18
   unfold l3_GaloisPolys.j1
   repeat' first
   | (with_reducible exact ih0 _ _ _ _ _ _ _ _)
   | (with_reducible exact ih1 _ _ _ _ _ _ _ _ _ _ _ _ _ _ _ _ _ _ _)
   | (with_reducible exact ih2 _ _ _ _ _ _ _ _ _ _ _ _)
   | (with_reducible exact gT_Derive.mono _ _ _)
   | (with_reducible exact gT_Divide.mono _ _ _ _)
   | (with_reducible exact gT_Eval.mono _ _ _ _)
   | (with_reducible exact gT_Gcd.mono _ _ _ _)
   | (with_reducible exact gT_Plus.mono _ _ _ _)
   | (with_reducible exact gT_Roots.mono _ _ _)
   | (with_reducible exact gT_Times.mono _ _ _ _)
   | (with_reducible exact l3_made.mono _ _ _)
   | (with_reducible exact r3_Derive.mono _ _ _ _)
   | (with_reducible exact r3_Divide.mono _ _ _ _ _)
   | (with_reducible exact r3_Eval.mono _ _ _ _ _)
   | (with_reducible exact r3_Gcd.mono _ _ _ _ _)
   | (with_reducible exact r3_Plus.mono _ _ _ _ _)
   | (with_reducible exact r3_Roots.mono _ _ _ _)
   | (with_reducible exact r3_Times.mono _ _ _ _ _)
   | (with_reducible exact LeO.refl _)
   | (with_reducible exact LeO.none _)
   | (with_reducible refine LeO.ite ?_ ?_)
   | (with_reducible refine LeO.bind ?_ (fun _ => ?_))
  ·intro y0 y1 y2 y3 y4 y5 y6 y7 y8 y9 y10 y11
   unfold l3_GaloisPolys.j2
   repeat' first
   | (with_reducible exact ih0 _ _ _ _ _ _ _ _)
   | (with_reducible exact ih1 _ _ _ _ _ _ _ _ _ _ _ _ _ _ _ _ _ _ _)
   | (with_reducible exact ih2 _ _ _ _ _ _ _ _ _ _ _ _)
   | (with_reducible exact gT_Derive.mono _ _ _)
   | (with_reducible exact gT_Divide.mono _ _ _ _)
   | (with_reducible exact gT_Eval.mono _ _ _ _)
   | (with_reducible exact gT_Gcd.mono _ _ _ _)
   | (with_reducible exact gT_Plus.mono _ _ _ _)
   | (with_reducible exact gT_Roots.mono _ _ _)
   | (with_reducible exact gT_Times.mono _ _ _ _)
   | (with_reducible exact l3_made.mono _ _ _)
   | (with_reducible exact r3_Derive.mono _ _ _ _)
   | (with_reducible exact r3_Divide.mono _ _ _ _ _)
   | (with_reducible exact r3_Eval.mono _ _ _ _ _)
   | (with_reducible exact r3_Gcd.mono _ _ _ _ _)
   | (with_reducible exact r3_Plus.mono _ _ _ _ _)
   | (with_reducible exact r3_Roots.mono _ _ _ _)
   | (with_reducible exact r3_Times.mono _ _ _ _ _)
   | (with_reducible exact LeO.refl _)
   | (with_reducible exact LeO.none _)
   | (with_reducible refine LeO.ite ?_ ?_)
   | (with_reducible refine LeO.bind ?_ (fun _ => ?_))
theorem l3_GaloisPolys.mono : ∀ a0 a1 a2 a3 a4 k, LeO (l3_GaloisPolys.f k a0 a1 a2 a3 a4) (l3_GaloisPolys.f (k + 1) a0 a1 a2 a3 a4) := by
 intro a0 a1 a2 a3 a4 k
 obtain ⟨ih0, ih1, ih2⟩ := l3_GaloisPolys.mono_l k
 unfold l3_GaloisPolys.f
 repeat' first
   | (with_reducible exact ih0 _ _ _ _ _ _ _ _)
   | (with_reducible exact ih1 _ _ _ _ _ _ _ _ _ _ _ _ _ _ _ _ _ _ _)
   | (with_reducible exact ih2 _ _ _ _ _ _ _ _ _ _ _ _)
   | (with_reducible exact gT_Derive.mono _ _ _)
   | (with_reducible exact gT_Divide.mono _ _ _ _)
   | (with_reducible exact gT_Eval.mono _ _ _ _)
   | (with_reducible exact gT_Gcd.mono _ _ _ _)
   | (with_reducible exact gT_Plus.mono _ _ _ _)
   | (with_reducible exact gT_Roots.mono _ _ _)
   | (with_reducible exact gT_Times.mono _ _ _ _)
   | (with_reducible exact l3_made.mono _ _ _)
   | (with_reducible exact r3_Derive.mono _ _ _ _)
   | (with_reducible exact r3_Divide.mono _ _ _ _ _)
   | (with_reducible exact r3_Eval.mono _ _ _ _ _)
   | (with_reducible exact r3_Gcd.mono _ _ _ _ _)
   | (with_reducible exact r3_Plus.mono _ _ _ _ _)
   | (with_reducible exact r3_Roots.mono _ _ _ _)
   | (with_reducible exact r3_Times.mono _ _ _ _ _)
   | (with_reducible exact LeO.refl _)
   | (with_reducible exact LeO.none _)
   | (with_reducible refine LeO.ite ?_ ?_)
   | (with_reducible refine LeO.bind ?_ (fun _ => ?_))
theorem l3_GaloisPolys.no_false {r : Bool} {G : Prop} (hr : r = true) (h : some false = some r) : G := by
 subst hr
 cases h
theorem l3_GaloisPolys.no_j1 {k : Nat} {x1 : List Int} {x2 : List Int} {x12 : List Int} {x13 : List Int} {x16 : List Int} {x18 : List Int} {x20 : List Int} {x21 : List Int} {x23 : List Int} {x25 : List Int} {x27 : List Int} {x31 : List Int} {x33 : List Int} {x35 : List Int} {x36 : List Int} {x38 : List Int} {x40 : List Int} {x42 : List Int} {r : Bool} {G : Prop} (hr : r = true) (h : l3_GaloisPolys.j1 k x1 x2 x12 x13 x16 x18 x20 x21 x23 x25 x27 x31 x33 x35 x36 x38 x40 x42 true = some r) : G := by
 subst hr
 cases k <;> simp [l3_GaloisPolys.j1] at h
theorem l3_GaloisPolys.no_j2 {k : Nat} {x1 : List Int} {x2 : List Int} {x12 : List Int} {x13 : List Int} {x16 : List Int} {x18 : List Int} {x20 : List Int} {x21 : List Int} {x23 : List Int} {x25 : List Int} {x27 : List Int} {r : Bool} {G : Prop} (hr : r = true) (h : l3_GaloisPolys.j2 k x1 x2 x12 x13 x16 x18 x20 x21 x23 x25 x27 true = some r) : G := by
 subst hr
 cases k <;> simp [l3_GaloisPolys.j2] at h
set_option maxHeartbeats 8000000 in
set_option maxRecDepth 100000 in
theorem l3_GaloisPolys.calls (k : Nat) (a0_0 : Int) (a0_1 : Int) (A1 : Option Addr) (c1 : Nat) (l1 : List Int) (A2 : Option Addr) (c2 : Nat) (l2 : List Int) (a3 : Int) (r : Bool) (hr9_ : r = true) (w : World) (hr1 : Kd.C (Kd.int .u8) w A1 l1.length l1) (hc1 : l1.length ≤ c1) (hr2 : Kd.C (Kd.int .u8) w A2 l2.length l2) (hc2 : l2.length ≤ c2) (h : l3_GaloisPolys.f k a0_0 a0_1 l1 l2 a3 = some r) :
  Calls Try.prog 5 #[.agg #[.int .i64 a0_0, .int .u64 a0_1], .slice A1 l1.length c1, .slice A2 l2.length c2, .int .u8 a3] w fun e w' => e = .returned (.bool r) ∧ Below w.heap.size w w' := by
 have HR9_ := Aside0.mk hr9_
 clear hr9_
 have hu24 := Try.underlying24
 have HR1 := Aside0.mk hr1
 have HC1 := Aside0.mk hc1
 clear hr1 hc1
 have HR2 := Aside0.mk hr2
 have HC2 := Aside0.mk hc2
 clear hr2 hc2
 have HB := aK (Below.refl w.heap.size w)
 have H : ((l3_made.f k a0_0 a0_1).bind fun bt549 => (if bt549.2.1 = true then (l3_GaloisPolys.j0 k l1 l2 a3 bt549.1 bt549.2.2 (!bt549.2.2) a0_0 a0_1) else (l3_GaloisPolys.j0 k l1 l2 a3 bt549.1 bt549.2.2 true a0_0 a0_1))) = some r := h
 clear h
 replace H := Option.bind_eq_some_iff.mp H
 obtain ⟨⟨t549, t552, t553⟩, A50, H⟩ := H
 try dsimp only at H
 have A5 := Aside0.mk A50
 clear A50
 have HC6 := Aside0.mk H
 clear H
 go_enter Try.func5, Try.ntmps5
 go_upto_region 2 with (first | ((with_reducible refine gate_dst (N := 4) rfl ?_); (try (refine gate_guard (by rfl) ?_; dsimp only)); refine box_event ?hg (N := 4) ?hd (cs := #[.int .i64 a0_0, .int .u64 a0_1]) (t := 24) ?hr ?_; (case hd => rfl); (case hg => rfl); (case hr => first | (go_simp; done) | (go_simp; rfl)); intro gb548 hg w7 hbox hb; have n0_ := aK (below_step (mvh HB.out) hb); have n1_ := aK (hbox); have n2_ := aK ((by rw [hg]; exact (below_size (mvh HB.out)) : w.heap.size ≤ gb548)); have n3_ := aK ((by rw [hg]; exact (below_size (mvh HB.out)) : w.heap.size ≤ gb548)); clear HB; have HB := n0_; have BK548 := n1_; have GW548 := n2_; have GE548 := n3_; clear n0_ n1_ n2_ n3_; clear hb hbox hg; obtain ⟨hcz8_0, hcz8_1, hfz8_0, hfz8_1⟩ := cf2 BK548.out) | (go_at_call 8; (with_reducible refine (l3_made.calls k a0_0 a0_1 t549 t552 t553 _ A5.out).mono ?_); rintro e w ⟨Ap550, rfl, hT_, hb⟩; have n0_ := aK (kb BK548.out hb); have n1_ := aK (Kd.C_below HR1.out (below_step (mvh HB.out) hb)); have n2_ := aK (Kd.C_below HR2.out (below_step (mvh HB.out) hb)); have n3_ := aK (Below.refl w.heap.size w); have n4_ := aK (below_step (mvh HB.out) hb); clear BK548 HR1 HR2 HB; have BK548 := n0_; have HR1 := n1_; have HR2 := n2_; have HB := n3_; have HB00 := n4_; clear n0_ n1_ n2_ n3_ n4_; have HT551 := Aside0.mk hT_; clear hb hT_))
 (try simp only [Act.put, List.setIfInBounds_toArray, List.set_cons_zero, List.set_cons_succ])
 go_cut [55] (fun v55 wc => ∃ (kq : Nat) (x55_5 : Bool), v55 = .bool x55_5 ∧ Aside0 (l3_GaloisPolys.j0 kq l1 l2 a3 t549 t553 x55_5 a0_0 a0_1 = some r) ∧ Aside0 (kq ≤ k) ∧ Aside0 (wc.heap[gb548]? = some (.cells #[.int .i64 a0_0, .int .u64 a0_1] 24 (0, 0))) ∧ Aside0 (Below w.heap.size w wc))
 case first =>
  have H := HC6.out
  clear HC6
  by_cases c10 : t552 = true
  ·subst c10
   have H1 : (l3_GaloisPolys.j0 k l1 l2 a3 t549 t553 (!t553) a0_0 a0_1) = some r := by rw [if_pos rfl] at H; exact H
   clear H
   have H := H1
   clear H1
   have H' := Aside0.mk H
   clear H
   go_wp2
   go_meet
   case rel => exact ⟨_, (!t553), (by first | rfl | (simp; done) | (simp [*]; done) | (simp [wrap64]; done)), H', ⟨by first | omega | exact Nat.le_refl _⟩, ⟨mvb BK548.out⟩, ⟨mvh HB.out⟩⟩
  ·replace c10 := Bool.eq_false_iff.mpr c10
   subst c10
   have H1 : (l3_GaloisPolys.j0 k l1 l2 a3 t549 t553 true a0_0 a0_1) = some r := by rw [if_neg (show ¬ (false = true) by decide)] at H; exact H
   clear H
   have H := H1
   clear H1
   have H' := Aside0.mk H
   clear H
   go_wp2
   go_meet
   case rel => exact ⟨_, (true), (by first | rfl | (simp; done) | (simp [*]; done) | (simp [wrap64]; done)), H', ⟨by first | omega | exact Nat.le_refl _⟩, ⟨mvb BK548.out⟩, ⟨mvh HB.out⟩⟩
 case rest =>
  clear HC6
  (try clear c1); (try clear c2); (try clear p2); (try clear c5); (try clear p5); (try clear p6); (try clear c8); (try clear c10); (try clear hcz8_0); (try clear hcz8_1); (try clear hfz8_0); (try clear hfz8_1)
  obtain ⟨kq, x55_5, rfl, HA, HJ5, BK548, HB⟩ := hcut
  cases kq with
  | zero => exact absurd HA.out (by simp [l3_GaloisPolys.j0])
  | succ kj5 =>
   have H := HA.out
   clear HA
   simp only [l3_GaloisPolys.j0] at H
   by_cases c11 : x55_5 = true
   ·subst c11
    have H1 : (some t553) = some r := by rw [if_pos rfl] at H; exact H
    clear H
    have H := H1
    clear H1
    obtain rfl := Option.some.inj H
    go_wp2
    go_ret
    exact ⟨by first | rfl | (simp [errW_none, errW_some] <;> rfl) | (simp [*, errW_none, errW_some] <;> rfl), below_step HB00.out (mvh HB.out)⟩
   ·replace c11 := Bool.eq_false_iff.mpr c11
    subst c11
    have H1 : ((l1_Lent.f l1).bind fun t554 => ((l1_Lent.f l2).bind fun t557 => ((gT_Eval.f kj5 t549 t554 a3).bind fun bt560 => ((gT_Plus.f kj5 t549 t554 t557).bind fun bt562 => ((gT_Times.f kj5 t549 t554 t557).bind fun bt566 => ((gT_Divide.f kj5 t549 t554 t557).bind fun bt570 => ((gT_Gcd.f kj5 t549 t554 t557).bind fun bt577 => ((gT_Derive.f kj5 t549 t554).bind fun bt581 => ((gT_Roots.f kj5 t549 t554).bind fun bt585 => ((r3_Eval.f kj5 a0_0 a0_1 l1 a3).bind fun bt589 => ((r3_Plus.f kj5 a0_0 a0_1 l1 l2).bind fun bt591 => ((r3_Times.f kj5 a0_0 a0_1 l1 l2).bind fun bt595 => ((r3_Divide.f kj5 a0_0 a0_1 l1 l2).bind fun bt599 => ((r3_Gcd.f kj5 a0_0 a0_1 l1 l2).bind fun bt606 => ((r3_Derive.f kj5 a0_0 a0_1 l1).bind fun bt610 => ((r3_Roots.f kj5 a0_0 a0_1 l1).bind fun bt614 => (if bt560.1 = bt589.1 then ((l3_num.f bt560.2).bind fun t618 => (if t618 = bt589.2 then ((l3_num.f bt562.2).bind fun t619 => (if t619 = bt591.2 then ((l3_num.f bt566.2).bind fun t620 => (if t620 = bt591.2 then ((l3_num.f bt570.2.2).bind fun t621 => (if t621 = bt599.2.2 then ((l3_num.f bt577.2).bind fun t622 => (if t622 = bt591.2 then ((l3_num.f bt581.2).bind fun t623 => (if t623 = bt610.2 then ((l3_num.f bt585.2).bind fun t624 => (l3_GaloisPolys.j1 kj5 l1 l2 t554 t557 bt562.1 bt566.1 bt570.1 bt570.2.1 bt577.1 bt581.1 bt585.1 bt591.1 bt595.1 bt599.1 bt599.2.1 bt606.1 bt610.1 bt614.1 (t624 != bt614.2))) else (l3_GaloisPolys.j1 kj5 l1 l2 t554 t557 bt562.1 bt566.1 bt570.1 bt570.2.1 bt577.1 bt581.1 bt585.1 bt591.1 bt595.1 bt599.1 bt599.2.1 bt606.1 bt610.1 bt614.1 true))) else (l3_GaloisPolys.j1 kj5 l1 l2 t554 t557 bt562.1 bt566.1 bt570.1 bt570.2.1 bt577.1 bt581.1 bt585.1 bt591.1 bt595.1 bt599.1 bt599.2.1 bt606.1 bt610.1 bt614.1 true))) else (l3_GaloisPolys.j1 kj5 l1 l2 t554 t557 bt562.1 bt566.1 bt570.1 bt570.2.1 bt577.1 bt581.1 bt585.1 bt591.1 bt595.1 bt599.1 bt599.2.1 bt606.1 bt610.1 bt614.1 true))) else (l3_GaloisPolys.j1 kj5 l1 l2 t554 t557 bt562.1 bt566.1 bt570.1 bt570.2.1 bt577.1 bt581.1 bt585.1 bt591.1 bt595.1 bt599.1 bt599.2.1 bt606.1 bt610.1 bt614.1 true))) else (l3_GaloisPolys.j1 kj5 l1 l2 t554 t557 bt562.1 bt566.1 bt570.1 bt570.2.1 bt577.1 bt581.1 bt585.1 bt591.1 bt595.1 bt599.1 bt599.2.1 bt606.1 bt610.1 bt614.1 true))) else (l3_GaloisPolys.j1 kj5 l1 l2 t554 t557 bt562.1 bt566.1 bt570.1 bt570.2.1 bt577.1 bt581.1 bt585.1 bt591.1 bt595.1 bt599.1 bt599.2.1 bt606.1 bt610.1 bt614.1 true))) else (l3_GaloisPolys.j1 kj5 l1 l2 t554 t557 bt562.1 bt566.1 bt570.1 bt570.2.1 bt577.1 bt581.1 bt585.1 bt591.1 bt595.1 bt599.1 bt599.2.1 bt606.1 bt610.1 bt614.1 true)))))))))))))))))) = some r := by rw [if_neg (show ¬ (false = true) by decide)] at H; exact H
    clear H
    have H := H1
    clear H1
    replace H := Option.bind_eq_some_iff.mp H
    obtain ⟨t554, A120, H⟩ := H
    try dsimp only at H
    have A12 := Aside0.mk A120
    clear A120
    replace H := Option.bind_eq_some_iff.mp H
    obtain ⟨t557, A130, H⟩ := H
    try dsimp only at H
    have A13 := Aside0.mk A130
    clear A130
    replace H := Option.bind_eq_some_iff.mp H
    obtain ⟨⟨t560, t561⟩, A140, H⟩ := H
    try dsimp only at H
    have A14 := Aside0.mk A140
    clear A140
    replace H := Option.bind_eq_some_iff.mp H
    obtain ⟨⟨t562, t565⟩, A150, H⟩ := H
    try dsimp only at H
    have A15 := Aside0.mk A150
    clear A150
    replace H := Option.bind_eq_some_iff.mp H
    obtain ⟨⟨t566, t569⟩, A160, H⟩ := H
    try dsimp only at H
    have A16 := Aside0.mk A160
    clear A160
    replace H := Option.bind_eq_some_iff.mp H
    obtain ⟨⟨t570, t573, t576⟩, A170, H⟩ := H
    try dsimp only at H
    have A17 := Aside0.mk A170
    clear A170
    replace H := Option.bind_eq_some_iff.mp H
    obtain ⟨⟨t577, t580⟩, A180, H⟩ := H
    try dsimp only at H
    have A18 := Aside0.mk A180
    clear A180
    replace H := Option.bind_eq_some_iff.mp H
    obtain ⟨⟨t581, t584⟩, A190, H⟩ := H
    try dsimp only at H
    have A19 := Aside0.mk A190
    clear A190
    replace H := Option.bind_eq_some_iff.mp H
    obtain ⟨⟨t585, t588⟩, A200, H⟩ := H
    try dsimp only at H
    have A20 := Aside0.mk A200
    clear A200
    replace H := Option.bind_eq_some_iff.mp H
    obtain ⟨⟨t589, t590⟩, A210, H⟩ := H
    try dsimp only at H
    have A21 := Aside0.mk A210
    clear A210
    replace H := Option.bind_eq_some_iff.mp H
    obtain ⟨⟨t591, t594⟩, A220, H⟩ := H
    try dsimp only at H
    have A22 := Aside0.mk A220
    clear A220
    replace H := Option.bind_eq_some_iff.mp H
    obtain ⟨⟨t595, t598⟩, A230, H⟩ := H
    try dsimp only at H
    have A23 := Aside0.mk A230
    clear A230
    replace H := Option.bind_eq_some_iff.mp H
    obtain ⟨⟨t599, t602, t605⟩, A240, H⟩ := H
    try dsimp only at H
    have A24 := Aside0.mk A240
    clear A240
    replace H := Option.bind_eq_some_iff.mp H
    obtain ⟨⟨t606, t609⟩, A250, H⟩ := H
    try dsimp only at H
    have A25 := Aside0.mk A250
    clear A250
    replace H := Option.bind_eq_some_iff.mp H
    obtain ⟨⟨t610, t613⟩, A260, H⟩ := H
    try dsimp only at H
    have A26 := Aside0.mk A260
    clear A260
    replace H := Option.bind_eq_some_iff.mp H
    obtain ⟨⟨t614, t617⟩, A270, H⟩ := H
    try dsimp only at H
    have A27 := Aside0.mk A270
    clear A270
    have HC28 := Aside0.mk H
    clear H
    go_upto_region 20 with (first | (go_at_call 9; (with_reducible refine (l1_Lent.calls _ _ l1 t554 _ ?side1 ?side2 A12.out).mono ?_); (case side1 => exact Kd.C_below HR1.out (mvh HB.out)); (case side2 => exact HC1.out); rintro e w29 ⟨v555, rfl, ho0, hb⟩; have n0_ := aK (Kd.L_lower ho0 (below_size (mvh HB.out))); have n1_ := aK (kb BK548.out hb); have n2_ := aK (below_step (mvh HB.out) hb); clear BK548 HB; have HO556 := n0_; have BK548 := n1_; have HB := n2_; clear n0_ n1_ n2_; (try clear hb); (try clear ho0)) | (go_at_call 9; (with_reducible refine (l1_Lent.calls _ _ l2 t557 _ ?side1 ?side2 A13.out).mono ?_); (case side1 => exact Kd.C_below HR2.out (mvh HB.out)); (case side2 => exact HC2.out); rintro e w30 ⟨v558, rfl, ho0, hb⟩; have n0_ := aK (Kd.L_elder' (mvL HO556.out) (Kd.L_base ho0) hb); have n1_ := aK (Kd.L_lower (Kd.L_new' ho0 (Kd.L_lt (mvL HO556.out))) (below_size (mvh HB.out))); have n2_ := aK (kb BK548.out hb); have n3_ := aK (below_step (mvh HB.out) hb); clear HO556 BK548 HB; have HO556 := n0_; have HO559 := n1_; have BK548 := n2_; have HB := n3_; clear n0_ n1_ n2_ n3_; (try clear hb); (try clear ho0); obtain ⟨Ao31, co31, eo31⟩ := Kd.L_slice HO556.out; subst eo31) | (go_at_call 23; (with_reducible refine (gT_Eval.calls kj5 _ t549 (fun k_ => some k_ = (.slice Ao31 t554.length co31 : Value).ownBlock) _ _ t554 a3 t560 t561 _ ?side1 ?side2 A14.out).mono ?_); (case side1 => exact (gal_OK_below HT551.out HB.out)); (case side2 => exact Kd.L_V (Kd.L_tight rfl (Kd.L_types (HO556.out) BK548.out (by decide)))); rintro e w32 ⟨rfl, hb⟩; have n0_ := aK (Kd.L_below (mvL HO556.out) hb); have n1_ := aK (Kd.L_below (mvL HO559.out) hb); have n2_ := aK (kb BK548.out hb); have n3_ := aK (below_step (mvh HB.out) hb); clear HO556 HO559 BK548 HB; have HO556 := n0_; have HO559 := n1_; have BK548 := n2_; have HB := n3_; clear n0_ n1_ n2_ n3_; (try clear hb); obtain ⟨Ao33, co33, eo33⟩ := Kd.L_slice HO559.out; subst eo33) | (go_at_call 20; (with_reducible refine (gT_Plus.calls kj5 _ t549 (fun k_ => some k_ = (.slice Ao31 t554.length co31 : Value).ownBlock) _ _ t554 (fun k_ => some k_ = (.slice Ao33 t557.length co33 : Value).ownBlock) _ _ t557 t562 t565 _ ?side1 ?side2 ?side3 A15.out).mono ?_); (case side1 => exact (gal_OK_below HT551.out HB.out)); (case side2 => exact Kd.L_V (Kd.L_tight rfl (Kd.L_types (HO556.out) BK548.out (by decide)))); (case side3 => exact Kd.L_V (Kd.L_tight rfl (Kd.L_types (HO559.out) BK548.out (by decide)))); rintro e w34 ⟨v563, rfl, ho0, hb⟩; have n0_ := aK (Kd.L_elder' (mvL HO556.out) (Kd.R_base ho0) hb); have n1_ := aK (Kd.L_elder' (mvL HO559.out) (Kd.R_base ho0) hb); have n2_ := aK (Kd.R_lower (Kd.R_new' (Kd.R_new' (Kd.R_mono (ok' := fun k_ => True) ho0 (fun _ hk_ => trivial)) (Kd.L_lt (mvL HO556.out))) (Kd.L_lt (mvL HO559.out))) (below_size (mvh HB.out))); have n3_ := aK (kb BK548.out hb); have n4_ := aK (below_step (mvh HB.out) hb); clear HO556 HO559 BK548 HB; have HO556 := n0_; have HO559 := n1_; have HO564 := n2_; have BK548 := n3_; have HB := n4_; clear n0_ n1_ n2_ n3_ n4_; (try clear hb); (try clear ho0)) | (go_at_call 18; (with_reducible refine (gT_Times.calls kj5 _ t549 (fun k_ => some k_ = (.slice Ao31 t554.length co31 : Value).ownBlock) _ _ t554 (fun k_ => some k_ = (.slice Ao33 t557.length co33 : Value).ownBlock) _ _ t557 t566 t569 _ ?side1 ?side2 ?side3 A16.out).mono ?_); (case side1 => exact (gal_OK_below HT551.out HB.out)); (case side2 => exact Kd.L_V (Kd.L_tight rfl (Kd.L_types (HO556.out) BK548.out (by decide)))); (case side3 => exact Kd.L_V (Kd.L_tight rfl (Kd.L_types (HO559.out) BK548.out (by decide)))); rintro e w35 ⟨v567, rfl, ho0, hb⟩; have n0_ := aK (Kd.L_elder' (mvL HO556.out) (Kd.R_base ho0) hb); have n1_ := aK (Kd.L_elder' (mvL HO559.out) (Kd.R_base ho0) hb); have n2_ := aK (Kd.R_elder' (mvR HO564.out) (Kd.R_base ho0) hb); have n3_ := aK (Kd.R_lower (Kd.R_new' (Kd.R_new' (Kd.R_new' (Kd.R_mono (ok' := fun k_ => True) ho0 (fun _ hk_ => trivial)) (Kd.L_lt (mvL HO556.out))) (Kd.L_lt (mvL HO559.out))) (Kd.R_lt (mvR HO564.out))) (below_size (mvh HB.out))); have n4_ := aK (kb BK548.out hb); have n5_ := aK (below_step (mvh HB.out) hb); clear HO556 HO559 HO564 BK548 HB; have HO556 := n0_; have HO559 := n1_; have HO564 := n2_; have HO568 := n3_; have BK548 := n4_; have HB := n5_; clear n0_ n1_ n2_ n3_ n4_ n5_; (try clear hb); (try clear ho0)) | (go_at_call 19; (with_reducible refine (gT_Divide.calls kj5 _ t549 (fun k_ => some k_ = (.slice Ao31 t554.length co31 : Value).ownBlock) _ _ t554 (fun k_ => some k_ = (.slice Ao33 t557.length co33 : Value).ownBlock) _ _ t557 t570 t573 t576 _ ?side1 ?side2 ?side3 A17.out).mono ?_); (case side1 => exact (gal_OK_below HT551.out HB.out)); (case side2 => exact Kd.L_V (Kd.L_tight rfl (Kd.L_types (HO556.out) BK548.out (by decide)))); (case side3 => exact Kd.L_V (Kd.L_tight rfl (Kd.L_types (HO559.out) BK548.out (by decide)))); rintro e w36 ⟨v571, v574, rfl, ho0, ho1, hb⟩; have n0_ := aK (Kd.L_mono (Kd.L_told (Kd.L_told (Kd.L_old (mvL HO556.out) hb) (Kd.R_base ho0)) (Kd.R_base ho1)) (fun _ h_ => h_.1)); have n1_ := aK (Kd.L_mono (Kd.L_told (Kd.L_told (Kd.L_old (mvL HO559.out) hb) (Kd.R_base ho0)) (Kd.R_base ho1)) (fun _ h_ => h_.1)); have n2_ := aK (Kd.R_mono (Kd.R_told (Kd.R_told (Kd.R_old (mvR HO564.out) hb) (Kd.R_base ho0)) (Kd.R_base ho1)) (fun _ h_ => h_.1)); have n3_ := aK (Kd.R_mono (Kd.R_told (Kd.R_told (Kd.R_old (mvR HO568.out) hb) (Kd.R_base ho0)) (Kd.R_base ho1)) (fun _ h_ => h_.1)); have n4_ := aK (Kd.R_lower (Kd.R_new' (Kd.R_new' (Kd.R_new' (Kd.R_new' (Kd.R_mono (ok' := fun k_ => some k_ ≠ (v574 : Value).ownBlock) ho0 (fun _ hk_ => hk_.2)) (Kd.L_lt (mvL HO556.out))) (Kd.L_lt (mvL HO559.out))) (Kd.R_lt (mvR HO564.out))) (Kd.R_lt (mvR HO568.out))) (below_size (mvh HB.out))); have n5_ := aK (Kd.R_lower (Kd.R_new' (Kd.R_new' (Kd.R_new' (Kd.R_new' (Kd.R_mono (ok' := fun k_ => some k_ ≠ (v571 : Value).ownBlock) ho1 (fun _ hk_ => hk_.2)) (Kd.L_lt (mvL HO556.out))) (Kd.L_lt (mvL HO559.out))) (Kd.R_lt (mvR HO564.out))) (Kd.R_lt (mvR HO568.out))) (below_size (mvh HB.out))); have n6_ := aK (kb BK548.out hb); have n7_ := aK (below_step (mvh HB.out) hb); clear HO556 HO559 HO564 HO568 BK548 HB; have HO556 := n0_; have HO559 := n1_; have HO564 := n2_; have HO568 := n3_; have HO572 := n4_; have HO575 := n5_; have BK548 := n6_; have HB := n7_; clear n0_ n1_ n2_ n3_ n4_ n5_ n6_ n7_; (try clear hb); (try clear ho0); (try clear ho1)) | (go_at_call 21; (with_reducible refine (gT_Gcd.calls kj5 _ t549 (fun k_ => some k_ = (.slice Ao31 t554.length co31 : Value).ownBlock) _ _ t554 (fun k_ => some k_ = (.slice Ao33 t557.length co33 : Value).ownBlock) _ _ t557 t577 t580 _ ?side1 ?side2 ?side3 A18.out).mono ?_); (case side1 => exact (gal_OK_below HT551.out HB.out)); (case side2 => exact Kd.L_V (Kd.L_tight rfl (Kd.L_types (HO556.out) BK548.out (by decide)))); (case side3 => exact Kd.L_V (Kd.L_tight rfl (Kd.L_types (HO559.out) BK548.out (by decide)))); rintro e w37 ⟨v578, rfl, ho0, hb⟩; have n0_ := aK (Kd.L_elder' (mvL HO556.out) (Kd.R_base ho0) hb); have n1_ := aK (Kd.L_elder' (mvL HO559.out) (Kd.R_base ho0) hb); have n2_ := aK (Kd.R_elder' (mvR HO564.out) (Kd.R_base ho0) hb); have n3_ := aK (Kd.R_elder' (mvR HO568.out) (Kd.R_base ho0) hb); have n4_ := aK (Kd.R_elder' (mvR HO572.out) (Kd.R_base ho0) hb); have n5_ := aK (Kd.R_elder' (mvR HO575.out) (Kd.R_base ho0) hb); have n6_ := aK (Kd.R_lower (Kd.R_new' (Kd.R_new' (Kd.R_new' (Kd.R_new' (Kd.R_new' (Kd.R_new' (Kd.R_mono (ok' := fun k_ => True) ho0 (fun _ hk_ => trivial)) (Kd.L_lt (mvL HO556.out))) (Kd.L_lt (mvL HO559.out))) (Kd.R_lt (mvR HO564.out))) (Kd.R_lt (mvR HO568.out))) (Kd.R_lt (mvR HO572.out))) (Kd.R_lt (mvR HO575.out))) (below_size (mvh HB.out))); have n7_ := aK (kb BK548.out hb); have n8_ := aK (below_step (mvh HB.out) hb); clear HO556 HO559 HO564 HO568 HO572 HO575 BK548 HB; have HO556 := n0_; have HO559 := n1_; have HO564 := n2_; have HO568 := n3_; have HO572 := n4_; have HO575 := n5_; have HO579 := n6_; have BK548 := n7_; have HB := n8_; clear n0_ n1_ n2_ n3_ n4_ n5_ n6_ n7_ n8_; (try clear hb); (try clear ho0)) | (go_at_call 24; (with_reducible refine (gT_Derive.calls kj5 _ t549 (fun k_ => some k_ = (.slice Ao31 t554.length co31 : Value).ownBlock) _ _ t554 t581 t584 _ ?side1 ?side2 A19.out).mono ?_); (case side1 => exact (gal_OK_below HT551.out HB.out)); (case side2 => exact Kd.L_V (Kd.L_tight rfl (Kd.L_types (HO556.out) BK548.out (by decide)))); rintro e w38 ⟨v582, rfl, ho0, hb⟩; have n0_ := aK (Kd.L_elder' (mvL HO556.out) (Kd.R_base ho0) hb); have n1_ := aK (Kd.L_elder' (mvL HO559.out) (Kd.R_base ho0) hb); have n2_ := aK (Kd.R_elder' (mvR HO564.out) (Kd.R_base ho0) hb); have n3_ := aK (Kd.R_elder' (mvR HO568.out) (Kd.R_base ho0) hb); have n4_ := aK (Kd.R_elder' (mvR HO572.out) (Kd.R_base ho0) hb); have n5_ := aK (Kd.R_elder' (mvR HO575.out) (Kd.R_base ho0) hb); have n6_ := aK (Kd.R_elder' (mvR HO579.out) (Kd.R_base ho0) hb); have n7_ := aK (Kd.R_lower (Kd.R_new' (Kd.R_new' (Kd.R_new' (Kd.R_new' (Kd.R_new' (Kd.R_new' (Kd.R_new' (Kd.R_mono (ok' := fun k_ => True) ho0 (fun _ hk_ => trivial)) (Kd.L_lt (mvL HO556.out))) (Kd.L_lt (mvL HO559.out))) (Kd.R_lt (mvR HO564.out))) (Kd.R_lt (mvR HO568.out))) (Kd.R_lt (mvR HO572.out))) (Kd.R_lt (mvR HO575.out))) (Kd.R_lt (mvR HO579.out))) (below_size (mvh HB.out))); have n8_ := aK (kb BK548.out hb); have n9_ := aK (below_step (mvh HB.out) hb); clear HO556 HO559 HO564 HO568 HO572 HO575 HO579 BK548 HB; have HO556 := n0_; have HO559 := n1_; have HO564 := n2_; have HO568 := n3_; have HO572 := n4_; have HO575 := n5_; have HO579 := n6_; have HO583 := n7_; have BK548 := n8_; have HB := n9_; clear n0_ n1_ n2_ n3_ n4_ n5_ n6_ n7_ n8_ n9_; (try clear hb); (try clear ho0)) | (go_at_call 25; (with_reducible refine (gT_Roots.calls kj5 _ t549 (fun k_ => some k_ = (.slice Ao31 t554.length co31 : Value).ownBlock) _ _ t554 t585 t588 _ ?side1 ?side2 A20.out).mono ?_); (case side1 => exact (gal_OK_below HT551.out HB.out)); (case side2 => exact Kd.L_V (Kd.L_tight rfl (Kd.L_types (HO556.out) BK548.out (by decide)))); rintro e w39 ⟨v586, rfl, ho0, hb⟩; have n0_ := aK (Kd.L_elder' (mvL HO556.out) (Kd.R_base ho0) hb); have n1_ := aK (Kd.L_elder' (mvL HO559.out) (Kd.R_base ho0) hb); have n2_ := aK (Kd.R_elder' (mvR HO564.out) (Kd.R_base ho0) hb); have n3_ := aK (Kd.R_elder' (mvR HO568.out) (Kd.R_base ho0) hb); have n4_ := aK (Kd.R_elder' (mvR HO572.out) (Kd.R_base ho0) hb); have n5_ := aK (Kd.R_elder' (mvR HO575.out) (Kd.R_base ho0) hb); have n6_ := aK (Kd.R_elder' (mvR HO579.out) (Kd.R_base ho0) hb); have n7_ := aK (Kd.R_elder' (mvR HO583.out) (Kd.R_base ho0) hb); have n8_ := aK (Kd.R_lower (Kd.R_new' (Kd.R_new' (Kd.R_new' (Kd.R_new' (Kd.R_new' (Kd.R_new' (Kd.R_new' (Kd.R_new' (Kd.R_mono (ok' := fun k_ => True) ho0 (fun _ hk_ => trivial)) (Kd.L_lt (mvL HO556.out))) (Kd.L_lt (mvL HO559.out))) (Kd.R_lt (mvR HO564.out))) (Kd.R_lt (mvR HO568.out))) (Kd.R_lt (mvR HO572.out))) (Kd.R_lt (mvR HO575.out))) (Kd.R_lt (mvR HO579.out))) (Kd.R_lt (mvR HO583.out))) (below_size (mvh HB.out))); have n9_ := aK (kb BK548.out hb); have n10_ := aK (below_step (mvh HB.out) hb); clear HO556 HO559 HO564 HO568 HO572 HO575 HO579 HO583 BK548 HB; have HO556 := n0_; have HO559 := n1_; have HO564 := n2_; have HO568 := n3_; have HO572 := n4_; have HO575 := n5_; have HO579 := n6_; have HO583 := n7_; have HO587 := n8_; have BK548 := n9_; have HB := n10_; clear n0_ n1_ n2_ n3_ n4_ n5_ n6_ n7_ n8_ n9_ n10_; (try clear hb); (try clear ho0); obtain ⟨hcz40_0, hcz40_1, hfz40_0, hfz40_1⟩ := cf2 BK548.out) | (go_at_call 26; (with_reducible refine (r3_Eval.calls kj5 a0_0 a0_1 _ _ l1 a3 t589 t590 _ ?side1 ?side2 A21.out).mono ?_); (case side1 => exact Kd.C_below HR1.out (mvh HB.out)); (case side2 => exact HC1.out); rintro e w41 ⟨rfl, hb⟩; have n0_ := aK (Kd.L_below (mvL HO556.out) hb); have n1_ := aK (Kd.L_below (mvL HO559.out) hb); have n2_ := aK (Kd.R_below (mvR HO564.out) hb); have n3_ := aK (Kd.R_below (mvR HO568.out) hb); have n4_ := aK (Kd.R_below (mvR HO572.out) hb); have n5_ := aK (Kd.R_below (mvR HO575.out) hb); have n6_ := aK (Kd.R_below (mvR HO579.out) hb); have n7_ := aK (Kd.R_below (mvR HO583.out) hb); have n8_ := aK (Kd.R_below (mvR HO587.out) hb); have n9_ := aK (kb BK548.out hb); have n10_ := aK (below_step (mvh HB.out) hb); clear HO556 HO559 HO564 HO568 HO572 HO575 HO579 HO583 HO587 BK548 HB; have HO556 := n0_; have HO559 := n1_; have HO564 := n2_; have HO568 := n3_; have HO572 := n4_; have HO575 := n5_; have HO579 := n6_; have HO583 := n7_; have HO587 := n8_; have BK548 := n9_; have HB := n10_; clear n0_ n1_ n2_ n3_ n4_ n5_ n6_ n7_ n8_ n9_ n10_; (try clear hb); obtain ⟨hcz42_0, hcz42_1, hfz42_0, hfz42_1⟩ := cf2 BK548.out) | (go_at_call 27; (with_reducible refine (r3_Plus.calls kj5 a0_0 a0_1 _ _ l1 _ _ l2 t591 t594 _ ?side1 ?side2 ?side3 ?side4 A22.out).mono ?_); (case side1 => exact Kd.C_below HR1.out (mvh HB.out)); (case side2 => exact HC1.out); (case side3 => exact Kd.C_below HR2.out (mvh HB.out)); (case side4 => exact HC2.out); rintro e w43 ⟨v592, rfl, ho0, hb⟩; have n0_ := aK (Kd.L_elder' (mvL HO556.out) (Kd.R_base ho0) hb); have n1_ := aK (Kd.L_elder' (mvL HO559.out) (Kd.R_base ho0) hb); have n2_ := aK (Kd.R_elder' (mvR HO564.out) (Kd.R_base ho0) hb); have n3_ := aK (Kd.R_elder' (mvR HO568.out) (Kd.R_base ho0) hb); have n4_ := aK (Kd.R_elder' (mvR HO572.out) (Kd.R_base ho0) hb); have n5_ := aK (Kd.R_elder' (mvR HO575.out) (Kd.R_base ho0) hb); have n6_ := aK (Kd.R_elder' (mvR HO579.out) (Kd.R_base ho0) hb); have n7_ := aK (Kd.R_elder' (mvR HO583.out) (Kd.R_base ho0) hb); have n8_ := aK (Kd.R_elder' (mvR HO587.out) (Kd.R_base ho0) hb); have n9_ := aK (Kd.R_lower (Kd.R_new' (Kd.R_new' (Kd.R_new' (Kd.R_new' (Kd.R_new' (Kd.R_new' (Kd.R_new' (Kd.R_new' (Kd.R_new' ho0 (Kd.L_lt (mvL HO556.out))) (Kd.L_lt (mvL HO559.out))) (Kd.R_lt (mvR HO564.out))) (Kd.R_lt (mvR HO568.out))) (Kd.R_lt (mvR HO572.out))) (Kd.R_lt (mvR HO575.out))) (Kd.R_lt (mvR HO579.out))) (Kd.R_lt (mvR HO583.out))) (Kd.R_lt (mvR HO587.out))) (below_size (mvh HB.out))); have n10_ := aK (kb BK548.out hb); have n11_ := aK (below_step (mvh HB.out) hb); clear HO556 HO559 HO564 HO568 HO572 HO575 HO579 HO583 HO587 BK548 HB; have HO556 := n0_; have HO559 := n1_; have HO564 := n2_; have HO568 := n3_; have HO572 := n4_; have HO575 := n5_; have HO579 := n6_; have HO583 := n7_; have HO587 := n8_; have HO593 := n9_; have BK548 := n10_; have HB := n11_; clear n0_ n1_ n2_ n3_ n4_ n5_ n6_ n7_ n8_ n9_ n10_ n11_; (try clear hb); (try clear ho0); obtain ⟨hcz44_0, hcz44_1, hfz44_0, hfz44_1⟩ := cf2 BK548.out) | (go_at_call 28; (with_reducible refine (r3_Times.calls kj5 a0_0 a0_1 _ _ l1 _ _ l2 t595 t598 _ ?side1 ?side2 ?side3 ?side4 A23.out).mono ?_); (case side1 => exact Kd.C_below HR1.out (mvh HB.out)); (case side2 => exact HC1.out); (case side3 => exact Kd.C_below HR2.out (mvh HB.out)); (case side4 => exact HC2.out); rintro e w45 ⟨v596, rfl, ho0, hb⟩; have n0_ := aK (Kd.L_elder' (mvL HO556.out) (Kd.R_base ho0) hb); have n1_ := aK (Kd.L_elder' (mvL HO559.out) (Kd.R_base ho0) hb); have n2_ := aK (Kd.R_elder' (mvR HO564.out) (Kd.R_base ho0) hb); have n3_ := aK (Kd.R_elder' (mvR HO568.out) (Kd.R_base ho0) hb); have n4_ := aK (Kd.R_elder' (mvR HO572.out) (Kd.R_base ho0) hb); have n5_ := aK (Kd.R_elder' (mvR HO575.out) (Kd.R_base ho0) hb); have n6_ := aK (Kd.R_elder' (mvR HO579.out) (Kd.R_base ho0) hb); have n7_ := aK (Kd.R_elder' (mvR HO583.out) (Kd.R_base ho0) hb); have n8_ := aK (Kd.R_elder' (mvR HO587.out) (Kd.R_base ho0) hb); have n9_ := aK (Kd.R_elder' (mvR HO593.out) (Kd.R_base ho0) hb); have n10_ := aK (Kd.R_lower (Kd.R_new' (Kd.R_new' (Kd.R_new' (Kd.R_new' (Kd.R_new' (Kd.R_new' (Kd.R_new' (Kd.R_new' (Kd.R_new' (Kd.R_new' ho0 (Kd.L_lt (mvL HO556.out))) (Kd.L_lt (mvL HO559.out))) (Kd.R_lt (mvR HO564.out))) (Kd.R_lt (mvR HO568.out))) (Kd.R_lt (mvR HO572.out))) (Kd.R_lt (mvR HO575.out))) (Kd.R_lt (mvR HO579.out))) (Kd.R_lt (mvR HO583.out))) (Kd.R_lt (mvR HO587.out))) (Kd.R_lt (mvR HO593.out))) (below_size (mvh HB.out))); have n11_ := aK (kb BK548.out hb); have n12_ := aK (below_step (mvh HB.out) hb); clear HO556 HO559 HO564 HO568 HO572 HO575 HO579 HO583 HO587 HO593 BK548 HB; have HO556 := n0_; have HO559 := n1_; have HO564 := n2_; have HO568 := n3_; have HO572 := n4_; have HO575 := n5_; have HO579 := n6_; have HO583 := n7_; have HO587 := n8_; have HO593 := n9_; have HO597 := n10_; have BK548 := n11_; have HB := n12_; clear n0_ n1_ n2_ n3_ n4_ n5_ n6_ n7_ n8_ n9_ n10_ n11_ n12_; (try clear hb); (try clear ho0); obtain ⟨hcz46_0, hcz46_1, hfz46_0, hfz46_1⟩ := cf2 BK548.out) | (go_at_call 29; (with_reducible refine (r3_Divide.calls kj5 a0_0 a0_1 _ _ l1 _ _ l2 t599 t602 t605 _ ?side1 ?side2 ?side3 ?side4 A24.out).mono ?_); (case side1 => exact Kd.C_below HR1.out (mvh HB.out)); (case side2 => exact HC1.out); (case side3 => exact Kd.C_below HR2.out (mvh HB.out)); (case side4 => exact HC2.out); rintro e w47 ⟨v600, v603, rfl, ho0, ho1, hb⟩; have n0_ := aK (Kd.L_mono (Kd.L_told (Kd.L_told (Kd.L_old (mvL HO556.out) hb) (Kd.R_base ho0)) (Kd.R_base ho1)) (fun _ h_ => h_.1)); have n1_ := aK (Kd.L_mono (Kd.L_told (Kd.L_told (Kd.L_old (mvL HO559.out) hb) (Kd.R_base ho0)) (Kd.R_base ho1)) (fun _ h_ => h_.1)); have n2_ := aK (Kd.R_mono (Kd.R_told (Kd.R_told (Kd.R_old (mvR HO564.out) hb) (Kd.R_base ho0)) (Kd.R_base ho1)) (fun _ h_ => h_.1)); have n3_ := aK (Kd.R_mono (Kd.R_told (Kd.R_told (Kd.R_old (mvR HO568.out) hb) (Kd.R_base ho0)) (Kd.R_base ho1)) (fun _ h_ => h_.1)); have n4_ := aK (Kd.R_mono (Kd.R_told (Kd.R_told (Kd.R_old (mvR HO572.out) hb) (Kd.R_base ho0)) (Kd.R_base ho1)) (fun _ h_ => h_.1)); have n5_ := aK (Kd.R_mono (Kd.R_told (Kd.R_told (Kd.R_old (mvR HO575.out) hb) (Kd.R_base ho0)) (Kd.R_base ho1)) (fun _ h_ => h_.1)); have n6_ := aK (Kd.R_mono (Kd.R_told (Kd.R_told (Kd.R_old (mvR HO579.out) hb) (Kd.R_base ho0)) (Kd.R_base ho1)) (fun _ h_ => h_.1)); have n7_ := aK (Kd.R_mono (Kd.R_told (Kd.R_told (Kd.R_old (mvR HO583.out) hb) (Kd.R_base ho0)) (Kd.R_base ho1)) (fun _ h_ => h_.1)); have n8_ := aK (Kd.R_mono (Kd.R_told (Kd.R_told (Kd.R_old (mvR HO587.out) hb) (Kd.R_base ho0)) (Kd.R_base ho1)) (fun _ h_ => h_.1)); have n9_ := aK (Kd.R_mono (Kd.R_told (Kd.R_told (Kd.R_old (mvR HO593.out) hb) (Kd.R_base ho0)) (Kd.R_base ho1)) (fun _ h_ => h_.1)); have n10_ := aK (Kd.R_mono (Kd.R_told (Kd.R_told (Kd.R_old (mvR HO597.out) hb) (Kd.R_base ho0)) (Kd.R_base ho1)) (fun _ h_ => h_.1)); have n11_ := aK (Kd.R_lower (Kd.R_new' (Kd.R_new' (Kd.R_new' (Kd.R_new' (Kd.R_new' (Kd.R_new' (Kd.R_new' (Kd.R_new' (Kd.R_new' (Kd.R_new' (Kd.R_new' ho0 (Kd.L_lt (mvL HO556.out))) (Kd.L_lt (mvL HO559.out))) (Kd.R_lt (mvR HO564.out))) (Kd.R_lt (mvR HO568.out))) (Kd.R_lt (mvR HO572.out))) (Kd.R_lt (mvR HO575.out))) (Kd.R_lt (mvR HO579.out))) (Kd.R_lt (mvR HO583.out))) (Kd.R_lt (mvR HO587.out))) (Kd.R_lt (mvR HO593.out))) (Kd.R_lt (mvR HO597.out))) (below_size (mvh HB.out))); have n12_ := aK (Kd.R_lower (Kd.R_new' (Kd.R_new' (Kd.R_new' (Kd.R_new' (Kd.R_new' (Kd.R_new' (Kd.R_new' (Kd.R_new' (Kd.R_new' (Kd.R_new' (Kd.R_new' ho1 (Kd.L_lt (mvL HO556.out))) (Kd.L_lt (mvL HO559.out))) (Kd.R_lt (mvR HO564.out))) (Kd.R_lt (mvR HO568.out))) (Kd.R_lt (mvR HO572.out))) (Kd.R_lt (mvR HO575.out))) (Kd.R_lt (mvR HO579.out))) (Kd.R_lt (mvR HO583.out))) (Kd.R_lt (mvR HO587.out))) (Kd.R_lt (mvR HO593.out))) (Kd.R_lt (mvR HO597.out))) (below_size (mvh HB.out))); have n13_ := aK (kb BK548.out hb); have n14_ := aK (below_step (mvh HB.out) hb); clear HO556 HO559 HO564 HO568 HO572 HO575 HO579 HO583 HO587 HO593 HO597 BK548 HB; have HO556 := n0_; have HO559 := n1_; have HO564 := n2_; have HO568 := n3_; have HO572 := n4_; have HO575 := n5_; have HO579 := n6_; have HO583 := n7_; have HO587 := n8_; have HO593 := n9_; have HO597 := n10_; have HO601 := n11_; have HO604 := n12_; have BK548 := n13_; have HB := n14_; clear n0_ n1_ n2_ n3_ n4_ n5_ n6_ n7_ n8_ n9_ n10_ n11_ n12_ n13_ n14_; (try clear hb); (try clear ho0); (try clear ho1); obtain ⟨hcz48_0, hcz48_1, hfz48_0, hfz48_1⟩ := cf2 BK548.out) | (go_at_call 30; (with_reducible refine (r3_Gcd.calls kj5 a0_0 a0_1 _ _ l1 _ _ l2 t606 t609 _ ?side1 ?side2 ?side3 ?side4 A25.out).mono ?_); (case side1 => exact Kd.C_below HR1.out (mvh HB.out)); (case side2 => exact HC1.out); (case side3 => exact Kd.C_below HR2.out (mvh HB.out)); (case side4 => exact HC2.out); rintro e w49 ⟨v607, rfl, ho0, hb⟩; have n0_ := aK (Kd.L_elder' (mvL HO556.out) (Kd.R_base ho0) hb); have n1_ := aK (Kd.L_elder' (mvL HO559.out) (Kd.R_base ho0) hb); have n2_ := aK (Kd.R_elder' (mvR HO564.out) (Kd.R_base ho0) hb); have n3_ := aK (Kd.R_elder' (mvR HO568.out) (Kd.R_base ho0) hb); have n4_ := aK (Kd.R_elder' (mvR HO572.out) (Kd.R_base ho0) hb); have n5_ := aK (Kd.R_elder' (mvR HO575.out) (Kd.R_base ho0) hb); have n6_ := aK (Kd.R_elder' (mvR HO579.out) (Kd.R_base ho0) hb); have n7_ := aK (Kd.R_elder' (mvR HO583.out) (Kd.R_base ho0) hb); have n8_ := aK (Kd.R_elder' (mvR HO587.out) (Kd.R_base ho0) hb); have n9_ := aK (Kd.R_elder' (mvR HO593.out) (Kd.R_base ho0) hb); have n10_ := aK (Kd.R_elder' (mvR HO597.out) (Kd.R_base ho0) hb); have n11_ := aK (Kd.R_elder' (mvR HO601.out) (Kd.R_base ho0) hb); have n12_ := aK (Kd.R_elder' (mvR HO604.out) (Kd.R_base ho0) hb); have n13_ := aK (Kd.R_lower (Kd.R_new' (Kd.R_new' (Kd.R_new' (Kd.R_new' (Kd.R_new' (Kd.R_new' (Kd.R_new' (Kd.R_new' (Kd.R_new' (Kd.R_new' (Kd.R_new' (Kd.R_new' (Kd.R_new' ho0 (Kd.L_lt (mvL HO556.out))) (Kd.L_lt (mvL HO559.out))) (Kd.R_lt (mvR HO564.out))) (Kd.R_lt (mvR HO568.out))) (Kd.R_lt (mvR HO572.out))) (Kd.R_lt (mvR HO575.out))) (Kd.R_lt (mvR HO579.out))) (Kd.R_lt (mvR HO583.out))) (Kd.R_lt (mvR HO587.out))) (Kd.R_lt (mvR HO593.out))) (Kd.R_lt (mvR HO597.out))) (Kd.R_lt (mvR HO601.out))) (Kd.R_lt (mvR HO604.out))) (below_size (mvh HB.out))); have n14_ := aK (kb BK548.out hb); have n15_ := aK (below_step (mvh HB.out) hb); clear HO556 HO559 HO564 HO568 HO572 HO575 HO579 HO583 HO587 HO593 HO597 HO601 HO604 BK548 HB; have HO556 := n0_; have HO559 := n1_; have HO564 := n2_; have HO568 := n3_; have HO572 := n4_; have HO575 := n5_; have HO579 := n6_; have HO583 := n7_; have HO587 := n8_; have HO593 := n9_; have HO597 := n10_; have HO601 := n11_; have HO604 := n12_; have HO608 := n13_; have BK548 := n14_; have HB := n15_; clear n0_ n1_ n2_ n3_ n4_ n5_ n6_ n7_ n8_ n9_ n10_ n11_ n12_ n13_ n14_ n15_; (try clear hb); (try clear ho0); obtain ⟨hcz50_0, hcz50_1, hfz50_0, hfz50_1⟩ := cf2 BK548.out) | (go_at_call 31; (with_reducible refine (r3_Derive.calls kj5 a0_0 a0_1 _ _ l1 t610 t613 _ ?side1 ?side2 A26.out).mono ?_); (case side1 => exact Kd.C_below HR1.out (mvh HB.out)); (case side2 => exact HC1.out); rintro e w51 ⟨v611, rfl, ho0, hb⟩; have n0_ := aK (Kd.L_elder' (mvL HO556.out) (Kd.R_base ho0) hb); have n1_ := aK (Kd.L_elder' (mvL HO559.out) (Kd.R_base ho0) hb); have n2_ := aK (Kd.R_elder' (mvR HO564.out) (Kd.R_base ho0) hb); have n3_ := aK (Kd.R_elder' (mvR HO568.out) (Kd.R_base ho0) hb); have n4_ := aK (Kd.R_elder' (mvR HO572.out) (Kd.R_base ho0) hb); have n5_ := aK (Kd.R_elder' (mvR HO575.out) (Kd.R_base ho0) hb); have n6_ := aK (Kd.R_elder' (mvR HO579.out) (Kd.R_base ho0) hb); have n7_ := aK (Kd.R_elder' (mvR HO583.out) (Kd.R_base ho0) hb); have n8_ := aK (Kd.R_elder' (mvR HO587.out) (Kd.R_base ho0) hb); have n9_ := aK (Kd.R_elder' (mvR HO593.out) (Kd.R_base ho0) hb); have n10_ := aK (Kd.R_elder' (mvR HO597.out) (Kd.R_base ho0) hb); have n11_ := aK (Kd.R_elder' (mvR HO601.out) (Kd.R_base ho0) hb); have n12_ := aK (Kd.R_elder' (mvR HO604.out) (Kd.R_base ho0) hb); have n13_ := aK (Kd.R_elder' (mvR HO608.out) (Kd.R_base ho0) hb); have n14_ := aK (Kd.R_lower (Kd.R_new' (Kd.R_new' (Kd.R_new' (Kd.R_new' (Kd.R_new' (Kd.R_new' (Kd.R_new' (Kd.R_new' (Kd.R_new' (Kd.R_new' (Kd.R_new' (Kd.R_new' (Kd.R_new' (Kd.R_new' ho0 (Kd.L_lt (mvL HO556.out))) (Kd.L_lt (mvL HO559.out))) (Kd.R_lt (mvR HO564.out))) (Kd.R_lt (mvR HO568.out))) (Kd.R_lt (mvR HO572.out))) (Kd.R_lt (mvR HO575.out))) (Kd.R_lt (mvR HO579.out))) (Kd.R_lt (mvR HO583.out))) (Kd.R_lt (mvR HO587.out))) (Kd.R_lt (mvR HO593.out))) (Kd.R_lt (mvR HO597.out))) (Kd.R_lt (mvR HO601.out))) (Kd.R_lt (mvR HO604.out))) (Kd.R_lt (mvR HO608.out))) (below_size (mvh HB.out))); have n15_ := aK (kb BK548.out hb); have n16_ := aK (below_step (mvh HB.out) hb); clear HO556 HO559 HO564 HO568 HO572 HO575 HO579 HO583 HO587 HO593 HO597 HO601 HO604 HO608 BK548 HB; have HO556 := n0_; have HO559 := n1_; have HO564 := n2_; have HO568 := n3_; have HO572 := n4_; have HO575 := n5_; have HO579 := n6_; have HO583 := n7_; have HO587 := n8_; have HO593 := n9_; have HO597 := n10_; have HO601 := n11_; have HO604 := n12_; have HO608 := n13_; have HO612 := n14_; have BK548 := n15_; have HB := n16_; clear n0_ n1_ n2_ n3_ n4_ n5_ n6_ n7_ n8_ n9_ n10_ n11_ n12_ n13_ n14_ n15_ n16_; (try clear hb); (try clear ho0); obtain ⟨hcz52_0, hcz52_1, hfz52_0, hfz52_1⟩ := cf2 BK548.out) | (go_at_call 32; (with_reducible refine (r3_Roots.calls kj5 a0_0 a0_1 _ _ l1 t614 t617 _ ?side1 ?side2 A27.out).mono ?_); (case side1 => exact Kd.C_below HR1.out (mvh HB.out)); (case side2 => exact HC1.out); rintro e w53 ⟨v615, rfl, ho0, hb⟩; have n0_ := aK (Kd.L_elder' (mvL HO556.out) (Kd.R_base ho0) hb); have n1_ := aK (Kd.L_elder' (mvL HO559.out) (Kd.R_base ho0) hb); have n2_ := aK (Kd.R_elder' (mvR HO564.out) (Kd.R_base ho0) hb); have n3_ := aK (Kd.R_elder' (mvR HO568.out) (Kd.R_base ho0) hb); have n4_ := aK (Kd.R_elder' (mvR HO572.out) (Kd.R_base ho0) hb); have n5_ := aK (Kd.R_elder' (mvR HO575.out) (Kd.R_base ho0) hb); have n6_ := aK (Kd.R_elder' (mvR HO579.out) (Kd.R_base ho0) hb); have n7_ := aK (Kd.R_elder' (mvR HO583.out) (Kd.R_base ho0) hb); have n8_ := aK (Kd.R_elder' (mvR HO587.out) (Kd.R_base ho0) hb); have n9_ := aK (Kd.R_elder' (mvR HO593.out) (Kd.R_base ho0) hb); have n10_ := aK (Kd.R_elder' (mvR HO597.out) (Kd.R_base ho0) hb); have n11_ := aK (Kd.R_elder' (mvR HO601.out) (Kd.R_base ho0) hb); have n12_ := aK (Kd.R_elder' (mvR HO604.out) (Kd.R_base ho0) hb); have n13_ := aK (Kd.R_elder' (mvR HO608.out) (Kd.R_base ho0) hb); have n14_ := aK (Kd.R_elder' (mvR HO612.out) (Kd.R_base ho0) hb); have n15_ := aK (Kd.R_lower (Kd.R_new' (Kd.R_new' (Kd.R_new' (Kd.R_new' (Kd.R_new' (Kd.R_new' (Kd.R_new' (Kd.R_new' (Kd.R_new' (Kd.R_new' (Kd.R_new' (Kd.R_new' (Kd.R_new' (Kd.R_new' (Kd.R_new' ho0 (Kd.L_lt (mvL HO556.out))) (Kd.L_lt (mvL HO559.out))) (Kd.R_lt (mvR HO564.out))) (Kd.R_lt (mvR HO568.out))) (Kd.R_lt (mvR HO572.out))) (Kd.R_lt (mvR HO575.out))) (Kd.R_lt (mvR HO579.out))) (Kd.R_lt (mvR HO583.out))) (Kd.R_lt (mvR HO587.out))) (Kd.R_lt (mvR HO593.out))) (Kd.R_lt (mvR HO597.out))) (Kd.R_lt (mvR HO601.out))) (Kd.R_lt (mvR HO604.out))) (Kd.R_lt (mvR HO608.out))) (Kd.R_lt (mvR HO612.out))) (below_size (mvh HB.out))); have n16_ := aK (kb BK548.out hb); have n17_ := aK (below_step (mvh HB.out) hb); clear HO556 HO559 HO564 HO568 HO572 HO575 HO579 HO583 HO587 HO593 HO597 HO601 HO604 HO608 HO612 BK548 HB; have HO556 := n0_; have HO559 := n1_; have HO564 := n2_; have HO568 := n3_; have HO572 := n4_; have HO575 := n5_; have HO579 := n6_; have HO583 := n7_; have HO587 := n8_; have HO593 := n9_; have HO597 := n10_; have HO601 := n11_; have HO604 := n12_; have HO608 := n13_; have HO612 := n14_; have HO616 := n15_; have BK548 := n16_; have HB := n17_; clear n0_ n1_ n2_ n3_ n4_ n5_ n6_ n7_ n8_ n9_ n10_ n11_ n12_ n13_ n14_ n15_ n16_ n17_; (try clear hb); (try clear ho0)))
    (try simp only [Act.put, List.setIfInBounds_toArray, List.set_cons_zero, List.set_cons_succ])
    go_cut [201] (fun v201 wc => ∃ (kq : Nat) (x201_27 : Bool), v201 = .bool x201_27 ∧ Aside0 (l3_GaloisPolys.j1 kq l1 l2 t554 t557 t562 t566 t570 t573 t577 t581 t585 t591 t595 t599 t602 t606 t610 t614 x201_27 = some r) ∧ Aside0 (kq ≤ kj5) ∧ Aside0 (Kd.L (Kd.int .u8) 5 wc w.heap.size (fun k_ => some k_ ≠ ((.slice Ao33 t557.length co33) : Value).ownBlock ∧ some k_ ≠ (v563 : Value).ownBlock ∧ some k_ ≠ (v567 : Value).ownBlock ∧ some k_ ≠ (v571 : Value).ownBlock ∧ some k_ ≠ (v574 : Value).ownBlock ∧ some k_ ≠ (v578 : Value).ownBlock ∧ some k_ ≠ (v582 : Value).ownBlock ∧ some k_ ≠ (v586 : Value).ownBlock ∧ some k_ ≠ (v592 : Value).ownBlock ∧ some k_ ≠ (v596 : Value).ownBlock ∧ some k_ ≠ (v600 : Value).ownBlock ∧ some k_ ≠ (v603 : Value).ownBlock ∧ some k_ ≠ (v607 : Value).ownBlock ∧ some k_ ≠ (v611 : Value).ownBlock ∧ some k_ ≠ (v615 : Value).ownBlock) (.slice Ao31 t554.length co31) t554) ∧ Aside0 (Kd.L (Kd.int .u8) 5 wc w.heap.size (fun k_ => some k_ ≠ ((.slice Ao31 t554.length co31) : Value).ownBlock ∧ some k_ ≠ (v563 : Value).ownBlock ∧ some k_ ≠ (v567 : Value).ownBlock ∧ some k_ ≠ (v571 : Value).ownBlock ∧ some k_ ≠ (v574 : Value).ownBlock ∧ some k_ ≠ (v578 : Value).ownBlock ∧ some k_ ≠ (v582 : Value).ownBlock ∧ some k_ ≠ (v586 : Value).ownBlock ∧ some k_ ≠ (v592 : Value).ownBlock ∧ some k_ ≠ (v596 : Value).ownBlock ∧ some k_ ≠ (v600 : Value).ownBlock ∧ some k_ ≠ (v603 : Value).ownBlock ∧ some k_ ≠ (v607 : Value).ownBlock ∧ some k_ ≠ (v611 : Value).ownBlock ∧ some k_ ≠ (v615 : Value).ownBlock) (.slice Ao33 t557.length co33) t557) ∧ Aside0 (Kd.R (Kd.int .u8) 5 wc w.heap.size (fun k_ => some k_ ≠ ((.slice Ao31 t554.length co31) : Value).ownBlock ∧ some k_ ≠ ((.slice Ao33 t557.length co33) : Value).ownBlock ∧ some k_ ≠ (v567 : Value).ownBlock ∧ some k_ ≠ (v571 : Value).ownBlock ∧ some k_ ≠ (v574 : Value).ownBlock ∧ some k_ ≠ (v578 : Value).ownBlock ∧ some k_ ≠ (v582 : Value).ownBlock ∧ some k_ ≠ (v586 : Value).ownBlock ∧ some k_ ≠ (v592 : Value).ownBlock ∧ some k_ ≠ (v596 : Value).ownBlock ∧ some k_ ≠ (v600 : Value).ownBlock ∧ some k_ ≠ (v603 : Value).ownBlock ∧ some k_ ≠ (v607 : Value).ownBlock ∧ some k_ ≠ (v611 : Value).ownBlock ∧ some k_ ≠ (v615 : Value).ownBlock) v563 t562) ∧ Aside0 (Kd.R (Kd.int .u8) 5 wc w.heap.size (fun k_ => some k_ ≠ ((.slice Ao31 t554.length co31) : Value).ownBlock ∧ some k_ ≠ ((.slice Ao33 t557.length co33) : Value).ownBlock ∧ some k_ ≠ (v563 : Value).ownBlock ∧ some k_ ≠ (v571 : Value).ownBlock ∧ some k_ ≠ (v574 : Value).ownBlock ∧ some k_ ≠ (v578 : Value).ownBlock ∧ some k_ ≠ (v582 : Value).ownBlock ∧ some k_ ≠ (v586 : Value).ownBlock ∧ some k_ ≠ (v592 : Value).ownBlock ∧ some k_ ≠ (v596 : Value).ownBlock ∧ some k_ ≠ (v600 : Value).ownBlock ∧ some k_ ≠ (v603 : Value).ownBlock ∧ some k_ ≠ (v607 : Value).ownBlock ∧ some k_ ≠ (v611 : Value).ownBlock ∧ some k_ ≠ (v615 : Value).ownBlock) v567 t566) ∧ Aside0 (Kd.R (Kd.int .u8) 5 wc w.heap.size (fun k_ => some k_ ≠ ((.slice Ao31 t554.length co31) : Value).ownBlock ∧ some k_ ≠ ((.slice Ao33 t557.length co33) : Value).ownBlock ∧ some k_ ≠ (v563 : Value).ownBlock ∧ some k_ ≠ (v567 : Value).ownBlock ∧ some k_ ≠ (v574 : Value).ownBlock ∧ some k_ ≠ (v578 : Value).ownBlock ∧ some k_ ≠ (v582 : Value).ownBlock ∧ some k_ ≠ (v586 : Value).ownBlock ∧ some k_ ≠ (v592 : Value).ownBlock ∧ some k_ ≠ (v596 : Value).ownBlock ∧ some k_ ≠ (v600 : Value).ownBlock ∧ some k_ ≠ (v603 : Value).ownBlock ∧ some k_ ≠ (v607 : Value).ownBlock ∧ some k_ ≠ (v611 : Value).ownBlock ∧ some k_ ≠ (v615 : Value).ownBlock) v571 t570) ∧ Aside0 (Kd.R (Kd.int .u8) 5 wc w.heap.size (fun k_ => some k_ ≠ ((.slice Ao31 t554.length co31) : Value).ownBlock ∧ some k_ ≠ ((.slice Ao33 t557.length co33) : Value).ownBlock ∧ some k_ ≠ (v563 : Value).ownBlock ∧ some k_ ≠ (v567 : Value).ownBlock ∧ some k_ ≠ (v571 : Value).ownBlock ∧ some k_ ≠ (v578 : Value).ownBlock ∧ some k_ ≠ (v582 : Value).ownBlock ∧ some k_ ≠ (v586 : Value).ownBlock ∧ some k_ ≠ (v592 : Value).ownBlock ∧ some k_ ≠ (v596 : Value).ownBlock ∧ some k_ ≠ (v600 : Value).ownBlock ∧ some k_ ≠ (v603 : Value).ownBlock ∧ some k_ ≠ (v607 : Value).ownBlock ∧ some k_ ≠ (v611 : Value).ownBlock ∧ some k_ ≠ (v615 : Value).ownBlock) v574 t573) ∧ Aside0 (Kd.R (Kd.int .u8) 5 wc w.heap.size (fun k_ => some k_ ≠ ((.slice Ao31 t554.length co31) : Value).ownBlock ∧ some k_ ≠ ((.slice Ao33 t557.length co33) : Value).ownBlock ∧ some k_ ≠ (v563 : Value).ownBlock ∧ some k_ ≠ (v567 : Value).ownBlock ∧ some k_ ≠ (v571 : Value).ownBlock ∧ some k_ ≠ (v574 : Value).ownBlock ∧ some k_ ≠ (v582 : Value).ownBlock ∧ some k_ ≠ (v586 : Value).ownBlock ∧ some k_ ≠ (v592 : Value).ownBlock ∧ some k_ ≠ (v596 : Value).ownBlock ∧ some k_ ≠ (v600 : Value).ownBlock ∧ some k_ ≠ (v603 : Value).ownBlock ∧ some k_ ≠ (v607 : Value).ownBlock ∧ some k_ ≠ (v611 : Value).ownBlock ∧ some k_ ≠ (v615 : Value).ownBlock) v578 t577) ∧ Aside0 (Kd.R (Kd.int .u8) 5 wc w.heap.size (fun k_ => some k_ ≠ ((.slice Ao31 t554.length co31) : Value).ownBlock ∧ some k_ ≠ ((.slice Ao33 t557.length co33) : Value).ownBlock ∧ some k_ ≠ (v563 : Value).ownBlock ∧ some k_ ≠ (v567 : Value).ownBlock ∧ some k_ ≠ (v571 : Value).ownBlock ∧ some k_ ≠ (v574 : Value).ownBlock ∧ some k_ ≠ (v578 : Value).ownBlock ∧ some k_ ≠ (v586 : Value).ownBlock ∧ some k_ ≠ (v592 : Value).ownBlock ∧ some k_ ≠ (v596 : Value).ownBlock ∧ some k_ ≠ (v600 : Value).ownBlock ∧ some k_ ≠ (v603 : Value).ownBlock ∧ some k_ ≠ (v607 : Value).ownBlock ∧ some k_ ≠ (v611 : Value).ownBlock ∧ some k_ ≠ (v615 : Value).ownBlock) v582 t581) ∧ Aside0 (Kd.R (Kd.int .u8) 5 wc w.heap.size (fun k_ => some k_ ≠ ((.slice Ao31 t554.length co31) : Value).ownBlock ∧ some k_ ≠ ((.slice Ao33 t557.length co33) : Value).ownBlock ∧ some k_ ≠ (v563 : Value).ownBlock ∧ some k_ ≠ (v567 : Value).ownBlock ∧ some k_ ≠ (v571 : Value).ownBlock ∧ some k_ ≠ (v574 : Value).ownBlock ∧ some k_ ≠ (v578 : Value).ownBlock ∧ some k_ ≠ (v582 : Value).ownBlock ∧ some k_ ≠ (v592 : Value).ownBlock ∧ some k_ ≠ (v596 : Value).ownBlock ∧ some k_ ≠ (v600 : Value).ownBlock ∧ some k_ ≠ (v603 : Value).ownBlock ∧ some k_ ≠ (v607 : Value).ownBlock ∧ some k_ ≠ (v611 : Value).ownBlock ∧ some k_ ≠ (v615 : Value).ownBlock) v586 t585) ∧ Aside0 (Kd.R (Kd.int .u8) 5 wc w.heap.size (fun k_ => some k_ ≠ ((.slice Ao31 t554.length co31) : Value).ownBlock ∧ some k_ ≠ ((.slice Ao33 t557.length co33) : Value).ownBlock ∧ some k_ ≠ (v563 : Value).ownBlock ∧ some k_ ≠ (v567 : Value).ownBlock ∧ some k_ ≠ (v571 : Value).ownBlock ∧ some k_ ≠ (v574 : Value).ownBlock ∧ some k_ ≠ (v578 : Value).ownBlock ∧ some k_ ≠ (v582 : Value).ownBlock ∧ some k_ ≠ (v586 : Value).ownBlock ∧ some k_ ≠ (v596 : Value).ownBlock ∧ some k_ ≠ (v600 : Value).ownBlock ∧ some k_ ≠ (v603 : Value).ownBlock ∧ some k_ ≠ (v607 : Value).ownBlock ∧ some k_ ≠ (v611 : Value).ownBlock ∧ some k_ ≠ (v615 : Value).ownBlock) v592 t591) ∧ Aside0 (Kd.R (Kd.int .u8) 5 wc w.heap.size (fun k_ => some k_ ≠ ((.slice Ao31 t554.length co31) : Value).ownBlock ∧ some k_ ≠ ((.slice Ao33 t557.length co33) : Value).ownBlock ∧ some k_ ≠ (v563 : Value).ownBlock ∧ some k_ ≠ (v567 : Value).ownBlock ∧ some k_ ≠ (v571 : Value).ownBlock ∧ some k_ ≠ (v574 : Value).ownBlock ∧ some k_ ≠ (v578 : Value).ownBlock ∧ some k_ ≠ (v582 : Value).ownBlock ∧ some k_ ≠ (v586 : Value).ownBlock ∧ some k_ ≠ (v592 : Value).ownBlock ∧ some k_ ≠ (v600 : Value).ownBlock ∧ some k_ ≠ (v603 : Value).ownBlock ∧ some k_ ≠ (v607 : Value).ownBlock ∧ some k_ ≠ (v611 : Value).ownBlock ∧ some k_ ≠ (v615 : Value).ownBlock) v596 t595) ∧ Aside0 (Kd.R (Kd.int .u8) 5 wc w.heap.size (fun k_ => some k_ ≠ ((.slice Ao31 t554.length co31) : Value).ownBlock ∧ some k_ ≠ ((.slice Ao33 t557.length co33) : Value).ownBlock ∧ some k_ ≠ (v563 : Value).ownBlock ∧ some k_ ≠ (v567 : Value).ownBlock ∧ some k_ ≠ (v571 : Value).ownBlock ∧ some k_ ≠ (v574 : Value).ownBlock ∧ some k_ ≠ (v578 : Value).ownBlock ∧ some k_ ≠ (v582 : Value).ownBlock ∧ some k_ ≠ (v586 : Value).ownBlock ∧ some k_ ≠ (v592 : Value).ownBlock ∧ some k_ ≠ (v596 : Value).ownBlock ∧ some k_ ≠ (v603 : Value).ownBlock ∧ some k_ ≠ (v607 : Value).ownBlock ∧ some k_ ≠ (v611 : Value).ownBlock ∧ some k_ ≠ (v615 : Value).ownBlock) v600 t599) ∧ Aside0 (Kd.R (Kd.int .u8) 5 wc w.heap.size (fun k_ => some k_ ≠ ((.slice Ao31 t554.length co31) : Value).ownBlock ∧ some k_ ≠ ((.slice Ao33 t557.length co33) : Value).ownBlock ∧ some k_ ≠ (v563 : Value).ownBlock ∧ some k_ ≠ (v567 : Value).ownBlock ∧ some k_ ≠ (v571 : Value).ownBlock ∧ some k_ ≠ (v574 : Value).ownBlock ∧ some k_ ≠ (v578 : Value).ownBlock ∧ some k_ ≠ (v582 : Value).ownBlock ∧ some k_ ≠ (v586 : Value).ownBlock ∧ some k_ ≠ (v592 : Value).ownBlock ∧ some k_ ≠ (v596 : Value).ownBlock ∧ some k_ ≠ (v600 : Value).ownBlock ∧ some k_ ≠ (v607 : Value).ownBlock ∧ some k_ ≠ (v611 : Value).ownBlock ∧ some k_ ≠ (v615 : Value).ownBlock) v603 t602) ∧ Aside0 (Kd.R (Kd.int .u8) 5 wc w.heap.size (fun k_ => some k_ ≠ ((.slice Ao31 t554.length co31) : Value).ownBlock ∧ some k_ ≠ ((.slice Ao33 t557.length co33) : Value).ownBlock ∧ some k_ ≠ (v563 : Value).ownBlock ∧ some k_ ≠ (v567 : Value).ownBlock ∧ some k_ ≠ (v571 : Value).ownBlock ∧ some k_ ≠ (v574 : Value).ownBlock ∧ some k_ ≠ (v578 : Value).ownBlock ∧ some k_ ≠ (v582 : Value).ownBlock ∧ some k_ ≠ (v586 : Value).ownBlock ∧ some k_ ≠ (v592 : Value).ownBlock ∧ some k_ ≠ (v596 : Value).ownBlock ∧ some k_ ≠ (v600 : Value).ownBlock ∧ some k_ ≠ (v603 : Value).ownBlock ∧ some k_ ≠ (v611 : Value).ownBlock ∧ some k_ ≠ (v615 : Value).ownBlock) v607 t606) ∧ Aside0 (Kd.R (Kd.int .u8) 5 wc w.heap.size (fun k_ => some k_ ≠ ((.slice Ao31 t554.length co31) : Value).ownBlock ∧ some k_ ≠ ((.slice Ao33 t557.length co33) : Value).ownBlock ∧ some k_ ≠ (v563 : Value).ownBlock ∧ some k_ ≠ (v567 : Value).ownBlock ∧ some k_ ≠ (v571 : Value).ownBlock ∧ some k_ ≠ (v574 : Value).ownBlock ∧ some k_ ≠ (v578 : Value).ownBlock ∧ some k_ ≠ (v582 : Value).ownBlock ∧ some k_ ≠ (v586 : Value).ownBlock ∧ some k_ ≠ (v592 : Value).ownBlock ∧ some k_ ≠ (v596 : Value).ownBlock ∧ some k_ ≠ (v600 : Value).ownBlock ∧ some k_ ≠ (v603 : Value).ownBlock ∧ some k_ ≠ (v607 : Value).ownBlock ∧ some k_ ≠ (v615 : Value).ownBlock) v611 t610) ∧ Aside0 (Kd.R (Kd.int .u8) 5 wc w.heap.size (fun k_ => some k_ ≠ ((.slice Ao31 t554.length co31) : Value).ownBlock ∧ some k_ ≠ ((.slice Ao33 t557.length co33) : Value).ownBlock ∧ some k_ ≠ (v563 : Value).ownBlock ∧ some k_ ≠ (v567 : Value).ownBlock ∧ some k_ ≠ (v571 : Value).ownBlock ∧ some k_ ≠ (v574 : Value).ownBlock ∧ some k_ ≠ (v578 : Value).ownBlock ∧ some k_ ≠ (v582 : Value).ownBlock ∧ some k_ ≠ (v586 : Value).ownBlock ∧ some k_ ≠ (v592 : Value).ownBlock ∧ some k_ ≠ (v596 : Value).ownBlock ∧ some k_ ≠ (v600 : Value).ownBlock ∧ some k_ ≠ (v603 : Value).ownBlock ∧ some k_ ≠ (v607 : Value).ownBlock ∧ some k_ ≠ (v611 : Value).ownBlock) v615 t614) ∧ Aside0 (wc.heap[gb548]? = some (.cells #[.int .i64 a0_0, .int .u64 a0_1] 24 (0, 0))) ∧ Aside0 (Below w.heap.size w wc))
    case first =>
     have H := HC28.out
     clear HC28
     by_cases c54 : t560 = t589
     rotate_left
     ·rw [if_neg c54] at H
      exact l3_GaloisPolys.no_j1 HR9_.out H
     rw [if_pos c54] at H
     have c54b0 : (t560 == t589) = true := beq_iff_eq.mpr c54
     have c54b1 : (t560 != t589) = false := bne_eq_false_iff_eq.mpr c54
     clear c54
     (first | rw [c54b0] | (simp only [i64_w, i32_w]; rw [c54b0]) | rw [c54b1] | skip)
     replace H := Option.bind_eq_some_iff.mp H
     obtain ⟨t618, A550, H⟩ := H
     try dsimp only at H
     have A55 := Aside0.mk A550
     clear A550
     by_cases c56 : t618 = t590
     rotate_left
     ·rw [if_neg c56] at H
      exact l3_GaloisPolys.no_j1 HR9_.out H
     rw [if_pos c56] at H
     have c56b0 : (t618 == t590) = true := beq_iff_eq.mpr c56
     have c56b1 : (t618 != t590) = false := bne_eq_false_iff_eq.mpr c56
     clear c56
     replace H := Option.bind_eq_some_iff.mp H
     obtain ⟨t619, A570, H⟩ := H
     try dsimp only at H
     have A57 := Aside0.mk A570
     clear A570
     by_cases c58 : t619 = t594
     rotate_left
     ·rw [if_neg c58] at H
      exact l3_GaloisPolys.no_j1 HR9_.out H
     rw [if_pos c58] at H
     have c58b0 : (t619 == t594) = true := beq_iff_eq.mpr c58
     have c58b1 : (t619 != t594) = false := bne_eq_false_iff_eq.mpr c58
     clear c58
     replace H := Option.bind_eq_some_iff.mp H
     obtain ⟨t620, A590, H⟩ := H
     try dsimp only at H
     have A59 := Aside0.mk A590
     clear A590
     by_cases c60 : t620 = t594
     rotate_left
     ·rw [if_neg c60] at H
      exact l3_GaloisPolys.no_j1 HR9_.out H
     rw [if_pos c60] at H
     have c60b0 : (t620 == t594) = true := beq_iff_eq.mpr c60
     have c60b1 : (t620 != t594) = false := bne_eq_false_iff_eq.mpr c60
     clear c60
     replace H := Option.bind_eq_some_iff.mp H
     obtain ⟨t621, A610, H⟩ := H
     try dsimp only at H
     have A61 := Aside0.mk A610
     clear A610
     by_cases c62 : t621 = t605
     rotate_left
     ·rw [if_neg c62] at H
      exact l3_GaloisPolys.no_j1 HR9_.out H
     rw [if_pos c62] at H
     have c62b0 : (t621 == t605) = true := beq_iff_eq.mpr c62
     have c62b1 : (t621 != t605) = false := bne_eq_false_iff_eq.mpr c62
     clear c62
     replace H := Option.bind_eq_some_iff.mp H
     obtain ⟨t622, A630, H⟩ := H
     try dsimp only at H
     have A63 := Aside0.mk A630
     clear A630
     by_cases c64 : t622 = t594
     rotate_left
     ·rw [if_neg c64] at H
      exact l3_GaloisPolys.no_j1 HR9_.out H
     rw [if_pos c64] at H
     have c64b0 : (t622 == t594) = true := beq_iff_eq.mpr c64
     have c64b1 : (t622 != t594) = false := bne_eq_false_iff_eq.mpr c64
     clear c64
     replace H := Option.bind_eq_some_iff.mp H
     obtain ⟨t623, A650, H⟩ := H
     try dsimp only at H
     have A65 := Aside0.mk A650
     clear A650
     by_cases c66 : t623 = t613
     rotate_left
     ·rw [if_neg c66] at H
      exact l3_GaloisPolys.no_j1 HR9_.out H
     rw [if_pos c66] at H
     have c66b0 : (t623 == t613) = true := beq_iff_eq.mpr c66
     have c66b1 : (t623 != t613) = false := bne_eq_false_iff_eq.mpr c66
     clear c66
     replace H := Option.bind_eq_some_iff.mp H
     obtain ⟨t624, A670, H⟩ := H
     try dsimp only at H
     have A67 := Aside0.mk A670
     clear A670
     have H' := Aside0.mk H
     clear H
     go_wp2_with (first | (go_at_call 13; (with_reducible refine (l3_num.calls t561 t618 _ A55.out).mono ?_); rintro e w' ⟨rfl, ⟨nd, rfl⟩⟩) | (go_at_call 13; (with_reducible refine (l3_num.calls t565 t619 _ A57.out).mono ?_); rintro e w' ⟨rfl, ⟨nd, rfl⟩⟩) | (go_at_call 13; (with_reducible refine (l3_num.calls t569 t620 _ A59.out).mono ?_); rintro e w' ⟨rfl, ⟨nd, rfl⟩⟩) | (go_at_call 13; (with_reducible refine (l3_num.calls t576 t621 _ A61.out).mono ?_); rintro e w' ⟨rfl, ⟨nd, rfl⟩⟩) | (go_at_call 13; (with_reducible refine (l3_num.calls t580 t622 _ A63.out).mono ?_); rintro e w' ⟨rfl, ⟨nd, rfl⟩⟩) | (go_at_call 13; (with_reducible refine (l3_num.calls t584 t623 _ A65.out).mono ?_); rintro e w' ⟨rfl, ⟨nd, rfl⟩⟩) | (go_at_call 13; (with_reducible refine (l3_num.calls t588 t624 _ A67.out).mono ?_); rintro e w' ⟨rfl, ⟨nd, rfl⟩⟩))
     go_meet
     case rel => exact ⟨_, ((t624 != t617)), (by first | rfl | (simp; done) | (simp [*]; done) | (simp [wrap64]; done)), H', ⟨by have := HJ5.out; first | omega | exact Nat.le_refl _⟩, ⟨by (with_reducible repeat (first | apply Kd.L_alloc | apply Kd.L_drewN | apply Kd.L_drew)); exact Kd.L_mono HO556.out (fun _ hk => ⟨hk.1.1.1.1.1.1.1.1.1.1.1.1.1.1.2, ⟨hk.1.1.1.1.1.1.1.1.1.1.1.1.1.2, ⟨hk.1.1.1.1.1.1.1.1.1.1.1.1.2, ⟨hk.1.1.1.1.1.1.1.1.1.1.1.2, ⟨hk.1.1.1.1.1.1.1.1.1.1.2, ⟨hk.1.1.1.1.1.1.1.1.1.2, ⟨hk.1.1.1.1.1.1.1.1.2, ⟨hk.1.1.1.1.1.1.1.2, ⟨hk.1.1.1.1.1.1.2, ⟨hk.1.1.1.1.1.2, ⟨hk.1.1.1.1.2, ⟨hk.1.1.1.2, ⟨hk.1.1.2, ⟨hk.1.2, hk.2⟩⟩⟩⟩⟩⟩⟩⟩⟩⟩⟩⟩⟩⟩)⟩, ⟨by (with_reducible repeat (first | apply Kd.L_alloc | apply Kd.L_drewN | apply Kd.L_drew)); exact Kd.L_mono HO559.out (fun _ hk => ⟨hk.1.1.1.1.1.1.1.1.1.1.1.1.1.1.2, ⟨hk.1.1.1.1.1.1.1.1.1.1.1.1.1.2, ⟨hk.1.1.1.1.1.1.1.1.1.1.1.1.2, ⟨hk.1.1.1.1.1.1.1.1.1.1.1.2, ⟨hk.1.1.1.1.1.1.1.1.1.1.2, ⟨hk.1.1.1.1.1.1.1.1.1.2, ⟨hk.1.1.1.1.1.1.1.1.2, ⟨hk.1.1.1.1.1.1.1.2, ⟨hk.1.1.1.1.1.1.2, ⟨hk.1.1.1.1.1.2, ⟨hk.1.1.1.1.2, ⟨hk.1.1.1.2, ⟨hk.1.1.2, ⟨hk.1.2, hk.2⟩⟩⟩⟩⟩⟩⟩⟩⟩⟩⟩⟩⟩⟩)⟩, ⟨by (with_reducible repeat (first | apply Kd.R_alloc | apply Kd.R_drewN | apply Kd.R_drew)); exact Kd.R_mono HO564.out (fun _ hk => ⟨hk.1.1.1.1.1.1.1.1.1.1.1.1.1.1.2, ⟨hk.1.1.1.1.1.1.1.1.1.1.1.1.1.2, ⟨hk.1.1.1.1.1.1.1.1.1.1.1.1.2, ⟨hk.1.1.1.1.1.1.1.1.1.1.1.2, ⟨hk.1.1.1.1.1.1.1.1.1.1.2, ⟨hk.1.1.1.1.1.1.1.1.1.2, ⟨hk.1.1.1.1.1.1.1.1.2, ⟨hk.1.1.1.1.1.1.1.2, ⟨hk.1.1.1.1.1.1.2, ⟨hk.1.1.1.1.1.2, ⟨hk.1.1.1.1.2, ⟨hk.1.1.1.2, ⟨hk.1.1.2, ⟨hk.1.2, hk.2⟩⟩⟩⟩⟩⟩⟩⟩⟩⟩⟩⟩⟩⟩)⟩, ⟨by (with_reducible repeat (first | apply Kd.R_alloc | apply Kd.R_drewN | apply Kd.R_drew)); exact Kd.R_mono HO568.out (fun _ hk => ⟨hk.1.1.1.1.1.1.1.1.1.1.1.1.1.1.2, ⟨hk.1.1.1.1.1.1.1.1.1.1.1.1.1.2, ⟨hk.1.1.1.1.1.1.1.1.1.1.1.1.2, ⟨hk.1.1.1.1.1.1.1.1.1.1.1.2, ⟨hk.1.1.1.1.1.1.1.1.1.1.2, ⟨hk.1.1.1.1.1.1.1.1.1.2, ⟨hk.1.1.1.1.1.1.1.1.2, ⟨hk.1.1.1.1.1.1.1.2, ⟨hk.1.1.1.1.1.1.2, ⟨hk.1.1.1.1.1.2, ⟨hk.1.1.1.1.2, ⟨hk.1.1.1.2, ⟨hk.1.1.2, ⟨hk.1.2, hk.2⟩⟩⟩⟩⟩⟩⟩⟩⟩⟩⟩⟩⟩⟩)⟩, ⟨by (with_reducible repeat (first | apply Kd.R_alloc | apply Kd.R_drewN | apply Kd.R_drew)); exact Kd.R_mono HO572.out (fun _ hk => ⟨hk.1.1.1.1.1.1.1.1.1.1.1.1.1.2, ⟨hk.1.1.1.1.1.1.1.1.1.1.1.1.2, ⟨hk.1.1.1.1.1.1.1.1.1.1.1.2, ⟨hk.1.1.1.1.1.1.1.1.1.1.2, ⟨hk.1.1.1.1.1.1.1.1.1.1.1.1.1.1, ⟨hk.1.1.1.1.1.1.1.1.1.2, ⟨hk.1.1.1.1.1.1.1.1.2, ⟨hk.1.1.1.1.1.1.1.2, ⟨hk.1.1.1.1.1.1.2, ⟨hk.1.1.1.1.1.2, ⟨hk.1.1.1.1.2, ⟨hk.1.1.1.2, ⟨hk.1.1.2, ⟨hk.1.2, hk.2⟩⟩⟩⟩⟩⟩⟩⟩⟩⟩⟩⟩⟩⟩)⟩, ⟨by (with_reducible repeat (first | apply Kd.R_alloc | apply Kd.R_drewN | apply Kd.R_drew)); exact Kd.R_mono HO575.out (fun _ hk => ⟨hk.1.1.1.1.1.1.1.1.1.1.1.1.1.2, ⟨hk.1.1.1.1.1.1.1.1.1.1.1.1.2, ⟨hk.1.1.1.1.1.1.1.1.1.1.1.2, ⟨hk.1.1.1.1.1.1.1.1.1.1.2, ⟨hk.1.1.1.1.1.1.1.1.1.1.1.1.1.1, ⟨hk.1.1.1.1.1.1.1.1.1.2, ⟨hk.1.1.1.1.1.1.1.1.2, ⟨hk.1.1.1.1.1.1.1.2, ⟨hk.1.1.1.1.1.1.2, ⟨hk.1.1.1.1.1.2, ⟨hk.1.1.1.1.2, ⟨hk.1.1.1.2, ⟨hk.1.1.2, ⟨hk.1.2, hk.2⟩⟩⟩⟩⟩⟩⟩⟩⟩⟩⟩⟩⟩⟩)⟩, ⟨by (with_reducible repeat (first | apply Kd.R_alloc | apply Kd.R_drewN | apply Kd.R_drew)); exact Kd.R_mono HO579.out (fun _ hk => ⟨hk.1.1.1.1.1.1.1.1.1.1.1.1.1.1.2, ⟨hk.1.1.1.1.1.1.1.1.1.1.1.1.1.2, ⟨hk.1.1.1.1.1.1.1.1.1.1.1.1.2, ⟨hk.1.1.1.1.1.1.1.1.1.1.1.2, ⟨hk.1.1.1.1.1.1.1.1.1.1.2, ⟨hk.1.1.1.1.1.1.1.1.1.2, ⟨hk.1.1.1.1.1.1.1.1.2, ⟨hk.1.1.1.1.1.1.1.2, ⟨hk.1.1.1.1.1.1.2, ⟨hk.1.1.1.1.1.2, ⟨hk.1.1.1.1.2, ⟨hk.1.1.1.2, ⟨hk.1.1.2, ⟨hk.1.2, hk.2⟩⟩⟩⟩⟩⟩⟩⟩⟩⟩⟩⟩⟩⟩)⟩, ⟨by (with_reducible repeat (first | apply Kd.R_alloc | apply Kd.R_drewN | apply Kd.R_drew)); exact Kd.R_mono HO583.out (fun _ hk => ⟨hk.1.1.1.1.1.1.1.1.1.1.1.1.1.1.2, ⟨hk.1.1.1.1.1.1.1.1.1.1.1.1.1.2, ⟨hk.1.1.1.1.1.1.1.1.1.1.1.1.2, ⟨hk.1.1.1.1.1.1.1.1.1.1.1.2, ⟨hk.1.1.1.1.1.1.1.1.1.1.2, ⟨hk.1.1.1.1.1.1.1.1.1.2, ⟨hk.1.1.1.1.1.1.1.1.2, ⟨hk.1.1.1.1.1.1.1.2, ⟨hk.1.1.1.1.1.1.2, ⟨hk.1.1.1.1.1.2, ⟨hk.1.1.1.1.2, ⟨hk.1.1.1.2, ⟨hk.1.1.2, ⟨hk.1.2, hk.2⟩⟩⟩⟩⟩⟩⟩⟩⟩⟩⟩⟩⟩⟩)⟩, ⟨by (with_reducible repeat (first | apply Kd.R_alloc | apply Kd.R_drewN | apply Kd.R_drew)); exact Kd.R_mono HO587.out (fun _ hk => ⟨hk.1.1.1.1.1.1.1.1.1.1.1.1.1.1.2, ⟨hk.1.1.1.1.1.1.1.1.1.1.1.1.1.2, ⟨hk.1.1.1.1.1.1.1.1.1.1.1.1.2, ⟨hk.1.1.1.1.1.1.1.1.1.1.1.2, ⟨hk.1.1.1.1.1.1.1.1.1.1.2, ⟨hk.1.1.1.1.1.1.1.1.1.2, ⟨hk.1.1.1.1.1.1.1.1.2, ⟨hk.1.1.1.1.1.1.1.2, ⟨hk.1.1.1.1.1.1.2, ⟨hk.1.1.1.1.1.2, ⟨hk.1.1.1.1.2, ⟨hk.1.1.1.2, ⟨hk.1.1.2, ⟨hk.1.2, hk.2⟩⟩⟩⟩⟩⟩⟩⟩⟩⟩⟩⟩⟩⟩)⟩, ⟨by (with_reducible repeat (first | apply Kd.R_alloc | apply Kd.R_drewN | apply Kd.R_drew)); exact Kd.R_mono HO593.out (fun _ hk => ⟨hk.1.1.1.1.1.1.1.1.1.1.1.1.1.1.2, ⟨hk.1.1.1.1.1.1.1.1.1.1.1.1.1.2, ⟨hk.1.1.1.1.1.1.1.1.1.1.1.1.2, ⟨hk.1.1.1.1.1.1.1.1.1.1.1.2, ⟨hk.1.1.1.1.1.1.1.1.1.1.2, ⟨hk.1.1.1.1.1.1.1.1.1.2, ⟨hk.1.1.1.1.1.1.1.1.2, ⟨hk.1.1.1.1.1.1.1.2, ⟨hk.1.1.1.1.1.1.2, ⟨hk.1.1.1.1.1.2, ⟨hk.1.1.1.1.2, ⟨hk.1.1.1.2, ⟨hk.1.1.2, ⟨hk.1.2, hk.2⟩⟩⟩⟩⟩⟩⟩⟩⟩⟩⟩⟩⟩⟩)⟩, ⟨by (with_reducible repeat (first | apply Kd.R_alloc | apply Kd.R_drewN | apply Kd.R_drew)); exact Kd.R_mono HO597.out (fun _ hk => ⟨hk.1.1.1.1.1.1.1.1.1.1.1.1.1.1.2, ⟨hk.1.1.1.1.1.1.1.1.1.1.1.1.1.2, ⟨hk.1.1.1.1.1.1.1.1.1.1.1.1.2, ⟨hk.1.1.1.1.1.1.1.1.1.1.1.2, ⟨hk.1.1.1.1.1.1.1.1.1.1.2, ⟨hk.1.1.1.1.1.1.1.1.1.2, ⟨hk.1.1.1.1.1.1.1.1.2, ⟨hk.1.1.1.1.1.1.1.2, ⟨hk.1.1.1.1.1.1.2, ⟨hk.1.1.1.1.1.2, ⟨hk.1.1.1.1.2, ⟨hk.1.1.1.2, ⟨hk.1.1.2, ⟨hk.1.2, hk.2⟩⟩⟩⟩⟩⟩⟩⟩⟩⟩⟩⟩⟩⟩)⟩, ⟨by (with_reducible repeat (first | apply Kd.R_alloc | apply Kd.R_drewN | apply Kd.R_drew)); exact Kd.R_mono HO601.out (fun _ hk => ⟨hk.1.1.1.1.1.1.1.1.1.1.1.1.1.2, ⟨hk.1.1.1.1.1.1.1.1.1.1.1.1.2, ⟨hk.1.1.1.1.1.1.1.1.1.1.1.2, ⟨hk.1.1.1.1.1.1.1.1.1.1.2, ⟨hk.1.1.1.1.1.1.1.1.1.2, ⟨hk.1.1.1.1.1.1.1.1.2, ⟨hk.1.1.1.1.1.1.1.2, ⟨hk.1.1.1.1.1.1.2, ⟨hk.1.1.1.1.1.2, ⟨hk.1.1.1.1.2, ⟨hk.1.1.1.2, ⟨hk.1.1.1.1.1.1.1.1.1.1.1.1.1.1, ⟨hk.1.1.2, ⟨hk.1.2, hk.2⟩⟩⟩⟩⟩⟩⟩⟩⟩⟩⟩⟩⟩⟩)⟩, ⟨by (with_reducible repeat (first | apply Kd.R_alloc | apply Kd.R_drewN | apply Kd.R_drew)); exact Kd.R_mono HO604.out (fun _ hk => ⟨hk.1.1.1.1.1.1.1.1.1.1.1.1.1.2, ⟨hk.1.1.1.1.1.1.1.1.1.1.1.1.2, ⟨hk.1.1.1.1.1.1.1.1.1.1.1.2, ⟨hk.1.1.1.1.1.1.1.1.1.1.2, ⟨hk.1.1.1.1.1.1.1.1.1.2, ⟨hk.1.1.1.1.1.1.1.1.2, ⟨hk.1.1.1.1.1.1.1.2, ⟨hk.1.1.1.1.1.1.2, ⟨hk.1.1.1.1.1.2, ⟨hk.1.1.1.1.2, ⟨hk.1.1.1.2, ⟨hk.1.1.1.1.1.1.1.1.1.1.1.1.1.1, ⟨hk.1.1.2, ⟨hk.1.2, hk.2⟩⟩⟩⟩⟩⟩⟩⟩⟩⟩⟩⟩⟩⟩)⟩, ⟨by (with_reducible repeat (first | apply Kd.R_alloc | apply Kd.R_drewN | apply Kd.R_drew)); exact Kd.R_mono HO608.out (fun _ hk => ⟨hk.1.1.1.1.1.1.1.1.1.1.1.1.1.1.2, ⟨hk.1.1.1.1.1.1.1.1.1.1.1.1.1.2, ⟨hk.1.1.1.1.1.1.1.1.1.1.1.1.2, ⟨hk.1.1.1.1.1.1.1.1.1.1.1.2, ⟨hk.1.1.1.1.1.1.1.1.1.1.2, ⟨hk.1.1.1.1.1.1.1.1.1.2, ⟨hk.1.1.1.1.1.1.1.1.2, ⟨hk.1.1.1.1.1.1.1.2, ⟨hk.1.1.1.1.1.1.2, ⟨hk.1.1.1.1.1.2, ⟨hk.1.1.1.1.2, ⟨hk.1.1.1.2, ⟨hk.1.1.2, ⟨hk.1.2, hk.2⟩⟩⟩⟩⟩⟩⟩⟩⟩⟩⟩⟩⟩⟩)⟩, ⟨by (with_reducible repeat (first | apply Kd.R_alloc | apply Kd.R_drewN | apply Kd.R_drew)); exact Kd.R_mono HO612.out (fun _ hk => ⟨hk.1.1.1.1.1.1.1.1.1.1.1.1.1.1.2, ⟨hk.1.1.1.1.1.1.1.1.1.1.1.1.1.2, ⟨hk.1.1.1.1.1.1.1.1.1.1.1.1.2, ⟨hk.1.1.1.1.1.1.1.1.1.1.1.2, ⟨hk.1.1.1.1.1.1.1.1.1.1.2, ⟨hk.1.1.1.1.1.1.1.1.1.2, ⟨hk.1.1.1.1.1.1.1.1.2, ⟨hk.1.1.1.1.1.1.1.2, ⟨hk.1.1.1.1.1.1.2, ⟨hk.1.1.1.1.1.2, ⟨hk.1.1.1.1.2, ⟨hk.1.1.1.2, ⟨hk.1.1.2, ⟨hk.1.2, hk.2⟩⟩⟩⟩⟩⟩⟩⟩⟩⟩⟩⟩⟩⟩)⟩, ⟨by (with_reducible repeat (first | apply Kd.R_alloc | apply Kd.R_drewN | apply Kd.R_drew)); exact Kd.R_mono HO616.out (fun _ hk => ⟨hk.1.1.1.1.1.1.1.1.1.1.1.1.1.1.2, ⟨hk.1.1.1.1.1.1.1.1.1.1.1.1.1.2, ⟨hk.1.1.1.1.1.1.1.1.1.1.1.1.2, ⟨hk.1.1.1.1.1.1.1.1.1.1.1.2, ⟨hk.1.1.1.1.1.1.1.1.1.1.2, ⟨hk.1.1.1.1.1.1.1.1.1.2, ⟨hk.1.1.1.1.1.1.1.1.2, ⟨hk.1.1.1.1.1.1.1.2, ⟨hk.1.1.1.1.1.1.2, ⟨hk.1.1.1.1.1.2, ⟨hk.1.1.1.1.2, ⟨hk.1.1.1.2, ⟨hk.1.1.2, ⟨hk.1.2, hk.2⟩⟩⟩⟩⟩⟩⟩⟩⟩⟩⟩⟩⟩⟩)⟩, ⟨mvb BK548.out⟩, ⟨mvh HB.out⟩⟩
    case rest =>
     clear HC28
     (try clear c1); (try clear c2); (try clear p2); (try clear c3); (try clear c5); (try clear p5); (try clear c6); (try clear p6); (try clear c8); (try clear c9); (try clear c10); (try clear c11); (try clear c18); (try clear c19); (try clear c20); (try clear c21); (try clear c23); (try clear c24); (try clear c25)
     (try clear c26); (try clear c27); (try clear c28); (try clear c29); (try clear c30); (try clear c31); (try clear c32); (try clear c54); (try clear c54b0); (try clear c54b1); (try clear p55); (try clear c56); (try clear c56b0); (try clear c56b1); (try clear c58); (try clear c58b0); (try clear c58b1)
     (try clear c60); (try clear c60b0); (try clear c60b1); (try clear c62); (try clear c62b0); (try clear c62b1); (try clear c64); (try clear c64b0); (try clear c64b1); (try clear p64); (try clear c66); (try clear c66b0); (try clear c66b1); (try clear hcz40_0); (try clear hcz40_1); (try clear hcz42_0)
     (try clear hcz42_1); (try clear hcz44_0); (try clear hcz44_1); (try clear hcz46_0); (try clear hcz46_1); (try clear hcz48_0); (try clear hcz48_1); (try clear hcz50_0); (try clear hcz50_1); (try clear hcz52_0); (try clear hcz52_1); (try clear hcz8_0); (try clear hcz8_1); (try clear hfz40_0); (try clear hfz40_1)
     (try clear hfz42_0); (try clear hfz42_1); (try clear hfz44_0); (try clear hfz44_1); (try clear hfz46_0); (try clear hfz46_1); (try clear hfz48_0); (try clear hfz48_1); (try clear hfz50_0); (try clear hfz50_1); (try clear hfz52_0); (try clear hfz52_1); (try clear hfz8_0); (try clear hfz8_1); (try clear p2)
     (try clear p5); (try clear p6)
     obtain ⟨kq, x201_27, rfl, HA, HJ27, HO_12, HO_13, HO_16, HO_18, HO_20, HO_21, HO_23, HO_25, HO_27, HO_31, HO_33, HO_35, HO_36, HO_38, HO_40, HO_42, BK548, HB⟩ := hcut
     cases kq with
     | zero => exact absurd HA.out (by simp [l3_GaloisPolys.j1])
     | succ kj27 =>
      have H := HA.out
      clear HA
      simp only [l3_GaloisPolys.j1] at H
      by_cases c68 : x201_27 = true
      ·subst c68
       exact l3_GaloisPolys.no_false HR9_.out H
      ·replace c68 := Bool.eq_false_iff.mpr c68
       subst c68
       have H1 : ((l3_same.f t562 t591).bind fun t625 => (if t625 = true then ((l3_same.f t566 t595).bind fun t626 => (if t626 = true then ((l3_same.f t570 t599).bind fun t627 => (if t627 = true then ((l3_same.f t573 t602).bind fun t628 => (if t628 = true then ((l3_same.f t577 t606).bind fun t629 => (if t629 = true then ((l3_same.f t581 t610).bind fun t630 => (if t630 = true then ((l3_same.f t585 t614).bind fun t631 => (l3_GaloisPolys.j2 kj27 l1 l2 t554 t557 t562 t566 t570 t573 t577 t581 t585 (!t631))) else (l3_GaloisPolys.j2 kj27 l1 l2 t554 t557 t562 t566 t570 t573 t577 t581 t585 true))) else (l3_GaloisPolys.j2 kj27 l1 l2 t554 t557 t562 t566 t570 t573 t577 t581 t585 true))) else (l3_GaloisPolys.j2 kj27 l1 l2 t554 t557 t562 t566 t570 t573 t577 t581 t585 true))) else (l3_GaloisPolys.j2 kj27 l1 l2 t554 t557 t562 t566 t570 t573 t577 t581 t585 true))) else (l3_GaloisPolys.j2 kj27 l1 l2 t554 t557 t562 t566 t570 t573 t577 t581 t585 true))) else (l3_GaloisPolys.j2 kj27 l1 l2 t554 t557 t562 t566 t570 t573 t577 t581 t585 true))) = some r := by rw [if_neg (show ¬ (false = true) by decide)] at H; exact H
       clear H
       have H := H1
       clear H1
       have HC69 := Aside0.mk H
       clear H
       go_upto_region 22 with (fail)
       go_cut [241] (fun v241 wc => ∃ (kq : Nat) (x241_68 : Bool), v241 = .bool x241_68 ∧ Aside0 (l3_GaloisPolys.j2 kq l1 l2 t554 t557 t562 t566 t570 t573 t577 t581 t585 x241_68 = some r) ∧ Aside0 (kq ≤ kj27) ∧ Aside0 (Kd.L (Kd.int .u8) 5 wc w.heap.size (fun k_ => some k_ ≠ ((.slice Ao33 t557.length co33) : Value).ownBlock ∧ some k_ ≠ (v563 : Value).ownBlock ∧ some k_ ≠ (v567 : Value).ownBlock ∧ some k_ ≠ (v571 : Value).ownBlock ∧ some k_ ≠ (v574 : Value).ownBlock ∧ some k_ ≠ (v578 : Value).ownBlock ∧ some k_ ≠ (v582 : Value).ownBlock ∧ some k_ ≠ (v586 : Value).ownBlock) (.slice Ao31 t554.length co31) t554) ∧ Aside0 (Kd.L (Kd.int .u8) 5 wc w.heap.size (fun k_ => some k_ ≠ ((.slice Ao31 t554.length co31) : Value).ownBlock ∧ some k_ ≠ (v563 : Value).ownBlock ∧ some k_ ≠ (v567 : Value).ownBlock ∧ some k_ ≠ (v571 : Value).ownBlock ∧ some k_ ≠ (v574 : Value).ownBlock ∧ some k_ ≠ (v578 : Value).ownBlock ∧ some k_ ≠ (v582 : Value).ownBlock ∧ some k_ ≠ (v586 : Value).ownBlock) (.slice Ao33 t557.length co33) t557) ∧ Aside0 (Kd.R (Kd.int .u8) 5 wc w.heap.size (fun k_ => some k_ ≠ ((.slice Ao31 t554.length co31) : Value).ownBlock ∧ some k_ ≠ ((.slice Ao33 t557.length co33) : Value).ownBlock ∧ some k_ ≠ (v567 : Value).ownBlock ∧ some k_ ≠ (v571 : Value).ownBlock ∧ some k_ ≠ (v574 : Value).ownBlock ∧ some k_ ≠ (v578 : Value).ownBlock ∧ some k_ ≠ (v582 : Value).ownBlock ∧ some k_ ≠ (v586 : Value).ownBlock) v563 t562) ∧ Aside0 (Kd.R (Kd.int .u8) 5 wc w.heap.size (fun k_ => some k_ ≠ ((.slice Ao31 t554.length co31) : Value).ownBlock ∧ some k_ ≠ ((.slice Ao33 t557.length co33) : Value).ownBlock ∧ some k_ ≠ (v563 : Value).ownBlock ∧ some k_ ≠ (v571 : Value).ownBlock ∧ some k_ ≠ (v574 : Value).ownBlock ∧ some k_ ≠ (v578 : Value).ownBlock ∧ some k_ ≠ (v582 : Value).ownBlock ∧ some k_ ≠ (v586 : Value).ownBlock) v567 t566) ∧ Aside0 (Kd.R (Kd.int .u8) 5 wc w.heap.size (fun k_ => some k_ ≠ ((.slice Ao31 t554.length co31) : Value).ownBlock ∧ some k_ ≠ ((.slice Ao33 t557.length co33) : Value).ownBlock ∧ some k_ ≠ (v563 : Value).ownBlock ∧ some k_ ≠ (v567 : Value).ownBlock ∧ some k_ ≠ (v574 : Value).ownBlock ∧ some k_ ≠ (v578 : Value).ownBlock ∧ some k_ ≠ (v582 : Value).ownBlock ∧ some k_ ≠ (v586 : Value).ownBlock) v571 t570) ∧ Aside0 (Kd.R (Kd.int .u8) 5 wc w.heap.size (fun k_ => some k_ ≠ ((.slice Ao31 t554.length co31) : Value).ownBlock ∧ some k_ ≠ ((.slice Ao33 t557.length co33) : Value).ownBlock ∧ some k_ ≠ (v563 : Value).ownBlock ∧ some k_ ≠ (v567 : Value).ownBlock ∧ some k_ ≠ (v571 : Value).ownBlock ∧ some k_ ≠ (v578 : Value).ownBlock ∧ some k_ ≠ (v582 : Value).ownBlock ∧ some k_ ≠ (v586 : Value).ownBlock) v574 t573) ∧ Aside0 (Kd.R (Kd.int .u8) 5 wc w.heap.size (fun k_ => some k_ ≠ ((.slice Ao31 t554.length co31) : Value).ownBlock ∧ some k_ ≠ ((.slice Ao33 t557.length co33) : Value).ownBlock ∧ some k_ ≠ (v563 : Value).ownBlock ∧ some k_ ≠ (v567 : Value).ownBlock ∧ some k_ ≠ (v571 : Value).ownBlock ∧ some k_ ≠ (v574 : Value).ownBlock ∧ some k_ ≠ (v582 : Value).ownBlock ∧ some k_ ≠ (v586 : Value).ownBlock) v578 t577) ∧ Aside0 (Kd.R (Kd.int .u8) 5 wc w.heap.size (fun k_ => some k_ ≠ ((.slice Ao31 t554.length co31) : Value).ownBlock ∧ some k_ ≠ ((.slice Ao33 t557.length co33) : Value).ownBlock ∧ some k_ ≠ (v563 : Value).ownBlock ∧ some k_ ≠ (v567 : Value).ownBlock ∧ some k_ ≠ (v571 : Value).ownBlock ∧ some k_ ≠ (v574 : Value).ownBlock ∧ some k_ ≠ (v578 : Value).ownBlock ∧ some k_ ≠ (v586 : Value).ownBlock) v582 t581) ∧ Aside0 (Kd.R (Kd.int .u8) 5 wc w.heap.size (fun k_ => some k_ ≠ ((.slice Ao31 t554.length co31) : Value).ownBlock ∧ some k_ ≠ ((.slice Ao33 t557.length co33) : Value).ownBlock ∧ some k_ ≠ (v563 : Value).ownBlock ∧ some k_ ≠ (v567 : Value).ownBlock ∧ some k_ ≠ (v571 : Value).ownBlock ∧ some k_ ≠ (v574 : Value).ownBlock ∧ some k_ ≠ (v578 : Value).ownBlock ∧ some k_ ≠ (v582 : Value).ownBlock) v586 t585) ∧ Aside0 (wc.heap[gb548]? = some (.cells #[.int .i64 a0_0, .int .u64 a0_1] 24 (0, 0))) ∧ Aside0 (Below w.heap.size w wc))
       case first =>
        have H := HC69.out
        clear HC69
        replace H := Option.bind_eq_some_iff.mp H
        obtain ⟨t625, A700, H⟩ := H
        try dsimp only at H
        have A70 := Aside0.mk A700
        clear A700
        by_cases c71 : t625 = true
        rotate_left
        ·replace c71 := Bool.eq_false_iff.mpr c71
         exact l3_GaloisPolys.no_j2 HR9_.out ((if_neg (c := t625 = true) (by rw [c71]; exact Bool.false_ne_true)).symm.trans H)
        subst c71
        have H1 : ((l3_same.f t566 t595).bind fun t626 => (if t626 = true then ((l3_same.f t570 t599).bind fun t627 => (if t627 = true then ((l3_same.f t573 t602).bind fun t628 => (if t628 = true then ((l3_same.f t577 t606).bind fun t629 => (if t629 = true then ((l3_same.f t581 t610).bind fun t630 => (if t630 = true then ((l3_same.f t585 t614).bind fun t631 => (l3_GaloisPolys.j2 kj27 l1 l2 t554 t557 t562 t566 t570 t573 t577 t581 t585 (!t631))) else (l3_GaloisPolys.j2 kj27 l1 l2 t554 t557 t562 t566 t570 t573 t577 t581 t585 true))) else (l3_GaloisPolys.j2 kj27 l1 l2 t554 t557 t562 t566 t570 t573 t577 t581 t585 true))) else (l3_GaloisPolys.j2 kj27 l1 l2 t554 t557 t562 t566 t570 t573 t577 t581 t585 true))) else (l3_GaloisPolys.j2 kj27 l1 l2 t554 t557 t562 t566 t570 t573 t577 t581 t585 true))) else (l3_GaloisPolys.j2 kj27 l1 l2 t554 t557 t562 t566 t570 t573 t577 t581 t585 true))) = some r := by rw [if_pos rfl] at H; exact H
        clear H
        have H := H1
        clear H1
        replace H := Option.bind_eq_some_iff.mp H
        obtain ⟨t626, A720, H⟩ := H
        try dsimp only at H
        have A72 := Aside0.mk A720
        clear A720
        by_cases c73 : t626 = true
        rotate_left
        ·replace c73 := Bool.eq_false_iff.mpr c73
         exact l3_GaloisPolys.no_j2 HR9_.out ((if_neg (c := t626 = true) (by rw [c73]; exact Bool.false_ne_true)).symm.trans H)
        subst c73
        have H1 : ((l3_same.f t570 t599).bind fun t627 => (if t627 = true then ((l3_same.f t573 t602).bind fun t628 => (if t628 = true then ((l3_same.f t577 t606).bind fun t629 => (if t629 = true then ((l3_same.f t581 t610).bind fun t630 => (if t630 = true then ((l3_same.f t585 t614).bind fun t631 => (l3_GaloisPolys.j2 kj27 l1 l2 t554 t557 t562 t566 t570 t573 t577 t581 t585 (!t631))) else (l3_GaloisPolys.j2 kj27 l1 l2 t554 t557 t562 t566 t570 t573 t577 t581 t585 true))) else (l3_GaloisPolys.j2 kj27 l1 l2 t554 t557 t562 t566 t570 t573 t577 t581 t585 true))) else (l3_GaloisPolys.j2 kj27 l1 l2 t554 t557 t562 t566 t570 t573 t577 t581 t585 true))) else (l3_GaloisPolys.j2 kj27 l1 l2 t554 t557 t562 t566 t570 t573 t577 t581 t585 true))) = some r := by rw [if_pos rfl] at H; exact H
        clear H
        have H := H1
        clear H1
        replace H := Option.bind_eq_some_iff.mp H
        obtain ⟨t627, A740, H⟩ := H
        try dsimp only at H
        have A74 := Aside0.mk A740
        clear A740
        by_cases c75 : t627 = true
        rotate_left
        ·replace c75 := Bool.eq_false_iff.mpr c75
         exact l3_GaloisPolys.no_j2 HR9_.out ((if_neg (c := t627 = true) (by rw [c75]; exact Bool.false_ne_true)).symm.trans H)
        subst c75
        have H1 : ((l3_same.f t573 t602).bind fun t628 => (if t628 = true then ((l3_same.f t577 t606).bind fun t629 => (if t629 = true then ((l3_same.f t581 t610).bind fun t630 => (if t630 = true then ((l3_same.f t585 t614).bind fun t631 => (l3_GaloisPolys.j2 kj27 l1 l2 t554 t557 t562 t566 t570 t573 t577 t581 t585 (!t631))) else (l3_GaloisPolys.j2 kj27 l1 l2 t554 t557 t562 t566 t570 t573 t577 t581 t585 true))) else (l3_GaloisPolys.j2 kj27 l1 l2 t554 t557 t562 t566 t570 t573 t577 t581 t585 true))) else (l3_GaloisPolys.j2 kj27 l1 l2 t554 t557 t562 t566 t570 t573 t577 t581 t585 true))) = some r := by rw [if_pos rfl] at H; exact H
        clear H
        have H := H1
        clear H1
        replace H := Option.bind_eq_some_iff.mp H
        obtain ⟨t628, A760, H⟩ := H
        try dsimp only at H
        have A76 := Aside0.mk A760
        clear A760
        by_cases c77 : t628 = true
        rotate_left
        ·replace c77 := Bool.eq_false_iff.mpr c77
         exact l3_GaloisPolys.no_j2 HR9_.out ((if_neg (c := t628 = true) (by rw [c77]; exact Bool.false_ne_true)).symm.trans H)
        subst c77
        have H1 : ((l3_same.f t577 t606).bind fun t629 => (if t629 = true then ((l3_same.f t581 t610).bind fun t630 => (if t630 = true then ((l3_same.f t585 t614).bind fun t631 => (l3_GaloisPolys.j2 kj27 l1 l2 t554 t557 t562 t566 t570 t573 t577 t581 t585 (!t631))) else (l3_GaloisPolys.j2 kj27 l1 l2 t554 t557 t562 t566 t570 t573 t577 t581 t585 true))) else (l3_GaloisPolys.j2 kj27 l1 l2 t554 t557 t562 t566 t570 t573 t577 t581 t585 true))) = some r := by rw [if_pos rfl] at H; exact H
        clear H
        have H := H1
        clear H1
        replace H := Option.bind_eq_some_iff.mp H
        obtain ⟨t629, A780, H⟩ := H
        try dsimp only at H
        have A78 := Aside0.mk A780
        clear A780
        by_cases c79 : t629 = true
        rotate_left
        ·replace c79 := Bool.eq_false_iff.mpr c79
         exact l3_GaloisPolys.no_j2 HR9_.out ((if_neg (c := t629 = true) (by rw [c79]; exact Bool.false_ne_true)).symm.trans H)
        subst c79
        have H1 : ((l3_same.f t581 t610).bind fun t630 => (if t630 = true then ((l3_same.f t585 t614).bind fun t631 => (l3_GaloisPolys.j2 kj27 l1 l2 t554 t557 t562 t566 t570 t573 t577 t581 t585 (!t631))) else (l3_GaloisPolys.j2 kj27 l1 l2 t554 t557 t562 t566 t570 t573 t577 t581 t585 true))) = some r := by rw [if_pos rfl] at H; exact H
        clear H
        have H := H1
        clear H1
        replace H := Option.bind_eq_some_iff.mp H
        obtain ⟨t630, A800, H⟩ := H
        try dsimp only at H
        have A80 := Aside0.mk A800
        clear A800
        by_cases c81 : t630 = true
        rotate_left
        ·replace c81 := Bool.eq_false_iff.mpr c81
         exact l3_GaloisPolys.no_j2 HR9_.out ((if_neg (c := t630 = true) (by rw [c81]; exact Bool.false_ne_true)).symm.trans H)
        subst c81
        have H1 : ((l3_same.f t585 t614).bind fun t631 => (l3_GaloisPolys.j2 kj27 l1 l2 t554 t557 t562 t566 t570 t573 t577 t581 t585 (!t631))) = some r := by rw [if_pos rfl] at H; exact H
        clear H
        have H := H1
        clear H1
        replace H := Option.bind_eq_some_iff.mp H
        obtain ⟨t631, A820, H⟩ := H
        try dsimp only at H
        have A82 := Aside0.mk A820
        clear A820
        have H' := Aside0.mk H
        clear H
        obtain ⟨Ao83, co83, eo83⟩ := Kd.R_slice HO_16.out
        subst eo83
        obtain ⟨Ao84, co84, eo84⟩ := Kd.R_slice HO_31.out
        subst eo84
        go_wp2_with (first | (go_at_call 12; (with_reducible refine (l3_same.calls _ _ t562 _ _ t591 true _ ?side1 ?side2 ?side3 ?side4 A70.out).mono ?_); (case side1 => exact mvC (Kd.R_reads' HO_16.out).2.2); (case side2 => exact (Kd.R_reads' HO_16.out).2.1); (case side3 => exact mvC (Kd.R_reads' HO_31.out).2.2); (case side4 => exact (Kd.R_reads' HO_31.out).2.1); rintro e w' ⟨rfl, ⟨nd, rfl⟩⟩; obtain ⟨Ao85, co85, eo85⟩ := Kd.R_slice HO_18.out; subst eo85; obtain ⟨Ao86, co86, eo86⟩ := Kd.R_slice HO_33.out; subst eo86) | (go_at_call 12; (with_reducible refine (l3_same.calls _ _ t566 _ _ t595 true _ ?side1 ?side2 ?side3 ?side4 A72.out).mono ?_); (case side1 => exact mvC (Kd.R_reads' HO_18.out).2.2); (case side2 => exact (Kd.R_reads' HO_18.out).2.1); (case side3 => exact mvC (Kd.R_reads' HO_33.out).2.2); (case side4 => exact (Kd.R_reads' HO_33.out).2.1); rintro e w' ⟨rfl, ⟨nd, rfl⟩⟩; obtain ⟨Ao87, co87, eo87⟩ := Kd.R_slice HO_20.out; subst eo87; obtain ⟨Ao88, co88, eo88⟩ := Kd.R_slice HO_35.out; subst eo88) | (go_at_call 12; (with_reducible refine (l3_same.calls _ _ t570 _ _ t599 true _ ?side1 ?side2 ?side3 ?side4 A74.out).mono ?_); (case side1 => exact mvC (Kd.R_reads' HO_20.out).2.2); (case side2 => exact (Kd.R_reads' HO_20.out).2.1); (case side3 => exact mvC (Kd.R_reads' HO_35.out).2.2); (case side4 => exact (Kd.R_reads' HO_35.out).2.1); rintro e w' ⟨rfl, ⟨nd, rfl⟩⟩; obtain ⟨Ao89, co89, eo89⟩ := Kd.R_slice HO_21.out; subst eo89; obtain ⟨Ao90, co90, eo90⟩ := Kd.R_slice HO_36.out; subst eo90) | (go_at_call 12; (with_reducible refine (l3_same.calls _ _ t573 _ _ t602 true _ ?side1 ?side2 ?side3 ?side4 A76.out).mono ?_); (case side1 => exact mvC (Kd.R_reads' HO_21.out).2.2); (case side2 => exact (Kd.R_reads' HO_21.out).2.1); (case side3 => exact mvC (Kd.R_reads' HO_36.out).2.2); (case side4 => exact (Kd.R_reads' HO_36.out).2.1); rintro e w' ⟨rfl, ⟨nd, rfl⟩⟩; obtain ⟨Ao91, co91, eo91⟩ := Kd.R_slice HO_23.out; subst eo91; obtain ⟨Ao92, co92, eo92⟩ := Kd.R_slice HO_38.out; subst eo92) | (go_at_call 12; (with_reducible refine (l3_same.calls _ _ t577 _ _ t606 true _ ?side1 ?side2 ?side3 ?side4 A78.out).mono ?_); (case side1 => exact mvC (Kd.R_reads' HO_23.out).2.2); (case side2 => exact (Kd.R_reads' HO_23.out).2.1); (case side3 => exact mvC (Kd.R_reads' HO_38.out).2.2); (case side4 => exact (Kd.R_reads' HO_38.out).2.1); rintro e w' ⟨rfl, ⟨nd, rfl⟩⟩; obtain ⟨Ao93, co93, eo93⟩ := Kd.R_slice HO_25.out; subst eo93; obtain ⟨Ao94, co94, eo94⟩ := Kd.R_slice HO_40.out; subst eo94) | (go_at_call 12; (with_reducible refine (l3_same.calls _ _ t581 _ _ t610 true _ ?side1 ?side2 ?side3 ?side4 A80.out).mono ?_); (case side1 => exact mvC (Kd.R_reads' HO_25.out).2.2); (case side2 => exact (Kd.R_reads' HO_25.out).2.1); (case side3 => exact mvC (Kd.R_reads' HO_40.out).2.2); (case side4 => exact (Kd.R_reads' HO_40.out).2.1); rintro e w' ⟨rfl, ⟨nd, rfl⟩⟩; obtain ⟨Ao95, co95, eo95⟩ := Kd.R_slice HO_27.out; subst eo95; obtain ⟨Ao96, co96, eo96⟩ := Kd.R_slice HO_42.out; subst eo96) | (go_at_call 12; (with_reducible refine (l3_same.calls _ _ t585 _ _ t614 t631 _ ?side1 ?side2 ?side3 ?side4 A82.out).mono ?_); (case side1 => exact mvC (Kd.R_reads' HO_27.out).2.2); (case side2 => exact (Kd.R_reads' HO_27.out).2.1); (case side3 => exact mvC (Kd.R_reads' HO_42.out).2.2); (case side4 => exact (Kd.R_reads' HO_42.out).2.1); rintro e w' ⟨rfl, ⟨nd, rfl⟩⟩))
        go_meet
        case rel => exact ⟨_, (!t631), (by first | rfl | (simp; done) | (simp [*]; done) | (simp [wrap64]; done)), H', ⟨by have := HJ5.out; have := HJ27.out; first | omega | exact Nat.le_refl _⟩, ⟨by (with_reducible repeat (first | apply Kd.L_alloc | apply Kd.L_drewN | apply Kd.L_drew)); exact Kd.L_mono HO_12.out (fun _ hk => ⟨hk.1, ⟨hk.2.1, ⟨hk.2.2.1, ⟨hk.2.2.2.1, ⟨hk.2.2.2.2.1, ⟨hk.2.2.2.2.2.1, ⟨hk.2.2.2.2.2.2.1, hk.2.2.2.2.2.2.2.1⟩⟩⟩⟩⟩⟩⟩)⟩, ⟨by (with_reducible repeat (first | apply Kd.L_alloc | apply Kd.L_drewN | apply Kd.L_drew)); exact Kd.L_mono HO_13.out (fun _ hk => ⟨hk.1, ⟨hk.2.1, ⟨hk.2.2.1, ⟨hk.2.2.2.1, ⟨hk.2.2.2.2.1, ⟨hk.2.2.2.2.2.1, ⟨hk.2.2.2.2.2.2.1, hk.2.2.2.2.2.2.2.1⟩⟩⟩⟩⟩⟩⟩)⟩, ⟨by (with_reducible repeat (first | apply Kd.R_alloc | apply Kd.R_drewN | apply Kd.R_drew)); exact Kd.R_mono HO_16.out (fun _ hk => ⟨hk.1, ⟨hk.2.1, ⟨hk.2.2.1, ⟨hk.2.2.2.1, ⟨hk.2.2.2.2.1, ⟨hk.2.2.2.2.2.1, ⟨hk.2.2.2.2.2.2.1, hk.2.2.2.2.2.2.2.1⟩⟩⟩⟩⟩⟩⟩)⟩, ⟨by (with_reducible repeat (first | apply Kd.R_alloc | apply Kd.R_drewN | apply Kd.R_drew)); exact Kd.R_mono HO_18.out (fun _ hk => ⟨hk.1, ⟨hk.2.1, ⟨hk.2.2.1, ⟨hk.2.2.2.1, ⟨hk.2.2.2.2.1, ⟨hk.2.2.2.2.2.1, ⟨hk.2.2.2.2.2.2.1, hk.2.2.2.2.2.2.2.1⟩⟩⟩⟩⟩⟩⟩)⟩, ⟨by (with_reducible repeat (first | apply Kd.R_alloc | apply Kd.R_drewN | apply Kd.R_drew)); exact Kd.R_mono HO_20.out (fun _ hk => ⟨hk.1, ⟨hk.2.1, ⟨hk.2.2.1, ⟨hk.2.2.2.1, ⟨hk.2.2.2.2.1, ⟨hk.2.2.2.2.2.1, ⟨hk.2.2.2.2.2.2.1, hk.2.2.2.2.2.2.2.1⟩⟩⟩⟩⟩⟩⟩)⟩, ⟨by (with_reducible repeat (first | apply Kd.R_alloc | apply Kd.R_drewN | apply Kd.R_drew)); exact Kd.R_mono HO_21.out (fun _ hk => ⟨hk.1, ⟨hk.2.1, ⟨hk.2.2.1, ⟨hk.2.2.2.1, ⟨hk.2.2.2.2.1, ⟨hk.2.2.2.2.2.1, ⟨hk.2.2.2.2.2.2.1, hk.2.2.2.2.2.2.2.1⟩⟩⟩⟩⟩⟩⟩)⟩, ⟨by (with_reducible repeat (first | apply Kd.R_alloc | apply Kd.R_drewN | apply Kd.R_drew)); exact Kd.R_mono HO_23.out (fun _ hk => ⟨hk.1, ⟨hk.2.1, ⟨hk.2.2.1, ⟨hk.2.2.2.1, ⟨hk.2.2.2.2.1, ⟨hk.2.2.2.2.2.1, ⟨hk.2.2.2.2.2.2.1, hk.2.2.2.2.2.2.2.1⟩⟩⟩⟩⟩⟩⟩)⟩, ⟨by (with_reducible repeat (first | apply Kd.R_alloc | apply Kd.R_drewN | apply Kd.R_drew)); exact Kd.R_mono HO_25.out (fun _ hk => ⟨hk.1, ⟨hk.2.1, ⟨hk.2.2.1, ⟨hk.2.2.2.1, ⟨hk.2.2.2.2.1, ⟨hk.2.2.2.2.2.1, ⟨hk.2.2.2.2.2.2.1, hk.2.2.2.2.2.2.2.1⟩⟩⟩⟩⟩⟩⟩)⟩, ⟨by (with_reducible repeat (first | apply Kd.R_alloc | apply Kd.R_drewN | apply Kd.R_drew)); exact Kd.R_mono HO_27.out (fun _ hk => ⟨hk.1, ⟨hk.2.1, ⟨hk.2.2.1, ⟨hk.2.2.2.1, ⟨hk.2.2.2.2.1, ⟨hk.2.2.2.2.2.1, ⟨hk.2.2.2.2.2.2.1, hk.2.2.2.2.2.2.2.1⟩⟩⟩⟩⟩⟩⟩)⟩, ⟨mvb BK548.out⟩, ⟨mvh HB.out⟩⟩
       case rest =>
        clear HC69
        (try clear c1); (try clear c2); (try clear p2); (try clear c3); (try clear c5); (try clear p5); (try clear c6); (try clear p6); (try clear c7); (try clear c8); (try clear c9); (try clear c10); (try clear c11); (try clear c12); (try clear c18); (try clear c19); (try clear c20); (try clear c21)
        (try clear c23); (try clear c24); (try clear c25); (try clear c26); (try clear c27); (try clear c28); (try clear c29); (try clear c30); (try clear c31); (try clear c32); (try clear c54); (try clear c54b0); (try clear c54b1); (try clear p55); (try clear c56); (try clear c56b0); (try clear c56b1)
        (try clear c58); (try clear c58b0); (try clear c58b1); (try clear c60); (try clear c60b0); (try clear c60b1); (try clear c62); (try clear c62b0); (try clear c62b1); (try clear c64); (try clear c64b0); (try clear c64b1); (try clear p64); (try clear c66); (try clear c66b0); (try clear c66b1); (try clear c68)
        (try clear c71); (try clear c73); (try clear c75); (try clear c77); (try clear c79); (try clear c81); (try clear hcz40_0); (try clear hcz40_1); (try clear hcz42_0); (try clear hcz42_1); (try clear hcz44_0); (try clear hcz44_1); (try clear hcz46_0); (try clear hcz46_1); (try clear hcz48_0); (try clear hcz48_1)
        (try clear hcz50_0); (try clear hcz50_1); (try clear hcz52_0); (try clear hcz52_1); (try clear hcz8_0); (try clear hcz8_1); (try clear hfz40_0); (try clear hfz40_1); (try clear hfz42_0); (try clear hfz42_1); (try clear hfz44_0); (try clear hfz44_1); (try clear hfz46_0); (try clear hfz46_1); (try clear hfz48_0)
        (try clear hfz48_1); (try clear hfz50_0); (try clear hfz50_1); (try clear hfz52_0); (try clear hfz52_1); (try clear hfz8_0); (try clear hfz8_1); (try clear p2); (try clear p5); (try clear p55); (try clear p6); (try clear p64)
        obtain ⟨kq, x241_68, rfl, HA, HJ68, HO_12, HO_13, HO_16, HO_18, HO_20, HO_21, HO_23, HO_25, HO_27, BK548, HB⟩ := hcut
        cases kq with
        | zero => exact absurd HA.out (by simp [l3_GaloisPolys.j2])
        | succ kj68 =>
         have H := HA.out
         clear HA
         simp only [l3_GaloisPolys.j2] at H
         by_cases c139 : x241_68 = true
         ·subst c139
          exact l3_GaloisPolys.no_false HR9_.out H
         ·replace c139 := Bool.eq_false_iff.mpr c139
          subst c139
          have H1 : ((l1_Stays.f t554 l1).bind fun t632 => (if t632 = true then ((l1_Stays.f t557 l2).bind fun t633 => (if t633 = true then ((l1_ApartBytes.f (([t562, t566, t570, t573, t577, t581, t585, t554, t557] : List (List Int)))).bind fun t637 => (some t637)) else (some false))) else (some false))) = some r := by rw [if_neg (show ¬ (false = true) by decide)] at H; exact H
          clear H
          have H := H1
          clear H1
          replace H := Option.bind_eq_some_iff.mp H
          obtain ⟨t632, A1400, H⟩ := H
          try dsimp only at H
          have A140 := Aside0.mk A1400
          clear A1400
          by_cases c141 : t632 = true
          rotate_left
          ·replace c141 := Bool.eq_false_iff.mpr c141
           exact l3_GaloisPolys.no_false HR9_.out ((if_neg (c := t632 = true) (by rw [c141]; exact Bool.false_ne_true)).symm.trans H)
          subst c141
          have H1 : ((l1_Stays.f t557 l2).bind fun t633 => (if t633 = true then ((l1_ApartBytes.f (([t562, t566, t570, t573, t577, t581, t585, t554, t557] : List (List Int)))).bind fun t637 => (some t637)) else (some false))) = some r := by rw [if_pos rfl] at H; exact H
          clear H
          have H := H1
          clear H1
          replace H := Option.bind_eq_some_iff.mp H
          obtain ⟨t633, A1420, H⟩ := H
          try dsimp only at H
          have A142 := Aside0.mk A1420
          clear A1420
          by_cases c143 : t633 = true
          rotate_left
          ·replace c143 := Bool.eq_false_iff.mpr c143
           exact l3_GaloisPolys.no_false HR9_.out ((if_neg (c := t633 = true) (by rw [c143]; exact Bool.false_ne_true)).symm.trans H)
          subst c143
          have H1 : ((l1_ApartBytes.f (([t562, t566, t570, t573, t577, t581, t585, t554, t557] : List (List Int)))).bind fun t637 => (some t637)) = some r := by rw [if_pos rfl] at H; exact H
          clear H
          have H := H1
          clear H1
          obtain ⟨y634, hy634⟩ : ∃ y_ : List (List Int), y_ = (([t562, t566, t570, t573, t577, t581, t585, t554, t557] : List (List Int))) := ⟨_, rfl⟩
          replace H : ((l1_ApartBytes.f y634).bind fun t637 => (some t637)) = some r := by rw [hy634]; exact H
          have Ny634 := Aside0.mk hy634
          clear hy634
          replace H := Option.bind_eq_some_iff.mp H
          obtain ⟨t637, A1440, H⟩ := H
          replace H : (some t637) = some r := H
          have A144 := Aside0.mk A1440
          clear A1440
          obtain rfl := Option.some.inj H
          go_wp2_with (first | (go_at_call 14; (with_reducible refine (l1_Stays.calls _ _ t554 _ _ l1 true _ ?side1 ?side2 ?side3 ?side4 A140.out).mono ?_); (case side1 => exact Kd.L_any (d := Kd.int .u8) (mvL HO_12.out)); (case side2 => exact (Kd.L_reads' HO_12.out).2.1); (case side3 => exact Kd.C_below HR1.out (mvh HB.out)); (case side4 => exact HC1.out); rintro e w' ⟨rfl, ⟨nd, rfl⟩⟩) | (go_at_call 14; (with_reducible refine (l1_Stays.calls _ _ t557 _ _ l2 true _ ?side1 ?side2 ?side3 ?side4 A142.out).mono ?_); (case side1 => exact Kd.L_any (d := Kd.int .u8) (mvL HO_13.out)); (case side2 => exact (Kd.L_reads' HO_13.out).2.1); (case side3 => exact Kd.C_below HR2.out (mvh HB.out)); (case side4 => exact HC2.out); rintro e w' ⟨rfl, ⟨nd, rfl⟩⟩; obtain ⟨Ao145, co145, eo145⟩ := Kd.R_slice HO_16.out; subst eo145; obtain ⟨Ao146, co146, eo146⟩ := Kd.R_slice HO_18.out; subst eo146; obtain ⟨Ao147, co147, eo147⟩ := Kd.R_slice HO_20.out; subst eo147; obtain ⟨Ao148, co148, eo148⟩ := Kd.R_slice HO_21.out; subst eo148; obtain ⟨Ao149, co149, eo149⟩ := Kd.R_slice HO_23.out; subst eo149; obtain ⟨Ao150, co150, eo150⟩ := Kd.R_slice HO_25.out; subst eo150; obtain ⟨Ao151, co151, eo151⟩ := Kd.R_slice HO_27.out; subst eo151) | (go_at_call 15; obtain ⟨rfl, hz_⟩ := l1_ApartBytes.says A144.out; have ra0_ : Ap.Rw wc w.heap.size 5 [] (fun _ => []) := Ap.Rw.nil _ _ _ _; have ra1_ := Ap.Rw.cons ra0_ (Kd.own_of_R HO_16.out) (fun v hv => by simp at hv); have ra2_ := Ap.Rw.cons ra1_ (Kd.own_of_R HO_18.out) (fun v hv => by simp only [List.nil_append, List.cons_append, List.mem_cons, List.not_mem_nil, or_false] at hv; subst hv; exact Ap.apart_symm (Ap.apart_of (HO_18.out.1) (fun k hk => hk.2.2.1))); have ra3_ := Ap.Rw.cons ra2_ (Kd.own_of_R HO_20.out) (fun v hv => by simp only [List.nil_append, List.cons_append, List.mem_cons, List.not_mem_nil, or_false] at hv; rcases hv with rfl | rfl; (next => exact Ap.apart_symm (Ap.apart_of (HO_20.out.1) (fun k hk => hk.2.2.1))); (next => exact Ap.apart_symm (Ap.apart_of (HO_20.out.1) (fun k hk => hk.2.2.2.1)))); have ra4_ := Ap.Rw.cons ra3_ (Kd.own_of_R HO_21.out) (fun v hv => by simp only [List.nil_append, List.cons_append, List.mem_cons, List.not_mem_nil, or_false] at hv; rcases hv with rfl | rfl | rfl; (next => exact Ap.apart_symm (Ap.apart_of (HO_21.out.1) (fun k hk => hk.2.2.1))); (next => exact Ap.apart_symm (Ap.apart_of (HO_21.out.1) (fun k hk => hk.2.2.2.1))); (next => exact Ap.apart_symm (Ap.apart_of (HO_21.out.1) (fun k hk => hk.2.2.2.2.1)))); have ra5_ := Ap.Rw.cons ra4_ (Kd.own_of_R HO_23.out) (fun v hv => by simp only [List.nil_append, List.cons_append, List.mem_cons, List.not_mem_nil, or_false] at hv; rcases hv with rfl | rfl | rfl | rfl; (next => exact Ap.apart_symm (Ap.apart_of (HO_23.out.1) (fun k hk => hk.2.2.1))); (next => exact Ap.apart_symm (Ap.apart_of (HO_23.out.1) (fun k hk => hk.2.2.2.1))); (next => exact Ap.apart_symm (Ap.apart_of (HO_23.out.1) (fun k hk => hk.2.2.2.2.1))); (next => exact Ap.apart_symm (Ap.apart_of (HO_23.out.1) (fun k hk => hk.2.2.2.2.2.1)))); have ra6_ := Ap.Rw.cons ra5_ (Kd.own_of_R HO_25.out) (fun v hv => by simp only [List.nil_append, List.cons_append, List.mem_cons, List.not_mem_nil, or_false] at hv; rcases hv with rfl | rfl | rfl | rfl | rfl; (next => exact Ap.apart_symm (Ap.apart_of (HO_25.out.1) (fun k hk => hk.2.2.1))); (next => exact Ap.apart_symm (Ap.apart_of (HO_25.out.1) (fun k hk => hk.2.2.2.1))); (next => exact Ap.apart_symm (Ap.apart_of (HO_25.out.1) (fun k hk => hk.2.2.2.2.1))); (next => exact Ap.apart_symm (Ap.apart_of (HO_25.out.1) (fun k hk => hk.2.2.2.2.2.1))); (next => exact Ap.apart_symm (Ap.apart_of (HO_25.out.1) (fun k hk => hk.2.2.2.2.2.2.1)))); have ra7_ := Ap.Rw.cons ra6_ (Kd.own_of_R HO_27.out) (fun v hv => by simp only [List.nil_append, List.cons_append, List.mem_cons, List.not_mem_nil, or_false] at hv; rcases hv with rfl | rfl | rfl | rfl | rfl | rfl; (next => exact Ap.apart_symm (Ap.apart_of (HO_27.out.1) (fun k hk => hk.2.2.1))); (next => exact Ap.apart_symm (Ap.apart_of (HO_27.out.1) (fun k hk => hk.2.2.2.1))); (next => exact Ap.apart_symm (Ap.apart_of (HO_27.out.1) (fun k hk => hk.2.2.2.2.1))); (next => exact Ap.apart_symm (Ap.apart_of (HO_27.out.1) (fun k hk => hk.2.2.2.2.2.1))); (next => exact Ap.apart_symm (Ap.apart_of (HO_27.out.1) (fun k hk => hk.2.2.2.2.2.2.1))); (next => exact Ap.apart_symm (Ap.apart_of (HO_27.out.1) (fun k hk => hk.2.2.2.2.2.2.2)))); have ra8_ := Ap.Rw.cons ra7_ (Kd.own_of_R (Kd.L_R HO_12.out)) (fun v hv => by simp only [List.nil_append, List.cons_append, List.mem_cons, List.not_mem_nil, or_false] at hv; rcases hv with rfl | rfl | rfl | rfl | rfl | rfl | rfl; (next => exact Ap.apart_symm (Ap.apart_of ((Kd.L_R HO_12.out).1) (fun k hk => hk.2.1))); (next => exact Ap.apart_symm (Ap.apart_of ((Kd.L_R HO_12.out).1) (fun k hk => hk.2.2.1))); (next => exact Ap.apart_symm (Ap.apart_of ((Kd.L_R HO_12.out).1) (fun k hk => hk.2.2.2.1))); (next => exact Ap.apart_symm (Ap.apart_of ((Kd.L_R HO_12.out).1) (fun k hk => hk.2.2.2.2.1))); (next => exact Ap.apart_symm (Ap.apart_of ((Kd.L_R HO_12.out).1) (fun k hk => hk.2.2.2.2.2.1))); (next => exact Ap.apart_symm (Ap.apart_of ((Kd.L_R HO_12.out).1) (fun k hk => hk.2.2.2.2.2.2.1))); (next => exact Ap.apart_symm (Ap.apart_of ((Kd.L_R HO_12.out).1) (fun k hk => hk.2.2.2.2.2.2.2)))); have ra9_ := Ap.Rw.cons ra8_ (Kd.own_of_R (Kd.L_R HO_13.out)) (fun v hv => by simp only [List.nil_append, List.cons_append, List.mem_cons, List.not_mem_nil, or_false] at hv; rcases hv with rfl | rfl | rfl | rfl | rfl | rfl | rfl | rfl; (next => exact Ap.apart_symm (Ap.apart_of ((Kd.L_R HO_13.out).1) (fun k hk => hk.2.1))); (next => exact Ap.apart_symm (Ap.apart_of ((Kd.L_R HO_13.out).1) (fun k hk => hk.2.2.1))); (next => exact Ap.apart_symm (Ap.apart_of ((Kd.L_R HO_13.out).1) (fun k hk => hk.2.2.2.1))); (next => exact Ap.apart_symm (Ap.apart_of ((Kd.L_R HO_13.out).1) (fun k hk => hk.2.2.2.2.1))); (next => exact Ap.apart_symm (Ap.apart_of ((Kd.L_R HO_13.out).1) (fun k hk => hk.2.2.2.2.2.1))); (next => exact Ap.apart_symm (Ap.apart_of ((Kd.L_R HO_13.out).1) (fun k hk => hk.2.2.2.2.2.2.1))); (next => exact Ap.apart_symm (Ap.apart_of ((Kd.L_R HO_13.out).1) (fun k hk => hk.2.2.2.2.2.2.2))); (next => exact Ap.apart_symm (Ap.apart_of ((Kd.L_R HO_13.out).1) (fun k hk => hk.1)))); have RA : Aside0 (Ap.Rw wc w.heap.size 5 [.slice Ao145 t562.length co145, .slice Ao146 t566.length co146, .slice Ao147 t570.length co147, .slice Ao148 t573.length co148, .slice Ao149 t577.length co149, .slice Ao150 t581.length co150, .slice Ao151 t585.length co151, .slice Ao31 t554.length co31, .slice Ao33 t557.length co33] (Ap.push (Ap.push (Ap.push (Ap.push (Ap.push (Ap.push (Ap.push (Ap.push (Ap.push (fun _ => []) 0 t562) 1 t566) 2 t570) 3 t573) 4 t577) 5 t581) 6 t585) 7 t554) 8 t557)) := ⟨ra9_⟩; clear ra0_ ra1_ ra2_ ra3_ ra4_ ra5_ ra6_ ra7_ ra8_ ra9_; refine (l1_ApartBytes.calls _ w.heap.size _ _ [.slice Ao145 t562.length co145, .slice Ao146 t566.length co146, .slice Ao147 t570.length co147, .slice Ao148 t573.length co148, .slice Ao149 t577.length co149, .slice Ao150 t581.length co150, .slice Ao151 t585.length co151, .slice Ao31 t554.length co31, .slice Ao33 t557.length co33] (Ap.push (Ap.push (Ap.push (Ap.push (Ap.push (Ap.push (Ap.push (Ap.push (Ap.push (fun _ => []) 0 t562) 1 t566) 2 t570) 3 t573) 4 t577) 5 t581) 6 t585) 7 t554) 8 t557) ?side1 ?side2 ?side3 ?side4 ?side5).mono ?_; (case side1 => exact Ap.lit_st (Ap.Rw.below RA.out (by repeat (first | exact Below.refl _ _ | apply pw_below_drewN | apply below_drew1))) (below_size (mvh HB.out)) (show (9 : Nat) ≤ maxLen by decide) (by decide)); (case side2 => simp); (case side3 => exact below_size (mvh HB.out)); (case side4 => exact (show (9 : Nat) ≤ 4611686018427387000 by decide)); (case side5 => exact (Ap.push_le (Ap.push_le (Ap.push_le (Ap.push_le (Ap.push_le (Ap.push_le (Ap.push_le (Ap.push_le (Ap.push_le (fun _ => Nat.zero_le _) (hz_ t562 (by rw [Ny634.out]; simp))) (hz_ t566 (by rw [Ny634.out]; simp))) (hz_ t570 (by rw [Ny634.out]; simp))) (hz_ t573 (by rw [Ny634.out]; simp))) (hz_ t577 (by rw [Ny634.out]; simp))) (hz_ t581 (by rw [Ny634.out]; simp))) (hz_ t585 (by rw [Ny634.out]; simp))) (hz_ t554 (by rw [Ny634.out]; simp))) (hz_ t557 (by rw [Ny634.out]; simp)))); rintro e w36 ⟨rfl, hb⟩; have n0_ := aK (((mvh HB.out) : Below w.heap.size w _).trans hb); clear HB hb; have HB := n0_; clear n0_))
          go_ret
          exact ⟨by first | rfl | (simp [errW_none, errW_some] <;> rfl) | (simp [*, errW_none, errW_some] <;> rfl), below_step HB00.out (mvh HB.out)⟩
/-- THE ONE PURE STATEMENT of l3_GaloisPolys: yours. -/
def l3_GaloisPolys.Pure : Prop := ∀ (a0_0 : Int) (a0_1 : Int) (l1 : List Int) (l2 : List Int) (a3 : Int), (Lit.int .i64 a0_0).wf = true → (Lit.int .u64 a0_1).wf = true → l1.length ≤ maxLen → l1.length * 1 ≤ 140737488351232 → (∀ x ∈ l1, (Lit.int .u8 x).wf = true) → l2.length ≤ maxLen → l2.length * 1 ≤ 140737488351232 → (∀ x ∈ l2, (Lit.int .u8 x).wf = true) → (Lit.int .u8 a3).wf = true → ∃ k, l3_GaloisPolys.f k a0_0 a0_1 l1 l2 a3 = some true
theorem l3_GaloisPolys.walk (P : l3_GaloisPolys.Pure) (a0_0 : Int) (a0_1 : Int) (a1 : Option Addr) (len1 cap1 : Nat) (z1 : List Int) (a2 : Option Addr) (len2 cap2 : Nat) (z2 : List Int) (a3 : Int) (w : World) (w0_0 : (Lit.int .i64 a0_0).wf = true) (w0_1 : (Lit.int .u64 a0_1).wf = true) (w1 : (a1 = none ∧ len1 = 0 ∧ cap1 = 0 ∧ z1 = []) ∨ ∃ x, a1 = some x ∧ len1 ≤ cap1 ∧ cap1 ≤ maxLen ∧ z1.length = cap1 ∧ (∀ i, i < z1.length → w.cell? (x.add i) = some (.int .u8 (z1.getD i 0))) ∧ ∀ n ∈ z1, (Lit.int .u8 n).wf = true) (y1 : len1 * 1 ≤ 140737488351232) (w2 : (a2 = none ∧ len2 = 0 ∧ cap2 = 0 ∧ z2 = []) ∨ ∃ x, a2 = some x ∧ len2 ≤ cap2 ∧ cap2 ≤ maxLen ∧ z2.length = cap2 ∧ (∀ i, i < z2.length → w.cell? (x.add i) = some (.int .u8 (z2.getD i 0))) ∧ ∀ n ∈ z2, (Lit.int .u8 n).wf = true) (y2 : len2 * 1 ≤ 140737488351232) (w3 : (Lit.int .u8 a3).wf = true) :
  Calls Try.prog 5 #[.agg #[.int .i64 a0_0, .int .u64 a0_1], .slice a1 len1 cap1, .slice a2 len2 cap2, .int .u8 a3] w fun e w' => e = .returned (.bool true) ∧ Below w.heap.size w w' := by
 obtain ⟨l1, rfl, hr1, hm1, hw1, hc1⟩ := ReadsInt.ofRowC w1
 obtain ⟨l2, rfl, hr2, hm2, hw2, hc2⟩ := ReadsInt.ofRowC w2
 obtain ⟨k, h⟩ := P a0_0 a0_1 l1 l2 a3 w0_0 w0_1 hm1 y1 hw1 hm2 y2 hw2 w3
 refine (l3_GaloisPolys.calls k a0_0 a0_1 _ _ l1 _ _ l2 a3 true rfl w (Kd.C_of_reads (d := (0 : Int)) (h1 := fun _ => rfl) hr1) hc1 (Kd.C_of_reads (d := (0 : Int)) (h1 := fun _ => rfl) hr2) hc2 h).mono ?_
 rintro e w' ⟨rfl, hd⟩
 exact ⟨rfl, hd⟩


end Go.Proofs.Ytjdkamhnbheofaa.P

-- squeezed
