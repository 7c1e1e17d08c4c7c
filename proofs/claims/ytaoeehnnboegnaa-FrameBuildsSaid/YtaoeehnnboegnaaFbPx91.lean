import Derived.Test.YtaoeehnnboegnaaFbPx15
import Derived.Test.YtaoeehnnboegnaaFbPx12
import Derived.Test.YtaoeehnnboegnaaFbPx13
import Derived.Test.YtaoeehnnboegnaaFbPx8
-- written by mk.sh, a program of this session, over the kit's print
namespace Go.Proofs.Ytaoeehnnboegnaa.P
open Go.RowKit Go.Proofs.YtaoeehnnboegnaaW.PrintWords Go.Proofs.YtaoeehnnboegnaaW.PrintLast Go.Proofs.YtaoeehnnboegnaaW.PrintMore
attribute [local go_sem] max2_int min2_int max_two min_two max_three min_three max_four min_four   -- for this text's walks alone
set_option linter.unusedVariables false
set_option linter.unusedSimpArgs false

/-! ### outpostlaw24_FrameBuilds: function 3 -/
def outpostlaw24_FrameBuilds.j0 : Nat → List Int → List Int → List Int → Bool → Int → Int → Int → List Int → Int → Int → Int → List Int → Option (Bool)
 | 0, _, _, _, _, _, _, _, _, _, _, _, _ => none
 | k + 1, x6, x8, x10, x107, x377000, x377001, x377002, x377003, x378000, x378001, x378002, x378003 => if x107 = true then (some false) else ((outpostlaw24_grown.f k x6).bind fun _ => (if (strOfNums x8).toList = (strOfNums x10).toList then ((outpostlaw24_kept.f x378003 x377003).bind fun t407 => (some t407)) else (some false)))
def outpostlaw24_FrameBuilds.f (k : Nat) (a0_0 : Int) (a0_1 : Int) (a0_2 : Int) (a0_3 : Int) (a0_4 : Int) (a0_5 : Bool) (a1_0 : Int) (a1_1 : Int) (a1_2 : Int) (l1_3 : List Int) : Option (Bool) := (outpostlaw24_own.f l1_3).bind fun t378 => ((frame_Build.f k a0_0 a0_1 a0_2 a0_3 a0_4 a0_5 a1_0 a1_1 a1_2 t378).bind fun bt381 => ((frame_Build.f k a0_0 a0_1 a0_2 a0_3 a0_4 a0_5 a1_0 a1_1 a1_2 t378).bind fun bt385 => ((outpostref24_Build.f k a0_0 a0_1 a0_2 a0_3 a0_4 a0_5 a1_0 a1_1 a1_2 l1_3).bind fun bt389 => ((frame_Length.f k a0_0 a0_1 a0_2 a0_3 a0_4 a0_5).bind fun bt393 => ((outpostref24_Length.f k a0_0 a0_1 a0_2 a0_3 a0_4 a0_5).bind fun bt395 => ((frame_Check.f k a0_0 a0_1 a0_2 a0_3 a0_4 a0_5).bind fun t397 => ((outpostlaw24_num.f t397).bind fun t398 => ((outpostref24_Check.f k a0_0 a0_1 a0_2 a0_3 a0_4 a0_5).bind fun t399 => (if t398 = t399 then ((frame_Valid.f k a0_0 a0_1 a0_2 a0_3 a0_4 a0_5 a1_0 a1_1 a1_2 t378).bind fun t400 => ((outpostlaw24_num.f t400).bind fun t401 => ((outpostref24_Valid.f k a0_0 a0_1 a0_2 a0_3 a0_4 a0_5 a1_0 a1_1 a1_2 l1_3).bind fun t402 => (if t401 = t402 then (if (strOfNums bt381.1).toList = (strOfNums bt389.1).toList then (if (strOfNums bt385.1).toList = (strOfNums bt389.1).toList then ((outpostlaw24_num.f bt381.2).bind fun t403 => (if t403 = bt389.2 then (if bt393.1 = bt395.1 then ((outpostlaw24_num.f bt393.2).bind fun t404 => (if t404 = bt395.2 then ((outpostlaw24_kept.f t378 l1_3).bind fun t405 => (if t405 = true then ((outpostlaw24_live.f k).bind fun t406 => (outpostlaw24_FrameBuilds.j0 k bt381.1 bt385.1 bt389.1 (!t406) a1_0 a1_1 a1_2 l1_3 a1_0 a1_1 a1_2 t378)) else (outpostlaw24_FrameBuilds.j0 k bt381.1 bt385.1 bt389.1 true a1_0 a1_1 a1_2 l1_3 a1_0 a1_1 a1_2 t378))) else (outpostlaw24_FrameBuilds.j0 k bt381.1 bt385.1 bt389.1 true a1_0 a1_1 a1_2 l1_3 a1_0 a1_1 a1_2 t378))) else (outpostlaw24_FrameBuilds.j0 k bt381.1 bt385.1 bt389.1 true a1_0 a1_1 a1_2 l1_3 a1_0 a1_1 a1_2 t378)) else (outpostlaw24_FrameBuilds.j0 k bt381.1 bt385.1 bt389.1 true a1_0 a1_1 a1_2 l1_3 a1_0 a1_1 a1_2 t378))) else (outpostlaw24_FrameBuilds.j0 k bt381.1 bt385.1 bt389.1 true a1_0 a1_1 a1_2 l1_3 a1_0 a1_1 a1_2 t378)) else (outpostlaw24_FrameBuilds.j0 k bt381.1 bt385.1 bt389.1 true a1_0 a1_1 a1_2 l1_3 a1_0 a1_1 a1_2 t378)) else (outpostlaw24_FrameBuilds.j0 k bt381.1 bt385.1 bt389.1 true a1_0 a1_1 a1_2 l1_3 a1_0 a1_1 a1_2 t378))))) else (outpostlaw24_FrameBuilds.j0 k bt381.1 bt385.1 bt389.1 true a1_0 a1_1 a1_2 l1_3 a1_0 a1_1 a1_2 t378))))))))))
theorem outpostlaw24_FrameBuilds.mono_l : ∀ k, (∀ y0 y1 y2 y3 y4 y5 y6 y7 y8 y9 y10 y11, LeO (outpostlaw24_FrameBuilds.j0 k y0 y1 y2 y3 y4 y5 y6 y7 y8 y9 y10 y11) (outpostlaw24_FrameBuilds.j0 (k + 1) y0 y1 y2 y3 y4 y5 y6 y7 y8 y9 y10 y11))
 | 0 => fun _ _ _ _ _ _ _ _ _ _ _ _ r h => by simp [outpostlaw24_FrameBuilds.j0] at h
 | k + 1 => by
  have ih0 := outpostlaw24_FrameBuilds.mono_l k
  ·intro y0 y1 y2 y3 y4 y5 y6 y7 y8 y9 y10 y11
   unfold outpostlaw24_FrameBuilds.j0
   repeat' first
   | (with_reducible exact ih0 _ _ _ _ _ _ _ _ _ _ _ _)
   | (with_reducible exact frame_Build.mono _ _ _ _ _ _ _ _ _ _ _)
   | (with_reducible exact frame_Check.mono _ _ _ _ _ _ _)
   | (with_reducible exact frame_Length.mono _ _ _ _ _ _ _)
   | (with_reducible exact frame_Valid.mono _ _ _ _ _ _ _ _ _ _ _)
   | (with_reducible exact outpostlaw24_grown.mono _ _)
   | (with_reducible exact outpostlaw24_live.mono _)
   | (with_reducible exact outpostref24_Build.mono _ _ _ _ _ _ _ _ _ _ _)
   | (with_reducible exact outpostref24_Check.mono _ _ _ _ _ _ _)
   | (with_reducible exact outpostref24_Length.mono _ _ _ _ _ _ _)
   | (with_reducible exact outpostref24_Valid.mono _ _ _ _ _ _ _ _ _ _ _)
   | (with_reducible exact LeO.refl _)
   | (with_reducible exact LeO.none _)
   | (with_reducible refine LeO.ite ?_ ?_)
   | (with_reducible refine LeO.bind ?_ (fun _ => ?_))
   | exact ih0 _ _ _ _ _ _ _ _ _ _ _ _
   | exact frame_Build.mono _ _ _ _ _ _ _ _ _ _ _
   | exact frame_Check.mono _ _ _ _ _ _ _
   | exact frame_Length.mono _ _ _ _ _ _ _
   | exact frame_Valid.mono _ _ _ _ _ _ _ _ _ _ _
   | exact outpostlaw24_grown.mono _ _
   | exact outpostlaw24_live.mono _
   | exact outpostref24_Build.mono _ _ _ _ _ _ _ _ _ _ _
   | exact outpostref24_Check.mono _ _ _ _ _ _ _
   | exact outpostref24_Length.mono _ _ _ _ _ _ _
   | exact outpostref24_Valid.mono _ _ _ _ _ _ _ _ _ _ _
   | exact LeO.none _
   | refine LeO.ite ?_ ?_
   | refine LeO.bind ?_ (fun _ => ?_)
theorem outpostlaw24_FrameBuilds.mono : ∀ a0 a1 a2 a3 a4 a5 a6 a7 a8 a9 k, LeO (outpostlaw24_FrameBuilds.f k a0 a1 a2 a3 a4 a5 a6 a7 a8 a9) (outpostlaw24_FrameBuilds.f (k + 1) a0 a1 a2 a3 a4 a5 a6 a7 a8 a9) := by
 intro a0 a1 a2 a3 a4 a5 a6 a7 a8 a9 k
 have ih0 := outpostlaw24_FrameBuilds.mono_l k
 unfold outpostlaw24_FrameBuilds.f
 repeat' first
   | (with_reducible exact ih0 _ _ _ _ _ _ _ _ _ _ _ _)
   | (with_reducible exact frame_Build.mono _ _ _ _ _ _ _ _ _ _ _)
   | (with_reducible exact frame_Check.mono _ _ _ _ _ _ _)
   | (with_reducible exact frame_Length.mono _ _ _ _ _ _ _)
   | (with_reducible exact frame_Valid.mono _ _ _ _ _ _ _ _ _ _ _)
   | (with_reducible exact outpostlaw24_grown.mono _ _)
   | (with_reducible exact outpostlaw24_live.mono _)
   | (with_reducible exact outpostref24_Build.mono _ _ _ _ _ _ _ _ _ _ _)
   | (with_reducible exact outpostref24_Check.mono _ _ _ _ _ _ _)
   | (with_reducible exact outpostref24_Length.mono _ _ _ _ _ _ _)
   | (with_reducible exact outpostref24_Valid.mono _ _ _ _ _ _ _ _ _ _ _)
   | (with_reducible exact LeO.refl _)
   | (with_reducible exact LeO.none _)
   | (with_reducible refine LeO.ite ?_ ?_)
   | (with_reducible refine LeO.bind ?_ (fun _ => ?_))
   | exact ih0 _ _ _ _ _ _ _ _ _ _ _ _
   | exact frame_Build.mono _ _ _ _ _ _ _ _ _ _ _
   | exact frame_Check.mono _ _ _ _ _ _ _
   | exact frame_Length.mono _ _ _ _ _ _ _
   | exact frame_Valid.mono _ _ _ _ _ _ _ _ _ _ _
   | exact outpostlaw24_grown.mono _ _
   | exact outpostlaw24_live.mono _
   | exact outpostref24_Build.mono _ _ _ _ _ _ _ _ _ _ _
   | exact outpostref24_Check.mono _ _ _ _ _ _ _
   | exact outpostref24_Length.mono _ _ _ _ _ _ _
   | exact outpostref24_Valid.mono _ _ _ _ _ _ _ _ _ _ _
   | exact LeO.none _
   | refine LeO.ite ?_ ?_
   | refine LeO.bind ?_ (fun _ => ?_)
def outpostlaw24_FrameBuilds.T8 : Bool × List (List Nat × List Nat) := (true, [([], []), ([0], [0]), ([1, 1], [1]), ([], []), ([3, 2], [3]), ([2, 4], [2, 4]), ([5, 4], [5]), ([6], [6]), ([6], [6]), ([7, 8, 6, 6], [6, 7, 8]), ([9, 9, 6], [6, 9]), ([6], [6]), ([6], [6]), ([11, 12, 10, 6], [6, 11, 12]), ([10, 13, 6], [6, 10, 13]), ([6, 14], [6, 14]), ([15, 13], [15]), ([16], [16]), ([17, 16], [16, 17]), ([16], [16]), ([19, 16], [16, 19]), ([18, 20, 16], [16, 18, 20]), ([16, 21], [16, 21]), ([22, 16], [22]), ([23], [23]), ([24, 23], [23, 24]), ([23], [23]), ([26, 23], [23, 26]), ([25, 27, 23], [23, 25, 27]), ([23, 28], [23, 28]), ([29, 23], [29]), ([30], [30]), ([31, 30, 30], [30, 31]), ([30], [30]), ([32, 33, 30], [30, 32, 33]), ([30, 34], [30, 34]), ([35, 32], [35]), ([36], [36]), ([36], [36]), ([37, 38, 36], [36, 37, 38]), ([36, 39], [36, 39]), ([40, 36], [40]), ([41], [41]), ([42, 41, 41], [41, 42]), ([41], [41]), ([43, 44, 41], [41, 43, 44]), ([41, 45], [41, 45]), ([46, 43], [46]), ([47], [47]), ([48, 47], [47, 48]), ([47], [47]), ([50, 47], [47, 50]), ([49, 51, 47, 47], [47, 49, 51]), ([52, 47], [47, 52]), ([47, 53], [47, 53]), ([54, 52], [54]), ([55, 55], [55]), ([56, 55], [55, 56]), ([55, 57], [55, 57])])
def outpostlaw24_FrameBuilds.B8 : List Nat := [0, 1, 3, 0, 15, 31, 63, 127, 127, 511, 1023, 127, 127, 8191, 16383, 32767, 65535, 131071, 262143, 131071, 655359, 2097151, 4194303, 8388607, 16777215, 33554431, 16777215, 83886079, 268435455, 536870911, 1073741823, 2147483647, 4294967295, 2147483647, 17179869183, 34359738367, 68719476735, 137438953471, 137438953471, 549755813887, 1099511627775, 2199023255551, 4398046511103, 8796093022207, 4398046511103, 35184372088831, 70368744177663, 140737488355327, 281474976710655, 562949953421311, 281474976710655, 1407374883553279, 4503599627370495, 9007199254740991, 18014398509481983, 36028797018963967, 72057594037927935, 144115188075855871, 288230376151711743]
theorem outpostlaw24_FrameBuilds.tab8 : rtab .any (opsOf Try.f3 8) = outpostlaw24_FrameBuilds.T8 := by kernel_rfl
theorem outpostlaw24_FrameBuilds.bits8 : waitsOk outpostlaw24_FrameBuilds.T8.2 outpostlaw24_FrameBuilds.B8 = true := by kernel_rfl
theorem outpostlaw24_FrameBuilds.no_false {r : Bool} {G : Prop} (hr : r = true) (h : some false = some r) : G := by
 subst hr
 cases h
theorem outpostlaw24_FrameBuilds.no_j0 {k : Nat} {x6 : List Int} {x8 : List Int} {x10 : List Int} {x377000 : Int} {x377001 : Int} {x377002 : Int} {x377003 : List Int} {x378000 : Int} {x378001 : Int} {x378002 : Int} {x378003 : List Int} {r : Bool} {G : Prop} (hr : r = true) (h : outpostlaw24_FrameBuilds.j0 k x6 x8 x10 true x377000 x377001 x377002 x377003 x378000 x378001 x378002 x378003 = some r) : G := by
 subst hr
 cases k <;> simp [outpostlaw24_FrameBuilds.j0] at h
set_option maxHeartbeats 8000000 in
set_option maxRecDepth 100000 in
theorem outpostlaw24_FrameBuilds.calls (k : Nat) (a0_0 : Int) (a0_1 : Int) (a0_2 : Int) (a0_3 : Int) (a0_4 : Int) (a0_5 : Bool) (a1_0 : Int) (a1_1 : Int) (a1_2 : Int) (A1_3 : Option Addr) (c1_3 : Nat) (l1_3 : List Int) (r : Bool) (hr9_ : r = true) (w : World) (hr1_3 : Kd.C (Kd.int .u8) w A1_3 l1_3.length l1_3) (hc1_3 : l1_3.length ≤ c1_3) (h : outpostlaw24_FrameBuilds.f k a0_0 a0_1 a0_2 a0_3 a0_4 a0_5 a1_0 a1_1 a1_2 l1_3 = some r) :
  Calls Try.prog 3 #[.agg #[.int .i64 a0_0, .int .i64 a0_1, .int .u32 a0_2, .int .u32 a0_3, .int .u32 a0_4, .bool a0_5], .agg #[.int .i64 a1_0, .int .u32 a1_1, .int .u32 a1_2, .slice A1_3 l1_3.length c1_3]] w fun e w' => e = .returned (.bool r) ∧ Below w.heap.size w w' := by
 have HR9_ := Aside0.mk hr9_
 clear hr9_
 have hu26 := Try.underlying26
 have hu29 := Try.underlying29
 have HR1_3 := Aside0.mk hr1_3
 have HC1_3 := Aside0.mk hc1_3
 clear hr1_3 hc1_3
 have HB := aK (Below.refl w.heap.size w)
 have H : ((outpostlaw24_own.f l1_3).bind fun t378 => ((frame_Build.f k a0_0 a0_1 a0_2 a0_3 a0_4 a0_5 a1_0 a1_1 a1_2 t378).bind fun bt381 => ((frame_Build.f k a0_0 a0_1 a0_2 a0_3 a0_4 a0_5 a1_0 a1_1 a1_2 t378).bind fun bt385 => ((outpostref24_Build.f k a0_0 a0_1 a0_2 a0_3 a0_4 a0_5 a1_0 a1_1 a1_2 l1_3).bind fun bt389 => ((frame_Length.f k a0_0 a0_1 a0_2 a0_3 a0_4 a0_5).bind fun bt393 => ((outpostref24_Length.f k a0_0 a0_1 a0_2 a0_3 a0_4 a0_5).bind fun bt395 => ((frame_Check.f k a0_0 a0_1 a0_2 a0_3 a0_4 a0_5).bind fun t397 => ((outpostlaw24_num.f t397).bind fun t398 => ((outpostref24_Check.f k a0_0 a0_1 a0_2 a0_3 a0_4 a0_5).bind fun t399 => (if t398 = t399 then ((frame_Valid.f k a0_0 a0_1 a0_2 a0_3 a0_4 a0_5 a1_0 a1_1 a1_2 t378).bind fun t400 => ((outpostlaw24_num.f t400).bind fun t401 => ((outpostref24_Valid.f k a0_0 a0_1 a0_2 a0_3 a0_4 a0_5 a1_0 a1_1 a1_2 l1_3).bind fun t402 => (if t401 = t402 then (if (strOfNums bt381.1).toList = (strOfNums bt389.1).toList then (if (strOfNums bt385.1).toList = (strOfNums bt389.1).toList then ((outpostlaw24_num.f bt381.2).bind fun t403 => (if t403 = bt389.2 then (if bt393.1 = bt395.1 then ((outpostlaw24_num.f bt393.2).bind fun t404 => (if t404 = bt395.2 then ((outpostlaw24_kept.f t378 l1_3).bind fun t405 => (if t405 = true then ((outpostlaw24_live.f k).bind fun t406 => (outpostlaw24_FrameBuilds.j0 k bt381.1 bt385.1 bt389.1 (!t406) a1_0 a1_1 a1_2 l1_3 a1_0 a1_1 a1_2 t378)) else (outpostlaw24_FrameBuilds.j0 k bt381.1 bt385.1 bt389.1 true a1_0 a1_1 a1_2 l1_3 a1_0 a1_1 a1_2 t378))) else (outpostlaw24_FrameBuilds.j0 k bt381.1 bt385.1 bt389.1 true a1_0 a1_1 a1_2 l1_3 a1_0 a1_1 a1_2 t378))) else (outpostlaw24_FrameBuilds.j0 k bt381.1 bt385.1 bt389.1 true a1_0 a1_1 a1_2 l1_3 a1_0 a1_1 a1_2 t378)) else (outpostlaw24_FrameBuilds.j0 k bt381.1 bt385.1 bt389.1 true a1_0 a1_1 a1_2 l1_3 a1_0 a1_1 a1_2 t378))) else (outpostlaw24_FrameBuilds.j0 k bt381.1 bt385.1 bt389.1 true a1_0 a1_1 a1_2 l1_3 a1_0 a1_1 a1_2 t378)) else (outpostlaw24_FrameBuilds.j0 k bt381.1 bt385.1 bt389.1 true a1_0 a1_1 a1_2 l1_3 a1_0 a1_1 a1_2 t378)) else (outpostlaw24_FrameBuilds.j0 k bt381.1 bt385.1 bt389.1 true a1_0 a1_1 a1_2 l1_3 a1_0 a1_1 a1_2 t378))))) else (outpostlaw24_FrameBuilds.j0 k bt381.1 bt385.1 bt389.1 true a1_0 a1_1 a1_2 l1_3 a1_0 a1_1 a1_2 t378))))))))))) = some r := h
 clear h
 replace H := Option.bind_eq_some_iff.mp H
 obtain ⟨t378, A30, H⟩ := H
 replace H : ((frame_Build.f k a0_0 a0_1 a0_2 a0_3 a0_4 a0_5 a1_0 a1_1 a1_2 t378).bind fun bt381 => ((frame_Build.f k a0_0 a0_1 a0_2 a0_3 a0_4 a0_5 a1_0 a1_1 a1_2 t378).bind fun bt385 => ((outpostref24_Build.f k a0_0 a0_1 a0_2 a0_3 a0_4 a0_5 a1_0 a1_1 a1_2 l1_3).bind fun bt389 => ((frame_Length.f k a0_0 a0_1 a0_2 a0_3 a0_4 a0_5).bind fun bt393 => ((outpostref24_Length.f k a0_0 a0_1 a0_2 a0_3 a0_4 a0_5).bind fun bt395 => ((frame_Check.f k a0_0 a0_1 a0_2 a0_3 a0_4 a0_5).bind fun t397 => ((outpostlaw24_num.f t397).bind fun t398 => ((outpostref24_Check.f k a0_0 a0_1 a0_2 a0_3 a0_4 a0_5).bind fun t399 => (if t398 = t399 then ((frame_Valid.f k a0_0 a0_1 a0_2 a0_3 a0_4 a0_5 a1_0 a1_1 a1_2 t378).bind fun t400 => ((outpostlaw24_num.f t400).bind fun t401 => ((outpostref24_Valid.f k a0_0 a0_1 a0_2 a0_3 a0_4 a0_5 a1_0 a1_1 a1_2 l1_3).bind fun t402 => (if t401 = t402 then (if (strOfNums bt381.1).toList = (strOfNums bt389.1).toList then (if (strOfNums bt385.1).toList = (strOfNums bt389.1).toList then ((outpostlaw24_num.f bt381.2).bind fun t403 => (if t403 = bt389.2 then (if bt393.1 = bt395.1 then ((outpostlaw24_num.f bt393.2).bind fun t404 => (if t404 = bt395.2 then ((outpostlaw24_kept.f t378 l1_3).bind fun t405 => (if t405 = true then ((outpostlaw24_live.f k).bind fun t406 => (outpostlaw24_FrameBuilds.j0 k bt381.1 bt385.1 bt389.1 (!t406) a1_0 a1_1 a1_2 l1_3 a1_0 a1_1 a1_2 t378)) else (outpostlaw24_FrameBuilds.j0 k bt381.1 bt385.1 bt389.1 true a1_0 a1_1 a1_2 l1_3 a1_0 a1_1 a1_2 t378))) else (outpostlaw24_FrameBuilds.j0 k bt381.1 bt385.1 bt389.1 true a1_0 a1_1 a1_2 l1_3 a1_0 a1_1 a1_2 t378))) else (outpostlaw24_FrameBuilds.j0 k bt381.1 bt385.1 bt389.1 true a1_0 a1_1 a1_2 l1_3 a1_0 a1_1 a1_2 t378)) else (outpostlaw24_FrameBuilds.j0 k bt381.1 bt385.1 bt389.1 true a1_0 a1_1 a1_2 l1_3 a1_0 a1_1 a1_2 t378))) else (outpostlaw24_FrameBuilds.j0 k bt381.1 bt385.1 bt389.1 true a1_0 a1_1 a1_2 l1_3 a1_0 a1_1 a1_2 t378)) else (outpostlaw24_FrameBuilds.j0 k bt381.1 bt385.1 bt389.1 true a1_0 a1_1 a1_2 l1_3 a1_0 a1_1 a1_2 t378)) else (outpostlaw24_FrameBuilds.j0 k bt381.1 bt385.1 bt389.1 true a1_0 a1_1 a1_2 l1_3 a1_0 a1_1 a1_2 t378))))) else (outpostlaw24_FrameBuilds.j0 k bt381.1 bt385.1 bt389.1 true a1_0 a1_1 a1_2 l1_3 a1_0 a1_1 a1_2 t378)))))))))) = some r := H
 have A3 := Aside0.mk A30
 clear A30
 replace H := Option.bind_eq_some_iff.mp H
 obtain ⟨⟨t381, t384⟩, A40, H⟩ := H
 replace H : ((frame_Build.f k a0_0 a0_1 a0_2 a0_3 a0_4 a0_5 a1_0 a1_1 a1_2 t378).bind fun bt385 => ((outpostref24_Build.f k a0_0 a0_1 a0_2 a0_3 a0_4 a0_5 a1_0 a1_1 a1_2 l1_3).bind fun bt389 => ((frame_Length.f k a0_0 a0_1 a0_2 a0_3 a0_4 a0_5).bind fun bt393 => ((outpostref24_Length.f k a0_0 a0_1 a0_2 a0_3 a0_4 a0_5).bind fun bt395 => ((frame_Check.f k a0_0 a0_1 a0_2 a0_3 a0_4 a0_5).bind fun t397 => ((outpostlaw24_num.f t397).bind fun t398 => ((outpostref24_Check.f k a0_0 a0_1 a0_2 a0_3 a0_4 a0_5).bind fun t399 => (if t398 = t399 then ((frame_Valid.f k a0_0 a0_1 a0_2 a0_3 a0_4 a0_5 a1_0 a1_1 a1_2 t378).bind fun t400 => ((outpostlaw24_num.f t400).bind fun t401 => ((outpostref24_Valid.f k a0_0 a0_1 a0_2 a0_3 a0_4 a0_5 a1_0 a1_1 a1_2 l1_3).bind fun t402 => (if t401 = t402 then (if (strOfNums t381).toList = (strOfNums bt389.1).toList then (if (strOfNums bt385.1).toList = (strOfNums bt389.1).toList then ((outpostlaw24_num.f t384).bind fun t403 => (if t403 = bt389.2 then (if bt393.1 = bt395.1 then ((outpostlaw24_num.f bt393.2).bind fun t404 => (if t404 = bt395.2 then ((outpostlaw24_kept.f t378 l1_3).bind fun t405 => (if t405 = true then ((outpostlaw24_live.f k).bind fun t406 => (outpostlaw24_FrameBuilds.j0 k t381 bt385.1 bt389.1 (!t406) a1_0 a1_1 a1_2 l1_3 a1_0 a1_1 a1_2 t378)) else (outpostlaw24_FrameBuilds.j0 k t381 bt385.1 bt389.1 true a1_0 a1_1 a1_2 l1_3 a1_0 a1_1 a1_2 t378))) else (outpostlaw24_FrameBuilds.j0 k t381 bt385.1 bt389.1 true a1_0 a1_1 a1_2 l1_3 a1_0 a1_1 a1_2 t378))) else (outpostlaw24_FrameBuilds.j0 k t381 bt385.1 bt389.1 true a1_0 a1_1 a1_2 l1_3 a1_0 a1_1 a1_2 t378)) else (outpostlaw24_FrameBuilds.j0 k t381 bt385.1 bt389.1 true a1_0 a1_1 a1_2 l1_3 a1_0 a1_1 a1_2 t378))) else (outpostlaw24_FrameBuilds.j0 k t381 bt385.1 bt389.1 true a1_0 a1_1 a1_2 l1_3 a1_0 a1_1 a1_2 t378)) else (outpostlaw24_FrameBuilds.j0 k t381 bt385.1 bt389.1 true a1_0 a1_1 a1_2 l1_3 a1_0 a1_1 a1_2 t378)) else (outpostlaw24_FrameBuilds.j0 k t381 bt385.1 bt389.1 true a1_0 a1_1 a1_2 l1_3 a1_0 a1_1 a1_2 t378))))) else (outpostlaw24_FrameBuilds.j0 k t381 bt385.1 bt389.1 true a1_0 a1_1 a1_2 l1_3 a1_0 a1_1 a1_2 t378))))))))) = some r := H
 have A4 := Aside0.mk A40
 clear A40
 replace H := Option.bind_eq_some_iff.mp H
 obtain ⟨⟨t385, t388⟩, A50, H⟩ := H
 replace H : ((outpostref24_Build.f k a0_0 a0_1 a0_2 a0_3 a0_4 a0_5 a1_0 a1_1 a1_2 l1_3).bind fun bt389 => ((frame_Length.f k a0_0 a0_1 a0_2 a0_3 a0_4 a0_5).bind fun bt393 => ((outpostref24_Length.f k a0_0 a0_1 a0_2 a0_3 a0_4 a0_5).bind fun bt395 => ((frame_Check.f k a0_0 a0_1 a0_2 a0_3 a0_4 a0_5).bind fun t397 => ((outpostlaw24_num.f t397).bind fun t398 => ((outpostref24_Check.f k a0_0 a0_1 a0_2 a0_3 a0_4 a0_5).bind fun t399 => (if t398 = t399 then ((frame_Valid.f k a0_0 a0_1 a0_2 a0_3 a0_4 a0_5 a1_0 a1_1 a1_2 t378).bind fun t400 => ((outpostlaw24_num.f t400).bind fun t401 => ((outpostref24_Valid.f k a0_0 a0_1 a0_2 a0_3 a0_4 a0_5 a1_0 a1_1 a1_2 l1_3).bind fun t402 => (if t401 = t402 then (if (strOfNums t381).toList = (strOfNums bt389.1).toList then (if (strOfNums t385).toList = (strOfNums bt389.1).toList then ((outpostlaw24_num.f t384).bind fun t403 => (if t403 = bt389.2 then (if bt393.1 = bt395.1 then ((outpostlaw24_num.f bt393.2).bind fun t404 => (if t404 = bt395.2 then ((outpostlaw24_kept.f t378 l1_3).bind fun t405 => (if t405 = true then ((outpostlaw24_live.f k).bind fun t406 => (outpostlaw24_FrameBuilds.j0 k t381 t385 bt389.1 (!t406) a1_0 a1_1 a1_2 l1_3 a1_0 a1_1 a1_2 t378)) else (outpostlaw24_FrameBuilds.j0 k t381 t385 bt389.1 true a1_0 a1_1 a1_2 l1_3 a1_0 a1_1 a1_2 t378))) else (outpostlaw24_FrameBuilds.j0 k t381 t385 bt389.1 true a1_0 a1_1 a1_2 l1_3 a1_0 a1_1 a1_2 t378))) else (outpostlaw24_FrameBuilds.j0 k t381 t385 bt389.1 true a1_0 a1_1 a1_2 l1_3 a1_0 a1_1 a1_2 t378)) else (outpostlaw24_FrameBuilds.j0 k t381 t385 bt389.1 true a1_0 a1_1 a1_2 l1_3 a1_0 a1_1 a1_2 t378))) else (outpostlaw24_FrameBuilds.j0 k t381 t385 bt389.1 true a1_0 a1_1 a1_2 l1_3 a1_0 a1_1 a1_2 t378)) else (outpostlaw24_FrameBuilds.j0 k t381 t385 bt389.1 true a1_0 a1_1 a1_2 l1_3 a1_0 a1_1 a1_2 t378)) else (outpostlaw24_FrameBuilds.j0 k t381 t385 bt389.1 true a1_0 a1_1 a1_2 l1_3 a1_0 a1_1 a1_2 t378))))) else (outpostlaw24_FrameBuilds.j0 k t381 t385 bt389.1 true a1_0 a1_1 a1_2 l1_3 a1_0 a1_1 a1_2 t378)))))))) = some r := H
 have A5 := Aside0.mk A50
 clear A50
 replace H := Option.bind_eq_some_iff.mp H
 obtain ⟨⟨t389, t392⟩, A60, H⟩ := H
 replace H : ((frame_Length.f k a0_0 a0_1 a0_2 a0_3 a0_4 a0_5).bind fun bt393 => ((outpostref24_Length.f k a0_0 a0_1 a0_2 a0_3 a0_4 a0_5).bind fun bt395 => ((frame_Check.f k a0_0 a0_1 a0_2 a0_3 a0_4 a0_5).bind fun t397 => ((outpostlaw24_num.f t397).bind fun t398 => ((outpostref24_Check.f k a0_0 a0_1 a0_2 a0_3 a0_4 a0_5).bind fun t399 => (if t398 = t399 then ((frame_Valid.f k a0_0 a0_1 a0_2 a0_3 a0_4 a0_5 a1_0 a1_1 a1_2 t378).bind fun t400 => ((outpostlaw24_num.f t400).bind fun t401 => ((outpostref24_Valid.f k a0_0 a0_1 a0_2 a0_3 a0_4 a0_5 a1_0 a1_1 a1_2 l1_3).bind fun t402 => (if t401 = t402 then (if (strOfNums t381).toList = (strOfNums t389).toList then (if (strOfNums t385).toList = (strOfNums t389).toList then ((outpostlaw24_num.f t384).bind fun t403 => (if t403 = t392 then (if bt393.1 = bt395.1 then ((outpostlaw24_num.f bt393.2).bind fun t404 => (if t404 = bt395.2 then ((outpostlaw24_kept.f t378 l1_3).bind fun t405 => (if t405 = true then ((outpostlaw24_live.f k).bind fun t406 => (outpostlaw24_FrameBuilds.j0 k t381 t385 t389 (!t406) a1_0 a1_1 a1_2 l1_3 a1_0 a1_1 a1_2 t378)) else (outpostlaw24_FrameBuilds.j0 k t381 t385 t389 true a1_0 a1_1 a1_2 l1_3 a1_0 a1_1 a1_2 t378))) else (outpostlaw24_FrameBuilds.j0 k t381 t385 t389 true a1_0 a1_1 a1_2 l1_3 a1_0 a1_1 a1_2 t378))) else (outpostlaw24_FrameBuilds.j0 k t381 t385 t389 true a1_0 a1_1 a1_2 l1_3 a1_0 a1_1 a1_2 t378)) else (outpostlaw24_FrameBuilds.j0 k t381 t385 t389 true a1_0 a1_1 a1_2 l1_3 a1_0 a1_1 a1_2 t378))) else (outpostlaw24_FrameBuilds.j0 k t381 t385 t389 true a1_0 a1_1 a1_2 l1_3 a1_0 a1_1 a1_2 t378)) else (outpostlaw24_FrameBuilds.j0 k t381 t385 t389 true a1_0 a1_1 a1_2 l1_3 a1_0 a1_1 a1_2 t378)) else (outpostlaw24_FrameBuilds.j0 k t381 t385 t389 true a1_0 a1_1 a1_2 l1_3 a1_0 a1_1 a1_2 t378))))) else (outpostlaw24_FrameBuilds.j0 k t381 t385 t389 true a1_0 a1_1 a1_2 l1_3 a1_0 a1_1 a1_2 t378))))))) = some r := H
 have A6 := Aside0.mk A60
 clear A60
 replace H := Option.bind_eq_some_iff.mp H
 obtain ⟨⟨t393, t394⟩, A70, H⟩ := H
 replace H : ((outpostref24_Length.f k a0_0 a0_1 a0_2 a0_3 a0_4 a0_5).bind fun bt395 => ((frame_Check.f k a0_0 a0_1 a0_2 a0_3 a0_4 a0_5).bind fun t397 => ((outpostlaw24_num.f t397).bind fun t398 => ((outpostref24_Check.f k a0_0 a0_1 a0_2 a0_3 a0_4 a0_5).bind fun t399 => (if t398 = t399 then ((frame_Valid.f k a0_0 a0_1 a0_2 a0_3 a0_4 a0_5 a1_0 a1_1 a1_2 t378).bind fun t400 => ((outpostlaw24_num.f t400).bind fun t401 => ((outpostref24_Valid.f k a0_0 a0_1 a0_2 a0_3 a0_4 a0_5 a1_0 a1_1 a1_2 l1_3).bind fun t402 => (if t401 = t402 then (if (strOfNums t381).toList = (strOfNums t389).toList then (if (strOfNums t385).toList = (strOfNums t389).toList then ((outpostlaw24_num.f t384).bind fun t403 => (if t403 = t392 then (if t393 = bt395.1 then ((outpostlaw24_num.f t394).bind fun t404 => (if t404 = bt395.2 then ((outpostlaw24_kept.f t378 l1_3).bind fun t405 => (if t405 = true then ((outpostlaw24_live.f k).bind fun t406 => (outpostlaw24_FrameBuilds.j0 k t381 t385 t389 (!t406) a1_0 a1_1 a1_2 l1_3 a1_0 a1_1 a1_2 t378)) else (outpostlaw24_FrameBuilds.j0 k t381 t385 t389 true a1_0 a1_1 a1_2 l1_3 a1_0 a1_1 a1_2 t378))) else (outpostlaw24_FrameBuilds.j0 k t381 t385 t389 true a1_0 a1_1 a1_2 l1_3 a1_0 a1_1 a1_2 t378))) else (outpostlaw24_FrameBuilds.j0 k t381 t385 t389 true a1_0 a1_1 a1_2 l1_3 a1_0 a1_1 a1_2 t378)) else (outpostlaw24_FrameBuilds.j0 k t381 t385 t389 true a1_0 a1_1 a1_2 l1_3 a1_0 a1_1 a1_2 t378))) else (outpostlaw24_FrameBuilds.j0 k t381 t385 t389 true a1_0 a1_1 a1_2 l1_3 a1_0 a1_1 a1_2 t378)) else (outpostlaw24_FrameBuilds.j0 k t381 t385 t389 true a1_0 a1_1 a1_2 l1_3 a1_0 a1_1 a1_2 t378)) else (outpostlaw24_FrameBuilds.j0 k t381 t385 t389 true a1_0 a1_1 a1_2 l1_3 a1_0 a1_1 a1_2 t378))))) else (outpostlaw24_FrameBuilds.j0 k t381 t385 t389 true a1_0 a1_1 a1_2 l1_3 a1_0 a1_1 a1_2 t378)))))) = some r := H
 have A7 := Aside0.mk A70
 clear A70
 replace H := Option.bind_eq_some_iff.mp H
 obtain ⟨⟨t395, t396⟩, A80, H⟩ := H
 replace H : ((frame_Check.f k a0_0 a0_1 a0_2 a0_3 a0_4 a0_5).bind fun t397 => ((outpostlaw24_num.f t397).bind fun t398 => ((outpostref24_Check.f k a0_0 a0_1 a0_2 a0_3 a0_4 a0_5).bind fun t399 => (if t398 = t399 then ((frame_Valid.f k a0_0 a0_1 a0_2 a0_3 a0_4 a0_5 a1_0 a1_1 a1_2 t378).bind fun t400 => ((outpostlaw24_num.f t400).bind fun t401 => ((outpostref24_Valid.f k a0_0 a0_1 a0_2 a0_3 a0_4 a0_5 a1_0 a1_1 a1_2 l1_3).bind fun t402 => (if t401 = t402 then (if (strOfNums t381).toList = (strOfNums t389).toList then (if (strOfNums t385).toList = (strOfNums t389).toList then ((outpostlaw24_num.f t384).bind fun t403 => (if t403 = t392 then (if t393 = t395 then ((outpostlaw24_num.f t394).bind fun t404 => (if t404 = t396 then ((outpostlaw24_kept.f t378 l1_3).bind fun t405 => (if t405 = true then ((outpostlaw24_live.f k).bind fun t406 => (outpostlaw24_FrameBuilds.j0 k t381 t385 t389 (!t406) a1_0 a1_1 a1_2 l1_3 a1_0 a1_1 a1_2 t378)) else (outpostlaw24_FrameBuilds.j0 k t381 t385 t389 true a1_0 a1_1 a1_2 l1_3 a1_0 a1_1 a1_2 t378))) else (outpostlaw24_FrameBuilds.j0 k t381 t385 t389 true a1_0 a1_1 a1_2 l1_3 a1_0 a1_1 a1_2 t378))) else (outpostlaw24_FrameBuilds.j0 k t381 t385 t389 true a1_0 a1_1 a1_2 l1_3 a1_0 a1_1 a1_2 t378)) else (outpostlaw24_FrameBuilds.j0 k t381 t385 t389 true a1_0 a1_1 a1_2 l1_3 a1_0 a1_1 a1_2 t378))) else (outpostlaw24_FrameBuilds.j0 k t381 t385 t389 true a1_0 a1_1 a1_2 l1_3 a1_0 a1_1 a1_2 t378)) else (outpostlaw24_FrameBuilds.j0 k t381 t385 t389 true a1_0 a1_1 a1_2 l1_3 a1_0 a1_1 a1_2 t378)) else (outpostlaw24_FrameBuilds.j0 k t381 t385 t389 true a1_0 a1_1 a1_2 l1_3 a1_0 a1_1 a1_2 t378))))) else (outpostlaw24_FrameBuilds.j0 k t381 t385 t389 true a1_0 a1_1 a1_2 l1_3 a1_0 a1_1 a1_2 t378))))) = some r := H
 have A8 := Aside0.mk A80
 clear A80
 have HC9 := Aside0.mk H
 clear H
 go_enter Try.func3, Try.ntmps3
 go_upto_region 8 with (first | ((with_reducible refine gate_dst (N := 2) rfl ?_); refine box_event ?hg (N := 2) ?hd (cs := #[.int .i64 a0_0, .int .i64 a0_1, .int .u32 a0_2, .int .u32 a0_3, .int .u32 a0_4, .bool a0_5]) (t := 26) ?hr ?_; (case hd => rfl); (case hg => rfl); (case hr => first | (go_simp; done) | (go_simp; rfl)); intro gb375 hg w10 hbox hb; have n0_ := aK (below_step (mvh HB.out) hb); have n1_ := aK (hbox); have n2_ := aK ((by rw [hg]; exact (below_size (mvh HB.out)) : w.heap.size ≤ gb375)); have n3_ := aK ((by rw [hg]; exact (below_size (mvh HB.out)) : w.heap.size ≤ gb375)); clear HB; have HB := n0_; have BK375 := n1_; have GW375 := n2_; have GE375 := n3_; clear n0_ n1_ n2_ n3_; clear hb hbox hg) | ((with_reducible refine gate_dst (N := 3) rfl ?_); refine box_event ?hg (N := 3) ?hd (cs := #[.int .i64 a1_0, .int .u32 a1_1, .int .u32 a1_2, .slice A1_3 l1_3.length c1_3]) (t := 29) ?hr ?_; (case hd => rfl); (case hg => rfl); (case hr => first | (go_simp; done) | (go_simp; rfl)); intro gb376 hg w11 hbox hb; have n0_ := aK (kb BK375.out hb); have n1_ := aK (below_step (by repeat (first | (with_reducible first | exact HB.out | apply hA | apply hN | apply hD | refine below_set ?_ GE375.out) | exact HB.out)) hb); have n2_ := aK (hbox); have n3_ := aK ((by rw [hg]; exact (below_size (by repeat (first | (with_reducible first | exact HB.out | apply hA | apply hN | apply hD | refine below_set ?_ GE375.out) | exact HB.out))) : w.heap.size ≤ gb376)); have n4_ := aK ((by rw [hg]; exact (below_size (by repeat (first | (with_reducible first | exact HB.out | apply hA | apply hN | apply hD | refine below_set ?_ GE375.out) | exact HB.out))) : w.heap.size ≤ gb376)); have n5_ := aK ((by rw [hg]; exact Nat.ne_of_lt (kl BK375.out) : gb375 ≠ gb376)); have n6_ := aK ((by rw [hg]; exact Nat.ne_of_gt (kl BK375.out) : gb376 ≠ gb375)); clear BK375 HB; have BK375 := n0_; have HB := n1_; have BK376 := n2_; have GW376 := n3_; have GE376 := n4_; have NB375_376 := n5_; have NB376_375 := n6_; clear n0_ n1_ n2_ n3_ n4_ n5_ n6_; clear hb hbox hg; have hnb12 := NB376_375.out; have hnc12 := NB375_376.out; obtain ⟨hcz13_0, hcz13_1, hcz13_2, hcz13_3, hfz13_0, hfz13_1, hfz13_2, hfz13_3⟩ := cf4 BK376.out) | ((with_reducible refine gate_dst (N := 5) rfl ?_); refine box_event ?hg (N := 5) ?hd (cs := #[.int .i64 0, .int .u32 0, .int .u32 0, .slice none 0 0]) (t := 29) ?hr ?_; (case hd => rfl); (case hg => rfl); (case hr => first | (go_simp; done) | (go_simp; rfl)); intro gb377 hg w14 hbox hb; have n0_ := aK (kb BK375.out hb); have n1_ := aK (kb BK376.out hb); have n2_ := aK (below_step (by repeat (first | (with_reducible first | exact HB.out | apply hA | apply hN | apply hD | refine below_set ?_ GE375.out | refine below_set ?_ GE376.out) | exact HB.out)) hb); have n3_ := aK (hbox); have n4_ := aK ((by rw [hg]; exact (below_size (by repeat (first | (with_reducible first | exact HB.out | apply hA | apply hN | apply hD | refine below_set ?_ GE375.out | refine below_set ?_ GE376.out) | exact HB.out))) : w.heap.size ≤ gb377)); have n5_ := aK ((by rw [hg]; exact (below_size (by repeat (first | (with_reducible first | exact HB.out | apply hA | apply hN | apply hD | refine below_set ?_ GE375.out | refine below_set ?_ GE376.out) | exact HB.out))) : w.heap.size ≤ gb377)); have n6_ := aK ((by rw [hg]; exact Nat.ne_of_lt (kl BK375.out) : gb375 ≠ gb377)); have n7_ := aK ((by rw [hg]; exact Nat.ne_of_gt (kl BK375.out) : gb377 ≠ gb375)); have n8_ := aK ((by rw [hg]; exact Nat.ne_of_lt (kl BK376.out) : gb376 ≠ gb377)); have n9_ := aK ((by rw [hg]; exact Nat.ne_of_gt (kl BK376.out) : gb377 ≠ gb376)); clear BK375 BK376 HB; have BK375 := n0_; have BK376 := n1_; have HB := n2_; have BK377 := n3_; have GW377 := n4_; have GE377 := n5_; have NB375_377 := n6_; have NB377_375 := n7_; have NB376_377 := n8_; have NB377_376 := n9_; clear n0_ n1_ n2_ n3_ n4_ n5_ n6_ n7_ n8_ n9_; clear hb hbox hg; have hnb15 := NB377_375.out; have hnc15 := NB375_377.out; have hnb16 := NB377_376.out; have hnc16 := NB376_377.out; obtain ⟨hcz17_0, hcz17_1, hcz17_2, hcz17_3, hfz17_0, hfz17_1, hfz17_2, hfz17_3⟩ := cf4 BK377.out; obtain ⟨hcz18_0, hcz18_1, hcz18_2, hcz18_3, hfz18_0, hfz18_1, hfz18_2, hfz18_3⟩ := cf4 BK376.out) | ((with_reducible refine gate_callee (f := 8) rfl ?_); refine goesL_ (some 19) rfl rfl Try.func8 (by kernel_rfl) rfl #[.slice A1_3 l1_3.length c1_3] rfl (by (try simp only [List.map_toArray, List.map_cons, List.map_nil]) <;> rfl) ?_; (with_reducible refine (outpostlaw24_own.calls _ _ l1_3 t378 _ ?side1 ?side2 A3.out).mono ?_); (case side1 => exact Kd.C_below HR1_3.out (by repeat (first | (with_reducible first | exact HB.out | apply hA | apply hN | apply hD | refine below_set ?_ GE375.out | refine below_set ?_ GE376.out | refine below_set ?_ GE377.out) | exact HB.out))); (case side2 => exact HC1_3.out); rintro e w19 ⟨v379, rfl, ho0, hb⟩; refine ⟨_, rfl, ?_⟩; have n0_ := aK (Kd.L_lower ho0 (below_size (by repeat (first | (with_reducible first | exact HB.out | apply hA | apply hN | apply hD | refine below_set ?_ GE375.out | refine below_set ?_ GE376.out | refine below_set ?_ GE377.out) | exact HB.out)))); have n1_ := aK (blk_below (g := gb375) (o := .cells #[.int .i64 a0_0, .int .i64 a0_1, .int .u32 a0_2, .int .u32 a0_3, .int .u32 a0_4, .bool a0_5] 26 (0, 0)) (by (with_reducible repeat (first | apply bN | apply bD | apply bA)); refine blk_far ?_ NB375_377.out _; (with_reducible repeat (first | apply bN | apply bD | apply bA)); refine blk_far ?_ NB375_377.out _; (with_reducible repeat (first | apply bN | apply bD | apply bA)); refine blk_far ?_ NB375_377.out _; (with_reducible repeat (first | apply bN | apply bD | apply bA)); refine blk_far ?_ NB375_377.out _; exact mvb BK375.out) hb); have n2_ := aK (blk_below (g := gb376) (o := .cells #[.int .i64 a1_0, .int .u32 a1_1, .int .u32 a1_2, .slice A1_3 l1_3.length c1_3] 29 (0, 0)) (by (with_reducible repeat (first | apply bN | apply bD | apply bA)); refine blk_far ?_ NB376_377.out _; (with_reducible repeat (first | apply bN | apply bD | apply bA)); refine blk_far ?_ NB376_377.out _; (with_reducible repeat (first | apply bN | apply bD | apply bA)); refine blk_far ?_ NB376_377.out _; (with_reducible repeat (first | apply bN | apply bD | apply bA)); refine blk_far ?_ NB376_377.out _; exact mvb BK376.out) hb); have n3_ := aK (blk_below (g := gb377) (o := .cells #[.int .i64 a1_0, .int .u32 a1_1, .int .u32 a1_2, .slice A1_3 l1_3.length c1_3] 29 (0, 0)) (by (with_reducible repeat (first | apply bN | apply bD | apply bA)); refine blk_put (cs := #[.int .i64 a1_0, .int .u32 a1_1, .int .u32 a1_2, .slice none 0 0]) ?_ 3 _ rfl; (with_reducible repeat (first | apply bN | apply bD | apply bA)); refine blk_put (cs := #[.int .i64 a1_0, .int .u32 a1_1, .int .u32 0, .slice none 0 0]) ?_ 2 _ rfl; (with_reducible repeat (first | apply bN | apply bD | apply bA)); refine blk_put (cs := #[.int .i64 a1_0, .int .u32 0, .int .u32 0, .slice none 0 0]) ?_ 1 _ rfl; (with_reducible repeat (first | apply bN | apply bD | apply bA)); refine blk_put (cs := #[.int .i64 0, .int .u32 0, .int .u32 0, .slice none 0 0]) ?_ 0 _ rfl; exact mvb BK377.out) hb); have n4_ := aK (below_step (by repeat (first | (with_reducible first | exact HB.out | apply hA | apply hN | apply hD | refine below_set ?_ GE375.out | refine below_set ?_ GE376.out | refine below_set ?_ GE377.out) | exact HB.out)) hb); clear BK375 BK376 BK377 HB; have HO380 := n0_; have BK375 := n1_; have BK376 := n2_; have BK377 := n3_; have HB := n4_; clear n0_ n1_ n2_ n3_ n4_; (try clear hb); (try clear ho0); obtain ⟨Ao20, co20, eo20⟩ := Kd.L_slice HO380.out; subst eo20; obtain ⟨hcz21_0, hcz21_1, hcz21_2, hcz21_3, hfz21_0, hfz21_1, hfz21_2, hfz21_3⟩ := cf4 BK377.out; obtain ⟨hcz22_0, hcz22_1, hcz22_2, hcz22_3, hcz22_4, hcz22_5, hfz22_0, hfz22_1, hfz22_2, hfz22_3, hfz22_4, hfz22_5⟩ := cf6 BK375.out) | ((with_reducible refine gate_callee (f := 9) rfl ?_); refine goesL_ (some 24) rfl rfl Try.func9 (by kernel_rfl) rfl #[.agg #[.int .i64 a0_0, .int .i64 a0_1, .int .u32 a0_2, .int .u32 a0_3, .int .u32 a0_4, .bool a0_5], .agg #[.int .i64 a1_0, .int .u32 a1_1, .int .u32 a1_2, .slice Ao20 t378.length co20]] rfl (by (try simp only [List.map_toArray, List.map_cons, List.map_nil]) <;> rfl) ?_; (with_reducible refine (frame_Build.calls k a0_0 a0_1 a0_2 a0_3 a0_4 a0_5 a1_0 a1_1 a1_2 _ _ t378 t381 t384 _ ?side1 ?side2 A4.out).mono ?_); (case side1 => refine (Kd.L_reads' (e := 5) (base := w.heap.size) (ok := fun k_ => True) (n := t378.length) (c := co20) ?_).2.2; exact (by (with_reducible repeat (first | apply Kd.L_alloc | apply Kd.L_drewN | apply Kd.L_drew)); exact (Kd.L_mono (Kd.L_far (p := ⟨gb377, 3, none⟩) (Kd.L_types HO380.out BK377.out (by decide)) (fun _ hk => hk.2) (.slice Ao20 t378.length co20)) (fun _ h_ => h_.1)))); (case side2 => exact (Kd.L_reads' HO380.out).2.1); rintro e w23 ⟨v382, rfl, ho0, hb⟩; refine ⟨_, rfl, ?_⟩; have n0_ := aK (Kd.L_elder' (by (with_reducible repeat (first | apply Kd.L_alloc | apply Kd.L_drewN | apply Kd.L_drew)); exact (Kd.L_mono (Kd.L_far (p := ⟨gb377, 3, none⟩) (Kd.L_types HO380.out BK377.out (by decide)) (fun _ hk => hk.2) (.slice Ao20 t378.length co20)) (fun _ h_ => h_.1))) (Kd.R_base ho0) hb); have n1_ := aK (Kd.R_lower (Kd.R_new' ho0 (Kd.L_lt (by (with_reducible repeat (first | apply Kd.L_alloc | apply Kd.L_drewN | apply Kd.L_drew)); exact (Kd.L_mono (Kd.L_far (p := ⟨gb377, 3, none⟩) (Kd.L_types HO380.out BK377.out (by decide)) (fun _ hk => hk.2) (.slice Ao20 t378.length co20)) (fun _ h_ => h_.1))))) (below_size (by repeat (first | (with_reducible first | exact HB.out | apply hA | apply hN | apply hD | refine below_set ?_ GE375.out | refine below_set ?_ GE376.out | refine below_set ?_ GE377.out) | exact HB.out)))); have n2_ := aK (blk_below (g := gb375) (o := .cells #[.int .i64 a0_0, .int .i64 a0_1, .int .u32 a0_2, .int .u32 a0_3, .int .u32 a0_4, .bool a0_5] 26 (0, 0)) (by (with_reducible repeat (first | apply bN | apply bD | apply bA)); refine blk_far ?_ NB375_377.out _; exact mvb BK375.out) hb); have n3_ := aK (blk_below (g := gb376) (o := .cells #[.int .i64 a1_0, .int .u32 a1_1, .int .u32 a1_2, .slice A1_3 l1_3.length c1_3] 29 (0, 0)) (by (with_reducible repeat (first | apply bN | apply bD | apply bA)); refine blk_far ?_ NB376_377.out _; exact mvb BK376.out) hb); have n4_ := aK (blk_below (g := gb377) (o := .cells #[.int .i64 a1_0, .int .u32 a1_1, .int .u32 a1_2, .slice Ao20 t378.length co20] 29 (0, 0)) (by (with_reducible repeat (first | apply bN | apply bD | apply bA)); refine blk_put (cs := #[.int .i64 a1_0, .int .u32 a1_1, .int .u32 a1_2, .slice A1_3 l1_3.length c1_3]) ?_ 3 _ rfl; exact mvb BK377.out) hb); have n5_ := aK (below_step (by repeat (first | (with_reducible first | exact HB.out | apply hA | apply hN | apply hD | refine below_set ?_ GE375.out | refine below_set ?_ GE376.out | refine below_set ?_ GE377.out) | exact HB.out)) hb); clear HO380 BK375 BK376 BK377 HB; have HO380 := n0_; have HO383 := n1_; have BK375 := n2_; have BK376 := n3_; have BK377 := n4_; have HB := n5_; clear n0_ n1_ n2_ n3_ n4_ n5_; (try clear hb); (try clear ho0); obtain ⟨hcz24_0, hcz24_1, hcz24_2, hcz24_3, hcz24_4, hcz24_5, hfz24_0, hfz24_1, hfz24_2, hfz24_3, hfz24_4, hfz24_5⟩ := cf6 BK375.out; obtain ⟨hcz25_0, hcz25_1, hcz25_2, hcz25_3, hfz25_0, hfz25_1, hfz25_2, hfz25_3⟩ := cf4 BK377.out) | ((with_reducible refine gate_callee (f := 9) rfl ?_); refine goesL_ (some 30) rfl rfl Try.func9 (by kernel_rfl) rfl #[.agg #[.int .i64 a0_0, .int .i64 a0_1, .int .u32 a0_2, .int .u32 a0_3, .int .u32 a0_4, .bool a0_5], .agg #[.int .i64 a1_0, .int .u32 a1_1, .int .u32 a1_2, .slice Ao20 t378.length co20]] rfl (by (try simp only [List.map_toArray, List.map_cons, List.map_nil]) <;> rfl) ?_; (with_reducible refine (frame_Build.calls k a0_0 a0_1 a0_2 a0_3 a0_4 a0_5 a1_0 a1_1 a1_2 _ _ t378 t385 t388 _ ?side1 ?side2 A5.out).mono ?_); (case side1 => repeat (first | exact (Kd.L_reads' HO380.out).2.2 | (with_reducible refine Kd.C_alloc ?_ _) | (with_reducible refine Kd.C_drewN ?_ _) | (with_reducible refine Kd.C_drew ?_))); (case side2 => exact (Kd.L_reads' HO380.out).2.1); rintro e w26 ⟨v386, rfl, ho0, hb⟩; refine ⟨_, rfl, ?_⟩; have n0_ := aK (Kd.L_elder' (mvL HO380.out) (Kd.R_base ho0) hb); have n1_ := aK (Kd.R_elder' (mvR HO383.out) (Kd.R_base ho0) hb); have n2_ := aK (Kd.R_lower (Kd.R_new' (Kd.R_new' ho0 (Kd.L_lt (mvL HO380.out))) (Kd.R_lt (mvR HO383.out))) (below_size (by repeat (first | (with_reducible first | exact HB.out | apply hA | apply hN | apply hD | refine below_set ?_ GE375.out | refine below_set ?_ GE376.out | refine below_set ?_ GE377.out) | exact HB.out)))); have n3_ := aK (kb BK375.out hb); have n4_ := aK (kb BK376.out hb); have n5_ := aK (kb BK377.out hb); have n6_ := aK (below_step (by repeat (first | (with_reducible first | exact HB.out | apply hA | apply hN | apply hD | refine below_set ?_ GE375.out | refine below_set ?_ GE376.out | refine below_set ?_ GE377.out) | exact HB.out)) hb); clear HO380 HO383 BK375 BK376 BK377 HB; have HO380 := n0_; have HO383 := n1_; have HO387 := n2_; have BK375 := n3_; have BK376 := n4_; have BK377 := n5_; have HB := n6_; clear n0_ n1_ n2_ n3_ n4_ n5_ n6_; (try clear hb); (try clear ho0); obtain ⟨hcz27_0, hcz27_1, hcz27_2, hcz27_3, hcz27_4, hcz27_5, hfz27_0, hfz27_1, hfz27_2, hfz27_3, hfz27_4, hfz27_5⟩ := cf6 BK375.out; obtain ⟨hcz28_0, hcz28_1, hcz28_2, hcz28_3, hfz28_0, hfz28_1, hfz28_2, hfz28_3⟩ := cf4 BK376.out) | ((with_reducible refine gate_callee (f := 10) rfl ?_); refine goesL_ (some 36) rfl rfl Try.func10 (by kernel_rfl) rfl #[.agg #[.int .i64 a0_0, .int .i64 a0_1, .int .u32 a0_2, .int .u32 a0_3, .int .u32 a0_4, .bool a0_5], .agg #[.int .i64 a1_0, .int .u32 a1_1, .int .u32 a1_2, .slice A1_3 l1_3.length c1_3]] rfl (by (try simp only [List.map_toArray, List.map_cons, List.map_nil]) <;> rfl) ?_; (with_reducible refine (outpostref24_Build.calls k a0_0 a0_1 a0_2 a0_3 a0_4 a0_5 a1_0 a1_1 a1_2 _ _ l1_3 t389 t392 _ ?side1 ?side2 A6.out).mono ?_); (case side1 => repeat (first | exact (Kd.C_below HR1_3.out HB.out) | (with_reducible refine Kd.C_alloc ?_ _) | (with_reducible refine Kd.C_drewN ?_ _) | (with_reducible refine Kd.C_drew ?_))); (case side2 => exact HC1_3.out); rintro e w29 ⟨v390, rfl, ho0, hb⟩; refine ⟨_, rfl, ?_⟩; have n0_ := aK (Kd.L_elder' (mvL HO380.out) (Kd.R_base ho0) hb); have n1_ := aK (Kd.R_elder' (mvR HO383.out) (Kd.R_base ho0) hb); have n2_ := aK (Kd.R_elder' (mvR HO387.out) (Kd.R_base ho0) hb); have n3_ := aK (Kd.R_lower (Kd.R_new' (Kd.R_new' (Kd.R_new' ho0 (Kd.L_lt (mvL HO380.out))) (Kd.R_lt (mvR HO383.out))) (Kd.R_lt (mvR HO387.out))) (below_size (by repeat (first | (with_reducible first | exact HB.out | apply hA | apply hN | apply hD | refine below_set ?_ GE375.out | refine below_set ?_ GE376.out | refine below_set ?_ GE377.out) | exact HB.out)))); have n4_ := aK (kb BK375.out hb); have n5_ := aK (kb BK376.out hb); have n6_ := aK (kb BK377.out hb); have n7_ := aK (below_step (by repeat (first | (with_reducible first | exact HB.out | apply hA | apply hN | apply hD | refine below_set ?_ GE375.out | refine below_set ?_ GE376.out | refine below_set ?_ GE377.out) | exact HB.out)) hb); clear HO380 HO383 HO387 BK375 BK376 BK377 HB; have HO380 := n0_; have HO383 := n1_; have HO387 := n2_; have HO391 := n3_; have BK375 := n4_; have BK376 := n5_; have BK377 := n6_; have HB := n7_; clear n0_ n1_ n2_ n3_ n4_ n5_ n6_ n7_; (try clear hb); (try clear ho0); obtain ⟨hcz30_0, hcz30_1, hcz30_2, hcz30_3, hcz30_4, hcz30_5, hfz30_0, hfz30_1, hfz30_2, hfz30_3, hfz30_4, hfz30_5⟩ := cf6 BK375.out) | ((with_reducible refine gate_callee (f := 11) rfl ?_); refine goesL_ (some 41) rfl rfl Try.func11 (by kernel_rfl) rfl #[.agg #[.int .i64 a0_0, .int .i64 a0_1, .int .u32 a0_2, .int .u32 a0_3, .int .u32 a0_4, .bool a0_5]] rfl (by (try simp only [List.map_toArray, List.map_cons, List.map_nil]) <;> rfl) ?_; (with_reducible refine (frame_Length.calls k a0_0 a0_1 a0_2 a0_3 a0_4 a0_5 t393 t394 _ A7.out).mono ?_); rintro e w31 ⟨rfl, hb⟩; refine ⟨_, rfl, ?_⟩; have n0_ := aK (Kd.L_below (mvL HO380.out) hb); have n1_ := aK (Kd.R_below (mvR HO383.out) hb); have n2_ := aK (Kd.R_below (mvR HO387.out) hb); have n3_ := aK (Kd.R_below (mvR HO391.out) hb); have n4_ := aK (kb BK375.out hb); have n5_ := aK (kb BK376.out hb); have n6_ := aK (kb BK377.out hb); have n7_ := aK (below_step (by repeat (first | (with_reducible first | exact HB.out | apply hA | apply hN | apply hD | refine below_set ?_ GE375.out | refine below_set ?_ GE376.out | refine below_set ?_ GE377.out) | exact HB.out)) hb); clear HO380 HO383 HO387 HO391 BK375 BK376 BK377 HB; have HO380 := n0_; have HO383 := n1_; have HO387 := n2_; have HO391 := n3_; have BK375 := n4_; have BK376 := n5_; have BK377 := n6_; have HB := n7_; clear n0_ n1_ n2_ n3_ n4_ n5_ n6_ n7_; (try clear hb); obtain ⟨hcz32_0, hcz32_1, hcz32_2, hcz32_3, hcz32_4, hcz32_5, hfz32_0, hfz32_1, hfz32_2, hfz32_3, hfz32_4, hfz32_5⟩ := cf6 BK375.out) | ((with_reducible refine gate_callee (f := 12) rfl ?_); refine goesL_ (some 46) rfl rfl Try.func12 (by kernel_rfl) rfl #[.agg #[.int .i64 a0_0, .int .i64 a0_1, .int .u32 a0_2, .int .u32 a0_3, .int .u32 a0_4, .bool a0_5]] rfl (by (try simp only [List.map_toArray, List.map_cons, List.map_nil]) <;> rfl) ?_; (with_reducible refine (outpostref24_Length.calls k a0_0 a0_1 a0_2 a0_3 a0_4 a0_5 t395 t396 _ A8.out).mono ?_); rintro e w33 ⟨rfl, hb⟩; refine ⟨_, rfl, ?_⟩; have n0_ := aK (Kd.L_below (mvL HO380.out) hb); have n1_ := aK (Kd.R_below (mvR HO383.out) hb); have n2_ := aK (Kd.R_below (mvR HO387.out) hb); have n3_ := aK (Kd.R_below (mvR HO391.out) hb); have n4_ := aK (kb BK375.out hb); have n5_ := aK (kb BK376.out hb); have n6_ := aK (kb BK377.out hb); have n7_ := aK (below_step (by repeat (first | (with_reducible first | exact HB.out | apply hA | apply hN | apply hD | refine below_set ?_ GE375.out | refine below_set ?_ GE376.out | refine below_set ?_ GE377.out) | exact HB.out)) hb); clear HO380 HO383 HO387 HO391 BK375 BK376 BK377 HB; have HO380 := n0_; have HO383 := n1_; have HO387 := n2_; have HO391 := n3_; have BK375 := n4_; have BK376 := n5_; have BK377 := n6_; have HB := n7_; clear n0_ n1_ n2_ n3_ n4_ n5_ n6_ n7_; (try clear hb)))
 (try simp only [Act.put, List.setIfInBounds_toArray, List.set_cons_zero, List.set_cons_succ])
 go_cut [107] (fun v107 wc => ∃ (kq : Nat) (x107_8 : Bool), v107 = .bool x107_8 ∧ Aside0 (outpostlaw24_FrameBuilds.j0 kq t381 t385 t389 x107_8 a1_0 a1_1 a1_2 l1_3 a1_0 a1_1 a1_2 t378 = some r) ∧ Aside0 (kq ≤ k) ∧ Aside0 (Kd.R (Kd.int .u8) 5 wc w.heap.size (fun k_ => some k_ ≠ (v386 : Value).ownBlock ∧ some k_ ≠ (v390 : Value).ownBlock ∧ some k_ ≠ ((.slice Ao20 t378.length co20) : Value).ownBlock) v382 t381) ∧ Aside0 (Kd.R (Kd.int .u8) 5 wc w.heap.size (fun k_ => some k_ ≠ (v382 : Value).ownBlock ∧ some k_ ≠ (v390 : Value).ownBlock ∧ some k_ ≠ ((.slice Ao20 t378.length co20) : Value).ownBlock) v386 t385) ∧ Aside0 (Kd.R (Kd.int .u8) 5 wc w.heap.size (fun k_ => some k_ ≠ (v382 : Value).ownBlock ∧ some k_ ≠ (v386 : Value).ownBlock ∧ some k_ ≠ ((.slice Ao20 t378.length co20) : Value).ownBlock) v390 t389) ∧ Aside0 (Kd.L (Kd.int .u8) 5 wc w.heap.size (fun k_ => some k_ ≠ (v382 : Value).ownBlock ∧ some k_ ≠ (v386 : Value).ownBlock ∧ some k_ ≠ (v390 : Value).ownBlock) (.slice Ao20 t378.length co20) t378) ∧ Aside0 (wc.heap[gb375]? = some (.cells #[.int .i64 a0_0, .int .i64 a0_1, .int .u32 a0_2, .int .u32 a0_3, .int .u32 a0_4, .bool a0_5] 26 (0, 0))) ∧ Aside0 (wc.heap[gb376]? = some (.cells #[.int .i64 a1_0, .int .u32 a1_1, .int .u32 a1_2, (.slice A1_3 l1_3.length c1_3)] 29 (0, 0))) ∧ Aside0 (wc.heap[gb377]? = some (.cells #[.int .i64 a1_0, .int .u32 a1_1, .int .u32 a1_2, (.slice Ao20 t378.length co20)] 29 (0, 0))) ∧ Aside0 (Below w.heap.size w wc))
 case first =>
  have H := HC9.out
  clear HC9
  replace H := Option.bind_eq_some_iff.mp H
  obtain ⟨t397, A340, H⟩ := H
  replace H : ((outpostlaw24_num.f t397).bind fun t398 => ((outpostref24_Check.f k a0_0 a0_1 a0_2 a0_3 a0_4 a0_5).bind fun t399 => (if t398 = t399 then ((frame_Valid.f k a0_0 a0_1 a0_2 a0_3 a0_4 a0_5 a1_0 a1_1 a1_2 t378).bind fun t400 => ((outpostlaw24_num.f t400).bind fun t401 => ((outpostref24_Valid.f k a0_0 a0_1 a0_2 a0_3 a0_4 a0_5 a1_0 a1_1 a1_2 l1_3).bind fun t402 => (if t401 = t402 then (if (strOfNums t381).toList = (strOfNums t389).toList then (if (strOfNums t385).toList = (strOfNums t389).toList then ((outpostlaw24_num.f t384).bind fun t403 => (if t403 = t392 then (if t393 = t395 then ((outpostlaw24_num.f t394).bind fun t404 => (if t404 = t396 then ((outpostlaw24_kept.f t378 l1_3).bind fun t405 => (if t405 = true then ((outpostlaw24_live.f k).bind fun t406 => (outpostlaw24_FrameBuilds.j0 k t381 t385 t389 (!t406) a1_0 a1_1 a1_2 l1_3 a1_0 a1_1 a1_2 t378)) else (outpostlaw24_FrameBuilds.j0 k t381 t385 t389 true a1_0 a1_1 a1_2 l1_3 a1_0 a1_1 a1_2 t378))) else (outpostlaw24_FrameBuilds.j0 k t381 t385 t389 true a1_0 a1_1 a1_2 l1_3 a1_0 a1_1 a1_2 t378))) else (outpostlaw24_FrameBuilds.j0 k t381 t385 t389 true a1_0 a1_1 a1_2 l1_3 a1_0 a1_1 a1_2 t378)) else (outpostlaw24_FrameBuilds.j0 k t381 t385 t389 true a1_0 a1_1 a1_2 l1_3 a1_0 a1_1 a1_2 t378))) else (outpostlaw24_FrameBuilds.j0 k t381 t385 t389 true a1_0 a1_1 a1_2 l1_3 a1_0 a1_1 a1_2 t378)) else (outpostlaw24_FrameBuilds.j0 k t381 t385 t389 true a1_0 a1_1 a1_2 l1_3 a1_0 a1_1 a1_2 t378)) else (outpostlaw24_FrameBuilds.j0 k t381 t385 t389 true a1_0 a1_1 a1_2 l1_3 a1_0 a1_1 a1_2 t378))))) else (outpostlaw24_FrameBuilds.j0 k t381 t385 t389 true a1_0 a1_1 a1_2 l1_3 a1_0 a1_1 a1_2 t378)))) = some r := H
  have A34 := Aside0.mk A340
  clear A340
  replace H := Option.bind_eq_some_iff.mp H
  obtain ⟨t398, A350, H⟩ := H
  replace H : ((outpostref24_Check.f k a0_0 a0_1 a0_2 a0_3 a0_4 a0_5).bind fun t399 => (if t398 = t399 then ((frame_Valid.f k a0_0 a0_1 a0_2 a0_3 a0_4 a0_5 a1_0 a1_1 a1_2 t378).bind fun t400 => ((outpostlaw24_num.f t400).bind fun t401 => ((outpostref24_Valid.f k a0_0 a0_1 a0_2 a0_3 a0_4 a0_5 a1_0 a1_1 a1_2 l1_3).bind fun t402 => (if t401 = t402 then (if (strOfNums t381).toList = (strOfNums t389).toList then (if (strOfNums t385).toList = (strOfNums t389).toList then ((outpostlaw24_num.f t384).bind fun t403 => (if t403 = t392 then (if t393 = t395 then ((outpostlaw24_num.f t394).bind fun t404 => (if t404 = t396 then ((outpostlaw24_kept.f t378 l1_3).bind fun t405 => (if t405 = true then ((outpostlaw24_live.f k).bind fun t406 => (outpostlaw24_FrameBuilds.j0 k t381 t385 t389 (!t406) a1_0 a1_1 a1_2 l1_3 a1_0 a1_1 a1_2 t378)) else (outpostlaw24_FrameBuilds.j0 k t381 t385 t389 true a1_0 a1_1 a1_2 l1_3 a1_0 a1_1 a1_2 t378))) else (outpostlaw24_FrameBuilds.j0 k t381 t385 t389 true a1_0 a1_1 a1_2 l1_3 a1_0 a1_1 a1_2 t378))) else (outpostlaw24_FrameBuilds.j0 k t381 t385 t389 true a1_0 a1_1 a1_2 l1_3 a1_0 a1_1 a1_2 t378)) else (outpostlaw24_FrameBuilds.j0 k t381 t385 t389 true a1_0 a1_1 a1_2 l1_3 a1_0 a1_1 a1_2 t378))) else (outpostlaw24_FrameBuilds.j0 k t381 t385 t389 true a1_0 a1_1 a1_2 l1_3 a1_0 a1_1 a1_2 t378)) else (outpostlaw24_FrameBuilds.j0 k t381 t385 t389 true a1_0 a1_1 a1_2 l1_3 a1_0 a1_1 a1_2 t378)) else (outpostlaw24_FrameBuilds.j0 k t381 t385 t389 true a1_0 a1_1 a1_2 l1_3 a1_0 a1_1 a1_2 t378))))) else (outpostlaw24_FrameBuilds.j0 k t381 t385 t389 true a1_0 a1_1 a1_2 l1_3 a1_0 a1_1 a1_2 t378))) = some r := H
  have A35 := Aside0.mk A350
  clear A350
  replace H := Option.bind_eq_some_iff.mp H
  obtain ⟨t399, A360, H⟩ := H
  replace H : (if t398 = t399 then ((frame_Valid.f k a0_0 a0_1 a0_2 a0_3 a0_4 a0_5 a1_0 a1_1 a1_2 t378).bind fun t400 => ((outpostlaw24_num.f t400).bind fun t401 => ((outpostref24_Valid.f k a0_0 a0_1 a0_2 a0_3 a0_4 a0_5 a1_0 a1_1 a1_2 l1_3).bind fun t402 => (if t401 = t402 then (if (strOfNums t381).toList = (strOfNums t389).toList then (if (strOfNums t385).toList = (strOfNums t389).toList then ((outpostlaw24_num.f t384).bind fun t403 => (if t403 = t392 then (if t393 = t395 then ((outpostlaw24_num.f t394).bind fun t404 => (if t404 = t396 then ((outpostlaw24_kept.f t378 l1_3).bind fun t405 => (if t405 = true then ((outpostlaw24_live.f k).bind fun t406 => (outpostlaw24_FrameBuilds.j0 k t381 t385 t389 (!t406) a1_0 a1_1 a1_2 l1_3 a1_0 a1_1 a1_2 t378)) else (outpostlaw24_FrameBuilds.j0 k t381 t385 t389 true a1_0 a1_1 a1_2 l1_3 a1_0 a1_1 a1_2 t378))) else (outpostlaw24_FrameBuilds.j0 k t381 t385 t389 true a1_0 a1_1 a1_2 l1_3 a1_0 a1_1 a1_2 t378))) else (outpostlaw24_FrameBuilds.j0 k t381 t385 t389 true a1_0 a1_1 a1_2 l1_3 a1_0 a1_1 a1_2 t378)) else (outpostlaw24_FrameBuilds.j0 k t381 t385 t389 true a1_0 a1_1 a1_2 l1_3 a1_0 a1_1 a1_2 t378))) else (outpostlaw24_FrameBuilds.j0 k t381 t385 t389 true a1_0 a1_1 a1_2 l1_3 a1_0 a1_1 a1_2 t378)) else (outpostlaw24_FrameBuilds.j0 k t381 t385 t389 true a1_0 a1_1 a1_2 l1_3 a1_0 a1_1 a1_2 t378)) else (outpostlaw24_FrameBuilds.j0 k t381 t385 t389 true a1_0 a1_1 a1_2 l1_3 a1_0 a1_1 a1_2 t378))))) else (outpostlaw24_FrameBuilds.j0 k t381 t385 t389 true a1_0 a1_1 a1_2 l1_3 a1_0 a1_1 a1_2 t378)) = some r := H
  have A36 := Aside0.mk A360
  clear A360
  by_cases c37 : t398 = t399
  ·rw [if_pos c37] at H
   have c37b0 : (t398 == t399) = true := beq_iff_eq.mpr c37
   have c37b1 : (t398 != t399) = false := bne_eq_false_iff_eq.mpr c37
   clear c37
   (first | rw [c37b0] | (simp only [i64_w, i32_w]; rw [c37b0]) | rw [c37b1] | skip)
   replace H := Option.bind_eq_some_iff.mp H
   obtain ⟨t400, A380, H⟩ := H
   replace H : ((outpostlaw24_num.f t400).bind fun t401 => ((outpostref24_Valid.f k a0_0 a0_1 a0_2 a0_3 a0_4 a0_5 a1_0 a1_1 a1_2 l1_3).bind fun t402 => (if t401 = t402 then (if (strOfNums t381).toList = (strOfNums t389).toList then (if (strOfNums t385).toList = (strOfNums t389).toList then ((outpostlaw24_num.f t384).bind fun t403 => (if t403 = t392 then (if t393 = t395 then ((outpostlaw24_num.f t394).bind fun t404 => (if t404 = t396 then ((outpostlaw24_kept.f t378 l1_3).bind fun t405 => (if t405 = true then ((outpostlaw24_live.f k).bind fun t406 => (outpostlaw24_FrameBuilds.j0 k t381 t385 t389 (!t406) a1_0 a1_1 a1_2 l1_3 a1_0 a1_1 a1_2 t378)) else (outpostlaw24_FrameBuilds.j0 k t381 t385 t389 true a1_0 a1_1 a1_2 l1_3 a1_0 a1_1 a1_2 t378))) else (outpostlaw24_FrameBuilds.j0 k t381 t385 t389 true a1_0 a1_1 a1_2 l1_3 a1_0 a1_1 a1_2 t378))) else (outpostlaw24_FrameBuilds.j0 k t381 t385 t389 true a1_0 a1_1 a1_2 l1_3 a1_0 a1_1 a1_2 t378)) else (outpostlaw24_FrameBuilds.j0 k t381 t385 t389 true a1_0 a1_1 a1_2 l1_3 a1_0 a1_1 a1_2 t378))) else (outpostlaw24_FrameBuilds.j0 k t381 t385 t389 true a1_0 a1_1 a1_2 l1_3 a1_0 a1_1 a1_2 t378)) else (outpostlaw24_FrameBuilds.j0 k t381 t385 t389 true a1_0 a1_1 a1_2 l1_3 a1_0 a1_1 a1_2 t378)) else (outpostlaw24_FrameBuilds.j0 k t381 t385 t389 true a1_0 a1_1 a1_2 l1_3 a1_0 a1_1 a1_2 t378)))) = some r := H
   have A38 := Aside0.mk A380
   clear A380
   replace H := Option.bind_eq_some_iff.mp H
   obtain ⟨t401, A390, H⟩ := H
   replace H : ((outpostref24_Valid.f k a0_0 a0_1 a0_2 a0_3 a0_4 a0_5 a1_0 a1_1 a1_2 l1_3).bind fun t402 => (if t401 = t402 then (if (strOfNums t381).toList = (strOfNums t389).toList then (if (strOfNums t385).toList = (strOfNums t389).toList then ((outpostlaw24_num.f t384).bind fun t403 => (if t403 = t392 then (if t393 = t395 then ((outpostlaw24_num.f t394).bind fun t404 => (if t404 = t396 then ((outpostlaw24_kept.f t378 l1_3).bind fun t405 => (if t405 = true then ((outpostlaw24_live.f k).bind fun t406 => (outpostlaw24_FrameBuilds.j0 k t381 t385 t389 (!t406) a1_0 a1_1 a1_2 l1_3 a1_0 a1_1 a1_2 t378)) else (outpostlaw24_FrameBuilds.j0 k t381 t385 t389 true a1_0 a1_1 a1_2 l1_3 a1_0 a1_1 a1_2 t378))) else (outpostlaw24_FrameBuilds.j0 k t381 t385 t389 true a1_0 a1_1 a1_2 l1_3 a1_0 a1_1 a1_2 t378))) else (outpostlaw24_FrameBuilds.j0 k t381 t385 t389 true a1_0 a1_1 a1_2 l1_3 a1_0 a1_1 a1_2 t378)) else (outpostlaw24_FrameBuilds.j0 k t381 t385 t389 true a1_0 a1_1 a1_2 l1_3 a1_0 a1_1 a1_2 t378))) else (outpostlaw24_FrameBuilds.j0 k t381 t385 t389 true a1_0 a1_1 a1_2 l1_3 a1_0 a1_1 a1_2 t378)) else (outpostlaw24_FrameBuilds.j0 k t381 t385 t389 true a1_0 a1_1 a1_2 l1_3 a1_0 a1_1 a1_2 t378)) else (outpostlaw24_FrameBuilds.j0 k t381 t385 t389 true a1_0 a1_1 a1_2 l1_3 a1_0 a1_1 a1_2 t378))) = some r := H
   have A39 := Aside0.mk A390
   clear A390
   replace H := Option.bind_eq_some_iff.mp H
   obtain ⟨t402, A400, H⟩ := H
   replace H : (if t401 = t402 then (if (strOfNums t381).toList = (strOfNums t389).toList then (if (strOfNums t385).toList = (strOfNums t389).toList then ((outpostlaw24_num.f t384).bind fun t403 => (if t403 = t392 then (if t393 = t395 then ((outpostlaw24_num.f t394).bind fun t404 => (if t404 = t396 then ((outpostlaw24_kept.f t378 l1_3).bind fun t405 => (if t405 = true then ((outpostlaw24_live.f k).bind fun t406 => (outpostlaw24_FrameBuilds.j0 k t381 t385 t389 (!t406) a1_0 a1_1 a1_2 l1_3 a1_0 a1_1 a1_2 t378)) else (outpostlaw24_FrameBuilds.j0 k t381 t385 t389 true a1_0 a1_1 a1_2 l1_3 a1_0 a1_1 a1_2 t378))) else (outpostlaw24_FrameBuilds.j0 k t381 t385 t389 true a1_0 a1_1 a1_2 l1_3 a1_0 a1_1 a1_2 t378))) else (outpostlaw24_FrameBuilds.j0 k t381 t385 t389 true a1_0 a1_1 a1_2 l1_3 a1_0 a1_1 a1_2 t378)) else (outpostlaw24_FrameBuilds.j0 k t381 t385 t389 true a1_0 a1_1 a1_2 l1_3 a1_0 a1_1 a1_2 t378))) else (outpostlaw24_FrameBuilds.j0 k t381 t385 t389 true a1_0 a1_1 a1_2 l1_3 a1_0 a1_1 a1_2 t378)) else (outpostlaw24_FrameBuilds.j0 k t381 t385 t389 true a1_0 a1_1 a1_2 l1_3 a1_0 a1_1 a1_2 t378)) else (outpostlaw24_FrameBuilds.j0 k t381 t385 t389 true a1_0 a1_1 a1_2 l1_3 a1_0 a1_1 a1_2 t378)) = some r := H
   have A40 := Aside0.mk A400
   clear A400
   by_cases c41 : t401 = t402
   ·rw [if_pos c41] at H
    have c41b0 : (t401 == t402) = true := beq_iff_eq.mpr c41
    have c41b1 : (t401 != t402) = false := bne_eq_false_iff_eq.mpr c41
    clear c41
    by_cases c42 : (strOfNums t381).toList = (strOfNums t389).toList
    ·rw [if_pos c42] at H
     have c42b0 : ((strOfNums t381).toList == (strOfNums t389).toList) = true := beq_iff_eq.mpr c42
     have c42b1 : ((strOfNums t381).toList != (strOfNums t389).toList) = false := bne_eq_false_iff_eq.mpr c42
     clear c42
     by_cases c43 : (strOfNums t385).toList = (strOfNums t389).toList
     ·rw [if_pos c43] at H
      have c43b0 : ((strOfNums t385).toList == (strOfNums t389).toList) = true := beq_iff_eq.mpr c43
      have c43b1 : ((strOfNums t385).toList != (strOfNums t389).toList) = false := bne_eq_false_iff_eq.mpr c43
      clear c43
      replace H := Option.bind_eq_some_iff.mp H
      obtain ⟨t403, A440, H⟩ := H
      replace H : (if t403 = t392 then (if t393 = t395 then ((outpostlaw24_num.f t394).bind fun t404 => (if t404 = t396 then ((outpostlaw24_kept.f t378 l1_3).bind fun t405 => (if t405 = true then ((outpostlaw24_live.f k).bind fun t406 => (outpostlaw24_FrameBuilds.j0 k t381 t385 t389 (!t406) a1_0 a1_1 a1_2 l1_3 a1_0 a1_1 a1_2 t378)) else (outpostlaw24_FrameBuilds.j0 k t381 t385 t389 true a1_0 a1_1 a1_2 l1_3 a1_0 a1_1 a1_2 t378))) else (outpostlaw24_FrameBuilds.j0 k t381 t385 t389 true a1_0 a1_1 a1_2 l1_3 a1_0 a1_1 a1_2 t378))) else (outpostlaw24_FrameBuilds.j0 k t381 t385 t389 true a1_0 a1_1 a1_2 l1_3 a1_0 a1_1 a1_2 t378)) else (outpostlaw24_FrameBuilds.j0 k t381 t385 t389 true a1_0 a1_1 a1_2 l1_3 a1_0 a1_1 a1_2 t378)) = some r := H
      have A44 := Aside0.mk A440
      clear A440
      by_cases c45 : t403 = t392
      ·rw [if_pos c45] at H
       have c45b0 : (t403 == t392) = true := beq_iff_eq.mpr c45
       have c45b1 : (t403 != t392) = false := bne_eq_false_iff_eq.mpr c45
       clear c45
       by_cases c46 : t393 = t395
       ·rw [if_pos c46] at H
        have c46b0 : (t393 == t395) = true := beq_iff_eq.mpr c46
        have c46b1 : (t393 != t395) = false := bne_eq_false_iff_eq.mpr c46
        clear c46
        replace H := Option.bind_eq_some_iff.mp H
        obtain ⟨t404, A470, H⟩ := H
        replace H : (if t404 = t396 then ((outpostlaw24_kept.f t378 l1_3).bind fun t405 => (if t405 = true then ((outpostlaw24_live.f k).bind fun t406 => (outpostlaw24_FrameBuilds.j0 k t381 t385 t389 (!t406) a1_0 a1_1 a1_2 l1_3 a1_0 a1_1 a1_2 t378)) else (outpostlaw24_FrameBuilds.j0 k t381 t385 t389 true a1_0 a1_1 a1_2 l1_3 a1_0 a1_1 a1_2 t378))) else (outpostlaw24_FrameBuilds.j0 k t381 t385 t389 true a1_0 a1_1 a1_2 l1_3 a1_0 a1_1 a1_2 t378)) = some r := H
        have A47 := Aside0.mk A470
        clear A470
        by_cases c48 : t404 = t396
        ·rw [if_pos c48] at H
         have c48b0 : (t404 == t396) = true := beq_iff_eq.mpr c48
         have c48b1 : (t404 != t396) = false := bne_eq_false_iff_eq.mpr c48
         clear c48
         replace H := Option.bind_eq_some_iff.mp H
         obtain ⟨t405, A490, H⟩ := H
         replace H : (if t405 = true then ((outpostlaw24_live.f k).bind fun t406 => (outpostlaw24_FrameBuilds.j0 k t381 t385 t389 (!t406) a1_0 a1_1 a1_2 l1_3 a1_0 a1_1 a1_2 t378)) else (outpostlaw24_FrameBuilds.j0 k t381 t385 t389 true a1_0 a1_1 a1_2 l1_3 a1_0 a1_1 a1_2 t378)) = some r := H
         have A49 := Aside0.mk A490
         clear A490
         by_cases c50 : t405 = true
         ·subst c50
          have H1 : ((outpostlaw24_live.f k).bind fun t406 => (outpostlaw24_FrameBuilds.j0 k t381 t385 t389 (!t406) a1_0 a1_1 a1_2 l1_3 a1_0 a1_1 a1_2 t378)) = some r := by rw [if_pos rfl] at H; exact H
          clear H
          have H := H1
          clear H1
          replace H := Option.bind_eq_some_iff.mp H
          obtain ⟨t406, A510, H⟩ := H
          replace H : (outpostlaw24_FrameBuilds.j0 k t381 t385 t389 (!t406) a1_0 a1_1 a1_2 l1_3 a1_0 a1_1 a1_2 t378) = some r := H
          have A51 := Aside0.mk A510
          clear A510
          have H' := Aside0.mk H
          clear H
          try go_wp2
          have n0_ := aK (Kd.L_drew HO380.out)
          have n1_ := aK (Kd.R_drew HO383.out)
          have n2_ := aK (Kd.R_drew HO387.out)
          have n3_ := aK (Kd.R_drew HO391.out)
          have n4_ := aK (blk_drew BK375.out)
          have n5_ := aK (blk_drew BK376.out)
          have n6_ := aK (blk_drew BK377.out)
          have n7_ := aK (below_drew1 HB.out)
          clear HO380 HO383 HO387 HO391 BK375 BK376 BK377 HB
          have HO380 := n0_
          have HO383 := n1_
          have HO387 := n2_
          have HO391 := n3_
          have BK375 := n4_
          have BK376 := n5_
          have BK377 := n6_
          have HB := n7_
          clear n0_ n1_ n2_ n3_ n4_ n5_ n6_ n7_
          refine start_ (n := 59) (S := fun w' => w'.cell? ⟨gb375, 0, none⟩ = some (.int .i64 a0_0) ∧ w'.cell? ⟨gb375, 1, none⟩ = some (.int .i64 a0_1) ∧ w'.cell? ⟨gb375, 2, none⟩ = some (.int .u32 a0_2) ∧ w'.cell? ⟨gb375, 3, none⟩ = some (.int .u32 a0_3) ∧ w'.cell? ⟨gb375, 4, none⟩ = some (.int .u32 a0_4) ∧ w'.cell? ⟨gb375, 5, none⟩ = some (.bool a0_5) ∧ w'.cell? ⟨gb377, 0, none⟩ = some (.int .i64 a1_0) ∧ w'.cell? ⟨gb377, 1, none⟩ = some (.int .u32 a1_1) ∧ w'.cell? ⟨gb377, 2, none⟩ = some (.int .u32 a1_2) ∧ w'.cell? ⟨gb377, 3, none⟩ = some (.slice Ao20 t378.length co20) ∧ w'.cell? ⟨gb376, 0, none⟩ = some (.int .i64 a1_0) ∧ w'.cell? ⟨gb376, 1, none⟩ = some (.int .u32 a1_1) ∧ w'.cell? ⟨gb376, 2, none⟩ = some (.int .u32 a1_2) ∧ w'.cell? ⟨gb376, 3, none⟩ = some (.slice A1_3 l1_3.length c1_3) ∧ (convert 27 9 (v382)).run Try.prog w' = .ok (.string (strOfNums t381)) w' ∧ (convert 27 9 (v390)).run Try.prog w' = .ok (.string (strOfNums t389)) w' ∧ (convert 27 9 (v386)).run Try.prog w' = .ok (.string (strOfNums t385)) w' ∧ (convert 27 9 (v390)).run Try.prog w' = .ok (.string (strOfNums t389)) w') (ds := []) #[false, false, false, false, false, false, false, false, false, false, false, false, false, false, false, false, false, false, false, false, false, false, false, false, false, false, false, false, false, false, false, false, false, false, false, false, false, false, false, false, false, false, false, false, false, false, false, false, false, false, false, false, false, false, false, false, false, false, false] (by kernel_rfl) rfl rfl ⟨(blk_cell BK375.out 0).trans rfl, (blk_cell BK375.out 1).trans rfl, (blk_cell BK375.out 2).trans rfl, (blk_cell BK375.out 3).trans rfl, (blk_cell BK375.out 4).trans rfl, (blk_cell BK375.out 5).trans rfl, (blk_cell BK377.out 0).trans rfl, (blk_cell BK377.out 1).trans rfl, (blk_cell BK377.out 2).trans rfl, (blk_cell BK377.out 3).trans rfl, (blk_cell BK376.out 0).trans rfl, (blk_cell BK376.out 1).trans rfl, (blk_cell BK376.out 2).trans rfl, (blk_cell BK376.out 3).trans rfl, (own_string (P := Try.prog) Try.underlying27 Try.underlying5 Try.underlying9 (Kd.own_of_R HO383.out)), (own_string (P := Try.prog) Try.underlying27 Try.underlying5 Try.underlying9 (Kd.own_of_R HO391.out)), (own_string (P := Try.prog) Try.underlying27 Try.underlying5 Try.underlying9 (Kd.own_of_R HO387.out)), (own_string (P := Try.prog) Try.underlying27 Try.underlying5 Try.underlying9 (Kd.own_of_R HO391.out))⟩ (fun hHeld => ?_); refine with_tabW outpostlaw24_FrameBuilds.tab8 outpostlaw24_FrameBuilds.bits8 (fun HT_ HW_ => ?_)
          generalize w33.drew = w52 at HO380 HO383 HO387 HO391 BK375 BK376 BK377 HB hHeld ⊢
          refine take_ (i := 0) (N := some 49) (v := ?_) (a' := ?_) #[true, false, false, false, false, false, false, false, false, false, false, false, false, false, false, false, false, false, false, false, false, false, false, false, false, false, false, false, false, false, false, false, false, false, false, false, false, false, false, false, false, false, false, false, false, false, false, false, false, false, false, false, false, false, false, false, false, false, false] rfl rfl (take_ofW HT_.out HW_.out (by kernel_rfl)) (fun _ _ _ h => h) (Or.inl ⟨by rfl, ?_⟩) hHeld ?_ ?_
          rotate_left
          ·rintro w' ⟨s0, s1, s2, s3, s4, s5, s6, s7, s8, s9, s10, s11, s12, s13, s14, s15, s16, s17⟩
           go_simp
           with_reducible rfl
          rotate_left
          ·simp only [Act.put, List.setIfInBounds_toArray, List.set_cons_zero, List.set_cons_succ, i64_w, i32_w]
           rfl
          refine take_ (i := 3) (N := some 52) (v := ?_) (a' := ?_) #[true, false, false, true, false, false, false, false, false, false, false, false, false, false, false, false, false, false, false, false, false, false, false, false, false, false, false, false, false, false, false, false, false, false, false, false, false, false, false, false, false, false, false, false, false, false, false, false, false, false, false, false, false, false, false, false, false, false, false] rfl rfl (take_ofW HT_.out HW_.out (by kernel_rfl)) (fun _ _ _ h => h) (Or.inl ⟨by rfl, ?_⟩) hHeld ?_ ?_
          rotate_left
          ·rintro w' ⟨s0, s1, s2, s3, s4, s5, s6, s7, s8, s9, s10, s11, s12, s13, s14, s15, s16, s17⟩
           go_simp
           with_reducible rfl
          rotate_left
          ·simp only [Act.put, List.setIfInBounds_toArray, List.set_cons_zero, List.set_cons_succ, i64_w, i32_w]
           rfl
          refine one_ (i := 1) (N := some 50) #[true, true, false, true, false, false, false, false, false, false, false, false, false, false, false, false, false, false, false, false, false, false, false, false, false, false, false, false, false, false, false, false, false, false, false, false, false, false, false, false, false, false, false, false, false, false, false, false, false, false, false, false, false, false, false, false, false, false, false] rfl rfl (one_of HT_.out (by kernel_rfl)) (by decide) (fun K hK => ?_)
          refine goes_ Try.func14 (by kernel_rfl) rfl #[.agg #[.int .i64 a0_0, .int .i64 a0_1, .int .u32 a0_2, .int .u32 a0_3, .int .u32 a0_4, .bool a0_5]] (by rfl) rfl rfl (by (try simp only [List.map_toArray, List.map_cons, List.map_nil]) <;> rfl) ?_
          with_reducible refine (frame_Check.calls k a0_0 a0_1 a0_2 a0_3 a0_4 a0_5 t397 _ A34.out).mono ?_
          rintro e w53 ⟨rfl, hb⟩
          refine ⟨_, rfl, ?_⟩
          have n0_ := aK (Kd.L_below (mvL HO380.out) hb)
          have n1_ := aK (Kd.R_below (mvR HO383.out) hb)
          have n2_ := aK (Kd.R_below (mvR HO387.out) hb)
          have n3_ := aK (Kd.R_below (mvR HO391.out) hb)
          have n4_ := aK (kb BK375.out hb)
          have n5_ := aK (kb BK376.out hb)
          have n6_ := aK (kb BK377.out hb)
          have n7_ := aK (below_step (by repeat (first | (with_reducible first | exact HB.out | apply hA | apply hN | apply hD | refine below_set ?_ GE375.out | refine below_set ?_ GE376.out | refine below_set ?_ GE377.out) | exact HB.out)) hb)
          clear HO380 HO383 HO387 HO391 BK375 BK376 BK377 HB
          have HO380 := n0_
          have HO383 := n1_
          have HO387 := n2_
          have HO391 := n3_
          have BK375 := n4_
          have BK376 := n5_
          have BK377 := n6_
          have HB := n7_
          clear n0_ n1_ n2_ n3_ n4_ n5_ n6_ n7_
          (try clear hb)
          refine hK.out _ _ ⟨(blk_cell BK375.out 0).trans rfl, (blk_cell BK375.out 1).trans rfl, (blk_cell BK375.out 2).trans rfl, (blk_cell BK375.out 3).trans rfl, (blk_cell BK375.out 4).trans rfl, (blk_cell BK375.out 5).trans rfl, (blk_cell BK377.out 0).trans rfl, (blk_cell BK377.out 1).trans rfl, (blk_cell BK377.out 2).trans rfl, (blk_cell BK377.out 3).trans rfl, (blk_cell BK376.out 0).trans rfl, (blk_cell BK376.out 1).trans rfl, (blk_cell BK376.out 2).trans rfl, (blk_cell BK376.out 3).trans rfl, (own_string (P := Try.prog) Try.underlying27 Try.underlying5 Try.underlying9 (Kd.own_of_R HO383.out)), (own_string (P := Try.prog) Try.underlying27 Try.underlying5 Try.underlying9 (Kd.own_of_R HO391.out)), (own_string (P := Try.prog) Try.underlying27 Try.underlying5 Try.underlying9 (Kd.own_of_R HO387.out)), (own_string (P := Try.prog) Try.underlying27 Try.underlying5 Try.underlying9 (Kd.own_of_R HO391.out))⟩ (fun hHeld => ?_)
          clear hK K
          refine norm_ (a' := ?_) ?_ ?_
          rotate_left
          ·show Act.put _ (some 50) _ = _
           simp only [Act.put, List.setIfInBounds_toArray, List.set_cons_zero, List.set_cons_succ, i64_w, i32_w]
           rfl
          refine one_ (i := 2) (N := some 51) #[true, true, true, true, false, false, false, false, false, false, false, false, false, false, false, false, false, false, false, false, false, false, false, false, false, false, false, false, false, false, false, false, false, false, false, false, false, false, false, false, false, false, false, false, false, false, false, false, false, false, false, false, false, false, false, false, false, false, false] rfl rfl (one_of HT_.out (by kernel_rfl)) (by decide) (fun K hK => ?_)
          refine goes_ Try.func13 (by kernel_rfl) rfl #[.int .i64 t397] (by rfl) rfl rfl (by (try simp only [List.map_toArray, List.map_cons, List.map_nil]) <;> rfl) ?_
          with_reducible refine (outpostlaw24_num.calls t397 t398 _ A35.out).mono ?_
          rintro e w' ⟨rfl, ⟨nd, rfl⟩⟩
          refine ⟨_, rfl, ?_⟩
          refine hK.out _ _ ⟨(blk_cell BK375.out 0).trans rfl, (blk_cell BK375.out 1).trans rfl, (blk_cell BK375.out 2).trans rfl, (blk_cell BK375.out 3).trans rfl, (blk_cell BK375.out 4).trans rfl, (blk_cell BK375.out 5).trans rfl, (blk_cell BK377.out 0).trans rfl, (blk_cell BK377.out 1).trans rfl, (blk_cell BK377.out 2).trans rfl, (blk_cell BK377.out 3).trans rfl, (blk_cell BK376.out 0).trans rfl, (blk_cell BK376.out 1).trans rfl, (blk_cell BK376.out 2).trans rfl, (blk_cell BK376.out 3).trans rfl, (own_string (P := Try.prog) Try.underlying27 Try.underlying5 Try.underlying9 (Kd.own_of_R HO383.out)), (own_string (P := Try.prog) Try.underlying27 Try.underlying5 Try.underlying9 (Kd.own_of_R HO391.out)), (own_string (P := Try.prog) Try.underlying27 Try.underlying5 Try.underlying9 (Kd.own_of_R HO387.out)), (own_string (P := Try.prog) Try.underlying27 Try.underlying5 Try.underlying9 (Kd.own_of_R HO391.out))⟩ (fun hHeld => ?_)
          clear hK K
          refine norm_ (a' := ?_) ?_ ?_
          rotate_left
          ·show Act.put _ (some 51) _ = _
           simp only [Act.put, List.setIfInBounds_toArray, List.set_cons_zero, List.set_cons_succ, i64_w, i32_w]
           rfl
          refine one_ (i := 4) (N := some 53) #[true, true, true, true, true, false, false, false, false, false, false, false, false, false, false, false, false, false, false, false, false, false, false, false, false, false, false, false, false, false, false, false, false, false, false, false, false, false, false, false, false, false, false, false, false, false, false, false, false, false, false, false, false, false, false, false, false, false, false] rfl rfl (one_of HT_.out (by kernel_rfl)) (by decide) (fun K hK => ?_)
          refine goes_ Try.func15 (by kernel_rfl) rfl #[.agg #[.int .i64 a0_0, .int .i64 a0_1, .int .u32 a0_2, .int .u32 a0_3, .int .u32 a0_4, .bool a0_5]] (by rfl) rfl rfl (by (try simp only [List.map_toArray, List.map_cons, List.map_nil]) <;> rfl) ?_
          with_reducible refine (outpostref24_Check.calls k a0_0 a0_1 a0_2 a0_3 a0_4 a0_5 t399 _ A36.out).mono ?_
          rintro e w54 ⟨rfl, hb⟩
          refine ⟨_, rfl, ?_⟩
          have n0_ := aK (Kd.L_below (mvL HO380.out) hb)
          have n1_ := aK (Kd.R_below (mvR HO383.out) hb)
          have n2_ := aK (Kd.R_below (mvR HO387.out) hb)
          have n3_ := aK (Kd.R_below (mvR HO391.out) hb)
          have n4_ := aK (kb BK375.out hb)
          have n5_ := aK (kb BK376.out hb)
          have n6_ := aK (kb BK377.out hb)
          have n7_ := aK (below_step (by repeat (first | (with_reducible first | exact HB.out | apply hA | apply hN | apply hD | refine below_set ?_ GE375.out | refine below_set ?_ GE376.out | refine below_set ?_ GE377.out) | exact HB.out)) hb)
          clear HO380 HO383 HO387 HO391 BK375 BK376 BK377 HB
          have HO380 := n0_
          have HO383 := n1_
          have HO387 := n2_
          have HO391 := n3_
          have BK375 := n4_
          have BK376 := n5_
          have BK377 := n6_
          have HB := n7_
          clear n0_ n1_ n2_ n3_ n4_ n5_ n6_ n7_
          (try clear hb)
          refine hK.out _ _ ⟨(blk_cell BK375.out 0).trans rfl, (blk_cell BK375.out 1).trans rfl, (blk_cell BK375.out 2).trans rfl, (blk_cell BK375.out 3).trans rfl, (blk_cell BK375.out 4).trans rfl, (blk_cell BK375.out 5).trans rfl, (blk_cell BK377.out 0).trans rfl, (blk_cell BK377.out 1).trans rfl, (blk_cell BK377.out 2).trans rfl, (blk_cell BK377.out 3).trans rfl, (blk_cell BK376.out 0).trans rfl, (blk_cell BK376.out 1).trans rfl, (blk_cell BK376.out 2).trans rfl, (blk_cell BK376.out 3).trans rfl, (own_string (P := Try.prog) Try.underlying27 Try.underlying5 Try.underlying9 (Kd.own_of_R HO383.out)), (own_string (P := Try.prog) Try.underlying27 Try.underlying5 Try.underlying9 (Kd.own_of_R HO391.out)), (own_string (P := Try.prog) Try.underlying27 Try.underlying5 Try.underlying9 (Kd.own_of_R HO387.out)), (own_string (P := Try.prog) Try.underlying27 Try.underlying5 Try.underlying9 (Kd.own_of_R HO391.out))⟩ (fun hHeld => ?_)
          clear hK K
          refine norm_ (a' := ?_) ?_ ?_
          rotate_left
          ·show Act.put _ (some 53) _ = _
           simp only [Act.put, List.setIfInBounds_toArray, List.set_cons_zero, List.set_cons_succ, i64_w, i32_w]
           rfl
          refine pure_ (i := 5) (N := some 54) (v := ?_) (a' := ?_) #[true, true, true, true, true, true, false, false, false, false, false, false, false, false, false, false, false, false, false, false, false, false, false, false, false, false, false, false, false, false, false, false, false, false, false, false, false, false, false, false, false, false, false, false, false, false, false, false, false, false, false, false, false, false, false, false, false, false, false] rfl rfl (any_of HT_.out (by kernel_rfl)) (fun _ _ _ h => h) (Or.inl ⟨by rfl, ?_⟩) ?_ ?_
          rotate_left
          ·intro w'
           go_simp
           with_reducible rfl
          rotate_left
          ·simp only [Act.put, List.setIfInBounds_toArray, List.set_cons_zero, List.set_cons_succ, i64_w, i32_w]
           rfl
          refine pure_ (i := 6) (N := some 55) (v := ?_) (a' := ?_) #[true, true, true, true, true, true, true, false, false, false, false, false, false, false, false, false, false, false, false, false, false, false, false, false, false, false, false, false, false, false, false, false, false, false, false, false, false, false, false, false, false, false, false, false, false, false, false, false, false, false, false, false, false, false, false, false, false, false, false] rfl rfl (any_of HT_.out (by kernel_rfl)) (fun _ _ _ h => h) (Or.inl ⟨by rfl, ?_⟩) ?_ ?_
          rotate_left
          ·intro w'
           go_simp
           with_reducible rfl
          rotate_left
          ·simp only [Act.put, List.setIfInBounds_toArray, List.set_cons_zero, List.set_cons_succ, i64_w, i32_w]
           rfl
          refine take_ (i := 7) (N := some 56) (v := ?_) (a' := ?_) #[true, true, true, true, true, true, true, true, false, false, false, false, false, false, false, false, false, false, false, false, false, false, false, false, false, false, false, false, false, false, false, false, false, false, false, false, false, false, false, false, false, false, false, false, false, false, false, false, false, false, false, false, false, false, false, false, false, false, false] rfl rfl (take_ofW HT_.out HW_.out (by kernel_rfl)) (fun _ _ _ h => h) (Or.inl ⟨by rfl, ?_⟩) hHeld ?_ ?_
          rotate_left
          ·rintro w' ⟨s0, s1, s2, s3, s4, s5, s6, s7, s8, s9, s10, s11, s12, s13, s14, s15, s16, s17⟩
           go_simp
           with_reducible rfl
          rotate_left
          ·simp only [Act.put, List.setIfInBounds_toArray, List.set_cons_zero, List.set_cons_succ, i64_w, i32_w]
           rfl
          refine take_ (i := 8) (N := some 57) (v := ?_) (a' := ?_) #[true, true, true, true, true, true, true, true, true, false, false, false, false, false, false, false, false, false, false, false, false, false, false, false, false, false, false, false, false, false, false, false, false, false, false, false, false, false, false, false, false, false, false, false, false, false, false, false, false, false, false, false, false, false, false, false, false, false, false] rfl rfl (take_ofW HT_.out HW_.out (by kernel_rfl)) (fun _ _ _ h => h) (Or.inl ⟨by rfl, ?_⟩) hHeld ?_ ?_
          rotate_left
          ·rintro w' ⟨s0, s1, s2, s3, s4, s5, s6, s7, s8, s9, s10, s11, s12, s13, s14, s15, s16, s17⟩
           go_simp
           with_reducible rfl
          rotate_left
          ·simp only [Act.put, List.setIfInBounds_toArray, List.set_cons_zero, List.set_cons_succ, i64_w, i32_w]
           rfl
          refine take_ (i := 11) (N := some 60) (v := ?_) (a' := ?_) #[true, true, true, true, true, true, true, true, true, false, false, true, false, false, false, false, false, false, false, false, false, false, false, false, false, false, false, false, false, false, false, false, false, false, false, false, false, false, false, false, false, false, false, false, false, false, false, false, false, false, false, false, false, false, false, false, false, false, false] rfl rfl (take_ofW HT_.out HW_.out (by kernel_rfl)) (fun _ _ _ h => h) (Or.inl ⟨by rfl, ?_⟩) hHeld ?_ ?_
          rotate_left
          ·rintro w' ⟨s0, s1, s2, s3, s4, s5, s6, s7, s8, s9, s10, s11, s12, s13, s14, s15, s16, s17⟩
           go_simp
           with_reducible rfl
          rotate_left
          ·simp only [Act.put, List.setIfInBounds_toArray, List.set_cons_zero, List.set_cons_succ, i64_w, i32_w]
           rfl
          refine take_ (i := 12) (N := some 61) (v := ?_) (a' := ?_) #[true, true, true, true, true, true, true, true, true, false, false, true, true, false, false, false, false, false, false, false, false, false, false, false, false, false, false, false, false, false, false, false, false, false, false, false, false, false, false, false, false, false, false, false, false, false, false, false, false, false, false, false, false, false, false, false, false, false, false] rfl rfl (take_ofW HT_.out HW_.out (by kernel_rfl)) (fun _ _ _ h => h) (Or.inl ⟨by rfl, ?_⟩) hHeld ?_ ?_
          rotate_left
          ·rintro w' ⟨s0, s1, s2, s3, s4, s5, s6, s7, s8, s9, s10, s11, s12, s13, s14, s15, s16, s17⟩
           go_simp
           with_reducible rfl
          rotate_left
          ·simp only [Act.put, List.setIfInBounds_toArray, List.set_cons_zero, List.set_cons_succ, i64_w, i32_w]
           rfl
          refine one_ (i := 9) (N := some 58) #[true, true, true, true, true, true, true, true, true, true, false, true, true, false, false, false, false, false, false, false, false, false, false, false, false, false, false, false, false, false, false, false, false, false, false, false, false, false, false, false, false, false, false, false, false, false, false, false, false, false, false, false, false, false, false, false, false, false, false] rfl rfl (one_of HT_.out (by kernel_rfl)) (by decide) (fun K hK => ?_)
          refine goes_ Try.func16 (by kernel_rfl) rfl #[.agg #[.int .i64 a0_0, .int .i64 a0_1, .int .u32 a0_2, .int .u32 a0_3, .int .u32 a0_4, .bool a0_5], .agg #[.int .i64 a1_0, .int .u32 a1_1, .int .u32 a1_2, .slice Ao20 t378.length co20]] (by rfl) rfl rfl (by (try simp only [List.map_toArray, List.map_cons, List.map_nil]) <;> rfl) ?_
          with_reducible refine (frame_Valid.calls k a0_0 a0_1 a0_2 a0_3 a0_4 a0_5 a1_0 a1_1 a1_2 _ _ t378 t400 _ ?side1 ?side2 A38.out).mono ?_
          (case side1 => repeat (first | exact (Kd.L_reads' HO380.out).2.2 | (with_reducible refine Kd.C_alloc ?_ _) | (with_reducible refine Kd.C_drewN ?_ _) | (with_reducible refine Kd.C_drew ?_)))
          (case side2 => exact (Kd.L_reads' HO380.out).2.1)
          rintro e w55 ⟨rfl, hb⟩
          refine ⟨_, rfl, ?_⟩
          have n0_ := aK (Kd.L_below (mvL HO380.out) hb)
          have n1_ := aK (Kd.R_below (mvR HO383.out) hb)
          have n2_ := aK (Kd.R_below (mvR HO387.out) hb)
          have n3_ := aK (Kd.R_below (mvR HO391.out) hb)
          have n4_ := aK (kb BK375.out hb)
          have n5_ := aK (kb BK376.out hb)
          have n6_ := aK (kb BK377.out hb)
          have n7_ := aK (below_step (by repeat (first | (with_reducible first | exact HB.out | apply hA | apply hN | apply hD | refine below_set ?_ GE375.out | refine below_set ?_ GE376.out | refine below_set ?_ GE377.out) | exact HB.out)) hb)
          clear HO380 HO383 HO387 HO391 BK375 BK376 BK377 HB
          have HO380 := n0_
          have HO383 := n1_
          have HO387 := n2_
          have HO391 := n3_
          have BK375 := n4_
          have BK376 := n5_
          have BK377 := n6_
          have HB := n7_
          clear n0_ n1_ n2_ n3_ n4_ n5_ n6_ n7_
          (try clear hb)
          refine hK.out _ _ ⟨(blk_cell BK375.out 0).trans rfl, (blk_cell BK375.out 1).trans rfl, (blk_cell BK375.out 2).trans rfl, (blk_cell BK375.out 3).trans rfl, (blk_cell BK375.out 4).trans rfl, (blk_cell BK375.out 5).trans rfl, (blk_cell BK377.out 0).trans rfl, (blk_cell BK377.out 1).trans rfl, (blk_cell BK377.out 2).trans rfl, (blk_cell BK377.out 3).trans rfl, (blk_cell BK376.out 0).trans rfl, (blk_cell BK376.out 1).trans rfl, (blk_cell BK376.out 2).trans rfl, (blk_cell BK376.out 3).trans rfl, (own_string (P := Try.prog) Try.underlying27 Try.underlying5 Try.underlying9 (Kd.own_of_R HO383.out)), (own_string (P := Try.prog) Try.underlying27 Try.underlying5 Try.underlying9 (Kd.own_of_R HO391.out)), (own_string (P := Try.prog) Try.underlying27 Try.underlying5 Try.underlying9 (Kd.own_of_R HO387.out)), (own_string (P := Try.prog) Try.underlying27 Try.underlying5 Try.underlying9 (Kd.own_of_R HO391.out))⟩ (fun hHeld => ?_)
          clear hK K
          refine norm_ (a' := ?_) ?_ ?_
          rotate_left
          ·show Act.put _ (some 58) _ = _
           simp only [Act.put, List.setIfInBounds_toArray, List.set_cons_zero, List.set_cons_succ, i64_w, i32_w]
           rfl
          refine one_ (i := 10) (N := some 59) #[true, true, true, true, true, true, true, true, true, true, true, true, true, false, false, false, false, false, false, false, false, false, false, false, false, false, false, false, false, false, false, false, false, false, false, false, false, false, false, false, false, false, false, false, false, false, false, false, false, false, false, false, false, false, false, false, false, false, false] rfl rfl (one_of HT_.out (by kernel_rfl)) (by decide) (fun K hK => ?_)
          refine goes_ Try.func13 (by kernel_rfl) rfl #[.int .i64 t400] (by rfl) rfl rfl (by (try simp only [List.map_toArray, List.map_cons, List.map_nil]) <;> rfl) ?_
          with_reducible refine (outpostlaw24_num.calls t400 t401 _ A39.out).mono ?_
          rintro e w' ⟨rfl, ⟨nd, rfl⟩⟩
          refine ⟨_, rfl, ?_⟩
          refine hK.out _ _ ⟨(blk_cell BK375.out 0).trans rfl, (blk_cell BK375.out 1).trans rfl, (blk_cell BK375.out 2).trans rfl, (blk_cell BK375.out 3).trans rfl, (blk_cell BK375.out 4).trans rfl, (blk_cell BK375.out 5).trans rfl, (blk_cell BK377.out 0).trans rfl, (blk_cell BK377.out 1).trans rfl, (blk_cell BK377.out 2).trans rfl, (blk_cell BK377.out 3).trans rfl, (blk_cell BK376.out 0).trans rfl, (blk_cell BK376.out 1).trans rfl, (blk_cell BK376.out 2).trans rfl, (blk_cell BK376.out 3).trans rfl, (own_string (P := Try.prog) Try.underlying27 Try.underlying5 Try.underlying9 (Kd.own_of_R HO383.out)), (own_string (P := Try.prog) Try.underlying27 Try.underlying5 Try.underlying9 (Kd.own_of_R HO391.out)), (own_string (P := Try.prog) Try.underlying27 Try.underlying5 Try.underlying9 (Kd.own_of_R HO387.out)), (own_string (P := Try.prog) Try.underlying27 Try.underlying5 Try.underlying9 (Kd.own_of_R HO391.out))⟩ (fun hHeld => ?_)
          clear hK K
          refine norm_ (a' := ?_) ?_ ?_
          rotate_left
          ·show Act.put _ (some 59) _ = _
           simp only [Act.put, List.setIfInBounds_toArray, List.set_cons_zero, List.set_cons_succ, i64_w, i32_w]
           rfl
          refine one_ (i := 13) (N := some 62) #[true, true, true, true, true, true, true, true, true, true, true, true, true, true, false, false, false, false, false, false, false, false, false, false, false, false, false, false, false, false, false, false, false, false, false, false, false, false, false, false, false, false, false, false, false, false, false, false, false, false, false, false, false, false, false, false, false, false, false] rfl rfl (one_of HT_.out (by kernel_rfl)) (by decide) (fun K hK => ?_)
          refine goes_ Try.func17 (by kernel_rfl) rfl #[.agg #[.int .i64 a0_0, .int .i64 a0_1, .int .u32 a0_2, .int .u32 a0_3, .int .u32 a0_4, .bool a0_5], .agg #[.int .i64 a1_0, .int .u32 a1_1, .int .u32 a1_2, .slice A1_3 l1_3.length c1_3]] (by rfl) rfl rfl (by (try simp only [List.map_toArray, List.map_cons, List.map_nil]) <;> rfl) ?_
          with_reducible refine (outpostref24_Valid.calls k a0_0 a0_1 a0_2 a0_3 a0_4 a0_5 a1_0 a1_1 a1_2 _ _ l1_3 t402 _ ?side1 ?side2 A40.out).mono ?_
          (case side1 => repeat (first | exact (Kd.C_below HR1_3.out (by repeat (first | (with_reducible first | exact HB.out | apply hA | apply hN | apply hD | refine below_set ?_ GE375.out | refine below_set ?_ GE376.out | refine below_set ?_ GE377.out) | exact HB.out))) | (with_reducible refine Kd.C_alloc ?_ _) | (with_reducible refine Kd.C_drewN ?_ _) | (with_reducible refine Kd.C_drew ?_)))
          (case side2 => exact HC1_3.out)
          rintro e w56 ⟨rfl, hb⟩
          refine ⟨_, rfl, ?_⟩
          have n0_ := aK (Kd.L_below (mvL HO380.out) hb)
          have n1_ := aK (Kd.R_below (mvR HO383.out) hb)
          have n2_ := aK (Kd.R_below (mvR HO387.out) hb)
          have n3_ := aK (Kd.R_below (mvR HO391.out) hb)
          have n4_ := aK (kb BK375.out hb)
          have n5_ := aK (kb BK376.out hb)
          have n6_ := aK (kb BK377.out hb)
          have n7_ := aK (below_step (by repeat (first | (with_reducible first | exact HB.out | apply hA | apply hN | apply hD | refine below_set ?_ GE375.out | refine below_set ?_ GE376.out | refine below_set ?_ GE377.out) | exact HB.out)) hb)
          clear HO380 HO383 HO387 HO391 BK375 BK376 BK377 HB
          have HO380 := n0_
          have HO383 := n1_
          have HO387 := n2_
          have HO391 := n3_
          have BK375 := n4_
          have BK376 := n5_
          have BK377 := n6_
          have HB := n7_
          clear n0_ n1_ n2_ n3_ n4_ n5_ n6_ n7_
          (try clear hb)
          have hcv57 := own_string (P := Try.prog) Try.underlying27 Try.underlying5 Try.underlying9 (Kd.own_of_R HO383.out)
          have hcv58 := fun n_ => own_string (P := Try.prog) Try.underlying27 Try.underlying5 Try.underlying9 (Kd.own_of_R (Kd.R_drewN HO383.out n_))
          have hcv59 := own_string (P := Try.prog) Try.underlying27 Try.underlying5 Try.underlying9 (Kd.own_of_R HO391.out)
          have hcv60 := fun n_ => own_string (P := Try.prog) Try.underlying27 Try.underlying5 Try.underlying9 (Kd.own_of_R (Kd.R_drewN HO391.out n_))
          have hcv61 := own_string (P := Try.prog) Try.underlying27 Try.underlying5 Try.underlying9 (Kd.own_of_R HO387.out)
          have hcv62 := fun n_ => own_string (P := Try.prog) Try.underlying27 Try.underlying5 Try.underlying9 (Kd.own_of_R (Kd.R_drewN HO387.out n_))
          have hcv63 := own_string (P := Try.prog) Try.underlying27 Try.underlying5 Try.underlying9 (Kd.own_of_R HO391.out)
          have hcv64 := fun n_ => own_string (P := Try.prog) Try.underlying27 Try.underlying5 Try.underlying9 (Kd.own_of_R (Kd.R_drewN HO391.out n_))
          refine hK.out _ _ ⟨(blk_cell BK375.out 0).trans rfl, (blk_cell BK375.out 1).trans rfl, (blk_cell BK375.out 2).trans rfl, (blk_cell BK375.out 3).trans rfl, (blk_cell BK375.out 4).trans rfl, (blk_cell BK375.out 5).trans rfl, (blk_cell BK377.out 0).trans rfl, (blk_cell BK377.out 1).trans rfl, (blk_cell BK377.out 2).trans rfl, (blk_cell BK377.out 3).trans rfl, (blk_cell BK376.out 0).trans rfl, (blk_cell BK376.out 1).trans rfl, (blk_cell BK376.out 2).trans rfl, (blk_cell BK376.out 3).trans rfl, (own_string (P := Try.prog) Try.underlying27 Try.underlying5 Try.underlying9 (Kd.own_of_R HO383.out)), (own_string (P := Try.prog) Try.underlying27 Try.underlying5 Try.underlying9 (Kd.own_of_R HO391.out)), (own_string (P := Try.prog) Try.underlying27 Try.underlying5 Try.underlying9 (Kd.own_of_R HO387.out)), (own_string (P := Try.prog) Try.underlying27 Try.underlying5 Try.underlying9 (Kd.own_of_R HO391.out))⟩ (fun hHeld => ?_)
          clear hK K
          refine norm_ (a' := ?_) ?_ ?_
          rotate_left
          ·show Act.put _ (some 62) _ = _
           simp only [Act.put, List.setIfInBounds_toArray, List.set_cons_zero, List.set_cons_succ, i64_w, i32_w]
           rfl
          refine pure_ (i := 14) (N := some 63) (v := ?_) (a' := ?_) #[true, true, true, true, true, true, true, true, true, true, true, true, true, true, true, false, false, false, false, false, false, false, false, false, false, false, false, false, false, false, false, false, false, false, false, false, false, false, false, false, false, false, false, false, false, false, false, false, false, false, false, false, false, false, false, false, false, false, false] rfl rfl (any_of HT_.out (by kernel_rfl)) (fun _ _ _ h => h) (Or.inl ⟨by rfl, ?_⟩) ?_ ?_
          rotate_left
          ·intro w'
           go_simp
           with_reducible rfl
          rotate_left
          ·simp only [Act.put, List.setIfInBounds_toArray, List.set_cons_zero, List.set_cons_succ, i64_w, i32_w]
           rfl
          refine pure_ (i := 15) (N := some 64) (v := ?_) (a' := ?_) #[true, true, true, true, true, true, true, true, true, true, true, true, true, true, true, true, false, false, false, false, false, false, false, false, false, false, false, false, false, false, false, false, false, false, false, false, false, false, false, false, false, false, false, false, false, false, false, false, false, false, false, false, false, false, false, false, false, false, false] rfl rfl (any_of HT_.out (by kernel_rfl)) (fun _ _ _ h => h) (Or.inl ⟨by rfl, ?_⟩) ?_ ?_
          rotate_left
          ·intro w'
           go_simp
           with_reducible rfl
          rotate_left
          ·simp only [Act.put, List.setIfInBounds_toArray, List.set_cons_zero, List.set_cons_succ, i64_w, i32_w]
           rfl
          refine pure_ (i := 16) (N := some 65) (v := ?_) (a' := ?_) #[true, true, true, true, true, true, true, true, true, true, true, true, true, true, true, true, true, false, false, false, false, false, false, false, false, false, false, false, false, false, false, false, false, false, false, false, false, false, false, false, false, false, false, false, false, false, false, false, false, false, false, false, false, false, false, false, false, false, false] rfl rfl (any_of HT_.out (by kernel_rfl)) (fun _ _ _ h => h) (Or.inl ⟨by rfl, ?_⟩) ?_ ?_
          rotate_left
          ·intro w'
           go_simp
           with_reducible rfl
          rotate_left
          ·simp only [Act.put, List.setIfInBounds_toArray, List.set_cons_zero, List.set_cons_succ, i64_w, i32_w]
           rfl
          refine pure_ (i := 17) (N := some 66) (v := ?_) (a' := ?_) #[true, true, true, true, true, true, true, true, true, true, true, true, true, true, true, true, true, true, false, false, false, false, false, false, false, false, false, false, false, false, false, false, false, false, false, false, false, false, false, false, false, false, false, false, false, false, false, false, false, false, false, false, false, false, false, false, false, false, false] rfl rfl (any_of HT_.out (by kernel_rfl)) (fun _ _ _ h => h) (Or.inl ⟨by rfl, ?_⟩) ?_ ?_
          rotate_left
          ·intro w'
           go_simp
           with_reducible rfl
          rotate_left
          ·simp only [Act.put, List.setIfInBounds_toArray, List.set_cons_zero, List.set_cons_succ, i64_w, i32_w]
           rfl
          refine pure_ (i := 19) (N := some 68) (v := ?_) (a' := ?_) #[true, true, true, true, true, true, true, true, true, true, true, true, true, true, true, true, true, true, false, true, false, false, false, false, false, false, false, false, false, false, false, false, false, false, false, false, false, false, false, false, false, false, false, false, false, false, false, false, false, false, false, false, false, false, false, false, false, false, false] rfl rfl (any_of HT_.out (by kernel_rfl)) (fun _ _ _ h => h) (Or.inl ⟨by rfl, ?_⟩) ?_ ?_
          rotate_left
          ·intro w'
           go_simp
           with_reducible rfl
          rotate_left
          ·simp only [Act.put, List.setIfInBounds_toArray, List.set_cons_zero, List.set_cons_succ, i64_w, i32_w]
           rfl
          refine take_ (i := 18) (N := some 67) (v := ?_) (a' := ?_) #[true, true, true, true, true, true, true, true, true, true, true, true, true, true, true, true, true, true, true, true, false, false, false, false, false, false, false, false, false, false, false, false, false, false, false, false, false, false, false, false, false, false, false, false, false, false, false, false, false, false, false, false, false, false, false, false, false, false, false] rfl rfl (take_ofW HT_.out HW_.out (by kernel_rfl)) (fun _ _ _ h => h) (Or.inl ⟨by rfl, ?_⟩) hHeld ?_ ?_
          rotate_left
          ·rintro w' ⟨s0, s1, s2, s3, s4, s5, s6, s7, s8, s9, s10, s11, s12, s13, s14, s15, s16, s17⟩
           go_simp
           with_reducible rfl
          rotate_left
          ·simp only [Act.put, List.setIfInBounds_toArray, List.set_cons_zero, List.set_cons_succ, i64_w, i32_w]
           rfl
          refine take_ (i := 20) (N := some 69) (v := ?_) (a' := ?_) #[true, true, true, true, true, true, true, true, true, true, true, true, true, true, true, true, true, true, true, true, true, false, false, false, false, false, false, false, false, false, false, false, false, false, false, false, false, false, false, false, false, false, false, false, false, false, false, false, false, false, false, false, false, false, false, false, false, false, false] rfl rfl (take_ofW HT_.out HW_.out (by kernel_rfl)) (fun _ _ _ h => h) (Or.inl ⟨by rfl, ?_⟩) hHeld ?_ ?_
          rotate_left
          ·rintro w' ⟨s0, s1, s2, s3, s4, s5, s6, s7, s8, s9, s10, s11, s12, s13, s14, s15, s16, s17⟩
           go_simp
           with_reducible rfl
          rotate_left
          ·simp only [Act.put, List.setIfInBounds_toArray, List.set_cons_zero, List.set_cons_succ, i64_w, i32_w]
           rfl
          refine pure_ (i := 21) (N := some 70) (v := ?_) (a' := ?_) #[true, true, true, true, true, true, true, true, true, true, true, true, true, true, true, true, true, true, true, true, true, true, false, false, false, false, false, false, false, false, false, false, false, false, false, false, false, false, false, false, false, false, false, false, false, false, false, false, false, false, false, false, false, false, false, false, false, false, false] rfl rfl (any_of HT_.out (by kernel_rfl)) (fun _ _ _ h => h) (Or.inl ⟨by rfl, ?_⟩) ?_ ?_
          rotate_left
          ·intro w'
           go_simp
           with_reducible rfl
          rotate_left
          ·simp only [Act.put, List.setIfInBounds_toArray, List.set_cons_zero, List.set_cons_succ, i64_w, i32_w]
           rfl
          refine pure_ (i := 22) (N := some 71) (v := ?_) (a' := ?_) #[true, true, true, true, true, true, true, true, true, true, true, true, true, true, true, true, true, true, true, true, true, true, true, false, false, false, false, false, false, false, false, false, false, false, false, false, false, false, false, false, false, false, false, false, false, false, false, false, false, false, false, false, false, false, false, false, false, false, false] rfl rfl (any_of HT_.out (by kernel_rfl)) (fun _ _ _ h => h) (Or.inl ⟨by rfl, ?_⟩) ?_ ?_
          rotate_left
          ·intro w'
           go_simp
           with_reducible rfl
          rotate_left
          ·simp only [Act.put, List.setIfInBounds_toArray, List.set_cons_zero, List.set_cons_succ, i64_w, i32_w]
           rfl
          refine pure_ (i := 23) (N := some 72) (v := ?_) (a' := ?_) #[true, true, true, true, true, true, true, true, true, true, true, true, true, true, true, true, true, true, true, true, true, true, true, true, false, false, false, false, false, false, false, false, false, false, false, false, false, false, false, false, false, false, false, false, false, false, false, false, false, false, false, false, false, false, false, false, false, false, false] rfl rfl (any_of HT_.out (by kernel_rfl)) (fun _ _ _ h => h) (Or.inl ⟨by rfl, ?_⟩) ?_ ?_
          rotate_left
          ·intro w'
           go_simp
           with_reducible rfl
          rotate_left
          ·simp only [Act.put, List.setIfInBounds_toArray, List.set_cons_zero, List.set_cons_succ, i64_w, i32_w]
           rfl
          refine pure_ (i := 24) (N := some 73) (v := ?_) (a' := ?_) #[true, true, true, true, true, true, true, true, true, true, true, true, true, true, true, true, true, true, true, true, true, true, true, true, true, false, false, false, false, false, false, false, false, false, false, false, false, false, false, false, false, false, false, false, false, false, false, false, false, false, false, false, false, false, false, false, false, false, false] rfl rfl (any_of HT_.out (by kernel_rfl)) (fun _ _ _ h => h) (Or.inl ⟨by rfl, ?_⟩) ?_ ?_
          rotate_left
          ·intro w'
           go_simp
           with_reducible rfl
          rotate_left
          ·simp only [Act.put, List.setIfInBounds_toArray, List.set_cons_zero, List.set_cons_succ, i64_w, i32_w]
           rfl
          refine pure_ (i := 26) (N := some 75) (v := ?_) (a' := ?_) #[true, true, true, true, true, true, true, true, true, true, true, true, true, true, true, true, true, true, true, true, true, true, true, true, true, false, true, false, false, false, false, false, false, false, false, false, false, false, false, false, false, false, false, false, false, false, false, false, false, false, false, false, false, false, false, false, false, false, false] rfl rfl (any_of HT_.out (by kernel_rfl)) (fun _ _ _ h => h) (Or.inl ⟨by rfl, ?_⟩) ?_ ?_
          rotate_left
          ·intro w'
           go_simp
           with_reducible rfl
          rotate_left
          ·simp only [Act.put, List.setIfInBounds_toArray, List.set_cons_zero, List.set_cons_succ, i64_w, i32_w]
           rfl
          refine take_ (i := 25) (N := some 74) (v := ?_) (a' := ?_) #[true, true, true, true, true, true, true, true, true, true, true, true, true, true, true, true, true, true, true, true, true, true, true, true, true, true, true, false, false, false, false, false, false, false, false, false, false, false, false, false, false, false, false, false, false, false, false, false, false, false, false, false, false, false, false, false, false, false, false] rfl rfl (take_ofW HT_.out HW_.out (by kernel_rfl)) (fun _ _ _ h => h) (Or.inl ⟨by rfl, ?_⟩) hHeld ?_ ?_
          rotate_left
          ·rintro w' ⟨s0, s1, s2, s3, s4, s5, s6, s7, s8, s9, s10, s11, s12, s13, s14, s15, s16, s17⟩
           go_simp
           with_reducible rfl
          rotate_left
          ·simp only [Act.put, List.setIfInBounds_toArray, List.set_cons_zero, List.set_cons_succ, i64_w, i32_w]
           rfl
          refine take_ (i := 27) (N := some 76) (v := ?_) (a' := ?_) #[true, true, true, true, true, true, true, true, true, true, true, true, true, true, true, true, true, true, true, true, true, true, true, true, true, true, true, true, false, false, false, false, false, false, false, false, false, false, false, false, false, false, false, false, false, false, false, false, false, false, false, false, false, false, false, false, false, false, false] rfl rfl (take_ofW HT_.out HW_.out (by kernel_rfl)) (fun _ _ _ h => h) (Or.inl ⟨by rfl, ?_⟩) hHeld ?_ ?_
          rotate_left
          ·rintro w' ⟨s0, s1, s2, s3, s4, s5, s6, s7, s8, s9, s10, s11, s12, s13, s14, s15, s16, s17⟩
           go_simp
           with_reducible rfl
          rotate_left
          ·simp only [Act.put, List.setIfInBounds_toArray, List.set_cons_zero, List.set_cons_succ, i64_w, i32_w]
           rfl
          refine pure_ (i := 28) (N := some 77) (v := ?_) (a' := ?_) #[true, true, true, true, true, true, true, true, true, true, true, true, true, true, true, true, true, true, true, true, true, true, true, true, true, true, true, true, true, false, false, false, false, false, false, false, false, false, false, false, false, false, false, false, false, false, false, false, false, false, false, false, false, false, false, false, false, false, false] rfl rfl (any_of HT_.out (by kernel_rfl)) (fun _ _ _ h => h) (Or.inl ⟨by rfl, ?_⟩) ?_ ?_
          rotate_left
          ·intro w'
           go_simp
           with_reducible rfl
          rotate_left
          ·simp only [Act.put, List.setIfInBounds_toArray, List.set_cons_zero, List.set_cons_succ, i64_w, i32_w]
           rfl
          refine pure_ (i := 29) (N := some 78) (v := ?_) (a' := ?_) #[true, true, true, true, true, true, true, true, true, true, true, true, true, true, true, true, true, true, true, true, true, true, true, true, true, true, true, true, true, true, false, false, false, false, false, false, false, false, false, false, false, false, false, false, false, false, false, false, false, false, false, false, false, false, false, false, false, false, false] rfl rfl (any_of HT_.out (by kernel_rfl)) (fun _ _ _ h => h) (Or.inl ⟨by rfl, ?_⟩) ?_ ?_
          rotate_left
          ·intro w'
           go_simp
           with_reducible rfl
          rotate_left
          ·simp only [Act.put, List.setIfInBounds_toArray, List.set_cons_zero, List.set_cons_succ, i64_w, i32_w]
           rfl
          refine pure_ (i := 30) (N := some 79) (v := ?_) (a' := ?_) #[true, true, true, true, true, true, true, true, true, true, true, true, true, true, true, true, true, true, true, true, true, true, true, true, true, true, true, true, true, true, true, false, false, false, false, false, false, false, false, false, false, false, false, false, false, false, false, false, false, false, false, false, false, false, false, false, false, false, false] rfl rfl (any_of HT_.out (by kernel_rfl)) (fun _ _ _ h => h) (Or.inl ⟨by rfl, ?_⟩) ?_ ?_
          rotate_left
          ·intro w'
           go_simp
           with_reducible rfl
          rotate_left
          ·simp only [Act.put, List.setIfInBounds_toArray, List.set_cons_zero, List.set_cons_succ, i64_w, i32_w]
           rfl
          refine pure_ (i := 31) (N := some 80) (v := ?_) (a' := ?_) #[true, true, true, true, true, true, true, true, true, true, true, true, true, true, true, true, true, true, true, true, true, true, true, true, true, true, true, true, true, true, true, true, false, false, false, false, false, false, false, false, false, false, false, false, false, false, false, false, false, false, false, false, false, false, false, false, false, false, false] rfl rfl (any_of HT_.out (by kernel_rfl)) (fun _ _ _ h => h) (Or.inl ⟨by rfl, ?_⟩) ?_ ?_
          rotate_left
          ·intro w'
           go_simp
           with_reducible rfl
          rotate_left
          ·simp only [Act.put, List.setIfInBounds_toArray, List.set_cons_zero, List.set_cons_succ, i64_w, i32_w]
           rfl
          refine pure_ (i := 33) (N := some 82) (v := ?_) (a' := ?_) #[true, true, true, true, true, true, true, true, true, true, true, true, true, true, true, true, true, true, true, true, true, true, true, true, true, true, true, true, true, true, true, true, false, true, false, false, false, false, false, false, false, false, false, false, false, false, false, false, false, false, false, false, false, false, false, false, false, false, false] rfl rfl (any_of HT_.out (by kernel_rfl)) (fun _ _ _ h => h) (Or.inl ⟨by rfl, ?_⟩) ?_ ?_
          rotate_left
          ·intro w'
           go_simp
           with_reducible rfl
          rotate_left
          ·simp only [Act.put, List.setIfInBounds_toArray, List.set_cons_zero, List.set_cons_succ, i64_w, i32_w]
           rfl
          refine one_ (i := 32) (N := some 81) #[true, true, true, true, true, true, true, true, true, true, true, true, true, true, true, true, true, true, true, true, true, true, true, true, true, true, true, true, true, true, true, true, true, true, false, false, false, false, false, false, false, false, false, false, false, false, false, false, false, false, false, false, false, false, false, false, false, false, false] rfl rfl (one_of HT_.out (by kernel_rfl)) (by decide) (fun K hK => ?_)
          refine goes_ Try.func13 (by kernel_rfl) rfl #[.int .i64 t384] (by rfl) rfl rfl (by (try simp only [List.map_toArray, List.map_cons, List.map_nil]) <;> rfl) ?_
          with_reducible refine (outpostlaw24_num.calls t384 t403 _ A44.out).mono ?_
          rintro e w' ⟨rfl, ⟨nd, rfl⟩⟩
          refine ⟨_, rfl, ?_⟩
          refine hK.out _ _ ⟨(blk_cell BK375.out 0).trans rfl, (blk_cell BK375.out 1).trans rfl, (blk_cell BK375.out 2).trans rfl, (blk_cell BK375.out 3).trans rfl, (blk_cell BK375.out 4).trans rfl, (blk_cell BK375.out 5).trans rfl, (blk_cell BK377.out 0).trans rfl, (blk_cell BK377.out 1).trans rfl, (blk_cell BK377.out 2).trans rfl, (blk_cell BK377.out 3).trans rfl, (blk_cell BK376.out 0).trans rfl, (blk_cell BK376.out 1).trans rfl, (blk_cell BK376.out 2).trans rfl, (blk_cell BK376.out 3).trans rfl, (own_string (P := Try.prog) Try.underlying27 Try.underlying5 Try.underlying9 (Kd.own_of_R HO383.out)), (own_string (P := Try.prog) Try.underlying27 Try.underlying5 Try.underlying9 (Kd.own_of_R HO391.out)), (own_string (P := Try.prog) Try.underlying27 Try.underlying5 Try.underlying9 (Kd.own_of_R HO387.out)), (own_string (P := Try.prog) Try.underlying27 Try.underlying5 Try.underlying9 (Kd.own_of_R HO391.out))⟩ (fun hHeld => ?_)
          clear hK K
          refine norm_ (a' := ?_) ?_ ?_
          rotate_left
          ·show Act.put _ (some 81) _ = _
           simp only [Act.put, List.setIfInBounds_toArray, List.set_cons_zero, List.set_cons_succ, i64_w, i32_w]
           rfl
          refine pure_ (i := 34) (N := some 83) (v := ?_) (a' := ?_) #[true, true, true, true, true, true, true, true, true, true, true, true, true, true, true, true, true, true, true, true, true, true, true, true, true, true, true, true, true, true, true, true, true, true, true, false, false, false, false, false, false, false, false, false, false, false, false, false, false, false, false, false, false, false, false, false, false, false, false] rfl rfl (any_of HT_.out (by kernel_rfl)) (fun _ _ _ h => h) (Or.inl ⟨by rfl, ?_⟩) ?_ ?_
          rotate_left
          ·intro w'
           go_simp
           with_reducible rfl
          rotate_left
          ·simp only [Act.put, List.setIfInBounds_toArray, List.set_cons_zero, List.set_cons_succ, i64_w, i32_w]
           rfl
          refine pure_ (i := 35) (N := some 84) (v := ?_) (a' := ?_) #[true, true, true, true, true, true, true, true, true, true, true, true, true, true, true, true, true, true, true, true, true, true, true, true, true, true, true, true, true, true, true, true, true, true, true, true, false, false, false, false, false, false, false, false, false, false, false, false, false, false, false, false, false, false, false, false, false, false, false] rfl rfl (any_of HT_.out (by kernel_rfl)) (fun _ _ _ h => h) (Or.inl ⟨by rfl, ?_⟩) ?_ ?_
          rotate_left
          ·intro w'
           go_simp
           with_reducible rfl
          rotate_left
          ·simp only [Act.put, List.setIfInBounds_toArray, List.set_cons_zero, List.set_cons_succ, i64_w, i32_w]
           rfl
          refine pure_ (i := 36) (N := some 85) (v := ?_) (a' := ?_) #[true, true, true, true, true, true, true, true, true, true, true, true, true, true, true, true, true, true, true, true, true, true, true, true, true, true, true, true, true, true, true, true, true, true, true, true, true, false, false, false, false, false, false, false, false, false, false, false, false, false, false, false, false, false, false, false, false, false, false] rfl rfl (any_of HT_.out (by kernel_rfl)) (fun _ _ _ h => h) (Or.inl ⟨by rfl, ?_⟩) ?_ ?_
          rotate_left
          ·intro w'
           go_simp
           with_reducible rfl
          rotate_left
          ·simp only [Act.put, List.setIfInBounds_toArray, List.set_cons_zero, List.set_cons_succ, i64_w, i32_w]
           rfl
          refine pure_ (i := 37) (N := some 86) (v := ?_) (a' := ?_) #[true, true, true, true, true, true, true, true, true, true, true, true, true, true, true, true, true, true, true, true, true, true, true, true, true, true, true, true, true, true, true, true, true, true, true, true, true, true, false, false, false, false, false, false, false, false, false, false, false, false, false, false, false, false, false, false, false, false, false] rfl rfl (any_of HT_.out (by kernel_rfl)) (fun _ _ _ h => h) (Or.inl ⟨by rfl, ?_⟩) ?_ ?_
          rotate_left
          ·intro w'
           go_simp
           with_reducible rfl
          rotate_left
          ·simp only [Act.put, List.setIfInBounds_toArray, List.set_cons_zero, List.set_cons_succ, i64_w, i32_w]
           rfl
          refine pure_ (i := 38) (N := some 87) (v := ?_) (a' := ?_) #[true, true, true, true, true, true, true, true, true, true, true, true, true, true, true, true, true, true, true, true, true, true, true, true, true, true, true, true, true, true, true, true, true, true, true, true, true, true, true, false, false, false, false, false, false, false, false, false, false, false, false, false, false, false, false, false, false, false, false] rfl rfl (any_of HT_.out (by kernel_rfl)) (fun _ _ _ h => h) (Or.inl ⟨by rfl, ?_⟩) ?_ ?_
          rotate_left
          ·intro w'
           go_simp
           with_reducible rfl
          rotate_left
          ·simp only [Act.put, List.setIfInBounds_toArray, List.set_cons_zero, List.set_cons_succ, i64_w, i32_w]
           rfl
          refine pure_ (i := 39) (N := some 88) (v := ?_) (a' := ?_) #[true, true, true, true, true, true, true, true, true, true, true, true, true, true, true, true, true, true, true, true, true, true, true, true, true, true, true, true, true, true, true, true, true, true, true, true, true, true, true, true, false, false, false, false, false, false, false, false, false, false, false, false, false, false, false, false, false, false, false] rfl rfl (any_of HT_.out (by kernel_rfl)) (fun _ _ _ h => h) (Or.inl ⟨by rfl, ?_⟩) ?_ ?_
          rotate_left
          ·intro w'
           go_simp
           with_reducible rfl
          rotate_left
          ·simp only [Act.put, List.setIfInBounds_toArray, List.set_cons_zero, List.set_cons_succ, i64_w, i32_w]
           rfl
          refine pure_ (i := 40) (N := some 89) (v := ?_) (a' := ?_) #[true, true, true, true, true, true, true, true, true, true, true, true, true, true, true, true, true, true, true, true, true, true, true, true, true, true, true, true, true, true, true, true, true, true, true, true, true, true, true, true, true, false, false, false, false, false, false, false, false, false, false, false, false, false, false, false, false, false, false] rfl rfl (any_of HT_.out (by kernel_rfl)) (fun _ _ _ h => h) (Or.inl ⟨by rfl, ?_⟩) ?_ ?_
          rotate_left
          ·intro w'
           go_simp
           with_reducible rfl
          rotate_left
          ·simp only [Act.put, List.setIfInBounds_toArray, List.set_cons_zero, List.set_cons_succ, i64_w, i32_w]
           rfl
          refine pure_ (i := 41) (N := some 90) (v := ?_) (a' := ?_) #[true, true, true, true, true, true, true, true, true, true, true, true, true, true, true, true, true, true, true, true, true, true, true, true, true, true, true, true, true, true, true, true, true, true, true, true, true, true, true, true, true, true, false, false, false, false, false, false, false, false, false, false, false, false, false, false, false, false, false] rfl rfl (any_of HT_.out (by kernel_rfl)) (fun _ _ _ h => h) (Or.inl ⟨by rfl, ?_⟩) ?_ ?_
          rotate_left
          ·intro w'
           go_simp
           with_reducible rfl
          rotate_left
          ·simp only [Act.put, List.setIfInBounds_toArray, List.set_cons_zero, List.set_cons_succ, i64_w, i32_w]
           rfl
          refine pure_ (i := 42) (N := some 91) (v := ?_) (a' := ?_) #[true, true, true, true, true, true, true, true, true, true, true, true, true, true, true, true, true, true, true, true, true, true, true, true, true, true, true, true, true, true, true, true, true, true, true, true, true, true, true, true, true, true, true, false, false, false, false, false, false, false, false, false, false, false, false, false, false, false, false] rfl rfl (any_of HT_.out (by kernel_rfl)) (fun _ _ _ h => h) (Or.inl ⟨by rfl, ?_⟩) ?_ ?_
          rotate_left
          ·intro w'
           go_simp
           with_reducible rfl
          rotate_left
          ·simp only [Act.put, List.setIfInBounds_toArray, List.set_cons_zero, List.set_cons_succ, i64_w, i32_w]
           rfl
          refine pure_ (i := 44) (N := some 93) (v := ?_) (a' := ?_) #[true, true, true, true, true, true, true, true, true, true, true, true, true, true, true, true, true, true, true, true, true, true, true, true, true, true, true, true, true, true, true, true, true, true, true, true, true, true, true, true, true, true, true, false, true, false, false, false, false, false, false, false, false, false, false, false, false, false, false] rfl rfl (any_of HT_.out (by kernel_rfl)) (fun _ _ _ h => h) (Or.inl ⟨by rfl, ?_⟩) ?_ ?_
          rotate_left
          ·intro w'
           go_simp
           with_reducible rfl
          rotate_left
          ·simp only [Act.put, List.setIfInBounds_toArray, List.set_cons_zero, List.set_cons_succ, i64_w, i32_w]
           rfl
          refine one_ (i := 43) (N := some 92) #[true, true, true, true, true, true, true, true, true, true, true, true, true, true, true, true, true, true, true, true, true, true, true, true, true, true, true, true, true, true, true, true, true, true, true, true, true, true, true, true, true, true, true, true, true, false, false, false, false, false, false, false, false, false, false, false, false, false, false] rfl rfl (one_of HT_.out (by kernel_rfl)) (by decide) (fun K hK => ?_)
          refine goes_ Try.func13 (by kernel_rfl) rfl #[.int .i64 t394] (by rfl) rfl rfl (by (try simp only [List.map_toArray, List.map_cons, List.map_nil]) <;> rfl) ?_
          with_reducible refine (outpostlaw24_num.calls t394 t404 _ A47.out).mono ?_
          rintro e w' ⟨rfl, ⟨nd, rfl⟩⟩
          refine ⟨_, rfl, ?_⟩
          refine hK.out _ _ ⟨(blk_cell BK375.out 0).trans rfl, (blk_cell BK375.out 1).trans rfl, (blk_cell BK375.out 2).trans rfl, (blk_cell BK375.out 3).trans rfl, (blk_cell BK375.out 4).trans rfl, (blk_cell BK375.out 5).trans rfl, (blk_cell BK377.out 0).trans rfl, (blk_cell BK377.out 1).trans rfl, (blk_cell BK377.out 2).trans rfl, (blk_cell BK377.out 3).trans rfl, (blk_cell BK376.out 0).trans rfl, (blk_cell BK376.out 1).trans rfl, (blk_cell BK376.out 2).trans rfl, (blk_cell BK376.out 3).trans rfl, (own_string (P := Try.prog) Try.underlying27 Try.underlying5 Try.underlying9 (Kd.own_of_R HO383.out)), (own_string (P := Try.prog) Try.underlying27 Try.underlying5 Try.underlying9 (Kd.own_of_R HO391.out)), (own_string (P := Try.prog) Try.underlying27 Try.underlying5 Try.underlying9 (Kd.own_of_R HO387.out)), (own_string (P := Try.prog) Try.underlying27 Try.underlying5 Try.underlying9 (Kd.own_of_R HO391.out))⟩ (fun hHeld => ?_)
          clear hK K
          refine norm_ (a' := ?_) ?_ ?_
          rotate_left
          ·show Act.put _ (some 92) _ = _
           simp only [Act.put, List.setIfInBounds_toArray, List.set_cons_zero, List.set_cons_succ, i64_w, i32_w]
           rfl
          refine pure_ (i := 45) (N := some 94) (v := ?_) (a' := ?_) #[true, true, true, true, true, true, true, true, true, true, true, true, true, true, true, true, true, true, true, true, true, true, true, true, true, true, true, true, true, true, true, true, true, true, true, true, true, true, true, true, true, true, true, true, true, true, false, false, false, false, false, false, false, false, false, false, false, false, false] rfl rfl (any_of HT_.out (by kernel_rfl)) (fun _ _ _ h => h) (Or.inl ⟨by rfl, ?_⟩) ?_ ?_
          rotate_left
          ·intro w'
           go_simp
           with_reducible rfl
          rotate_left
          ·simp only [Act.put, List.setIfInBounds_toArray, List.set_cons_zero, List.set_cons_succ, i64_w, i32_w]
           rfl
          refine pure_ (i := 46) (N := some 95) (v := ?_) (a' := ?_) #[true, true, true, true, true, true, true, true, true, true, true, true, true, true, true, true, true, true, true, true, true, true, true, true, true, true, true, true, true, true, true, true, true, true, true, true, true, true, true, true, true, true, true, true, true, true, true, false, false, false, false, false, false, false, false, false, false, false, false] rfl rfl (any_of HT_.out (by kernel_rfl)) (fun _ _ _ h => h) (Or.inl ⟨by rfl, ?_⟩) ?_ ?_
          rotate_left
          ·intro w'
           go_simp
           with_reducible rfl
          rotate_left
          ·simp only [Act.put, List.setIfInBounds_toArray, List.set_cons_zero, List.set_cons_succ, i64_w, i32_w]
           rfl
          refine pure_ (i := 47) (N := some 96) (v := ?_) (a' := ?_) #[true, true, true, true, true, true, true, true, true, true, true, true, true, true, true, true, true, true, true, true, true, true, true, true, true, true, true, true, true, true, true, true, true, true, true, true, true, true, true, true, true, true, true, true, true, true, true, true, false, false, false, false, false, false, false, false, false, false, false] rfl rfl (any_of HT_.out (by kernel_rfl)) (fun _ _ _ h => h) (Or.inl ⟨by rfl, ?_⟩) ?_ ?_
          rotate_left
          ·intro w'
           go_simp
           with_reducible rfl
          rotate_left
          ·simp only [Act.put, List.setIfInBounds_toArray, List.set_cons_zero, List.set_cons_succ, i64_w, i32_w]
           rfl
          refine pure_ (i := 48) (N := some 97) (v := ?_) (a' := ?_) #[true, true, true, true, true, true, true, true, true, true, true, true, true, true, true, true, true, true, true, true, true, true, true, true, true, true, true, true, true, true, true, true, true, true, true, true, true, true, true, true, true, true, true, true, true, true, true, true, true, false, false, false, false, false, false, false, false, false, false] rfl rfl (any_of HT_.out (by kernel_rfl)) (fun _ _ _ h => h) (Or.inl ⟨by rfl, ?_⟩) ?_ ?_
          rotate_left
          ·intro w'
           go_simp
           with_reducible rfl
          rotate_left
          ·simp only [Act.put, List.setIfInBounds_toArray, List.set_cons_zero, List.set_cons_succ, i64_w, i32_w]
           rfl
          refine pure_ (i := 50) (N := some 99) (v := ?_) (a' := ?_) #[true, true, true, true, true, true, true, true, true, true, true, true, true, true, true, true, true, true, true, true, true, true, true, true, true, true, true, true, true, true, true, true, true, true, true, true, true, true, true, true, true, true, true, true, true, true, true, true, true, false, true, false, false, false, false, false, false, false, false] rfl rfl (any_of HT_.out (by kernel_rfl)) (fun _ _ _ h => h) (Or.inl ⟨by rfl, ?_⟩) ?_ ?_
          rotate_left
          ·intro w'
           go_simp
           with_reducible rfl
          rotate_left
          ·simp only [Act.put, List.setIfInBounds_toArray, List.set_cons_zero, List.set_cons_succ, i64_w, i32_w]
           rfl
          refine take_ (i := 49) (N := some 98) (v := ?_) (a' := ?_) #[true, true, true, true, true, true, true, true, true, true, true, true, true, true, true, true, true, true, true, true, true, true, true, true, true, true, true, true, true, true, true, true, true, true, true, true, true, true, true, true, true, true, true, true, true, true, true, true, true, true, true, false, false, false, false, false, false, false, false] rfl rfl (take_ofW HT_.out HW_.out (by kernel_rfl)) (fun _ _ _ h => h) (Or.inl ⟨by rfl, ?_⟩) hHeld ?_ ?_
          rotate_left
          ·rintro w' ⟨s0, s1, s2, s3, s4, s5, s6, s7, s8, s9, s10, s11, s12, s13, s14, s15, s16, s17⟩
           go_simp
           with_reducible rfl
          rotate_left
          ·simp only [Act.put, List.setIfInBounds_toArray, List.set_cons_zero, List.set_cons_succ, i64_w, i32_w]
           rfl
          refine take_ (i := 51) (N := some 100) (v := ?_) (a' := ?_) #[true, true, true, true, true, true, true, true, true, true, true, true, true, true, true, true, true, true, true, true, true, true, true, true, true, true, true, true, true, true, true, true, true, true, true, true, true, true, true, true, true, true, true, true, true, true, true, true, true, true, true, true, false, false, false, false, false, false, false] rfl rfl (take_ofW HT_.out HW_.out (by kernel_rfl)) (fun _ _ _ h => h) (Or.inl ⟨by rfl, ?_⟩) hHeld ?_ ?_
          rotate_left
          ·rintro w' ⟨s0, s1, s2, s3, s4, s5, s6, s7, s8, s9, s10, s11, s12, s13, s14, s15, s16, s17⟩
           go_simp
           with_reducible rfl
          rotate_left
          ·simp only [Act.put, List.setIfInBounds_toArray, List.set_cons_zero, List.set_cons_succ, i64_w, i32_w]
           rfl
          refine one_ (i := 52) (N := some 101) #[true, true, true, true, true, true, true, true, true, true, true, true, true, true, true, true, true, true, true, true, true, true, true, true, true, true, true, true, true, true, true, true, true, true, true, true, true, true, true, true, true, true, true, true, true, true, true, true, true, true, true, true, true, false, false, false, false, false, false] rfl rfl (one_of HT_.out (by kernel_rfl)) (by decide) (fun K hK => ?_)
          refine goes_ Try.func18 (by kernel_rfl) rfl #[.slice Ao20 t378.length co20, .slice A1_3 l1_3.length c1_3] (by rfl) rfl rfl (by (try simp only [List.map_toArray, List.map_cons, List.map_nil]) <;> rfl) ?_
          with_reducible refine (outpostlaw24_kept.calls _ _ t378 _ _ l1_3 true _ ?side1 ?side2 ?side3 ?side4 A49.out).mono ?_
          (case side1 => exact Kd.L_any (d := Kd.int .u8) (mvL HO380.out))
          (case side2 => exact (Kd.L_reads' HO380.out).2.1)
          (case side3 => repeat (first | exact (Kd.C_below HR1_3.out (by repeat (first | (with_reducible first | exact HB.out | apply hA | apply hN | apply hD | refine below_set ?_ GE375.out | refine below_set ?_ GE376.out | refine below_set ?_ GE377.out) | exact HB.out))) | (with_reducible refine Kd.C_alloc ?_ _) | (with_reducible refine Kd.C_drewN ?_ _) | (with_reducible refine Kd.C_drew ?_)))
          (case side4 => exact HC1_3.out)
          rintro e w' ⟨rfl, ⟨nd, rfl⟩⟩
          refine ⟨_, rfl, ?_⟩
          refine hK.out _ _ ⟨(blk_cell BK375.out 0).trans rfl, (blk_cell BK375.out 1).trans rfl, (blk_cell BK375.out 2).trans rfl, (blk_cell BK375.out 3).trans rfl, (blk_cell BK375.out 4).trans rfl, (blk_cell BK375.out 5).trans rfl, (blk_cell BK377.out 0).trans rfl, (blk_cell BK377.out 1).trans rfl, (blk_cell BK377.out 2).trans rfl, (blk_cell BK377.out 3).trans rfl, (blk_cell BK376.out 0).trans rfl, (blk_cell BK376.out 1).trans rfl, (blk_cell BK376.out 2).trans rfl, (blk_cell BK376.out 3).trans rfl, (own_string (P := Try.prog) Try.underlying27 Try.underlying5 Try.underlying9 (Kd.own_of_R HO383.out)), (own_string (P := Try.prog) Try.underlying27 Try.underlying5 Try.underlying9 (Kd.own_of_R HO391.out)), (own_string (P := Try.prog) Try.underlying27 Try.underlying5 Try.underlying9 (Kd.own_of_R HO387.out)), (own_string (P := Try.prog) Try.underlying27 Try.underlying5 Try.underlying9 (Kd.own_of_R HO391.out))⟩ (fun hHeld => ?_)
          clear hK K
          refine norm_ (a' := ?_) ?_ ?_
          rotate_left
          ·show Act.put _ (some 101) _ = _
           simp only [Act.put, List.setIfInBounds_toArray, List.set_cons_zero, List.set_cons_succ, i64_w, i32_w]
           rfl
          refine pure_ (i := 53) (N := some 102) (v := ?_) (a' := ?_) #[true, true, true, true, true, true, true, true, true, true, true, true, true, true, true, true, true, true, true, true, true, true, true, true, true, true, true, true, true, true, true, true, true, true, true, true, true, true, true, true, true, true, true, true, true, true, true, true, true, true, true, true, true, true, false, false, false, false, false] rfl rfl (any_of HT_.out (by kernel_rfl)) (fun _ _ _ h => h) (Or.inl ⟨by rfl, ?_⟩) ?_ ?_
          rotate_left
          ·intro w'
           go_simp
           with_reducible rfl
          rotate_left
          ·simp only [Act.put, List.setIfInBounds_toArray, List.set_cons_zero, List.set_cons_succ, i64_w, i32_w]
           rfl
          refine pure_ (i := 54) (N := some 103) (v := ?_) (a' := ?_) #[true, true, true, true, true, true, true, true, true, true, true, true, true, true, true, true, true, true, true, true, true, true, true, true, true, true, true, true, true, true, true, true, true, true, true, true, true, true, true, true, true, true, true, true, true, true, true, true, true, true, true, true, true, true, true, false, false, false, false] rfl rfl (any_of HT_.out (by kernel_rfl)) (fun _ _ _ h => h) (Or.inl ⟨by rfl, ?_⟩) ?_ ?_
          rotate_left
          ·intro w'
           go_simp
           with_reducible rfl
          rotate_left
          ·simp only [Act.put, List.setIfInBounds_toArray, List.set_cons_zero, List.set_cons_succ, i64_w, i32_w]
           rfl
          refine pure_ (i := 55) (N := some 104) (v := ?_) (a' := ?_) #[true, true, true, true, true, true, true, true, true, true, true, true, true, true, true, true, true, true, true, true, true, true, true, true, true, true, true, true, true, true, true, true, true, true, true, true, true, true, true, true, true, true, true, true, true, true, true, true, true, true, true, true, true, true, true, true, false, false, false] rfl rfl (any_of HT_.out (by kernel_rfl)) (fun _ _ _ h => h) (Or.inl ⟨by rfl, ?_⟩) ?_ ?_
          rotate_left
          ·intro w'
           go_simp
           with_reducible rfl
          rotate_left
          ·simp only [Act.put, List.setIfInBounds_toArray, List.set_cons_zero, List.set_cons_succ, i64_w, i32_w]
           rfl
          refine one_ (i := 56) (N := some 105) #[true, true, true, true, true, true, true, true, true, true, true, true, true, true, true, true, true, true, true, true, true, true, true, true, true, true, true, true, true, true, true, true, true, true, true, true, true, true, true, true, true, true, true, true, true, true, true, true, true, true, true, true, true, true, true, true, true, false, false] rfl rfl (one_of HT_.out (by kernel_rfl)) (by decide) (fun K hK => ?_)
          refine goes_ Try.func19 (by kernel_rfl) rfl #[] (by rfl) rfl rfl (by (try simp only [List.map_toArray, List.map_cons, List.map_nil]) <;> rfl) ?_
          with_reducible refine (outpostlaw24_live.calls k  t406 _ A51.out).mono ?_
          rintro e w66 ⟨rfl, hb⟩
          refine ⟨_, rfl, ?_⟩
          have n0_ := aK (Kd.L_below (mvL HO380.out) hb)
          have n1_ := aK (Kd.R_below (mvR HO383.out) hb)
          have n2_ := aK (Kd.R_below (mvR HO387.out) hb)
          have n3_ := aK (Kd.R_below (mvR HO391.out) hb)
          have n4_ := aK (kb BK375.out hb)
          have n5_ := aK (kb BK376.out hb)
          have n6_ := aK (kb BK377.out hb)
          have n7_ := aK (below_step (by repeat (first | (with_reducible first | exact HB.out | apply hA | apply hN | apply hD | refine below_set ?_ GE375.out | refine below_set ?_ GE376.out | refine below_set ?_ GE377.out) | exact HB.out)) hb)
          clear HO380 HO383 HO387 HO391 BK375 BK376 BK377 HB
          have HO380 := n0_
          have HO383 := n1_
          have HO387 := n2_
          have HO391 := n3_
          have BK375 := n4_
          have BK376 := n5_
          have BK377 := n6_
          have HB := n7_
          clear n0_ n1_ n2_ n3_ n4_ n5_ n6_ n7_
          (try clear hb)
          refine hK.out _ _ ⟨(blk_cell BK375.out 0).trans rfl, (blk_cell BK375.out 1).trans rfl, (blk_cell BK375.out 2).trans rfl, (blk_cell BK375.out 3).trans rfl, (blk_cell BK375.out 4).trans rfl, (blk_cell BK375.out 5).trans rfl, (blk_cell BK377.out 0).trans rfl, (blk_cell BK377.out 1).trans rfl, (blk_cell BK377.out 2).trans rfl, (blk_cell BK377.out 3).trans rfl, (blk_cell BK376.out 0).trans rfl, (blk_cell BK376.out 1).trans rfl, (blk_cell BK376.out 2).trans rfl, (blk_cell BK376.out 3).trans rfl, (own_string (P := Try.prog) Try.underlying27 Try.underlying5 Try.underlying9 (Kd.own_of_R HO383.out)), (own_string (P := Try.prog) Try.underlying27 Try.underlying5 Try.underlying9 (Kd.own_of_R HO391.out)), (own_string (P := Try.prog) Try.underlying27 Try.underlying5 Try.underlying9 (Kd.own_of_R HO387.out)), (own_string (P := Try.prog) Try.underlying27 Try.underlying5 Try.underlying9 (Kd.own_of_R HO391.out))⟩ (fun hHeld => ?_)
          clear hK K
          refine norm_ (a' := ?_) ?_ ?_
          rotate_left
          ·show Act.put _ (some 105) _ = _
           simp only [Act.put, List.setIfInBounds_toArray, List.set_cons_zero, List.set_cons_succ, i64_w, i32_w]
           rfl
          refine pure_ (i := 57) (N := some 106) (v := ?_) (a' := ?_) #[true, true, true, true, true, true, true, true, true, true, true, true, true, true, true, true, true, true, true, true, true, true, true, true, true, true, true, true, true, true, true, true, true, true, true, true, true, true, true, true, true, true, true, true, true, true, true, true, true, true, true, true, true, true, true, true, true, true, false] rfl rfl (any_of HT_.out (by kernel_rfl)) (fun _ _ _ h => h) (Or.inl ⟨by rfl, ?_⟩) ?_ ?_
          rotate_left
          ·intro w'
           go_simp
           with_reducible rfl
          rotate_left
          ·simp only [Act.put, List.setIfInBounds_toArray, List.set_cons_zero, List.set_cons_succ, i64_w, i32_w]
           rfl
          refine pure_ (i := 58) (N := some 107) (v := ?_) (a' := ?_) #[true, true, true, true, true, true, true, true, true, true, true, true, true, true, true, true, true, true, true, true, true, true, true, true, true, true, true, true, true, true, true, true, true, true, true, true, true, true, true, true, true, true, true, true, true, true, true, true, true, true, true, true, true, true, true, true, true, true, true] rfl rfl (any_of HT_.out (by kernel_rfl)) (fun _ _ _ h => h) (Or.inl ⟨by rfl, ?_⟩) ?_ ?_
          rotate_left
          ·intro w'
           go_simp
           with_reducible rfl
          rotate_left
          ·simp only [Act.put, List.setIfInBounds_toArray, List.set_cons_zero, List.set_cons_succ, i64_w, i32_w]
           rfl
          refine done_ (done_of HT_.out (by kernel_rfl)) ?_
          try go_wp2
          go_meet
          case rel => exact ⟨_, (!t406), (by first | rfl | (simp; done) | (simp [*]; done) | (simp [wrap64]; done)), H', ⟨by first | omega | exact Nat.le_refl _⟩, ⟨by (with_reducible repeat (first | apply Kd.R_alloc | apply Kd.R_drewN | apply Kd.R_drew)); first | exact HO383.out | exact Kd.R_mono HO383.out (fun _ hk => ⟨by first | exact hk.1 | exact hk.2 | exact hk.1.1 | exact hk.1.2 | exact hk.2.1 | exact hk.2.2 | exact hk.1.1.2 | exact hk.1.1.1 | exact hk.2.2.1 | exact hk.2.2.2, by first | exact hk.1 | exact hk.2 | exact hk.1.1 | exact hk.1.2 | exact hk.2.1 | exact hk.2.2 | exact hk.1.1.2 | exact hk.1.1.1 | exact hk.2.2.1 | exact hk.2.2.2, by first | exact hk.1 | exact hk.2 | exact hk.1.1 | exact hk.1.2 | exact hk.2.1 | exact hk.2.2 | exact hk.1.1.2 | exact hk.1.1.1 | exact hk.2.2.1 | exact hk.2.2.2⟩)⟩, ⟨by (with_reducible repeat (first | apply Kd.R_alloc | apply Kd.R_drewN | apply Kd.R_drew)); first | exact HO387.out | exact Kd.R_mono HO387.out (fun _ hk => ⟨by first | exact hk.1 | exact hk.2 | exact hk.1.1 | exact hk.1.2 | exact hk.2.1 | exact hk.2.2 | exact hk.1.1.2 | exact hk.1.1.1 | exact hk.2.2.1 | exact hk.2.2.2, by first | exact hk.1 | exact hk.2 | exact hk.1.1 | exact hk.1.2 | exact hk.2.1 | exact hk.2.2 | exact hk.1.1.2 | exact hk.1.1.1 | exact hk.2.2.1 | exact hk.2.2.2, by first | exact hk.1 | exact hk.2 | exact hk.1.1 | exact hk.1.2 | exact hk.2.1 | exact hk.2.2 | exact hk.1.1.2 | exact hk.1.1.1 | exact hk.2.2.1 | exact hk.2.2.2⟩)⟩, ⟨by (with_reducible repeat (first | apply Kd.R_alloc | apply Kd.R_drewN | apply Kd.R_drew)); first | exact HO391.out | exact Kd.R_mono HO391.out (fun _ hk => ⟨by first | exact hk.1 | exact hk.2 | exact hk.1.1 | exact hk.1.2 | exact hk.2.1 | exact hk.2.2 | exact hk.1.1.2 | exact hk.1.1.1 | exact hk.2.2.1 | exact hk.2.2.2, by first | exact hk.1 | exact hk.2 | exact hk.1.1 | exact hk.1.2 | exact hk.2.1 | exact hk.2.2 | exact hk.1.1.2 | exact hk.1.1.1 | exact hk.2.2.1 | exact hk.2.2.2, by first | exact hk.1 | exact hk.2 | exact hk.1.1 | exact hk.1.2 | exact hk.2.1 | exact hk.2.2 | exact hk.1.1.2 | exact hk.1.1.1 | exact hk.2.2.1 | exact hk.2.2.2⟩)⟩, ⟨by (with_reducible repeat (first | apply Kd.L_alloc | apply Kd.L_drewN | apply Kd.L_drew)); first | exact HO380.out | exact Kd.L_mono HO380.out (fun _ hk => ⟨by first | exact hk.1 | exact hk.2 | exact hk.1.1 | exact hk.1.2 | exact hk.2.1 | exact hk.2.2 | exact hk.1.1.2 | exact hk.1.1.1 | exact hk.2.2.1 | exact hk.2.2.2, by first | exact hk.1 | exact hk.2 | exact hk.1.1 | exact hk.1.2 | exact hk.2.1 | exact hk.2.2 | exact hk.1.1.2 | exact hk.1.1.1 | exact hk.2.2.1 | exact hk.2.2.2, by first | exact hk.1 | exact hk.2 | exact hk.1.1 | exact hk.1.2 | exact hk.2.1 | exact hk.2.2 | exact hk.1.1.2 | exact hk.1.1.1 | exact hk.2.2.1 | exact hk.2.2.2⟩)⟩, ⟨mvb BK375.out⟩, ⟨mvb BK376.out⟩, ⟨mvb BK377.out⟩, ⟨by repeat (first | (with_reducible first | exact HB.out | apply hA | apply hN | apply hD | refine below_set ?_ GE375.out | refine below_set ?_ GE376.out | refine below_set ?_ GE377.out) | exact HB.out)⟩⟩
         ·replace c50 := Bool.eq_false_iff.mpr c50
          exact outpostlaw24_FrameBuilds.no_j0 HR9_.out ((if_neg (c := t405 = true) (by rw [c50]; exact Bool.false_ne_true)).symm.trans H)
        ·rw [if_neg c48] at H
         exact outpostlaw24_FrameBuilds.no_j0 HR9_.out H
       ·rw [if_neg c46] at H
        exact outpostlaw24_FrameBuilds.no_j0 HR9_.out H
      ·rw [if_neg c45] at H
       exact outpostlaw24_FrameBuilds.no_j0 HR9_.out H
     ·rw [if_neg c43] at H
      exact outpostlaw24_FrameBuilds.no_j0 HR9_.out H
    ·rw [if_neg c42] at H
     exact outpostlaw24_FrameBuilds.no_j0 HR9_.out H
   ·rw [if_neg c41] at H
    exact outpostlaw24_FrameBuilds.no_j0 HR9_.out H
  ·rw [if_neg c37] at H
   exact outpostlaw24_FrameBuilds.no_j0 HR9_.out H
 case rest =>
  clear HC9
  (try clear c1); (try clear p2); (try clear c3); (try clear p6); (try clear c13); (try clear c14); (try clear c15); (try clear c37); (try clear c37b0); (try clear c37b1); (try clear p64)
  obtain ⟨kq, x107_8, rfl, HA, HJ8, HO_6, HO_8, HO_10, HO_378003, BK375, BK376, BK377, HB⟩ := hcut
  cases kq with
  | zero => exact absurd HA.out (by simp [outpostlaw24_FrameBuilds.j0])
  | succ kj8 =>
   have H := HA.out
   clear HA
   simp only [outpostlaw24_FrameBuilds.j0] at H
   by_cases c155 : x107_8 = true
   ·subst c155
    exact outpostlaw24_FrameBuilds.no_false HR9_.out H
   ·replace c155 := Bool.eq_false_iff.mpr c155
    subst c155
    have H1 : ((outpostlaw24_grown.f kj8 t381).bind fun _ => (if (strOfNums t385).toList = (strOfNums t389).toList then ((outpostlaw24_kept.f t378 l1_3).bind fun t407 => (some t407)) else (some false))) = some r := by rw [if_neg (show ¬ (false = true) by decide)] at H; exact H
    clear H
    have H := H1
    clear H1
    replace H := Option.bind_eq_some_iff.mp H
    obtain ⟨_, A1560, H⟩ := H
    replace H : (if (strOfNums t385).toList = (strOfNums t389).toList then ((outpostlaw24_kept.f t378 l1_3).bind fun t407 => (some t407)) else (some false)) = some r := H
    have A156 := Aside0.mk A1560
    clear A1560
    by_cases c157 : (strOfNums t385).toList = (strOfNums t389).toList
    ·rw [if_pos c157] at H
     have c157b0 : ((strOfNums t385).toList == (strOfNums t389).toList) = true := beq_iff_eq.mpr c157
     have c157b1 : ((strOfNums t385).toList != (strOfNums t389).toList) = false := bne_eq_false_iff_eq.mpr c157
     clear c157
     replace H := Option.bind_eq_some_iff.mp H
     obtain ⟨t407, A1580, H⟩ := H
     replace H : (some t407) = some r := H
     have A158 := Aside0.mk A1580
     clear A1580
     obtain rfl := Option.some.inj H
     obtain ⟨Ao159, co159, eo159⟩ := Kd.R_slice HO_6.out
     subst eo159
     go_wp2_with (first | ((with_reducible refine gate_callee (f := 20) rfl ?_); refine goesL_ (some 109) rfl rfl Try.func20 (by kernel_rfl) rfl #[.slice Ao159 t381.length co159] rfl (by (try simp only [List.map_toArray, List.map_cons, List.map_nil]) <;> rfl) ?_; (with_reducible refine (outpostlaw24_grown.calls kj8 (fun k_ => some k_ = (.slice Ao159 t381.length co159 : Value).ownBlock) (.slice Ao159 t381.length co159) t381  w _ ?side1 ?side2 A156.out).mono ?_); (case side1 => repeat (first | (with_reducible first | exact HB.out | apply below_alloc | apply pw_below_drewN | apply below_drew1 | refine below_set ?_ GE375.out | refine below_set ?_ GE376.out | refine below_set ?_ GE377.out) | exact HB.out)); (case side2 => exact Kd.R_tight rfl HO_6.out); rintro e w160 ⟨rfl, hb, hkp⟩; refine ⟨_, rfl, ?_⟩; have n0_ := aK (Kd.R_mono (ok' := fun k_ => some k_ ≠ (v390 : Value).ownBlock ∧ some k_ ≠ (.slice Ao20 t378.length co20 : Value).ownBlock) (Kd.R_keptB (HO_8.out) hkp (fun k_ hk_ hs_ => (hk_.1) hs_)) (fun k_ hk_ => ⟨hk_.1.2.1, hk_.1.2.2⟩)); have n1_ := aK (Kd.R_mono (ok' := fun k_ => some k_ ≠ (v386 : Value).ownBlock ∧ some k_ ≠ (.slice Ao20 t378.length co20 : Value).ownBlock) (Kd.R_keptB (HO_10.out) hkp (fun k_ hk_ hs_ => (hk_.1) hs_)) (fun k_ hk_ => ⟨hk_.1.2.1, hk_.1.2.2⟩)); have n2_ := aK (Kd.L_mono (ok' := fun k_ => some k_ ≠ (v386 : Value).ownBlock ∧ some k_ ≠ (v390 : Value).ownBlock) (Kd.L_keptB (HO_378003.out) hkp (fun k_ hk_ hs_ => (hk_.1) hs_)) (fun k_ hk_ => ⟨hk_.1.2.1, hk_.1.2.2⟩)); have n3_ := aK (blk_kept (mvb BK375.out) hkp (fun hs_ => (fun e_ => (Kd.R_ne HO_6.out BK375.out (by decide)) e_) hs_)); have n4_ := aK (blk_kept (mvb BK376.out) hkp (fun hs_ => (fun e_ => (Kd.R_ne HO_6.out BK376.out (by decide)) e_) hs_)); have n5_ := aK (blk_kept (mvb BK377.out) hkp (fun hs_ => (fun e_ => (Kd.R_ne HO_6.out BK377.out (by decide)) e_) hs_)); have n6_ := aK (hb); clear HO_8 HO_10 HO_378003 BK375 BK376 BK377 HB HO_6; have HO_8 := n0_; have HO_10 := n1_; have HO_378003 := n2_; have BK375 := n3_; have BK376 := n4_; have BK377 := n5_; have HB := n6_; clear n0_ n1_ n2_ n3_ n4_ n5_ n6_; (try clear hb); (try clear hkp); have hcv161 := own_string (P := Try.prog) Try.underlying27 Try.underlying5 Try.underlying9 (Kd.own_of_R HO_8.out); have hcv162 := fun n_ => own_string (P := Try.prog) Try.underlying27 Try.underlying5 Try.underlying9 (Kd.own_of_R (Kd.R_drewN HO_8.out n_)); have hcv163 := own_string (P := Try.prog) Try.underlying27 Try.underlying5 Try.underlying9 (Kd.own_of_R HO_10.out); have hcv164 := fun n_ => own_string (P := Try.prog) Try.underlying27 Try.underlying5 Try.underlying9 (Kd.own_of_R (Kd.R_drewN HO_10.out n_)); have hnb165 := NB377_375.out; have hnc165 := NB375_377.out; have hnb166 := NB377_376.out; have hnc166 := NB376_377.out; obtain ⟨hcz167_0, hcz167_1, hcz167_2, hcz167_3, hfz167_0, hfz167_1, hfz167_2, hfz167_3⟩ := cf4 BK377.out; have hnb168 := NB376_375.out; have hnc168 := NB375_376.out; obtain ⟨hcz169_0, hcz169_1, hcz169_2, hcz169_3, hfz169_0, hfz169_1, hfz169_2, hfz169_3⟩ := cf4 BK376.out) | (go_at_call 18; (with_reducible refine (outpostlaw24_kept.calls _ _ t378 _ _ l1_3 t407 _ ?side1 ?side2 ?side3 ?side4 A158.out).mono ?_); (case side1 => exact Kd.L_any (d := Kd.int .u8) (mvL HO_378003.out)); (case side2 => exact (Kd.L_reads' HO_378003.out).2.1); (case side3 => repeat (first | exact (Kd.C_below HR1_3.out HB.out) | (with_reducible refine Kd.C_alloc ?_ _) | (with_reducible refine Kd.C_drewN ?_ _) | (with_reducible refine Kd.C_drew ?_))); (case side4 => exact HC1_3.out); rintro e w' ⟨rfl, ⟨nd, rfl⟩⟩))
     go_ret
     exact ⟨by first | rfl | (simp [errW_none, errW_some] <;> rfl) | (simp [*, errW_none, errW_some] <;> rfl), by repeat (first | (with_reducible first | exact HB.out | apply hA | apply hN | apply hD | refine below_set ?_ GE375.out | refine below_set ?_ GE376.out | refine below_set ?_ GE377.out) | exact HB.out)⟩
    ·rw [if_neg c157] at H
     exact outpostlaw24_FrameBuilds.no_false HR9_.out H
/-- THE ONE PURE STATEMENT of outpostlaw24_FrameBuilds: yours. -/
def outpostlaw24_FrameBuilds.Pure : Prop := ∀ (a0_0 : Int) (a0_1 : Int) (a0_2 : Int) (a0_3 : Int) (a0_4 : Int) (a0_5 : Bool) (a1_0 : Int) (a1_1 : Int) (a1_2 : Int) (l1_3 : List Int), (Lit.int .i64 a0_0).wf = true → (Lit.int .i64 a0_1).wf = true → (Lit.int .u32 a0_2).wf = true → (Lit.int .u32 a0_3).wf = true → (Lit.int .u32 a0_4).wf = true → (Lit.int .i64 a1_0).wf = true → (Lit.int .u32 a1_1).wf = true → (Lit.int .u32 a1_2).wf = true → l1_3.length ≤ maxLen → l1_3.length * 1 ≤ 140737488351232 → (∀ x ∈ l1_3, (Lit.int .u8 x).wf = true) → ∃ k, outpostlaw24_FrameBuilds.f k a0_0 a0_1 a0_2 a0_3 a0_4 a0_5 a1_0 a1_1 a1_2 l1_3 = some true
theorem outpostlaw24_FrameBuilds.walk (P : outpostlaw24_FrameBuilds.Pure) (a0_0 : Int) (a0_1 : Int) (a0_2 : Int) (a0_3 : Int) (a0_4 : Int) (a0_5 : Bool) (a1_0 : Int) (a1_1 : Int) (a1_2 : Int) (a1_3 : Option Addr) (len1_3 cap1_3 : Nat) (z1_3 : List Int) (w : World) (w0_0 : (Lit.int .i64 a0_0).wf = true) (w0_1 : (Lit.int .i64 a0_1).wf = true) (w0_2 : (Lit.int .u32 a0_2).wf = true) (w0_3 : (Lit.int .u32 a0_3).wf = true) (w0_4 : (Lit.int .u32 a0_4).wf = true) (w1_0 : (Lit.int .i64 a1_0).wf = true) (w1_1 : (Lit.int .u32 a1_1).wf = true) (w1_2 : (Lit.int .u32 a1_2).wf = true) (w1_3 : (a1_3 = none ∧ len1_3 = 0 ∧ cap1_3 = 0 ∧ z1_3 = []) ∨ ∃ x, a1_3 = some x ∧ len1_3 ≤ cap1_3 ∧ cap1_3 ≤ maxLen ∧ z1_3.length = cap1_3 ∧ (∀ i, i < z1_3.length → w.cell? (x.add i) = some (.int .u8 (z1_3.getD i 0))) ∧ ∀ n ∈ z1_3, (Lit.int .u8 n).wf = true) (y1_3 : len1_3 * 1 ≤ 140737488351232) :
  Calls Try.prog 3 #[.agg #[.int .i64 a0_0, .int .i64 a0_1, .int .u32 a0_2, .int .u32 a0_3, .int .u32 a0_4, .bool a0_5], .agg #[.int .i64 a1_0, .int .u32 a1_1, .int .u32 a1_2, .slice a1_3 len1_3 cap1_3]] w fun e w' => e = .returned (.bool true) ∧ Below w.heap.size w w' := by
 obtain ⟨l1_3, rfl, hr1_3, hm1_3, hw1_3, hc1_3⟩ := ReadsInt.ofRowC w1_3
 obtain ⟨k, h⟩ := P a0_0 a0_1 a0_2 a0_3 a0_4 a0_5 a1_0 a1_1 a1_2 l1_3 w0_0 w0_1 w0_2 w0_3 w0_4 w1_0 w1_1 w1_2 hm1_3 y1_3 hw1_3
 refine (outpostlaw24_FrameBuilds.calls k a0_0 a0_1 a0_2 a0_3 a0_4 a0_5 a1_0 a1_1 a1_2 _ _ l1_3 true rfl w (Kd.C_of_reads (d := (0 : Int)) (h1 := fun _ => rfl) hr1_3) hc1_3 h).mono ?_
 rintro e w' ⟨rfl, hd⟩
 exact ⟨rfl, hd⟩


end Go.Proofs.Ytaoeehnnboegnaa.P

-- squeezed
