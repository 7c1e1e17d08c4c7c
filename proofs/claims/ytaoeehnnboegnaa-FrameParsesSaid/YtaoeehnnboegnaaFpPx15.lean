-- written by mk.sh, a program of this session, over the kit's print
import Derived.Test.YtaoeehnnboegnaaFpPx0
import Derived.Test.YtaoeehnnboegnaaFpPx8
import Derived.Test.YtaoeehnnboegnaaFpPx13
import Derived.Test.YtaoeehnnboegnaaFpPx14
namespace Go.Proofs.Ytaoeehnnboegnaa.P
open Go.RowKit Go.Proofs.YtaoeehnnboegnaaW.PrintWords Go.Proofs.YtaoeehnnboegnaaW.PrintLast Go.Proofs.YtaoeehnnboegnaaW.PrintMore
attribute [local go_sem] max2_int min2_int max_two min_two max_three min_three max_four min_four   -- for this text's walks alone
set_option linter.unusedVariables false
set_option linter.unusedSimpArgs false

/-! ### outpostref24_Parse: function 22 -/
mutual
def outpostref24_Parse.j0 : Nat → List Int → Int → Bool → Int → Int → Int → Int → Int → Bool → Int → Int → Int → Option (Int × Int × Int × List Int × Int)
 | 0, _, _, _, _, _, _, _, _, _, _, _, _ => none
 | k + 1, x8, x11, x72, x384000, x384001, x384002, x384003, x384004, x384005, x408000, x408001, x408002 => if x72 = true then (some (0, 0, 0, ([] : List Int), 241)) else (if x11 > x384000 then (some (0, 0, 0, ([] : List Int), 6)) else (outpostref24_Parse.l0 k x8 x11 (wrap64 (10 + x11)) x408000 x408001 x408002))
def outpostref24_Parse.l0 : Nat → List Int → Int → Int → Int → Int → Int → Option (Int × Int × Int × List Int × Int)
 | 0, _, _, _, _, _, _ => none
 | k + 1, x8, x11, x12, x408000, x408001, x408002 => if x12 < (x8.length : Int) then (if 0 ≤ x12 then (if (rd x8 x12) = 0 then (outpostref24_Parse.l0 k x8 x11 (wrap64 (x12 + 1)) x408000 x408001 x408002) else (some (0, 0, 0, ([] : List Int), 240))) else (none)) else (if x408000 = 1 then (if x408001 = 0 then (if x11 > 0 then (some (0, 0, 0, ([] : List Int), 240)) else (if 10 ≤ (wrap64 (10 + x11)) then (if (wrap64 (10 + x11)) ≤ (x8.length : Int) then ((some ((x8.take ((wrap64 (10 + x11)) : Int).toNat).drop 10 : List Int)).bind fun y410 => (if ([] : List Int).length + y410.length < 140737488355328 then (some (x408000, x408001, x408002, (([] : List Int) ++ y410), 0)) else (none))) else (none)) else (none))) else (some (0, 0, 0, ([] : List Int), 240))) else (if 10 ≤ (wrap64 (10 + x11)) then (if (wrap64 (10 + x11)) ≤ (x8.length : Int) then ((some ((x8.take ((wrap64 (10 + x11)) : Int).toNat).drop 10 : List Int)).bind fun y417 => (if ([] : List Int).length + y417.length < 140737488355328 then (some (x408000, x408001, x408002, (([] : List Int) ++ y417), 0)) else (none))) else (none)) else (none)))
end
def outpostref24_Parse.f (k : Nat) (a0_0 : Int) (a0_1 : Int) (a0_2 : Int) (a0_3 : Int) (a0_4 : Int) (a0_5 : Bool) (l1 : List Int) : Option (Int × Int × Int × List Int × Int) := (outpostref24_Length.f k a0_0 a0_1 a0_2 a0_3 a0_4 a0_5).bind fun bt385 => (if bt385.2 = 0 then (if (l1.length : Int) = bt385.1 then ((outpostref01_Valid.f k l1).bind fun t387 => (if t387 = true then ((outpostref01_Pack.f k l1).bind fun bt388 => ((outpostref03_Unseal.f k a0_1 a0_2 a0_3 a0_4 a0_5 bt388.1).bind fun bt392 => (if bt392.2 = 0 then (if 0 < (bt392.1.length : Int) then (if 1 ≤ 5 then (if 5 ≤ (bt392.1.length : Int) then ((outpostref24_number.f ((bt392.1.take 5).drop 1)).bind fun t401 => (if 5 ≤ 9 then (if 9 ≤ (bt392.1.length : Int) then ((outpostref24_number.f ((bt392.1.take 9).drop 5)).bind fun t406 => (if 9 < (bt392.1.length : Int) then (if (wrap64 (rd bt392.1 0)) = 1 then (outpostref24_Parse.j0 k bt392.1 (wrap64 (rd bt392.1 9)) false a0_0 a0_1 a0_2 a0_3 a0_4 a0_5 (wrap64 (rd bt392.1 0)) t401 t406) else (outpostref24_Parse.j0 k bt392.1 (wrap64 (rd bt392.1 9)) ((wrap64 (rd bt392.1 0)) != 2) a0_0 a0_1 a0_2 a0_3 a0_4 a0_5 (wrap64 (rd bt392.1 0)) t401 t406)) else (none))) else (none)) else (none))) else (none)) else (none)) else (none)) else (some (0, 0, 0, ([] : List Int), bt392.2))))) else (some (0, 0, 0, ([] : List Int), 10)))) else (some (0, 0, 0, ([] : List Int), 5))) else (some (0, 0, 0, ([] : List Int), bt385.2)))
theorem outpostref24_Parse.mono_l : ∀ k, (∀ y0 y1 y2 y3 y4 y5 y6 y7 y8 y9 y10 y11, LeO (outpostref24_Parse.j0 k y0 y1 y2 y3 y4 y5 y6 y7 y8 y9 y10 y11) (outpostref24_Parse.j0 (k + 1) y0 y1 y2 y3 y4 y5 y6 y7 y8 y9 y10 y11)) ∧ (∀ y0 y1 y2 y3 y4 y5, LeO (outpostref24_Parse.l0 k y0 y1 y2 y3 y4 y5) (outpostref24_Parse.l0 (k + 1) y0 y1 y2 y3 y4 y5))
 | 0 => ⟨fun _ _ _ _ _ _ _ _ _ _ _ _ r h => by simp [outpostref24_Parse.j0] at h, fun _ _ _ _ _ _ r h => by simp [outpostref24_Parse.l0] at h⟩
 | k + 1 => by
  obtain ⟨ih0, ih1⟩ := outpostref24_Parse.mono_l k
  refine ⟨?_, ?_⟩
  ·intro y0 y1 y2 y3 y4 y5 y6 y7 y8 y9 y10 y11
   unfold outpostref24_Parse.j0
   repeat' first
   | (with_reducible exact ih0 _ _ _ _ _ _ _ _ _ _ _ _)
   | (with_reducible exact ih1 _ _ _ _ _ _)
   | (with_reducible exact outpostref01_Pack.mono _ _)
   | (with_reducible exact outpostref01_Valid.mono _ _)
   | (with_reducible exact outpostref03_Unseal.mono _ _ _ _ _ _ _)
   | (with_reducible exact outpostref24_Length.mono _ _ _ _ _ _ _)
   | (with_reducible exact LeO.refl _)
   | (with_reducible exact LeO.none _)
   | (with_reducible refine LeO.ite ?_ ?_)
   | (with_reducible refine LeO.bind ?_ (fun _ => ?_))
   | exact ih0 _ _ _ _ _ _ _ _ _ _ _ _
   | exact ih1 _ _ _ _ _ _
   | exact outpostref01_Pack.mono _ _
   | exact outpostref01_Valid.mono _ _
   | exact outpostref03_Unseal.mono _ _ _ _ _ _ _
   | exact outpostref24_Length.mono _ _ _ _ _ _ _
   | exact LeO.none _
   | refine LeO.ite ?_ ?_
   | refine LeO.bind ?_ (fun _ => ?_)
  ·intro y0 y1 y2 y3 y4 y5
   unfold outpostref24_Parse.l0
   repeat' first
   | (with_reducible exact ih0 _ _ _ _ _ _ _ _ _ _ _ _)
   | (with_reducible exact ih1 _ _ _ _ _ _)
   | (with_reducible exact outpostref01_Pack.mono _ _)
   | (with_reducible exact outpostref01_Valid.mono _ _)
   | (with_reducible exact outpostref03_Unseal.mono _ _ _ _ _ _ _)
   | (with_reducible exact outpostref24_Length.mono _ _ _ _ _ _ _)
   | (with_reducible exact LeO.refl _)
   | (with_reducible exact LeO.none _)
   | (with_reducible refine LeO.ite ?_ ?_)
   | (with_reducible refine LeO.bind ?_ (fun _ => ?_))
   | exact ih0 _ _ _ _ _ _ _ _ _ _ _ _
   | exact ih1 _ _ _ _ _ _
   | exact outpostref01_Pack.mono _ _
   | exact outpostref01_Valid.mono _ _
   | exact outpostref03_Unseal.mono _ _ _ _ _ _ _
   | exact outpostref24_Length.mono _ _ _ _ _ _ _
   | exact LeO.none _
   | refine LeO.ite ?_ ?_
   | refine LeO.bind ?_ (fun _ => ?_)
theorem outpostref24_Parse.mono : ∀ a0 a1 a2 a3 a4 a5 a6 k, LeO (outpostref24_Parse.f k a0 a1 a2 a3 a4 a5 a6) (outpostref24_Parse.f (k + 1) a0 a1 a2 a3 a4 a5 a6) := by
 intro a0 a1 a2 a3 a4 a5 a6 k
 obtain ⟨ih0, ih1⟩ := outpostref24_Parse.mono_l k
 unfold outpostref24_Parse.f
 repeat' first
   | (with_reducible exact ih0 _ _ _ _ _ _ _ _ _ _ _ _)
   | (with_reducible exact ih1 _ _ _ _ _ _)
   | (with_reducible exact outpostref01_Pack.mono _ _)
   | (with_reducible exact outpostref01_Valid.mono _ _)
   | (with_reducible exact outpostref03_Unseal.mono _ _ _ _ _ _ _)
   | (with_reducible exact outpostref24_Length.mono _ _ _ _ _ _ _)
   | (with_reducible exact LeO.refl _)
   | (with_reducible exact LeO.none _)
   | (with_reducible refine LeO.ite ?_ ?_)
   | (with_reducible refine LeO.bind ?_ (fun _ => ?_))
   | exact ih0 _ _ _ _ _ _ _ _ _ _ _ _
   | exact ih1 _ _ _ _ _ _
   | exact outpostref01_Pack.mono _ _
   | exact outpostref01_Valid.mono _ _
   | exact outpostref03_Unseal.mono _ _ _ _ _ _ _
   | exact outpostref24_Length.mono _ _ _ _ _ _ _
   | exact LeO.none _
   | refine LeO.ite ?_ ?_
   | refine LeO.bind ?_ (fun _ => ?_)
def outpostref24_Parse.T12 : Bool × List (List Nat × List Nat) := (true, [([], []), ([0], [0]), ([1], [1]), ([2], [2]), ([], []), ([4], [4]), ([5], [5]), ([], []), ([7], [7]), ([8, 6], [8]), ([3, 6, 9], [3, 6, 9]), ([], []), ([11, 10, 9, 0, 1, 2, 3, 4, 5, 6, 7, 8, 9, 10, 11], [10, 11])])
def outpostref24_Parse.B12 : List Nat := [0, 1, 3, 7, 0, 16, 48, 0, 128, 496, 1023, 0, 4095]
theorem outpostref24_Parse.tab12 : rtab .any (opsOf Try.f22 12) = outpostref24_Parse.T12 := by kernel_rfl
theorem outpostref24_Parse.bits12 : waitsOk outpostref24_Parse.T12.2 outpostref24_Parse.B12 = true := by kernel_rfl
def outpostref24_Parse.T25 : Bool × List (List Nat × List Nat) := (true, [([], []), ([0], [0]), ([], []), ([], []), ([3], [3]), ([2, 4], [2, 4]), ([1, 5], [1, 5]), ([0, 1, 2, 3, 4, 5, 6], []), ([7, 6, 6, 0, 1, 2, 3, 4, 5, 6], [6, 7])])
def outpostref24_Parse.B25 : List Nat := [0, 1, 0, 0, 8, 28, 63, 127, 255]
theorem outpostref24_Parse.tab25 : rtab .any (opsOf Try.f22 25) = outpostref24_Parse.T25 := by kernel_rfl
theorem outpostref24_Parse.bits25 : waitsOk outpostref24_Parse.T25.2 outpostref24_Parse.B25 = true := by kernel_rfl
set_option maxHeartbeats 8000000 in
set_option maxRecDepth 100000 in
theorem outpostref24_Parse.calls (k : Nat) (a0_0 : Int) (a0_1 : Int) (a0_2 : Int) (a0_3 : Int) (a0_4 : Int) (a0_5 : Bool) (A1 : Option Addr) (c1 : Nat) (l1 : List Int) (r1 : Int) (r2 : Int) (r3 : Int) (r4 : List Int) (r5 : Int) (w : World) (hr1 : Kd.C (Kd.int .u8) w A1 l1.length l1) (hc1 : l1.length ≤ c1) (h : outpostref24_Parse.f k a0_0 a0_1 a0_2 a0_3 a0_4 a0_5 l1 = some (r1, r2, r3, r4, r5)) :
  Calls Try.prog 22 #[.agg #[.int .i64 a0_0, .int .i64 a0_1, .int .u32 a0_2, .int .u32 a0_3, .int .u32 a0_4, .bool a0_5], .slice A1 l1.length c1] w fun e w' => ∃ v3_ : Value, e = .returned (.tuple #[.agg #[.int .i64 r1, .int .u32 r2, .int .u32 r3, v3_], .int .i64 r5]) ∧ Kd.R (Kd.int .u8) 5 w' w.heap.size (fun _ => True) v3_ r4 ∧ Below w.heap.size w w' := by
 have hu26 := Try.underlying26
 have hu29 := Try.underlying29
 have hu24 := Try.underlying24
 have HR1 := Aside0.mk hr1
 have HC1 := Aside0.mk hc1
 clear hr1 hc1
 have HB := aK (Below.refl w.heap.size w)
 have H : ((outpostref24_Length.f k a0_0 a0_1 a0_2 a0_3 a0_4 a0_5).bind fun bt385 => (if bt385.2 = 0 then (if (l1.length : Int) = bt385.1 then ((outpostref01_Valid.f k l1).bind fun t387 => (if t387 = true then ((outpostref01_Pack.f k l1).bind fun bt388 => ((outpostref03_Unseal.f k a0_1 a0_2 a0_3 a0_4 a0_5 bt388.1).bind fun bt392 => (if bt392.2 = 0 then (if 0 < (bt392.1.length : Int) then (if 1 ≤ 5 then (if 5 ≤ (bt392.1.length : Int) then ((outpostref24_number.f ((bt392.1.take 5).drop 1)).bind fun t401 => (if 5 ≤ 9 then (if 9 ≤ (bt392.1.length : Int) then ((outpostref24_number.f ((bt392.1.take 9).drop 5)).bind fun t406 => (if 9 < (bt392.1.length : Int) then (if (wrap64 (rd bt392.1 0)) = 1 then (outpostref24_Parse.j0 k bt392.1 (wrap64 (rd bt392.1 9)) false a0_0 a0_1 a0_2 a0_3 a0_4 a0_5 (wrap64 (rd bt392.1 0)) t401 t406) else (outpostref24_Parse.j0 k bt392.1 (wrap64 (rd bt392.1 9)) ((wrap64 (rd bt392.1 0)) != 2) a0_0 a0_1 a0_2 a0_3 a0_4 a0_5 (wrap64 (rd bt392.1 0)) t401 t406)) else (none))) else (none)) else (none))) else (none)) else (none)) else (none)) else (some (0, 0, 0, ([] : List Int), bt392.2))))) else (some (0, 0, 0, ([] : List Int), 10)))) else (some (0, 0, 0, ([] : List Int), 5))) else (some (0, 0, 0, ([] : List Int), bt385.2)))) = some (r1, r2, r3, r4, r5) := h
 clear h
 replace H := Option.bind_eq_some_iff.mp H
 obtain ⟨⟨t385, t386⟩, A30, H⟩ := H
 replace H : (if t386 = 0 then (if (l1.length : Int) = t385 then ((outpostref01_Valid.f k l1).bind fun t387 => (if t387 = true then ((outpostref01_Pack.f k l1).bind fun bt388 => ((outpostref03_Unseal.f k a0_1 a0_2 a0_3 a0_4 a0_5 bt388.1).bind fun bt392 => (if bt392.2 = 0 then (if 0 < (bt392.1.length : Int) then (if 1 ≤ 5 then (if 5 ≤ (bt392.1.length : Int) then ((outpostref24_number.f ((bt392.1.take 5).drop 1)).bind fun t401 => (if 5 ≤ 9 then (if 9 ≤ (bt392.1.length : Int) then ((outpostref24_number.f ((bt392.1.take 9).drop 5)).bind fun t406 => (if 9 < (bt392.1.length : Int) then (if (wrap64 (rd bt392.1 0)) = 1 then (outpostref24_Parse.j0 k bt392.1 (wrap64 (rd bt392.1 9)) false a0_0 a0_1 a0_2 a0_3 a0_4 a0_5 (wrap64 (rd bt392.1 0)) t401 t406) else (outpostref24_Parse.j0 k bt392.1 (wrap64 (rd bt392.1 9)) ((wrap64 (rd bt392.1 0)) != 2) a0_0 a0_1 a0_2 a0_3 a0_4 a0_5 (wrap64 (rd bt392.1 0)) t401 t406)) else (none))) else (none)) else (none))) else (none)) else (none)) else (none)) else (some (0, 0, 0, ([] : List Int), bt392.2))))) else (some (0, 0, 0, ([] : List Int), 10)))) else (some (0, 0, 0, ([] : List Int), 5))) else (some (0, 0, 0, ([] : List Int), t386))) = some (r1, r2, r3, r4, r5) := H
 have A3 := Aside0.mk A30
 clear A30
 by_cases c4 : t386 = 0
 ·rw [if_pos c4] at H
  have c4b0 : (t386 == 0) = true := beq_iff_eq.mpr c4
  have c4b1 : (t386 != 0) = false := bne_eq_false_iff_eq.mpr c4
  clear c4
  by_cases c5 : (l1.length : Int) = t385
  ·rw [if_pos c5] at H
   have c5b0 : ((l1.length : Int) == t385) = true := beq_iff_eq.mpr c5
   have c5b1 : ((l1.length : Int) != t385) = false := bne_eq_false_iff_eq.mpr c5
   clear c5
   replace H := Option.bind_eq_some_iff.mp H
   obtain ⟨t387, A60, H⟩ := H
   replace H : (if t387 = true then ((outpostref01_Pack.f k l1).bind fun bt388 => ((outpostref03_Unseal.f k a0_1 a0_2 a0_3 a0_4 a0_5 bt388.1).bind fun bt392 => (if bt392.2 = 0 then (if 0 < (bt392.1.length : Int) then (if 1 ≤ 5 then (if 5 ≤ (bt392.1.length : Int) then ((outpostref24_number.f ((bt392.1.take 5).drop 1)).bind fun t401 => (if 5 ≤ 9 then (if 9 ≤ (bt392.1.length : Int) then ((outpostref24_number.f ((bt392.1.take 9).drop 5)).bind fun t406 => (if 9 < (bt392.1.length : Int) then (if (wrap64 (rd bt392.1 0)) = 1 then (outpostref24_Parse.j0 k bt392.1 (wrap64 (rd bt392.1 9)) false a0_0 a0_1 a0_2 a0_3 a0_4 a0_5 (wrap64 (rd bt392.1 0)) t401 t406) else (outpostref24_Parse.j0 k bt392.1 (wrap64 (rd bt392.1 9)) ((wrap64 (rd bt392.1 0)) != 2) a0_0 a0_1 a0_2 a0_3 a0_4 a0_5 (wrap64 (rd bt392.1 0)) t401 t406)) else (none))) else (none)) else (none))) else (none)) else (none)) else (none)) else (some (0, 0, 0, ([] : List Int), bt392.2))))) else (some (0, 0, 0, ([] : List Int), 10))) = some (r1, r2, r3, r4, r5) := H
   have A6 := Aside0.mk A60
   clear A60
   by_cases c7 : t387 = true
   ·subst c7
    have H1 : ((outpostref01_Pack.f k l1).bind fun bt388 => ((outpostref03_Unseal.f k a0_1 a0_2 a0_3 a0_4 a0_5 bt388.1).bind fun bt392 => (if bt392.2 = 0 then (if 0 < (bt392.1.length : Int) then (if 1 ≤ 5 then (if 5 ≤ (bt392.1.length : Int) then ((outpostref24_number.f ((bt392.1.take 5).drop 1)).bind fun t401 => (if 5 ≤ 9 then (if 9 ≤ (bt392.1.length : Int) then ((outpostref24_number.f ((bt392.1.take 9).drop 5)).bind fun t406 => (if 9 < (bt392.1.length : Int) then (if (wrap64 (rd bt392.1 0)) = 1 then (outpostref24_Parse.j0 k bt392.1 (wrap64 (rd bt392.1 9)) false a0_0 a0_1 a0_2 a0_3 a0_4 a0_5 (wrap64 (rd bt392.1 0)) t401 t406) else (outpostref24_Parse.j0 k bt392.1 (wrap64 (rd bt392.1 9)) ((wrap64 (rd bt392.1 0)) != 2) a0_0 a0_1 a0_2 a0_3 a0_4 a0_5 (wrap64 (rd bt392.1 0)) t401 t406)) else (none))) else (none)) else (none))) else (none)) else (none)) else (none)) else (some (0, 0, 0, ([] : List Int), bt392.2))))) = some (r1, r2, r3, r4, r5) := by rw [if_pos rfl] at H; exact H
    clear H
    have H := H1
    clear H1
    replace H := Option.bind_eq_some_iff.mp H
    obtain ⟨⟨t388, t389⟩, A80, H⟩ := H
    replace H : ((outpostref03_Unseal.f k a0_1 a0_2 a0_3 a0_4 a0_5 t388).bind fun bt392 => (if bt392.2 = 0 then (if 0 < (bt392.1.length : Int) then (if 1 ≤ 5 then (if 5 ≤ (bt392.1.length : Int) then ((outpostref24_number.f ((bt392.1.take 5).drop 1)).bind fun t401 => (if 5 ≤ 9 then (if 9 ≤ (bt392.1.length : Int) then ((outpostref24_number.f ((bt392.1.take 9).drop 5)).bind fun t406 => (if 9 < (bt392.1.length : Int) then (if (wrap64 (rd bt392.1 0)) = 1 then (outpostref24_Parse.j0 k bt392.1 (wrap64 (rd bt392.1 9)) false a0_0 a0_1 a0_2 a0_3 a0_4 a0_5 (wrap64 (rd bt392.1 0)) t401 t406) else (outpostref24_Parse.j0 k bt392.1 (wrap64 (rd bt392.1 9)) ((wrap64 (rd bt392.1 0)) != 2) a0_0 a0_1 a0_2 a0_3 a0_4 a0_5 (wrap64 (rd bt392.1 0)) t401 t406)) else (none))) else (none)) else (none))) else (none)) else (none)) else (none)) else (some (0, 0, 0, ([] : List Int), bt392.2)))) = some (r1, r2, r3, r4, r5) := H
    have A8 := Aside0.mk A80
    clear A80
    replace H := Option.bind_eq_some_iff.mp H
    obtain ⟨⟨t392, t395⟩, A90, H⟩ := H
    replace H : (if t395 = 0 then (if 0 < (t392.length : Int) then (if 1 ≤ 5 then (if 5 ≤ (t392.length : Int) then ((outpostref24_number.f ((t392.take 5).drop 1)).bind fun t401 => (if 5 ≤ 9 then (if 9 ≤ (t392.length : Int) then ((outpostref24_number.f ((t392.take 9).drop 5)).bind fun t406 => (if 9 < (t392.length : Int) then (if (wrap64 (rd t392 0)) = 1 then (outpostref24_Parse.j0 k t392 (wrap64 (rd t392 9)) false a0_0 a0_1 a0_2 a0_3 a0_4 a0_5 (wrap64 (rd t392 0)) t401 t406) else (outpostref24_Parse.j0 k t392 (wrap64 (rd t392 9)) ((wrap64 (rd t392 0)) != 2) a0_0 a0_1 a0_2 a0_3 a0_4 a0_5 (wrap64 (rd t392 0)) t401 t406)) else (none))) else (none)) else (none))) else (none)) else (none)) else (none)) else (some (0, 0, 0, ([] : List Int), t395))) = some (r1, r2, r3, r4, r5) := H
    have A9 := Aside0.mk A90
    clear A90
    by_cases c10 : t395 = 0
    ·rw [if_pos c10] at H
     have c10b0 : (t395 == 0) = true := beq_iff_eq.mpr c10
     have c10b1 : (t395 != 0) = false := bne_eq_false_iff_eq.mpr c10
     clear c10
     by_cases c11 : 0 < (t392.length : Int)
     ·rw [if_pos c11] at H
      have c11b0 : decide (0 < (t392.length : Int)) = true := decide_eq_true c11
      have c11b1 : decide (0 < t392.length) = true := decide_eq_true (by omega)
      clear c11
      by_cases c12 : 1 ≤ 5
      ·rw [if_pos c12] at H
       have c12b0 := eq_true c12
       have c12b1 : decide (1 ≤ 5) = true := decide_eq_true c12
       clear c12
       by_cases c13 : 5 ≤ (t392.length : Int)
       ·rw [if_pos c13] at H
        have c13b0 := eq_true c13
        have c13b1 : decide (5 ≤ (t392.length : Int)) = true := decide_eq_true c13
        clear c13
        obtain ⟨y397, hy397⟩ : ∃ y_ : List Int, y_ = ((t392.take 5).drop 1) := ⟨_, rfl⟩
        replace H : ((outpostref24_number.f y397).bind fun t401 => (if 5 ≤ 9 then (if 9 ≤ (t392.length : Int) then ((outpostref24_number.f ((t392.take 9).drop 5)).bind fun t406 => (if 9 < (t392.length : Int) then (if (wrap64 (rd t392 0)) = 1 then (outpostref24_Parse.j0 k t392 (wrap64 (rd t392 9)) false a0_0 a0_1 a0_2 a0_3 a0_4 a0_5 (wrap64 (rd t392 0)) t401 t406) else (outpostref24_Parse.j0 k t392 (wrap64 (rd t392 9)) ((wrap64 (rd t392 0)) != 2) a0_0 a0_1 a0_2 a0_3 a0_4 a0_5 (wrap64 (rd t392 0)) t401 t406)) else (none))) else (none)) else (none))) = some (r1, r2, r3, r4, r5) := by first | (rw [hy397]; with_reducible exact H) | (have H2_ := (Option.bind_some _ _).symm.trans H; rw [hy397]; with_reducible exact H2_) | (have H2_ := (Option.bind_some _ _).symm.trans H; with_reducible exact H2_) | with_reducible exact H | (rw [hy397]; exact H) | exact H
        have Ny397 := Aside0.mk hy397
        clear hy397
        replace H := Option.bind_eq_some_iff.mp H
        obtain ⟨t401, A140, H⟩ := H
        replace H : (if 5 ≤ 9 then (if 9 ≤ (t392.length : Int) then ((outpostref24_number.f ((t392.take 9).drop 5)).bind fun t406 => (if 9 < (t392.length : Int) then (if (wrap64 (rd t392 0)) = 1 then (outpostref24_Parse.j0 k t392 (wrap64 (rd t392 9)) false a0_0 a0_1 a0_2 a0_3 a0_4 a0_5 (wrap64 (rd t392 0)) t401 t406) else (outpostref24_Parse.j0 k t392 (wrap64 (rd t392 9)) ((wrap64 (rd t392 0)) != 2) a0_0 a0_1 a0_2 a0_3 a0_4 a0_5 (wrap64 (rd t392 0)) t401 t406)) else (none))) else (none)) else (none)) = some (r1, r2, r3, r4, r5) := H
        have A14 := Aside0.mk A140
        clear A140
        by_cases c15 : 5 ≤ 9
        ·rw [if_pos c15] at H
         have c15b0 := eq_true c15
         have c15b1 : decide (5 ≤ 9) = true := decide_eq_true c15
         clear c15
         by_cases c16 : 9 ≤ (t392.length : Int)
         ·rw [if_pos c16] at H
          have c16b0 := eq_true c16
          have c16b1 : decide (9 ≤ (t392.length : Int)) = true := decide_eq_true c16
          clear c16
          obtain ⟨y402, hy402⟩ : ∃ y_ : List Int, y_ = ((t392.take 9).drop 5) := ⟨_, rfl⟩
          replace H : ((outpostref24_number.f y402).bind fun t406 => (if 9 < (t392.length : Int) then (if (wrap64 (rd t392 0)) = 1 then (outpostref24_Parse.j0 k t392 (wrap64 (rd t392 9)) false a0_0 a0_1 a0_2 a0_3 a0_4 a0_5 (wrap64 (rd t392 0)) t401 t406) else (outpostref24_Parse.j0 k t392 (wrap64 (rd t392 9)) ((wrap64 (rd t392 0)) != 2) a0_0 a0_1 a0_2 a0_3 a0_4 a0_5 (wrap64 (rd t392 0)) t401 t406)) else (none))) = some (r1, r2, r3, r4, r5) := by first | (rw [hy402]; with_reducible exact H) | (have H2_ := (Option.bind_some _ _).symm.trans H; rw [hy402]; with_reducible exact H2_) | (have H2_ := (Option.bind_some _ _).symm.trans H; with_reducible exact H2_) | with_reducible exact H | (rw [hy402]; exact H) | exact H
          have Ny402 := Aside0.mk hy402
          clear hy402
          replace H := Option.bind_eq_some_iff.mp H
          obtain ⟨t406, A170, H⟩ := H
          replace H : (if 9 < (t392.length : Int) then (if (wrap64 (rd t392 0)) = 1 then (outpostref24_Parse.j0 k t392 (wrap64 (rd t392 9)) false a0_0 a0_1 a0_2 a0_3 a0_4 a0_5 (wrap64 (rd t392 0)) t401 t406) else (outpostref24_Parse.j0 k t392 (wrap64 (rd t392 9)) ((wrap64 (rd t392 0)) != 2) a0_0 a0_1 a0_2 a0_3 a0_4 a0_5 (wrap64 (rd t392 0)) t401 t406)) else (none)) = some (r1, r2, r3, r4, r5) := H
          have A17 := Aside0.mk A170
          clear A170
          by_cases c18 : 9 < (t392.length : Int)
          ·rw [if_pos c18] at H
           have c18b0 : decide (9 < (t392.length : Int)) = true := decide_eq_true c18
           have c18b1 : decide (9 < t392.length) = true := decide_eq_true (by omega)
           clear c18
           have HC19 := Aside0.mk H
           clear H
           go_enter Try.func22, Try.ntmps22
           try go_wp2_with (first | ((with_reducible refine gate_dst (N := 2) rfl ?_); refine box_event ?hg (N := 2) ?hd (cs := #[.int .i64 a0_0, .int .i64 a0_1, .int .u32 a0_2, .int .u32 a0_3, .int .u32 a0_4, .bool a0_5]) (t := 26) ?hr ?_; (case hd => rfl); (case hg => rfl); (case hr => first | (go_simp; done) | (go_simp; rfl)); intro gb383 hg w20 hbox hb; have n0_ := aK (below_step (mvh HB.out) hb); have n1_ := aK (hbox); have n2_ := aK ((by rw [hg]; exact (below_size (mvh HB.out)) : w.heap.size ≤ gb383)); have n3_ := aK ((by rw [hg]; exact (below_size (mvh HB.out)) : w.heap.size ≤ gb383)); clear HB; have HB := n0_; have BK383 := n1_; have GW383 := n2_; have GE383 := n3_; clear n0_ n1_ n2_ n3_; clear hb hbox hg) | ((with_reducible refine gate_dst (N := 4) rfl ?_); refine box_event ?hg (N := 4) ?hd (cs := #[.int .i64 0, .int .u32 0, .int .u32 0, .slice none 0 0]) (t := 29) ?hr ?_; (case hd => rfl); (case hg => rfl); (case hr => first | (go_simp; done) | (go_simp; rfl)); intro gb384 hg w21 hbox hb; have n0_ := aK (kb BK383.out hb); have n1_ := aK (below_step (by repeat (first | (with_reducible first | exact HB.out | apply hA | apply hN | apply hD | refine below_set ?_ GE383.out) | exact HB.out)) hb); have n2_ := aK (hbox); have n3_ := aK ((by rw [hg]; exact (below_size (by repeat (first | (with_reducible first | exact HB.out | apply hA | apply hN | apply hD | refine below_set ?_ GE383.out) | exact HB.out))) : w.heap.size ≤ gb384)); have n4_ := aK ((by rw [hg]; exact (below_size (by repeat (first | (with_reducible first | exact HB.out | apply hA | apply hN | apply hD | refine below_set ?_ GE383.out) | exact HB.out))) : w.heap.size ≤ gb384)); have n5_ := aK ((by rw [hg]; exact Nat.ne_of_lt (kl BK383.out) : gb383 ≠ gb384)); have n6_ := aK ((by rw [hg]; exact Nat.ne_of_gt (kl BK383.out) : gb384 ≠ gb383)); clear BK383 HB; have BK383 := n0_; have HB := n1_; have BK384 := n2_; have GW384 := n3_; have GE384 := n4_; have NB383_384 := n5_; have NB384_383 := n6_; clear n0_ n1_ n2_ n3_ n4_ n5_ n6_; clear hb hbox hg; have hnb22 := NB383_384.out; have hnc22 := NB384_383.out; obtain ⟨hcz23_0, hcz23_1, hcz23_2, hcz23_3, hcz23_4, hcz23_5, hfz23_0, hfz23_1, hfz23_2, hfz23_3, hfz23_4, hfz23_5⟩ := cf6 BK383.out) | ((with_reducible refine gate_callee (f := 12) rfl ?_); refine goesL_ (some 15) rfl rfl Try.func12 (by kernel_rfl) rfl #[.agg #[.int .i64 a0_0, .int .i64 a0_1, .int .u32 a0_2, .int .u32 a0_3, .int .u32 a0_4, .bool a0_5]] rfl (by (try simp only [List.map_toArray, List.map_cons, List.map_nil]) <;> rfl) ?_; (with_reducible refine (outpostref24_Length.calls k a0_0 a0_1 a0_2 a0_3 a0_4 a0_5 t385 t386 _ A3.out).mono ?_); rintro e w24 ⟨rfl, hb⟩; refine ⟨_, rfl, ?_⟩; have n0_ := aK (kb BK383.out hb); have n1_ := aK (kb BK384.out hb); have n2_ := aK (below_step (by repeat (first | (with_reducible first | exact HB.out | apply hA | apply hN | apply hD | refine below_set ?_ GE383.out | refine below_set ?_ GE384.out) | exact HB.out)) hb); clear BK383 BK384 HB; have BK383 := n0_; have BK384 := n1_; have HB := n2_; clear n0_ n1_ n2_; (try clear hb)) | ((with_reducible refine gate_callee (f := 37) rfl ?_); refine goesL_ (some 31) rfl rfl Try.func37 (by kernel_rfl) rfl #[.slice A1 l1.length c1] rfl (by (try simp only [List.map_toArray, List.map_cons, List.map_nil]) <;> rfl) ?_; (with_reducible refine (outpostref01_Valid.calls k _ _ l1 true _ ?side1 ?side2 A6.out).mono ?_); (case side1 => repeat (first | exact (Kd.C_below HR1.out HB.out) | (with_reducible refine Kd.C_alloc ?_ _) | (with_reducible refine Kd.C_drewN ?_ _) | (with_reducible refine Kd.C_drew ?_))); (case side2 => exact HC1.out); rintro e w' ⟨rfl, ⟨nd, rfl⟩⟩; refine ⟨_, rfl, ?_⟩; (try (rw [drewN_self w24]; generalize hq_ : World.drewN w24 _ = w24; have n0_ : Aside0 (w24.heap[gb383]? = some (.cells #[.int .i64 a0_0, .int .i64 a0_1, .int .u32 a0_2, .int .u32 a0_3, .int .u32 a0_4, .bool a0_5] 26 (0, 0))) := ⟨by rw [← hq_]; exact (mvb BK383.out)⟩; have n1_ : Aside0 (w24.heap[gb384]? = some (.cells #[.int .i64 0, .int .u32 0, .int .u32 0, .slice none 0 0] 29 (0, 0))) := ⟨by rw [← hq_]; exact (mvb BK384.out)⟩; have n2_ : Aside0 (Below w.heap.size w w24) := ⟨by rw [← hq_]; exact (by repeat (first | (with_reducible first | exact HB.out | apply hA | apply hN | apply hD | refine below_set ?_ GE383.out | refine below_set ?_ GE384.out) | exact HB.out))⟩; clear BK383 BK384 HB hq_; have BK383 := n0_; have BK384 := n1_; have HB := n2_; clear n0_ n1_ n2_))) | ((with_reducible refine gate_callee (f := 38) rfl ?_); refine goesL_ (some 36) rfl rfl Try.func38 (by kernel_rfl) rfl #[.slice A1 l1.length c1] rfl (by (try simp only [List.map_toArray, List.map_cons, List.map_nil]) <;> rfl) ?_; (with_reducible refine (outpostref01_Pack.calls k _ _ l1 t388 t389 _ ?side1 ?side2 A8.out).mono ?_); (case side1 => repeat (first | exact (Kd.C_below HR1.out HB.out) | (with_reducible refine Kd.C_alloc ?_ _) | (with_reducible refine Kd.C_drewN ?_ _) | (with_reducible refine Kd.C_drew ?_))); (case side2 => exact HC1.out); rintro e w25 ⟨v390, rfl, ho0, hb⟩; refine ⟨_, rfl, ?_⟩; have n0_ := aK (Kd.R_lower ho0 (below_size (by repeat (first | (with_reducible first | exact HB.out | apply hA | apply hN | apply hD | refine below_set ?_ GE383.out | refine below_set ?_ GE384.out) | exact HB.out)))); have n1_ := aK (kb BK383.out hb); have n2_ := aK (kb BK384.out hb); have n3_ := aK (below_step (by repeat (first | (with_reducible first | exact HB.out | apply hA | apply hN | apply hD | refine below_set ?_ GE383.out | refine below_set ?_ GE384.out) | exact HB.out)) hb); clear BK383 BK384 HB; have HO391 := n0_; have BK383 := n1_; have BK384 := n2_; have HB := n3_; clear n0_ n1_ n2_ n3_; (try clear hb); (try clear ho0); obtain ⟨hcz26_0, hcz26_1, hcz26_2, hcz26_3, hcz26_4, hcz26_5, hfz26_0, hfz26_1, hfz26_2, hfz26_3, hfz26_4, hfz26_5⟩ := cf6 BK383.out; obtain ⟨Ao27, co27, eo27⟩ := Kd.R_slice HO391.out; subst eo27) | ((with_reducible refine gate_callee (f := 39) rfl ?_); refine goesL_ (some 43) rfl rfl Try.func39 (by kernel_rfl) rfl #[.agg #[.int .i64 a0_1, .int .u32 a0_2, .int .u32 a0_3, .int .u32 a0_4, .bool a0_5], .slice Ao27 t388.length co27] rfl (by (try simp only [List.map_toArray, List.map_cons, List.map_nil]) <;> rfl) ?_; (with_reducible refine (outpostref03_Unseal.calls k a0_1 a0_2 a0_3 a0_4 a0_5 _ _ t388 t392 t395 _ ?side1 ?side2 A9.out).mono ?_); (case side1 => repeat (first | exact (Kd.R_reads' HO391.out).2.2 | (with_reducible refine Kd.C_alloc ?_ _) | (with_reducible refine Kd.C_drewN ?_ _) | (with_reducible refine Kd.C_drew ?_))); (case side2 => exact (Kd.R_reads' HO391.out).2.1); rintro e w28 ⟨v393, rfl, ho0, hb⟩; refine ⟨_, rfl, ?_⟩; have n0_ := aK (Kd.R_elder' (mvR HO391.out) (Kd.R_base ho0) hb); have n1_ := aK (Kd.R_lower (Kd.R_new' ho0 (Kd.R_lt (mvR HO391.out))) (below_size (by repeat (first | (with_reducible first | exact HB.out | apply hA | apply hN | apply hD | refine below_set ?_ GE383.out | refine below_set ?_ GE384.out) | exact HB.out)))); have n2_ := aK (kb BK383.out hb); have n3_ := aK (kb BK384.out hb); have n4_ := aK (below_step (by repeat (first | (with_reducible first | exact HB.out | apply hA | apply hN | apply hD | refine below_set ?_ GE383.out | refine below_set ?_ GE384.out) | exact HB.out)) hb); clear HO391 BK383 BK384 HB; have HO391 := n0_; have HO394 := n1_; have BK383 := n2_; have BK384 := n3_; have HB := n4_; clear n0_ n1_ n2_ n3_ n4_; (try clear hb); (try clear ho0)))
           have n0_ := aK (Kd.R_drew HO391.out)
           have n1_ := aK (Kd.R_drew HO394.out)
           have n2_ := aK (blk_drew BK383.out)
           have n3_ := aK (blk_drew BK384.out)
           have n4_ := aK (below_drew1 HB.out)
           clear HO391 HO394 BK383 BK384 HB
           have HO391 := n0_
           have HO394 := n1_
           have BK383 := n2_
           have BK384 := n3_
           have HB := n4_
           clear n0_ n1_ n2_ n3_ n4_
           obtain ⟨Ao30, co30, eo30⟩ := Kd.R_slice HO394.out
           (first | subst eo30 | (injection eo30 with f1_ f2_ f3_; have f4_ := f1_.symm; have f5_ := f3_.symm; clear f1_ f2_ f3_; subst f4_; subst f5_))
           have p396 : 0 ≤ (0 : Int) := (by omega)
           have q396 : 0 < (t392.length : Int) := of_decide_eq_true (by first | (with_reducible assumption) | assumption)
           obtain ⟨ad396, e396, hx396_0⟩ := Kd.at_int (Kd.R_reads' HO394.out).2.2 0 p396 q396
           cases e396
           have qi396 : (0 < t392.length) = True := eq_true (by omega)
           (try rw [show ((0 : Int)).toNat = 0 from rfl] at hx396_0)
           (try rw [Addr.add_zero'] at hx396_0)
           replace p396 := eq_true p396
           replace q396 := eq_true q396
           have q31 : (5 : Int) ≤ ((t392.length : Int) : Int) := of_decide_eq_true (by first | (with_reducible assumption) | assumption)
           obtain ⟨i031, hi031, _, hsz31, _⟩ := info_parts info5
           have hroom31 : t392.length ≤ co30 := (Kd.R_reads' HO394.out).2.1
           have hC31 : Kd.C (Kd.int .u8) _ (some ad396) t392.length t392 := (Kd.R_reads' HO394.out).2.2
           have ql31 : (1 : Int) ≤ (5 : Int) := (by omega)
           have hcut31 := cut_mid (P := Try.prog) 27 5 .i64 .i64 Try.underlying27 hi031 1 hsz31 (some ad396) t392.length co30 1 5 (by omega) ql31 q31 hroom31
           have hr31 := Kd.C_mid (lo := (1 : Int).toNat) (hi := (5 : Int).toNat) (c := co30) hC31 (by omega) (by omega) hroom31
           obtain ⟨A31, hA31⟩ : ∃ A1, A1 = (if co30 = (1 : Int).toNat then (some ad396) else ((some ad396) : Option Addr).map (·.add ((1 : Int).toNat * 1))) := ⟨_, rfl⟩
           obtain ⟨c31, hc31⟩ : ∃ c1, c1 = co30 - (1 : Int).toNat := ⟨_, rfl⟩
           have hy31 : y397.length = (5 : Int).toNat - (1 : Int).toNat := (by rw [Ny397.out, List.length_drop, List.length_take] <;> omega)
           rw [show ((t392).take (5 : Int).toNat).drop (1 : Int).toNat = y397 from Ny397.out.symm] at hr31
           replace hr31 : Kd.C (Kd.int .u8) _ A31 y397.length y397 := (by rw [hA31]; exact hr31)
           rw [← hy31, ← hA31, ← hc31] at hcut31
           have HR400 := Aside0.mk hr31
           have HC400 := aK (show y397.length ≤ c31 from by rw [hy31, hc31]; exact Nat.sub_le_sub_right (Nat.le_trans (by omega) hroom31) _)
           clear hr31 hC31 hroom31 hi031 hsz31 hc31
           have KY31 := Aside0.mk hy31
           have KA31 := Aside0.mk hA31
           clear hy31 hA31
           have KL31 := aK (show 5 ≤ t392.length from by omega)
           have KM31 := aK (show 1 ≤ 5 from by omega)
           replace q31 := eq_true q31
           have q32 : (9 : Int) ≤ ((t392.length : Int) : Int) := of_decide_eq_true (by first | (with_reducible assumption) | assumption)
           obtain ⟨i032, hi032, _, hsz32, _⟩ := info_parts info5
           have hroom32 : t392.length ≤ co30 := (Kd.R_reads' HO394.out).2.1
           have hC32 : Kd.C (Kd.int .u8) _ (some ad396) t392.length t392 := (Kd.R_reads' HO394.out).2.2
           have ql32 : (5 : Int) ≤ (9 : Int) := (by omega)
           have hcut32 := cut_mid (P := Try.prog) 27 5 .i64 .i64 Try.underlying27 hi032 1 hsz32 (some ad396) t392.length co30 5 9 (by omega) ql32 q32 hroom32
           have hr32 := Kd.C_mid (lo := (5 : Int).toNat) (hi := (9 : Int).toNat) (c := co30) hC32 (by omega) (by omega) hroom32
           obtain ⟨A32, hA32⟩ : ∃ A1, A1 = (if co30 = (5 : Int).toNat then (some ad396) else ((some ad396) : Option Addr).map (·.add ((5 : Int).toNat * 1))) := ⟨_, rfl⟩
           obtain ⟨c32, hc32⟩ : ∃ c1, c1 = co30 - (5 : Int).toNat := ⟨_, rfl⟩
           have hy32 : y402.length = (9 : Int).toNat - (5 : Int).toNat := (by rw [Ny402.out, List.length_drop, List.length_take] <;> omega)
           rw [show ((t392).take (9 : Int).toNat).drop (5 : Int).toNat = y402 from Ny402.out.symm] at hr32
           replace hr32 : Kd.C (Kd.int .u8) _ A32 y402.length y402 := (by rw [hA32]; exact hr32)
           rw [← hy32, ← hA32, ← hc32] at hcut32
           have HR405 := Aside0.mk hr32
           have HC405 := aK (show y402.length ≤ c32 from by rw [hy32, hc32]; exact Nat.sub_le_sub_right (Nat.le_trans (by omega) hroom32) _)
           clear hr32 hC32 hroom32 hi032 hsz32 hc32
           have KY32 := Aside0.mk hy32
           have KA32 := Aside0.mk hA32
           clear hy32 hA32
           have KL32 := aK (show 9 ≤ t392.length from by omega)
           have KM32 := aK (show 5 ≤ 9 from by omega)
           replace q32 := eq_true q32
           refine start_ (n := 13) (S := fun w' => w'.cell? ad396 = some (.int .u8 (rd t392 0))) (ds := []) #[false, false, false, false, false, false, false, false, false, false, false, false, false] (by kernel_rfl) rfl rfl (hx396_0) (fun hHeld => ?_); refine with_tabW outpostref24_Parse.tab12 outpostref24_Parse.bits12 (fun HT_ HW_ => ?_)
           generalize w28.drew = w29 at HO391 HO394 BK383 BK384 HB HR400 HR405 hx396_0 hHeld ⊢
           refine pure_ (i := 0) (N := some 50) (v := ?_) (a' := ?_) #[true, false, false, false, false, false, false, false, false, false, false, false, false] rfl rfl (any_of HT_.out (by kernel_rfl)) (fun _ _ _ h => h) (Or.inl ⟨by rfl, ?_⟩) ?_ ?_
           rotate_left
           ·intro w'
            go_simp
            with_reducible rfl
           rotate_left
           ·simp only [Act.put, List.setIfInBounds_toArray, List.set_cons_zero, List.set_cons_succ, i64_w, i32_w]
            rfl
           refine pure_ (i := 1) (N := some 51) (v := ?_) (a' := ?_) #[true, true, false, false, false, false, false, false, false, false, false, false, false] rfl rfl (any_of HT_.out (by kernel_rfl)) (fun _ _ _ h => h) (Or.inl ⟨by rfl, ?_⟩) ?_ ?_
           rotate_left
           ·intro w'
            go_simp
            with_reducible rfl
           rotate_left
           ·simp only [Act.put, List.setIfInBounds_toArray, List.set_cons_zero, List.set_cons_succ, i64_w, i32_w]
            rfl
           refine pure_ (i := 4) (N := some 54) (v := ?_) (a' := ?_) #[true, true, false, false, true, false, false, false, false, false, false, false, false] rfl rfl (any_of HT_.out (by kernel_rfl)) (fun _ _ _ h => h) (Or.inl ⟨by rfl, ?_⟩) ?_ ?_
           rotate_left
           ·intro w'
            go_simp
            with_reducible rfl
           rotate_left
           ·simp only [Act.put, List.setIfInBounds_toArray, List.set_cons_zero, List.set_cons_succ, i64_w, i32_w]
            rfl
           refine pure_ (i := 5) (N := some 55) (v := ?_) (a' := ?_) #[true, true, false, false, true, true, false, false, false, false, false, false, false] rfl rfl (any_of HT_.out (by kernel_rfl)) (fun _ _ _ h => h) (Or.inl ⟨by rfl, ?_⟩) ?_ ?_
           rotate_left
           ·intro w'
            go_simp
            with_reducible rfl
           rotate_left
           ·simp only [Act.put, List.setIfInBounds_toArray, List.set_cons_zero, List.set_cons_succ, i64_w, i32_w]
            rfl
           refine pure_ (i := 7) (N := some 57) (v := ?_) (a' := ?_) #[true, true, false, false, true, true, false, true, false, false, false, false, false] rfl rfl (any_of HT_.out (by kernel_rfl)) (fun _ _ _ h => h) (Or.inl ⟨by rfl, ?_⟩) ?_ ?_
           rotate_left
           ·intro w'
            go_simp
            with_reducible rfl
           rotate_left
           ·simp only [Act.put, List.setIfInBounds_toArray, List.set_cons_zero, List.set_cons_succ, i64_w, i32_w]
            rfl
           refine pure_ (i := 8) (N := some 58) (v := ?_) (a' := ?_) #[true, true, false, false, true, true, false, true, true, false, false, false, false] rfl rfl (any_of HT_.out (by kernel_rfl)) (fun _ _ _ h => h) (Or.inl ⟨by rfl, ?_⟩) ?_ ?_
           rotate_left
           ·intro w'
            go_simp
            with_reducible rfl
           rotate_left
           ·simp only [Act.put, List.setIfInBounds_toArray, List.set_cons_zero, List.set_cons_succ, i64_w, i32_w]
            rfl
           refine take_ (i := 2) (N := some 52) (v := ?_) (a' := ?_) #[true, true, true, false, true, true, false, true, true, false, false, false, false] rfl rfl (take_ofW HT_.out HW_.out (by kernel_rfl)) (fun _ _ _ h => h) (Or.inl ⟨by rfl, ?_⟩) hHeld ?_ ?_
           rotate_left
           ·intro w' s0
            go_simp
            with_reducible rfl
           rotate_left
           ·simp only [Act.put, List.setIfInBounds_toArray, List.set_cons_zero, List.set_cons_succ, i64_w, i32_w]
            rfl
           refine pure_ (i := 3) (N := some 53) (v := ?_) (a' := ?_) #[true, true, true, true, true, true, false, true, true, false, false, false, false] rfl rfl (any_of HT_.out (by kernel_rfl)) (fun _ _ _ h => h) (Or.inl ⟨by rfl, ?_⟩) ?_ ?_
           rotate_left
           ·intro w'
            go_simp
            with_reducible rfl
           rotate_left
           ·simp only [Act.put, List.setIfInBounds_toArray, List.set_cons_zero, List.set_cons_succ, i64_w, i32_w]
            rfl
           refine join_ (σ := Nat) 1 #[true, true, true, true, true, true, true, true, true, true, true, true, false] (fun s_ => [(56, .int .u32 t401), (59, .int .u32 t406), (10, .pointer (some ⟨s_, 0, none⟩)), (60, .agg #[.int .i64 (wrap64 (rd t392 0)), .int .u32 t401, .int .u32 t406, .slice none 0 0])]) (fun s_ w' => (w'.cell? ad396 = some (.int .u8 (rd t392 0))) ∧ (Kd.R (Kd.int .u8) 5 w' w.heap.size (fun k_ => some k_ ≠ (.slice (some ad396) t392.length co30 : Value).ownBlock) (.slice Ao27 t388.length co27) t388) ∧ (Kd.R (Kd.int .u8) 5 w' w.heap.size (fun k_ => some k_ ≠ (.slice Ao27 t388.length co27 : Value).ownBlock) (.slice (some ad396) t392.length co30) t392) ∧ (w'.heap[gb383]? = some (.cells #[.int .i64 a0_0, .int .i64 a0_1, .int .u32 a0_2, .int .u32 a0_3, .int .u32 a0_4, .bool a0_5] 26 (0, 0))) ∧ (w'.heap[gb384]? = some (.cells #[.int .i64 0, .int .u32 0, .int .u32 0, .slice none 0 0] 29 (0, 0))) ∧ (w'.heap[s_]? = some (.cells #[.int .i64 0, .int .u32 0, .int .u32 0, .slice none 0 0] 29 (0, 0))) ∧ (w.heap.size ≤ s_) ∧ (w.heap.size ≤ s_) ∧ (gb383 ≠ s_) ∧ (s_ ≠ gb383) ∧ (gb384 ≠ s_) ∧ (s_ ≠ gb384) ∧ (Below w.heap.size w w')) ?_ ?_
           rotate_left
           ·intro hCont
            refine two_ (i := 6) (j := 11) (Ni := some 56) (Nj := some 10) #[true, true, true, true, true, true, true, true, true, false, false, false, false] #[true, true, true, true, true, true, false, true, true, false, false, true, false] rfl rfl rfl rfl (two_of HT_.out (by kernel_rfl)) (by decide) (by decide) (fun K hK => ?_) (fun K hK => ?_)
            ·skip
             refine goes_ Try.func40 (by kernel_rfl) rfl #[.slice A31 y397.length c31] (by rfl) rfl rfl (by (try simp only [List.map_toArray, List.map_cons, List.map_nil]) <;> rfl) ?_
             with_reducible refine (outpostref24_number.calls _ _ y397 t401 _ ?side1 ?side2 A14.out).mono ?_
             (case side1 => repeat (first | exact (by repeat (first | (with_reducible exact HR400.out) | (with_reducible refine Kd.C_alloc ?_ _) | (with_reducible refine Kd.C_drewN ?_ _) | (with_reducible refine Kd.C_drew ?_) | exact HR400.out)) | (with_reducible refine Kd.C_alloc ?_ _) | (with_reducible refine Kd.C_drewN ?_ _) | (with_reducible refine Kd.C_drew ?_)))
             (case side2 => exact HC400.out)
             rintro e w' ⟨rfl, ⟨nd, rfl⟩⟩
             refine ⟨_, rfl, ?_⟩
             refine hK.out _ _ (hHeld) (fun hHeld => ?_)
             clear hK K
             refine norm_ (a' := ?_) ?_ ?_
             rotate_left
             ·show Act.put _ (some 56) _ = _
              simp only [Act.put, List.setIfInBounds_toArray, List.set_cons_zero, List.set_cons_succ, i64_w, i32_w]
              rfl
             refine two_ (i := 9) (j := 11) (Ni := some 59) (Nj := some 10) #[true, true, true, true, true, true, true, true, true, true, false, false, false] #[true, true, true, true, true, true, true, true, true, false, false, true, false] rfl rfl rfl rfl (two_of HT_.out (by kernel_rfl)) (by decide) (by decide) (fun K hK => ?_) (fun K hK => ?_)
             ·skip
              refine goes_ Try.func40 (by kernel_rfl) rfl #[.slice A32 y402.length c32] (by rfl) rfl rfl (by (try simp only [List.map_toArray, List.map_cons, List.map_nil]) <;> rfl) ?_
              with_reducible refine (outpostref24_number.calls _ _ y402 t406 _ ?side1 ?side2 A17.out).mono ?_
              (case side1 => repeat (first | exact (by repeat (first | (with_reducible exact HR405.out) | (with_reducible refine Kd.C_alloc ?_ _) | (with_reducible refine Kd.C_drewN ?_ _) | (with_reducible refine Kd.C_drew ?_) | exact HR405.out)) | (with_reducible refine Kd.C_alloc ?_ _) | (with_reducible refine Kd.C_drewN ?_ _) | (with_reducible refine Kd.C_drew ?_)))
              (case side2 => exact HC405.out)
              rintro e w' ⟨rfl, ⟨nd, rfl⟩⟩
              refine ⟨_, rfl, ?_⟩
              refine hK.out _ _ (hHeld) (fun hHeld => ?_)
              clear hK K
              refine norm_ (a' := ?_) ?_ ?_
              rotate_left
              ·show Act.put _ (some 59) _ = _
               simp only [Act.put, List.setIfInBounds_toArray, List.set_cons_zero, List.set_cons_succ, i64_w, i32_w]
               rfl
              refine pure_ (i := 10) (N := some 60) (v := ?_) (a' := ?_) #[true, true, true, true, true, true, true, true, true, true, true, false, false] rfl rfl (any_of HT_.out (by kernel_rfl)) (fun _ _ _ h => h) (Or.inl ⟨by rfl, ?_⟩) ?_ ?_
              rotate_left
              ·intro w'
               go_simp
               with_reducible rfl
              rotate_left
              ·simp only [Act.put, List.setIfInBounds_toArray, List.set_cons_zero, List.set_cons_succ, i64_w, i32_w]
               rfl
              refine one_ (i := 11) (N := some 10) #[true, true, true, true, true, true, true, true, true, true, true, true, false] rfl rfl (one_of HT_.out (by kernel_rfl)) (by decide) (fun K hK => ?_)
              refine box_step ?hg (N := 10) ?hd (cs := #[.int .i64 0, .int .u32 0, .int .u32 0, .slice none 0 0]) (t := 29) ?hr ?_; (case hd => rfl); (case hg => rfl); (case hr => first | (go_simp; done) | (go_simp; rfl))
              intro gb407 hg w33 hbox hb
              have HS0_ := (hb.cell (World.block_lt_of_cell? _ _ (hHeld))).trans (hHeld)
              have n0_ := aK (Kd.R_below (mvR HO391.out) hb)
              have n1_ := aK (Kd.R_below (mvR HO394.out) hb)
              have n2_ := aK (kb BK383.out hb)
              have n3_ := aK (kb BK384.out hb)
              have n4_ := aK (Kd.C_below (by repeat (first | (with_reducible exact HR400.out) | (with_reducible refine Kd.C_alloc ?_ _) | (with_reducible refine Kd.C_drewN ?_ _) | (with_reducible refine Kd.C_drew ?_) | exact HR400.out)) hb)
              have n5_ := aK (Kd.C_below (by repeat (first | (with_reducible exact HR405.out) | (with_reducible refine Kd.C_alloc ?_ _) | (with_reducible refine Kd.C_drewN ?_ _) | (with_reducible refine Kd.C_drew ?_) | exact HR405.out)) hb)
              have n6_ := aK (below_step (by repeat (first | (with_reducible first | exact HB.out | apply hA | apply hN | apply hD | refine below_set ?_ GE383.out | refine below_set ?_ GE384.out) | exact HB.out)) hb)
              have n7_ := aK (hbox)
              have n8_ := aK ((by rw [hg]; exact (below_size (by repeat (first | (with_reducible first | exact HB.out | apply hA | apply hN | apply hD | refine below_set ?_ GE383.out | refine below_set ?_ GE384.out) | exact HB.out))) : w.heap.size ≤ gb407))
              have n9_ := aK ((by rw [hg]; exact (below_size (by repeat (first | (with_reducible first | exact HB.out | apply hA | apply hN | apply hD | refine below_set ?_ GE383.out | refine below_set ?_ GE384.out) | exact HB.out))) : w.heap.size ≤ gb407))
              have n10_ := aK ((by rw [hg]; exact Nat.ne_of_lt (kl BK383.out) : gb383 ≠ gb407))
              have n11_ := aK ((by rw [hg]; exact Nat.ne_of_gt (kl BK383.out) : gb407 ≠ gb383))
              have n12_ := aK ((by rw [hg]; exact Nat.ne_of_lt (kl BK384.out) : gb384 ≠ gb407))
              have n13_ := aK ((by rw [hg]; exact Nat.ne_of_gt (kl BK384.out) : gb407 ≠ gb384))
              clear HO391 HO394 BK383 BK384 HR400 HR405 HB
              have HO391 := n0_
              have HO394 := n1_
              have BK383 := n2_
              have BK384 := n3_
              have HR400 := n4_
              have HR405 := n5_
              have HB := n6_
              have BK407 := n7_
              have GW407 := n8_
              have GE407 := n9_
              have NB383_407 := n10_
              have NB407_383 := n11_
              have NB384_407 := n12_
              have NB407_384 := n13_
              clear n0_ n1_ n2_ n3_ n4_ n5_ n6_ n7_ n8_ n9_ n10_ n11_ n12_ n13_ hb hbox hg
              refine hK.out _ _ (HS0_) (fun hHeld => ?_)
              clear hK K
              refine norm_ (a' := ?_) ?_ ?_
              rotate_left
              ·show Act.put _ (some 10) _ = _
               simp only [Act.put, List.setIfInBounds_toArray, List.set_cons_zero, List.set_cons_succ, i64_w, i32_w]
               rfl
              exact norm_ (by simp only [putAll, Act.put, List.setIfInBounds_toArray, List.set_cons_zero, List.set_cons_succ]) (hCont (gb407) _ ⟨hHeld, (by (with_reducible repeat (first | apply Kd.R_alloc | apply Kd.R_drewN | apply Kd.R_drew)); exact Kd.R_mono HO391.out (fun _ hk => hk.2)), (by (with_reducible repeat (first | apply Kd.R_alloc | apply Kd.R_drewN | apply Kd.R_drew)); exact Kd.R_mono HO394.out (fun _ hk => hk.2)), (mvb BK383.out), (mvb BK384.out), (mvb BK407.out), GW407.out, GE407.out, NB383_407.out, NB407_383.out, NB384_407.out, NB407_384.out, (by repeat (first | (with_reducible first | exact HB.out | apply hA | apply hN | apply hD | refine below_set ?_ GE383.out | refine below_set ?_ GE384.out | refine below_set ?_ GE407.out) | exact HB.out))⟩)
             ·skip
              refine box_step ?hg (N := 10) ?hd (cs := #[.int .i64 0, .int .u32 0, .int .u32 0, .slice none 0 0]) (t := 29) ?hr ?_; (case hd => rfl); (case hg => rfl); (case hr => first | (go_simp; done) | (go_simp; rfl))
              intro gb407 hg w33 hbox hb
              have HS0_ := (hb.cell (World.block_lt_of_cell? _ _ (hHeld))).trans (hHeld)
              have n0_ := aK (Kd.R_below (mvR HO391.out) hb)
              have n1_ := aK (Kd.R_below (mvR HO394.out) hb)
              have n2_ := aK (kb BK383.out hb)
              have n3_ := aK (kb BK384.out hb)
              have n4_ := aK (Kd.C_below (by repeat (first | (with_reducible exact HR400.out) | (with_reducible refine Kd.C_alloc ?_ _) | (with_reducible refine Kd.C_drewN ?_ _) | (with_reducible refine Kd.C_drew ?_) | exact HR400.out)) hb)
              have n5_ := aK (Kd.C_below (by repeat (first | (with_reducible exact HR405.out) | (with_reducible refine Kd.C_alloc ?_ _) | (with_reducible refine Kd.C_drewN ?_ _) | (with_reducible refine Kd.C_drew ?_) | exact HR405.out)) hb)
              have n6_ := aK (below_step (by repeat (first | (with_reducible first | exact HB.out | apply hA | apply hN | apply hD | refine below_set ?_ GE383.out | refine below_set ?_ GE384.out) | exact HB.out)) hb)
              have n7_ := aK (hbox)
              have n8_ := aK ((by rw [hg]; exact (below_size (by repeat (first | (with_reducible first | exact HB.out | apply hA | apply hN | apply hD | refine below_set ?_ GE383.out | refine below_set ?_ GE384.out) | exact HB.out))) : w.heap.size ≤ gb407))
              have n9_ := aK ((by rw [hg]; exact (below_size (by repeat (first | (with_reducible first | exact HB.out | apply hA | apply hN | apply hD | refine below_set ?_ GE383.out | refine below_set ?_ GE384.out) | exact HB.out))) : w.heap.size ≤ gb407))
              have n10_ := aK ((by rw [hg]; exact Nat.ne_of_lt (kl BK383.out) : gb383 ≠ gb407))
              have n11_ := aK ((by rw [hg]; exact Nat.ne_of_gt (kl BK383.out) : gb407 ≠ gb383))
              have n12_ := aK ((by rw [hg]; exact Nat.ne_of_lt (kl BK384.out) : gb384 ≠ gb407))
              have n13_ := aK ((by rw [hg]; exact Nat.ne_of_gt (kl BK384.out) : gb407 ≠ gb384))
              clear HO391 HO394 BK383 BK384 HR400 HR405 HB
              have HO391 := n0_
              have HO394 := n1_
              have BK383 := n2_
              have BK384 := n3_
              have HR400 := n4_
              have HR405 := n5_
              have HB := n6_
              have BK407 := n7_
              have GW407 := n8_
              have GE407 := n9_
              have NB383_407 := n10_
              have NB407_383 := n11_
              have NB384_407 := n12_
              have NB407_384 := n13_
              clear n0_ n1_ n2_ n3_ n4_ n5_ n6_ n7_ n8_ n9_ n10_ n11_ n12_ n13_ hb hbox hg
              refine hK.out _ _ (HS0_) (fun hHeld => ?_)
              clear hK K
              refine norm_ (a' := ?_) ?_ ?_
              rotate_left
              ·show Act.put _ (some 10) _ = _
               simp only [Act.put, List.setIfInBounds_toArray, List.set_cons_zero, List.set_cons_succ, i64_w, i32_w]
               rfl
              refine one_ (i := 9) (N := some 59) #[true, true, true, true, true, true, true, true, true, true, false, true, false] rfl rfl (one_of HT_.out (by kernel_rfl)) (by decide) (fun K hK => ?_)
              refine goes_ Try.func40 (by kernel_rfl) rfl #[.slice A32 y402.length c32] (by rfl) rfl rfl (by (try simp only [List.map_toArray, List.map_cons, List.map_nil]) <;> rfl) ?_
              with_reducible refine (outpostref24_number.calls _ _ y402 t406 _ ?side1 ?side2 A17.out).mono ?_
              (case side1 => repeat (first | exact (by repeat (first | (with_reducible exact HR405.out) | (with_reducible refine Kd.C_alloc ?_ _) | (with_reducible refine Kd.C_drewN ?_ _) | (with_reducible refine Kd.C_drew ?_) | exact HR405.out)) | (with_reducible refine Kd.C_alloc ?_ _) | (with_reducible refine Kd.C_drewN ?_ _) | (with_reducible refine Kd.C_drew ?_)))
              (case side2 => exact HC405.out)
              rintro e w' ⟨rfl, ⟨nd, rfl⟩⟩
              refine ⟨_, rfl, ?_⟩
              refine hK.out _ _ (hHeld) (fun hHeld => ?_)
              clear hK K
              refine norm_ (a' := ?_) ?_ ?_
              rotate_left
              ·show Act.put _ (some 59) _ = _
               simp only [Act.put, List.setIfInBounds_toArray, List.set_cons_zero, List.set_cons_succ, i64_w, i32_w]
               rfl
              refine pure_ (i := 10) (N := some 60) (v := ?_) (a' := ?_) #[true, true, true, true, true, true, true, true, true, true, true, true, false] rfl rfl (any_of HT_.out (by kernel_rfl)) (fun _ _ _ h => h) (Or.inl ⟨by rfl, ?_⟩) ?_ ?_
              rotate_left
              ·intro w'
               go_simp
               with_reducible rfl
              rotate_left
              ·simp only [Act.put, List.setIfInBounds_toArray, List.set_cons_zero, List.set_cons_succ, i64_w, i32_w]
               rfl
              exact norm_ (by simp only [putAll, Act.put, List.setIfInBounds_toArray, List.set_cons_zero, List.set_cons_succ]) (hCont (gb407) _ ⟨hHeld, (by (with_reducible repeat (first | apply Kd.R_alloc | apply Kd.R_drewN | apply Kd.R_drew)); exact Kd.R_mono HO391.out (fun _ hk => hk.2)), (by (with_reducible repeat (first | apply Kd.R_alloc | apply Kd.R_drewN | apply Kd.R_drew)); exact Kd.R_mono HO394.out (fun _ hk => hk.2)), (mvb BK383.out), (mvb BK384.out), (mvb BK407.out), GW407.out, GE407.out, NB383_407.out, NB407_383.out, NB384_407.out, NB407_384.out, (by repeat (first | (with_reducible first | exact HB.out | apply hA | apply hN | apply hD | refine below_set ?_ GE383.out | refine below_set ?_ GE384.out | refine below_set ?_ GE407.out) | exact HB.out))⟩)
            ·skip
             refine box_step ?hg (N := 10) ?hd (cs := #[.int .i64 0, .int .u32 0, .int .u32 0, .slice none 0 0]) (t := 29) ?hr ?_; (case hd => rfl); (case hg => rfl); (case hr => first | (go_simp; done) | (go_simp; rfl))
             intro gb407 hg w33 hbox hb
             have HS0_ := (hb.cell (World.block_lt_of_cell? _ _ (hHeld))).trans (hHeld)
             have n0_ := aK (Kd.R_below (mvR HO391.out) hb)
             have n1_ := aK (Kd.R_below (mvR HO394.out) hb)
             have n2_ := aK (kb BK383.out hb)
             have n3_ := aK (kb BK384.out hb)
             have n4_ := aK (Kd.C_below (by repeat (first | (with_reducible exact HR400.out) | (with_reducible refine Kd.C_alloc ?_ _) | (with_reducible refine Kd.C_drewN ?_ _) | (with_reducible refine Kd.C_drew ?_) | exact HR400.out)) hb)
             have n5_ := aK (Kd.C_below (by repeat (first | (with_reducible exact HR405.out) | (with_reducible refine Kd.C_alloc ?_ _) | (with_reducible refine Kd.C_drewN ?_ _) | (with_reducible refine Kd.C_drew ?_) | exact HR405.out)) hb)
             have n6_ := aK (below_step (by repeat (first | (with_reducible first | exact HB.out | apply hA | apply hN | apply hD | refine below_set ?_ GE383.out | refine below_set ?_ GE384.out) | exact HB.out)) hb)
             have n7_ := aK (hbox)
             have n8_ := aK ((by rw [hg]; exact (below_size (by repeat (first | (with_reducible first | exact HB.out | apply hA | apply hN | apply hD | refine below_set ?_ GE383.out | refine below_set ?_ GE384.out) | exact HB.out))) : w.heap.size ≤ gb407))
             have n9_ := aK ((by rw [hg]; exact (below_size (by repeat (first | (with_reducible first | exact HB.out | apply hA | apply hN | apply hD | refine below_set ?_ GE383.out | refine below_set ?_ GE384.out) | exact HB.out))) : w.heap.size ≤ gb407))
             have n10_ := aK ((by rw [hg]; exact Nat.ne_of_lt (kl BK383.out) : gb383 ≠ gb407))
             have n11_ := aK ((by rw [hg]; exact Nat.ne_of_gt (kl BK383.out) : gb407 ≠ gb383))
             have n12_ := aK ((by rw [hg]; exact Nat.ne_of_lt (kl BK384.out) : gb384 ≠ gb407))
             have n13_ := aK ((by rw [hg]; exact Nat.ne_of_gt (kl BK384.out) : gb407 ≠ gb384))
             clear HO391 HO394 BK383 BK384 HR400 HR405 HB
             have HO391 := n0_
             have HO394 := n1_
             have BK383 := n2_
             have BK384 := n3_
             have HR400 := n4_
             have HR405 := n5_
             have HB := n6_
             have BK407 := n7_
             have GW407 := n8_
             have GE407 := n9_
             have NB383_407 := n10_
             have NB407_383 := n11_
             have NB384_407 := n12_
             have NB407_384 := n13_
             clear n0_ n1_ n2_ n3_ n4_ n5_ n6_ n7_ n8_ n9_ n10_ n11_ n12_ n13_ hb hbox hg
             refine hK.out _ _ (HS0_) (fun hHeld => ?_)
             clear hK K
             refine norm_ (a' := ?_) ?_ ?_
             rotate_left
             ·show Act.put _ (some 10) _ = _
              simp only [Act.put, List.setIfInBounds_toArray, List.set_cons_zero, List.set_cons_succ, i64_w, i32_w]
              rfl
             refine one_ (i := 6) (N := some 56) #[true, true, true, true, true, true, true, true, true, false, false, true, false] rfl rfl (one_of HT_.out (by kernel_rfl)) (by decide) (fun K hK => ?_)
             refine goes_ Try.func40 (by kernel_rfl) rfl #[.slice A31 y397.length c31] (by rfl) rfl rfl (by (try simp only [List.map_toArray, List.map_cons, List.map_nil]) <;> rfl) ?_
             with_reducible refine (outpostref24_number.calls _ _ y397 t401 _ ?side1 ?side2 A14.out).mono ?_
             (case side1 => repeat (first | exact (by repeat (first | (with_reducible exact HR400.out) | (with_reducible refine Kd.C_alloc ?_ _) | (with_reducible refine Kd.C_drewN ?_ _) | (with_reducible refine Kd.C_drew ?_) | exact HR400.out)) | (with_reducible refine Kd.C_alloc ?_ _) | (with_reducible refine Kd.C_drewN ?_ _) | (with_reducible refine Kd.C_drew ?_)))
             (case side2 => exact HC400.out)
             rintro e w' ⟨rfl, ⟨nd, rfl⟩⟩
             refine ⟨_, rfl, ?_⟩
             refine hK.out _ _ (hHeld) (fun hHeld => ?_)
             clear hK K
             refine norm_ (a' := ?_) ?_ ?_
             rotate_left
             ·show Act.put _ (some 56) _ = _
              simp only [Act.put, List.setIfInBounds_toArray, List.set_cons_zero, List.set_cons_succ, i64_w, i32_w]
              rfl
             refine one_ (i := 9) (N := some 59) #[true, true, true, true, true, true, true, true, true, true, false, true, false] rfl rfl (one_of HT_.out (by kernel_rfl)) (by decide) (fun K hK => ?_)
             refine goes_ Try.func40 (by kernel_rfl) rfl #[.slice A32 y402.length c32] (by rfl) rfl rfl (by (try simp only [List.map_toArray, List.map_cons, List.map_nil]) <;> rfl) ?_
             with_reducible refine (outpostref24_number.calls _ _ y402 t406 _ ?side1 ?side2 A17.out).mono ?_
             (case side1 => repeat (first | exact (by repeat (first | (with_reducible exact HR405.out) | (with_reducible refine Kd.C_alloc ?_ _) | (with_reducible refine Kd.C_drewN ?_ _) | (with_reducible refine Kd.C_drew ?_) | exact HR405.out)) | (with_reducible refine Kd.C_alloc ?_ _) | (with_reducible refine Kd.C_drewN ?_ _) | (with_reducible refine Kd.C_drew ?_)))
             (case side2 => exact HC405.out)
             rintro e w' ⟨rfl, ⟨nd, rfl⟩⟩
             refine ⟨_, rfl, ?_⟩
             refine hK.out _ _ (hHeld) (fun hHeld => ?_)
             clear hK K
             refine norm_ (a' := ?_) ?_ ?_
             rotate_left
             ·show Act.put _ (some 59) _ = _
              simp only [Act.put, List.setIfInBounds_toArray, List.set_cons_zero, List.set_cons_succ, i64_w, i32_w]
              rfl
             refine pure_ (i := 10) (N := some 60) (v := ?_) (a' := ?_) #[true, true, true, true, true, true, true, true, true, true, true, true, false] rfl rfl (any_of HT_.out (by kernel_rfl)) (fun _ _ _ h => h) (Or.inl ⟨by rfl, ?_⟩) ?_ ?_
             rotate_left
             ·intro w'
              go_simp
              with_reducible rfl
             rotate_left
             ·simp only [Act.put, List.setIfInBounds_toArray, List.set_cons_zero, List.set_cons_succ, i64_w, i32_w]
              rfl
             exact norm_ (by simp only [putAll, Act.put, List.setIfInBounds_toArray, List.set_cons_zero, List.set_cons_succ]) (hCont (gb407) _ ⟨hHeld, (by (with_reducible repeat (first | apply Kd.R_alloc | apply Kd.R_drewN | apply Kd.R_drew)); exact Kd.R_mono HO391.out (fun _ hk => hk.2)), (by (with_reducible repeat (first | apply Kd.R_alloc | apply Kd.R_drewN | apply Kd.R_drew)); exact Kd.R_mono HO394.out (fun _ hk => hk.2)), (mvb BK383.out), (mvb BK384.out), (mvb BK407.out), GW407.out, GE407.out, NB383_407.out, NB407_383.out, NB384_407.out, NB407_384.out, (by repeat (first | (with_reducible first | exact HB.out | apply hA | apply hN | apply hD | refine below_set ?_ GE383.out | refine below_set ?_ GE384.out | refine below_set ?_ GE407.out) | exact HB.out))⟩)
           rintro gb407 w34 ⟨hS_, h0_, h1_, h2_, h3_, h4_, h5_, h6_, h7_, h8_, h9_, h10_, h11_⟩
           have n0_ : Aside0 (Kd.R (Kd.int .u8) 5 w34 w.heap.size (fun k_ => some k_ ≠ (.slice (some ad396) t392.length co30 : Value).ownBlock) (.slice Ao27 t388.length co27) t388) := ⟨h0_⟩
           have n1_ : Aside0 (Kd.R (Kd.int .u8) 5 w34 w.heap.size (fun k_ => some k_ ≠ (.slice Ao27 t388.length co27 : Value).ownBlock) (.slice (some ad396) t392.length co30) t392) := ⟨h1_⟩
           have n2_ : Aside0 (w34.heap[gb383]? = some (.cells #[.int .i64 a0_0, .int .i64 a0_1, .int .u32 a0_2, .int .u32 a0_3, .int .u32 a0_4, .bool a0_5] 26 (0, 0))) := ⟨h2_⟩
           have n3_ : Aside0 (w34.heap[gb384]? = some (.cells #[.int .i64 0, .int .u32 0, .int .u32 0, .slice none 0 0] 29 (0, 0))) := ⟨h3_⟩
           have n4_ : Aside0 (w34.heap[gb407]? = some (.cells #[.int .i64 0, .int .u32 0, .int .u32 0, .slice none 0 0] 29 (0, 0))) := ⟨h4_⟩
           have n5_ : Aside0 (w.heap.size ≤ gb407) := ⟨h5_⟩
           have n6_ : Aside0 (w.heap.size ≤ gb407) := ⟨h6_⟩
           have n7_ : Aside0 (gb383 ≠ gb407) := ⟨h7_⟩
           have n8_ : Aside0 (gb407 ≠ gb383) := ⟨h8_⟩
           have n9_ : Aside0 (gb384 ≠ gb407) := ⟨h9_⟩
           have n10_ : Aside0 (gb407 ≠ gb384) := ⟨h10_⟩
           have n11_ : Aside0 (Below w.heap.size w w34) := ⟨h11_⟩
           clear HO391 HO394 BK383 BK384 HB h0_ h1_ h2_ h3_ h4_ h5_ h6_ h7_ h8_ h9_ h10_ h11_
           have HO391 := n0_
           have HO394 := n1_
           have BK383 := n2_
           have BK384 := n3_
           have BK407 := n4_
           have GW407 := n5_
           have GE407 := n6_
           have NB383_407 := n7_
           have NB407_383 := n8_
           have NB384_407 := n9_
           have NB407_384 := n10_
           have HB := n11_
           clear n0_ n1_ n2_ n3_ n4_ n5_ n6_ n7_ n8_ n9_ n10_ n11_
           have hHeld : w34.cell? ad396 = some (.int .u8 (rd t392 0)) := hS_
           refine norm_ (a' := ?_) ?_ ?_
           rotate_left
           ·simp only [putAll, Act.put, List.setIfInBounds_toArray, List.set_cons_zero, List.set_cons_succ]
            rfl
           refine one_ (i := 12) (N := none) #[true, true, true, true, true, true, true, true, true, true, true, true, true] rfl rfl (one_of HT_.out (by kernel_rfl)) (by decide) (fun K hK => ?_)
           have hs35 : w34.cell? ⟨gb407, 0, none⟩ = some (.int .i64 0) := (blk_cell BK407.out 0).trans rfl
           have hfs35 := blk_frozen BK407.out 0
           have hns35_0 := NB383_407.out
           have hns35_1 := NB384_407.out
           have hms35_0 := NB407_383.out
           have hms35_1 := NB407_384.out
           have hs36 : w34.cell? ⟨gb407, 1, none⟩ = some (.int .u32 0) := (blk_cell BK407.out 1).trans rfl
           have hfs36 := blk_frozen BK407.out 1
           have hns36_0 := NB383_407.out
           have hns36_1 := NB384_407.out
           have hms36_0 := NB407_383.out
           have hms36_1 := NB407_384.out
           have hs37 : w34.cell? ⟨gb407, 2, none⟩ = some (.int .u32 0) := (blk_cell BK407.out 2).trans rfl
           have hfs37 := blk_frozen BK407.out 2
           have hns37_0 := NB383_407.out
           have hns37_1 := NB384_407.out
           have hms37_0 := NB407_383.out
           have hms37_1 := NB407_384.out
           have hs38 : w34.cell? ⟨gb407, 3, none⟩ = some (.slice none 0 0) := (blk_cell BK407.out 3).trans rfl
           have hfs38 := blk_frozen BK407.out 3
           have hns38_0 := NB383_407.out
           have hns38_1 := NB384_407.out
           have hms38_0 := NB407_383.out
           have hms38_1 := NB407_384.out
           refine skip_ (w1 := ?_) (by rfl) rfl ?_ ?_
           rotate_left
           ·go_simp
            rfl
           refine hK.out _ _ (((cell_far (p := ⟨gb407, _, none⟩) (by first | exact Kd.own_blk (Kd.R_ne HO394.out BK407.out (by decide)) | (rw [add_block]; exact Kd.own_blk (Kd.R_ne HO394.out BK407.out (by decide))) | (show (Addr.add _ _).block ≠ _; rw [add_block]; exact Kd.own_blk (Kd.R_ne HO394.out BK407.out (by decide))) | (dsimp only; exact Kd.own_blk (Kd.R_ne HO394.out BK407.out (by decide)))) _).trans (((cell_far (p := ⟨gb407, _, none⟩) (by first | exact Kd.own_blk (Kd.R_ne HO394.out BK407.out (by decide)) | (rw [add_block]; exact Kd.own_blk (Kd.R_ne HO394.out BK407.out (by decide))) | (show (Addr.add _ _).block ≠ _; rw [add_block]; exact Kd.own_blk (Kd.R_ne HO394.out BK407.out (by decide))) | (dsimp only; exact Kd.own_blk (Kd.R_ne HO394.out BK407.out (by decide)))) _).trans (((cell_far (p := ⟨gb407, _, none⟩) (by first | exact Kd.own_blk (Kd.R_ne HO394.out BK407.out (by decide)) | (rw [add_block]; exact Kd.own_blk (Kd.R_ne HO394.out BK407.out (by decide))) | (show (Addr.add _ _).block ≠ _; rw [add_block]; exact Kd.own_blk (Kd.R_ne HO394.out BK407.out (by decide))) | (dsimp only; exact Kd.own_blk (Kd.R_ne HO394.out BK407.out (by decide)))) _).trans (((cell_far (p := ⟨gb407, _, none⟩) (by first | exact Kd.own_blk (Kd.R_ne HO394.out BK407.out (by decide)) | (rw [add_block]; exact Kd.own_blk (Kd.R_ne HO394.out BK407.out (by decide))) | (show (Addr.add _ _).block ≠ _; rw [add_block]; exact Kd.own_blk (Kd.R_ne HO394.out BK407.out (by decide))) | (dsimp only; exact Kd.own_blk (Kd.R_ne HO394.out BK407.out (by decide)))) _).trans (hHeld))))))))) (fun hHeld => ?_)
           clear hK K
           refine done_ (done_of HT_.out (by kernel_rfl)) ?_
           have p408 : 0 ≤ (9 : Int) := (by omega)
           have q408 : 9 < (t392.length : Int) := of_decide_eq_true (by first | (with_reducible assumption) | assumption)
           obtain ⟨ad408, e408, hx408_0⟩ := Kd.at_int (Kd.R_reads' HO394.out).2.2 9 p408 q408
           obtain rfl : ad396 = ad408 := (by injection e408)
           (try simp only [show (9 : Int).toNat = 9 from rfl, Nat.reduceMul, Nat.reduceEqDiff, Go.Addr.add, ↓reduceIte] at hx408_0)
           have qi408 : (9 < t392.length) = True := eq_true (by omega)
           (try rw [show ((9 : Int)).toNat = 9 from rfl] at hx408_0)
           have hn408_0 : ad396.block ≠ gb407 := Kd.own_blk (Kd.R_ne HO394.out BK407.out (by decide))
           have hn408_1 : ad396.block ≠ gb407 := Kd.own_blk (Kd.R_ne HO394.out BK407.out (by decide))
           have hn408_2 : ad396.block ≠ gb407 := Kd.own_blk (Kd.R_ne HO394.out BK407.out (by decide))
           have hn408_3 : ad396.block ≠ gb407 := Kd.own_blk (Kd.R_ne HO394.out BK407.out (by decide))
           replace hx408_0 := (cell_far (p := ⟨gb407, 0, none⟩) (by first | (rw [add_block]; exact hn408_0) | (show (Addr.add _ _).block ≠ _; rw [add_block]; exact hn408_0) | exact hn408_0) (.int .i64 (wrap64 (rd t392 0)))).trans hx408_0
           replace hx408_0 := (cell_far (p := ⟨gb407, 1, none⟩) (by first | (rw [add_block]; exact hn408_1) | (show (Addr.add _ _).block ≠ _; rw [add_block]; exact hn408_1) | exact hn408_1) (.int .u32 t401)).trans hx408_0
           replace hx408_0 := (cell_far (p := ⟨gb407, 2, none⟩) (by first | (rw [add_block]; exact hn408_2) | (show (Addr.add _ _).block ≠ _; rw [add_block]; exact hn408_2) | exact hn408_2) (.int .u32 t406)).trans hx408_0
           replace hx408_0 := (cell_far (p := ⟨gb407, 3, none⟩) (by first | (rw [add_block]; exact hn408_3) | (show (Addr.add _ _).block ≠ _; rw [add_block]; exact hn408_3) | exact hn408_3) (.slice none 0 0)).trans hx408_0
           clear hn408_0 hn408_1 hn408_2 hn408_3
           replace p408 := eq_true p408
           replace q408 := eq_true q408
           go_upto_region 14 with (fail)
           go_cut [72] (fun v72 wc => ∃ (kq : Nat) (x72_18 : Bool), v72 = .bool x72_18 ∧ Aside0 (outpostref24_Parse.j0 kq t392 (wrap64 (rd t392 9)) x72_18 a0_0 a0_1 a0_2 a0_3 a0_4 a0_5 (wrap64 (rd t392 0)) t401 t406 = some (r1, r2, r3, r4, r5)) ∧ Aside0 (kq ≤ k) ∧ Aside0 (Kd.R (Kd.int .u8) 5 wc w.heap.size (fun _ => True) (.slice (some ad396) t392.length co30) t392) ∧ Aside0 (wc.heap[gb383]? = some (.cells #[.int .i64 a0_0, .int .i64 a0_1, .int .u32 a0_2, .int .u32 a0_3, .int .u32 a0_4, .bool a0_5] 26 (0, 0))) ∧ Aside0 (wc.heap[gb384]? = some (.cells #[.int .i64 0, .int .u32 0, .int .u32 0, (.slice none 0 0)] 29 (0, 0))) ∧ Aside0 (wc.heap[gb407]? = some (.cells #[.int .i64 (wrap64 (rd t392 0)), .int .u32 t401, .int .u32 t406, (.slice none 0 0)] 29 (0, 0))) ∧ Aside0 (Below w.heap.size w wc))
           case first =>
            have H := HC19.out
            clear HC19
            by_cases c39 : (wrap64 (rd t392 0)) = 1
            ·rw [if_pos c39] at H
             have c39b0 : ((wrap64 (rd t392 0)) == 1) = true := beq_iff_eq.mpr c39
             have c39b1 : ((wrap64 (rd t392 0)) != 1) = false := bne_eq_false_iff_eq.mpr c39
             clear c39
             (first | rw [c39b0] | (simp only [i64_w, i32_w]; rw [c39b0]) | rw [c39b1] | skip)
             have H' := Aside0.mk H
             clear H
             have hnb40 := NB407_383.out
             have hnc40 := NB383_407.out
             have hnb41 := NB407_384.out
             have hnc41 := NB384_407.out
             obtain ⟨hcz42_0, hcz42_1, hcz42_2, hcz42_3, hfz42_0, hfz42_1, hfz42_2, hfz42_3⟩ := cf4 BK407.out
             go_wp2
             go_meet
             case rel => exact ⟨_, (false), (by first | rfl | (simp; done) | (simp [*]; done) | (simp [wrap64]; done)), H', ⟨by first | omega | exact Nat.le_refl _⟩, ⟨by (with_reducible repeat (first | apply Kd.R_alloc | apply Kd.R_drewN | apply Kd.R_drew)); exact Kd.R_mono (Kd.R_far (p := ⟨gb407, 3, none⟩) (Kd.R_far (p := ⟨gb407, 2, none⟩) (Kd.R_far (p := ⟨gb407, 1, none⟩) (Kd.R_far (p := ⟨gb407, 0, none⟩) (Kd.R_types HO394.out BK407.out (by decide)) (fun _ hk => hk.2) (.int .i64 (wrap64 (rd t392 0)))) (fun _ hk => hk.2) (.int .u32 t401)) (fun _ hk => hk.2) (.int .u32 t406)) (fun _ hk => hk.2) (.slice none 0 0)) (fun _ hk => trivial)⟩, ⟨by (with_reducible repeat (first | apply bN | apply bD | apply bA)); refine blk_far ?_ NB383_407.out _; (with_reducible repeat (first | apply bN | apply bD | apply bA)); refine blk_far ?_ NB383_407.out _; (with_reducible repeat (first | apply bN | apply bD | apply bA)); refine blk_far ?_ NB383_407.out _; (with_reducible repeat (first | apply bN | apply bD | apply bA)); refine blk_far ?_ NB383_407.out _; exact mvb BK383.out⟩, ⟨by (with_reducible repeat (first | apply bN | apply bD | apply bA)); refine blk_far ?_ NB384_407.out _; (with_reducible repeat (first | apply bN | apply bD | apply bA)); refine blk_far ?_ NB384_407.out _; (with_reducible repeat (first | apply bN | apply bD | apply bA)); refine blk_far ?_ NB384_407.out _; (with_reducible repeat (first | apply bN | apply bD | apply bA)); refine blk_far ?_ NB384_407.out _; exact mvb BK384.out⟩, ⟨by (with_reducible repeat (first | apply bN | apply bD | apply bA)); refine blk_put (cs := #[.int .i64 (wrap64 (rd t392 0)), .int .u32 t401, .int .u32 t406, .slice none 0 0]) ?_ 3 _ rfl; (with_reducible repeat (first | apply bN | apply bD | apply bA)); refine blk_put (cs := #[.int .i64 (wrap64 (rd t392 0)), .int .u32 t401, .int .u32 0, .slice none 0 0]) ?_ 2 _ rfl; (with_reducible repeat (first | apply bN | apply bD | apply bA)); refine blk_put (cs := #[.int .i64 (wrap64 (rd t392 0)), .int .u32 0, .int .u32 0, .slice none 0 0]) ?_ 1 _ rfl; (with_reducible repeat (first | apply bN | apply bD | apply bA)); refine blk_put (cs := #[.int .i64 0, .int .u32 0, .int .u32 0, .slice none 0 0]) ?_ 0 _ rfl; exact mvb BK407.out⟩, ⟨by repeat (first | (with_reducible first | exact HB.out | apply hA | apply hN | apply hD | refine below_set ?_ GE383.out | refine below_set ?_ GE384.out | refine below_set ?_ GE407.out) | exact HB.out)⟩⟩
            ·rw [if_neg c39] at H
             have c39b0 : ((wrap64 (rd t392 0)) == 1) = false := beq_eq_false_iff_ne.mpr c39
             have c39b1 : ((wrap64 (rd t392 0)) != 1) = true := bne_iff_ne.mpr c39
             clear c39
             (first | rw [c39b0] | (simp only [i64_w, i32_w]; rw [c39b0]) | rw [c39b1] | skip)
             have H' := Aside0.mk H
             clear H
             have hnb43 := NB407_383.out
             have hnc43 := NB383_407.out
             have hnb44 := NB407_384.out
             have hnc44 := NB384_407.out
             obtain ⟨hcz45_0, hcz45_1, hcz45_2, hcz45_3, hfz45_0, hfz45_1, hfz45_2, hfz45_3⟩ := cf4 BK407.out
             go_wp2
             go_meet
             case rel => exact ⟨_, (((wrap64 (rd t392 0)) != 2)), (by first | rfl | (simp; done) | (simp [*]; done) | (simp [wrap64]; done)), H', ⟨by first | omega | exact Nat.le_refl _⟩, ⟨by (with_reducible repeat (first | apply Kd.R_alloc | apply Kd.R_drewN | apply Kd.R_drew)); exact Kd.R_mono (Kd.R_far (p := ⟨gb407, 3, none⟩) (Kd.R_far (p := ⟨gb407, 2, none⟩) (Kd.R_far (p := ⟨gb407, 1, none⟩) (Kd.R_far (p := ⟨gb407, 0, none⟩) (Kd.R_types HO394.out BK407.out (by decide)) (fun _ hk => hk.2) (.int .i64 (wrap64 (rd t392 0)))) (fun _ hk => hk.2) (.int .u32 t401)) (fun _ hk => hk.2) (.int .u32 t406)) (fun _ hk => hk.2) (.slice none 0 0)) (fun _ hk => trivial)⟩, ⟨by (with_reducible repeat (first | apply bN | apply bD | apply bA)); refine blk_far ?_ NB383_407.out _; (with_reducible repeat (first | apply bN | apply bD | apply bA)); refine blk_far ?_ NB383_407.out _; (with_reducible repeat (first | apply bN | apply bD | apply bA)); refine blk_far ?_ NB383_407.out _; (with_reducible repeat (first | apply bN | apply bD | apply bA)); refine blk_far ?_ NB383_407.out _; exact mvb BK383.out⟩, ⟨by (with_reducible repeat (first | apply bN | apply bD | apply bA)); refine blk_far ?_ NB384_407.out _; (with_reducible repeat (first | apply bN | apply bD | apply bA)); refine blk_far ?_ NB384_407.out _; (with_reducible repeat (first | apply bN | apply bD | apply bA)); refine blk_far ?_ NB384_407.out _; (with_reducible repeat (first | apply bN | apply bD | apply bA)); refine blk_far ?_ NB384_407.out _; exact mvb BK384.out⟩, ⟨by (with_reducible repeat (first | apply bN | apply bD | apply bA)); refine blk_put (cs := #[.int .i64 (wrap64 (rd t392 0)), .int .u32 t401, .int .u32 t406, .slice none 0 0]) ?_ 3 _ rfl; (with_reducible repeat (first | apply bN | apply bD | apply bA)); refine blk_put (cs := #[.int .i64 (wrap64 (rd t392 0)), .int .u32 t401, .int .u32 0, .slice none 0 0]) ?_ 2 _ rfl; (with_reducible repeat (first | apply bN | apply bD | apply bA)); refine blk_put (cs := #[.int .i64 (wrap64 (rd t392 0)), .int .u32 0, .int .u32 0, .slice none 0 0]) ?_ 1 _ rfl; (with_reducible repeat (first | apply bN | apply bD | apply bA)); refine blk_put (cs := #[.int .i64 0, .int .u32 0, .int .u32 0, .slice none 0 0]) ?_ 0 _ rfl; exact mvb BK407.out⟩, ⟨by repeat (first | (with_reducible first | exact HB.out | apply hA | apply hN | apply hD | refine below_set ?_ GE383.out | refine below_set ?_ GE384.out | refine below_set ?_ GE407.out) | exact HB.out)⟩⟩
           case rest =>
            clear HC19
            (try clear c1); (try clear c2); (try clear p2); (try clear c3); (try clear p3); (try clear q3); (try clear hx3); (try clear qi3); (try clear c4); (try clear p4); (try clear q4); (try clear hx4); (try clear qi4); (try clear p6); (try clear c7); (try clear c10); (try clear c10b0); (try clear c10b1)
            (try clear c11); (try clear c11b0); (try clear c11b1); (try clear c12); (try clear c12b0); (try clear c12b1); (try clear c13); (try clear c13b0); (try clear c13b1); (try clear c15); (try clear c15b0); (try clear c15b1); (try clear c16); (try clear c16b0); (try clear c16b1); (try clear c18)
            (try clear c18b0); (try clear c18b1); (try clear c22); (try clear c31); (try clear q31); (try clear c32); (try clear q32); (try clear c37); (try clear c38); (try clear c39); (try clear c39b0); (try clear c39b1); (try clear p39); (try clear q39); (try clear hx39); (try clear qi39); (try clear c40)
            (try clear p40); (try clear q40); (try clear hx40); (try clear qi40); (try clear c41); (try clear c43); (try clear c44); (try clear hcz23_0); (try clear hcz23_1); (try clear hcz23_2); (try clear hcz23_3); (try clear hcz23_4); (try clear hcz23_5); (try clear hcz26_0); (try clear hcz26_1); (try clear hcz26_2)
            (try clear hcz26_3); (try clear hcz26_4); (try clear hcz26_5); (try clear hcz42_0); (try clear hcz42_1); (try clear hcz42_2); (try clear hcz42_3); (try clear hcz45_0); (try clear hcz45_1); (try clear hcz45_2); (try clear hcz45_3); (try clear hfz23_0); (try clear hfz23_1); (try clear hfz23_2)
            (try clear hfz23_3); (try clear hfz23_4); (try clear hfz23_5); (try clear hfz26_0); (try clear hfz26_1); (try clear hfz26_2); (try clear hfz26_3); (try clear hfz26_4); (try clear hfz26_5); (try clear hfz42_0); (try clear hfz42_1); (try clear hfz42_2); (try clear hfz42_3); (try clear hfz45_0)
            (try clear hfz45_1); (try clear hfz45_2); (try clear hfz45_3); (try clear hx396_0); (try clear hx408_0); (try clear p396); (try clear p408); (try clear q31); (try clear q32); (try clear q396); (try clear q408)
            obtain ⟨kq, x72_18, rfl, HA, HJ18, HO_8, BK383, BK384, BK407, HB⟩ := hcut
            cases kq with
            | zero => exact absurd HA.out (by simp [outpostref24_Parse.j0])
            | succ kj18 =>
             have H := HA.out
             clear HA
             simp only [outpostref24_Parse.j0] at H
             by_cases c46 : x72_18 = true
             ·subst c46
              have H1 : (some (0, 0, 0, ([] : List Int), 241)) = some (r1, r2, r3, r4, r5) := by rw [if_pos rfl] at H; exact H
              clear H
              have H := H1
              clear H1
              simp only [Option.some.injEq, Prod.mk.injEq] at H
              obtain ⟨rfl, rfl, rfl, rfl, rfl⟩ := H
              have hnb47 := NB384_383.out
              have hnc47 := NB383_384.out
              have hnb48 := NB384_407.out
              have hnc48 := NB407_384.out
              obtain ⟨hcz49_0, hcz49_1, hcz49_2, hcz49_3, hfz49_0, hfz49_1, hfz49_2, hfz49_3⟩ := cf4 BK384.out
              go_wp2
              refine bodyPost_ret (results_ct rfl _ _ gb384 29 #[.int .i64 0, .int .u32 0, .int .u32 0, .slice none 0 0] (0, 0) _ rfl (by (with_reducible repeat (first | apply bN | apply bD | apply bA)); refine blk_put (cs := #[.int .i64 0, .int .u32 0, .int .u32 0, .slice none 0 0]) ?_ 3 _ rfl; (with_reducible repeat (first | apply bN | apply bD | apply bA)); refine blk_put (cs := #[.int .i64 0, .int .u32 0, .int .u32 0, .slice none 0 0]) ?_ 2 _ rfl; (with_reducible repeat (first | apply bN | apply bD | apply bA)); refine blk_put (cs := #[.int .i64 0, .int .u32 0, .int .u32 0, .slice none 0 0]) ?_ 1 _ rfl; (with_reducible repeat (first | apply bN | apply bD | apply bA)); refine blk_put (cs := #[.int .i64 0, .int .u32 0, .int .u32 0, .slice none 0 0]) ?_ 0 _ rfl; exact mvb BK384.out) Try.underlying29 rfl (by kernel_rfl)) rfl ?_
              exact ⟨_, by first | rfl | (simp [errW_none, errW_some] <;> rfl) | (simp [*, errW_none, errW_some] <;> rfl), by first | exact Kd.R_nil _ _ _ _ _ | exact Kd.N_nil _ _ _ _ _ | exact Kd.V_nil _ _ _ _ _ | exact Kd.Q_nil _ _ _ _ _ | exact Kd.S_nil _ _ _ _ _, by repeat (first | (with_reducible first | exact HB.out | apply hA | apply hN | apply hD | refine below_set ?_ GE383.out | refine below_set ?_ GE384.out | refine below_set ?_ GE407.out) | exact HB.out)⟩
             ·replace c46 := Bool.eq_false_iff.mpr c46
              subst c46
              have H1 : (if (wrap64 (rd t392 9)) > a0_0 then (some (0, 0, 0, ([] : List Int), 6)) else (outpostref24_Parse.l0 kj18 t392 (wrap64 (rd t392 9)) (wrap64 (10 + (wrap64 (rd t392 9)))) (wrap64 (rd t392 0)) t401 t406)) = some (r1, r2, r3, r4, r5) := by rw [if_neg (show ¬ (false = true) by decide)] at H; exact H
              clear H
              have H := H1
              clear H1
              by_cases c50 : (wrap64 (rd t392 9)) > a0_0
              ·rw [if_pos c50] at H
               have c50b0 : decide (a0_0 < (wrap64 (rd t392 9))) = true := decide_eq_true c50
               clear c50
               simp only [Option.some.injEq, Prod.mk.injEq] at H
               obtain ⟨rfl, rfl, rfl, rfl, rfl⟩ := H
               have hnb51 := NB383_384.out
               have hnc51 := NB384_383.out
               have hnb52 := NB383_407.out
               have hnc52 := NB407_383.out
               obtain ⟨hcz53_0, hcz53_1, hcz53_2, hcz53_3, hcz53_4, hcz53_5, hfz53_0, hfz53_1, hfz53_2, hfz53_3, hfz53_4, hfz53_5⟩ := cf6 BK383.out
               have hnb54 := NB384_407.out
               have hnc54 := NB407_384.out
               obtain ⟨hcz55_0, hcz55_1, hcz55_2, hcz55_3, hfz55_0, hfz55_1, hfz55_2, hfz55_3⟩ := cf4 BK384.out
               go_wp2
               refine bodyPost_ret (results_ct rfl _ _ gb384 29 #[.int .i64 0, .int .u32 0, .int .u32 0, .slice none 0 0] (0, 0) _ rfl (by (with_reducible repeat (first | apply bN | apply bD | apply bA)); refine blk_put (cs := #[.int .i64 0, .int .u32 0, .int .u32 0, .slice none 0 0]) ?_ 3 _ rfl; (with_reducible repeat (first | apply bN | apply bD | apply bA)); refine blk_put (cs := #[.int .i64 0, .int .u32 0, .int .u32 0, .slice none 0 0]) ?_ 2 _ rfl; (with_reducible repeat (first | apply bN | apply bD | apply bA)); refine blk_put (cs := #[.int .i64 0, .int .u32 0, .int .u32 0, .slice none 0 0]) ?_ 1 _ rfl; (with_reducible repeat (first | apply bN | apply bD | apply bA)); refine blk_put (cs := #[.int .i64 0, .int .u32 0, .int .u32 0, .slice none 0 0]) ?_ 0 _ rfl; exact mvb BK384.out) Try.underlying29 rfl (by kernel_rfl)) rfl ?_
               exact ⟨_, by first | rfl | (simp [errW_none, errW_some] <;> rfl) | (simp [*, errW_none, errW_some] <;> rfl), by first | exact Kd.R_nil _ _ _ _ _ | exact Kd.N_nil _ _ _ _ _ | exact Kd.V_nil _ _ _ _ _ | exact Kd.Q_nil _ _ _ _ _ | exact Kd.S_nil _ _ _ _ _, by repeat (first | (with_reducible first | exact HB.out | apply hA | apply hN | apply hD | refine below_set ?_ GE383.out | refine below_set ?_ GE384.out | refine below_set ?_ GE407.out) | exact HB.out)⟩
              ·rw [if_neg c50] at H
               have c50b0 : decide (a0_0 < (wrap64 (rd t392 9))) = false := decide_eq_false c50
               clear c50
               have H' := Aside0.mk H
               clear H
               have hnb56 := NB383_384.out
               have hnc56 := NB384_383.out
               have hnb57 := NB383_407.out
               have hnc57 := NB407_383.out
               obtain ⟨hcz58_0, hcz58_1, hcz58_2, hcz58_3, hcz58_4, hcz58_5, hfz58_0, hfz58_1, hfz58_2, hfz58_3, hfz58_4, hfz58_5⟩ := cf6 BK383.out
               go_wp2
               go_loopg [12] kj18 (fun kq v12 w' => ∃ (x12_2 : Int) (x385000_2 : Int) (x385001_2 : Int) (x385002_2 : Int), v12 = .int .i64 x12_2 ∧ Aside0 (outpostref24_Parse.l0 kq t392 (wrap64 (rd t392 9)) x12_2 (wrap64 (rd t392 0)) t401 t406 = some (r1, r2, r3, r4, r5)) ∧ Aside0 (kq ≤ kj18) ∧ Aside0 (Kd.R (Kd.int .u8) 5 w' w.heap.size (fun _ => True) (.slice (some ad396) t392.length co30) t392) ∧ Aside0 (w'.heap[gb383]? = some (.cells #[.int .i64 a0_0, .int .i64 a0_1, .int .u32 a0_2, .int .u32 a0_3, .int .u32 a0_4, .bool a0_5] 26 (0, 0))) ∧ Aside0 (w'.heap[gb384]? = some (.cells #[.int .i64 x385000_2, .int .u32 x385001_2, .int .u32 x385002_2, (.slice none 0 0)] 29 (0, 0))) ∧ Aside0 (w'.heap[gb407]? = some (.cells #[.int .i64 (wrap64 (rd t392 0)), .int .u32 t401, .int .u32 t406, (.slice none 0 0)] 29 (0, 0))) ∧ Aside0 (Below w.heap.size w w'))
               case atStart => exact ⟨(wrap64 (10 + (wrap64 (rd t392 9)))), (0), (0), (0), (by first | rfl | (simp; done) | (simp [*]; done) | (simp [wrap64]; done)), H', ⟨Nat.le_refl _⟩, ⟨mvR HO_8.out⟩, ⟨mvb BK383.out⟩, ⟨mvb BK384.out⟩, ⟨mvb BK407.out⟩, ⟨by repeat (first | (with_reducible first | exact HB.out | apply hA | apply hN | apply hD | refine below_set ?_ GE383.out | refine below_set ?_ GE384.out | refine below_set ?_ GE407.out) | exact HB.out)⟩⟩
               case round =>
                (try clear hHeld); (try clear hs35); (try clear hfs35); (try clear hns35_0); (try clear hns35_1); (try clear hms35_0); (try clear hms35_1); (try clear hs36); (try clear hfs36); (try clear hns36_0); (try clear hns36_1); (try clear hms36_0); (try clear hms36_1); (try clear hs37); (try clear hfs37); (try clear hns37_0); (try clear hns37_1); (try clear hms37_0); (try clear hms37_1); (try clear hs38); (try clear hfs38); (try clear hns38_0); (try clear hns38_1); (try clear hms38_0); (try clear hms38_1)
                clear H'
                (try clear c1); (try clear c2); (try clear p2); (try clear c3); (try clear p3); (try clear q3); (try clear hx3); (try clear qi3); (try clear c4); (try clear p4); (try clear q4); (try clear hx4); (try clear qi4); (try clear c5); (try clear p6); (try clear c7); (try clear c10); (try clear c10b0)
                (try clear c10b1); (try clear c11); (try clear c11b0); (try clear c11b1); (try clear c12); (try clear c12b0); (try clear c12b1); (try clear c13); (try clear c13b0); (try clear c13b1); (try clear c15); (try clear c15b0); (try clear c15b1); (try clear c16); (try clear c16b0); (try clear c16b1)
                (try clear c18); (try clear c18b0); (try clear c18b1); (try clear c22); (try clear c31); (try clear q31); (try clear c32); (try clear q32); (try clear c37); (try clear c38); (try clear c39); (try clear c39b0); (try clear c39b1); (try clear p39); (try clear q39); (try clear hx39); (try clear qi39)
                (try clear c40); (try clear p40); (try clear q40); (try clear hx40); (try clear qi40); (try clear c41); (try clear c43); (try clear c44); (try clear c46); (try clear c47); (try clear c48); (try clear c50); (try clear c50b0); (try clear c51); (try clear c52); (try clear c54); (try clear c56)
                (try clear c57); (try clear hcz23_0); (try clear hcz23_1); (try clear hcz23_2); (try clear hcz23_3); (try clear hcz23_4); (try clear hcz23_5); (try clear hcz26_0); (try clear hcz26_1); (try clear hcz26_2); (try clear hcz26_3); (try clear hcz26_4); (try clear hcz26_5); (try clear hcz42_0)
                (try clear hcz42_1); (try clear hcz42_2); (try clear hcz42_3); (try clear hcz45_0); (try clear hcz45_1); (try clear hcz45_2); (try clear hcz45_3); (try clear hcz49_0); (try clear hcz49_1); (try clear hcz49_2); (try clear hcz49_3); (try clear hcz53_0); (try clear hcz53_1); (try clear hcz53_2)
                (try clear hcz53_3); (try clear hcz53_4); (try clear hcz53_5); (try clear hcz55_0); (try clear hcz55_1); (try clear hcz55_2); (try clear hcz55_3); (try clear hcz58_0); (try clear hcz58_1); (try clear hcz58_2); (try clear hcz58_3); (try clear hcz58_4); (try clear hcz58_5); (try clear hfz23_0)
                (try clear hfz23_1); (try clear hfz23_2); (try clear hfz23_3); (try clear hfz23_4); (try clear hfz23_5); (try clear hfz26_0); (try clear hfz26_1); (try clear hfz26_2); (try clear hfz26_3); (try clear hfz26_4); (try clear hfz26_5); (try clear hfz42_0); (try clear hfz42_1); (try clear hfz42_2)
                (try clear hfz42_3); (try clear hfz45_0); (try clear hfz45_1); (try clear hfz45_2); (try clear hfz45_3); (try clear hfz49_0); (try clear hfz49_1); (try clear hfz49_2); (try clear hfz49_3); (try clear hfz53_0); (try clear hfz53_1); (try clear hfz53_2); (try clear hfz53_3); (try clear hfz53_4)
                (try clear hfz53_5); (try clear hfz55_0); (try clear hfz55_1); (try clear hfz55_2); (try clear hfz55_3); (try clear hfz58_0); (try clear hfz58_1); (try clear hfz58_2); (try clear hfz58_3); (try clear hfz58_4); (try clear hfz58_5); (try clear hx396_0); (try clear hx408_0); (try clear p2)
                (try clear p3); (try clear p39); (try clear p396); (try clear p4); (try clear p40); (try clear p408); (try clear p6); (try clear q3); (try clear q31); (try clear q32); (try clear q39); (try clear q396); (try clear q4); (try clear q40); (try clear q408)
                obtain ⟨x12_2, x385000_2, x385001_2, x385002_2, rfl, HA, HK2, HO_8, BK383, BK384, BK407, HB⟩ := hrel
                cases gk with
                | zero => exact absurd HA.out (by simp [outpostref24_Parse.l0])
                | succ k2 =>
                 have H := HA.out
                 clear HA
                 simp only [outpostref24_Parse.l0] at H
                 by_cases c59 : x12_2 < (t392.length : Int)
                 ·rw [if_pos c59] at H
                  have c59b0 : decide (x12_2 < (t392.length : Int)) = true := decide_eq_true c59
                  clear c59
                  by_cases c60 : 0 ≤ x12_2
                  ·rw [if_pos c60] at H
                   have c60b0 : decide (0 ≤ x12_2) = true := decide_eq_true c60
                   clear c60
                   by_cases c61 : (rd t392 x12_2) = 0
                   ·rw [if_pos c61] at H
                    have c61b0 : ((rd t392 x12_2) == 0) = true := beq_iff_eq.mpr c61
                    have c61b1 : ((rd t392 x12_2) != 0) = false := bne_eq_false_iff_eq.mpr c61
                    clear c61
                    have H' := Aside0.mk H
                    clear H
                    have p409 : 0 ≤ (x12_2 : Int) := of_decide_eq_true (by first | (with_reducible assumption) | assumption)
                    have q409 : x12_2 < (t392.length : Int) := of_decide_eq_true (by first | (with_reducible assumption) | assumption)
                    obtain ⟨ad409, e409, hx409_0⟩ := Kd.at_int (Kd.R_reads' HO_8.out).2.2 x12_2 p409 q409
                    obtain rfl : ad396 = ad409 := (by injection e409)
                    replace p409 := eq_true p409
                    replace q409 := eq_true q409
                    go_wp2
                    go_roundg k2
                    case measure => have := HJ18.out; have := HK2.out; omega
                    case rel => exact ⟨(wrap64 (x12_2 + 1)), (x385000_2), (x385001_2), (x385002_2), (by first | rfl | (simp; done) | (simp [*]; done) | (simp [wrap64]; done)), H', ⟨by have := HJ18.out; have := HK2.out; omega⟩, ⟨mvR HO_8.out⟩, ⟨mvb BK383.out⟩, ⟨mvb BK384.out⟩, ⟨mvb BK407.out⟩, ⟨by repeat (first | (with_reducible first | exact HB.out | apply hA | apply hN | apply hD | refine below_set ?_ GE383.out | refine below_set ?_ GE384.out | refine below_set ?_ GE407.out) | exact HB.out)⟩⟩
                   ·rw [if_neg c61] at H
                    have c61b0 : ((rd t392 x12_2) == 0) = false := beq_eq_false_iff_ne.mpr c61
                    have c61b1 : ((rd t392 x12_2) != 0) = true := bne_iff_ne.mpr c61
                    simp only [Option.some.injEq, Prod.mk.injEq] at H
                    obtain ⟨rfl, rfl, rfl, rfl, rfl⟩ := H
                    have p409 : 0 ≤ (x12_2 : Int) := of_decide_eq_true (by first | (with_reducible assumption) | assumption)
                    have q409 : x12_2 < (t392.length : Int) := of_decide_eq_true (by first | (with_reducible assumption) | assumption)
                    obtain ⟨ad409, e409, hx409_0⟩ := Kd.at_int (Kd.R_reads' HO_8.out).2.2 x12_2 p409 q409
                    obtain rfl : ad396 = ad409 := (by injection e409)
                    replace p409 := eq_true p409
                    replace q409 := eq_true q409
                    have hnb62 := NB384_383.out
                    have hnc62 := NB383_384.out
                    have hnb63 := NB384_407.out
                    have hnc63 := NB407_384.out
                    obtain ⟨hcz64_0, hcz64_1, hcz64_2, hcz64_3, hfz64_0, hfz64_1, hfz64_2, hfz64_3⟩ := cf4 BK384.out
                    go_wp2
                    refine bodyPost_ret (results_ct rfl _ _ gb384 29 #[.int .i64 0, .int .u32 0, .int .u32 0, .slice none 0 0] (0, 0) _ rfl (by (with_reducible repeat (first | apply bN | apply bD | apply bA)); refine blk_put (cs := #[.int .i64 0, .int .u32 0, .int .u32 0, .slice none 0 0]) ?_ 3 _ rfl; (with_reducible repeat (first | apply bN | apply bD | apply bA)); refine blk_put (cs := #[.int .i64 0, .int .u32 0, .int .u32 x385002_2, .slice none 0 0]) ?_ 2 _ rfl; (with_reducible repeat (first | apply bN | apply bD | apply bA)); refine blk_put (cs := #[.int .i64 0, .int .u32 x385001_2, .int .u32 x385002_2, .slice none 0 0]) ?_ 1 _ rfl; (with_reducible repeat (first | apply bN | apply bD | apply bA)); refine blk_put (cs := #[.int .i64 x385000_2, .int .u32 x385001_2, .int .u32 x385002_2, .slice none 0 0]) ?_ 0 _ rfl; exact mvb BK384.out) Try.underlying29 rfl (by kernel_rfl)) rfl ?_
                    exact ⟨_, by first | rfl | (simp [errW_none, errW_some] <;> rfl) | (simp [*, errW_none, errW_some] <;> rfl), by first | exact Kd.R_nil _ _ _ _ _ | exact Kd.N_nil _ _ _ _ _ | exact Kd.V_nil _ _ _ _ _ | exact Kd.Q_nil _ _ _ _ _ | exact Kd.S_nil _ _ _ _ _, by repeat (first | (with_reducible first | exact HB.out | apply hA | apply hN | apply hD | refine below_set ?_ GE383.out | refine below_set ?_ GE384.out | refine below_set ?_ GE407.out) | exact HB.out)⟩
                  ·rw [if_neg c60] at H
                   exact absurd H (by simp)
                 ·rw [if_neg c59] at H
                  have c59b0 : decide (x12_2 < (t392.length : Int)) = false := decide_eq_false c59
                  clear c59
                  by_cases c65 : (wrap64 (rd t392 0)) = 1
                  ·rw [if_pos c65] at H
                   have c65b0 : ((wrap64 (rd t392 0)) == 1) = true := beq_iff_eq.mpr c65
                   have c65b1 : ((wrap64 (rd t392 0)) != 1) = false := bne_eq_false_iff_eq.mpr c65
                   clear c65
                   by_cases c66 : t401 = 0
                   ·rw [if_pos c66] at H
                    have c66b0 : (t401 == 0) = true := beq_iff_eq.mpr c66
                    have c66b1 : (t401 != 0) = false := bne_eq_false_iff_eq.mpr c66
                    clear c66
                    by_cases c67 : (wrap64 (rd t392 9)) > 0
                    ·rw [if_pos c67] at H
                     have c67b0 : decide (0 < (wrap64 (rd t392 9))) = true := decide_eq_true c67
                     clear c67
                     simp only [Option.some.injEq, Prod.mk.injEq] at H
                     obtain ⟨rfl, rfl, rfl, rfl, rfl⟩ := H
                     have hnb68 := NB407_383.out
                     have hnc68 := NB383_407.out
                     have hnb69 := NB407_384.out
                     have hnc69 := NB384_407.out
                     obtain ⟨hcz70_0, hcz70_1, hcz70_2, hcz70_3, hfz70_0, hfz70_1, hfz70_2, hfz70_3⟩ := cf4 BK407.out
                     have hnb71 := NB384_383.out
                     have hnc71 := NB383_384.out
                     obtain ⟨hcz72_0, hcz72_1, hcz72_2, hcz72_3, hfz72_0, hfz72_1, hfz72_2, hfz72_3⟩ := cf4 BK384.out
                     go_wp2
                     refine bodyPost_ret (results_ct rfl _ _ gb384 29 #[.int .i64 0, .int .u32 0, .int .u32 0, .slice none 0 0] (0, 0) _ rfl (by (with_reducible repeat (first | apply bN | apply bD | apply bA)); refine blk_put (cs := #[.int .i64 0, .int .u32 0, .int .u32 0, .slice none 0 0]) ?_ 3 _ rfl; (with_reducible repeat (first | apply bN | apply bD | apply bA)); refine blk_put (cs := #[.int .i64 0, .int .u32 0, .int .u32 x385002_2, .slice none 0 0]) ?_ 2 _ rfl; (with_reducible repeat (first | apply bN | apply bD | apply bA)); refine blk_put (cs := #[.int .i64 0, .int .u32 x385001_2, .int .u32 x385002_2, .slice none 0 0]) ?_ 1 _ rfl; (with_reducible repeat (first | apply bN | apply bD | apply bA)); refine blk_put (cs := #[.int .i64 x385000_2, .int .u32 x385001_2, .int .u32 x385002_2, .slice none 0 0]) ?_ 0 _ rfl; exact mvb BK384.out) Try.underlying29 rfl (by kernel_rfl)) rfl ?_
                     exact ⟨_, by first | rfl | (simp [errW_none, errW_some] <;> rfl) | (simp [*, errW_none, errW_some] <;> rfl), by first | exact Kd.R_nil _ _ _ _ _ | exact Kd.N_nil _ _ _ _ _ | exact Kd.V_nil _ _ _ _ _ | exact Kd.Q_nil _ _ _ _ _ | exact Kd.S_nil _ _ _ _ _, by repeat (first | (with_reducible first | exact HB.out | apply hA | apply hN | apply hD | refine below_set ?_ GE383.out | refine below_set ?_ GE384.out | refine below_set ?_ GE407.out) | exact HB.out)⟩
                    ·rw [if_neg c67] at H
                     have c67b0 : decide (0 < (wrap64 (rd t392 9))) = false := decide_eq_false c67
                     clear c67
                     by_cases c73 : 10 ≤ (wrap64 (10 + (wrap64 (rd t392 9))))
                     ·rw [if_pos c73] at H
                      have c73b0 := eq_true c73
                      have c73b1 : decide (10 ≤ (wrap64 (10 + (wrap64 (rd t392 9))))) = true := decide_eq_true c73
                      by_cases c74 : (wrap64 (10 + (wrap64 (rd t392 9)))) ≤ (t392.length : Int)
                      ·rw [if_pos c74] at H
                       have c74b0 := eq_true c74
                       have c74b1 : decide ((wrap64 (10 + (wrap64 (rd t392 9)))) ≤ (t392.length : Int)) = true := decide_eq_true c74
                       obtain ⟨y410, hy410⟩ : ∃ y_ : List Int, y_ = ((t392.take ((wrap64 (10 + (wrap64 (rd t392 9)))) : Int).toNat).drop 10) := ⟨_, rfl⟩
                       replace H : (if ([] : List Int).length + y410.length < 140737488355328 then (some ((wrap64 (rd t392 0)), t401, t406, (([] : List Int) ++ y410), 0)) else (none)) = some (r1, r2, r3, r4, r5) := by first | (rw [hy410]; with_reducible exact H) | (have H2_ := (Option.bind_some _ _).symm.trans H; rw [hy410]; with_reducible exact H2_) | (have H2_ := (Option.bind_some _ _).symm.trans H; with_reducible exact H2_) | with_reducible exact H | (rw [hy410]; exact H) | exact H
                       have Ny410 := Aside0.mk hy410
                       clear hy410
                       by_cases c75 : ([] : List Int).length + y410.length < 140737488355328
                       ·rw [if_pos c75] at H
                        have LMc75 := Aside0.mk c75
                        clear c75
                        obtain ⟨y414, hy414⟩ : ∃ y_ : List Int, y_ = (([] : List Int) ++ y410) := ⟨_, rfl⟩
                        replace H : (some ((wrap64 (rd t392 0)), t401, t406, y414, 0)) = some (r1, r2, r3, r4, r5) := by first | (rw [hy414]; with_reducible exact H) | (have H2_ := (Option.bind_some _ _).symm.trans H; rw [hy414]; with_reducible exact H2_) | (have H2_ := (Option.bind_some _ _).symm.trans H; with_reducible exact H2_) | with_reducible exact H | (rw [hy414]; exact H) | exact H
                        have Ny414 := Aside0.mk hy414
                        clear hy414
                        simp only [Option.some.injEq, Prod.mk.injEq] at H
                        obtain ⟨rfl, rfl, rfl, rfl, rfl⟩ := H
                        have hnb76 := NB407_383.out
                        have hnc76 := NB383_407.out
                        have hnb77 := NB407_384.out
                        have hnc77 := NB384_407.out
                        obtain ⟨hcz78_0, hcz78_1, hcz78_2, hcz78_3, hfz78_0, hfz78_1, hfz78_2, hfz78_3⟩ := cf4 BK407.out
                        try go_wp2
                        have n0_ := aK (Kd.R_drew HO_8.out)
                        have n1_ := aK (blk_drew BK383.out)
                        have n2_ := aK (blk_drew BK384.out)
                        have n3_ := aK (blk_drew BK407.out)
                        have n4_ := aK (below_drew1 HB.out)
                        clear HO_8 BK383 BK384 BK407 HB
                        have HO_8 := n0_
                        have BK383 := n1_
                        have BK384 := n2_
                        have BK407 := n3_
                        have HB := n4_
                        clear n0_ n1_ n2_ n3_ n4_
                        have q80 : ((wrap64 (10 + (wrap64 (rd t392 9)))) : Int) ≤ ((t392.length : Int) : Int) := of_decide_eq_true (by first | (with_reducible assumption) | assumption)
                        obtain ⟨i080, hi080, _, hsz80, _⟩ := info_parts info5
                        have hroom80 : t392.length ≤ co30 := (Kd.R_reads' HO_8.out).2.1
                        have hC80 : Kd.C (Kd.int .u8) _ (some ad396) t392.length t392 := (Kd.R_reads' HO_8.out).2.2
                        have ql80 : (10 : Int) ≤ ((wrap64 (10 + (wrap64 (rd t392 9)))) : Int) := of_decide_eq_true (by first | (with_reducible assumption) | assumption)
                        have hcut80 := cut_mid (P := Try.prog) 27 5 .i64 .i64 Try.underlying27 hi080 1 hsz80 (some ad396) t392.length co30 10 (wrap64 (10 + (wrap64 (rd t392 9)))) (by omega) ql80 q80 hroom80
                        have hr80 := Kd.C_mid (lo := (10 : Int).toNat) (hi := ((wrap64 (10 + (wrap64 (rd t392 9)))) : Int).toNat) (c := co30) hC80 (by omega) (by omega) hroom80
                        obtain ⟨A80, hA80⟩ : ∃ A1, A1 = (if co30 = (10 : Int).toNat then (some ad396) else ((some ad396) : Option Addr).map (·.add ((10 : Int).toNat * 1))) := ⟨_, rfl⟩
                        obtain ⟨c80, hc80⟩ : ∃ c1, c1 = co30 - (10 : Int).toNat := ⟨_, rfl⟩
                        have hy80 : y410.length = ((wrap64 (10 + (wrap64 (rd t392 9)))) : Int).toNat - (10 : Int).toNat := (by rw [Ny410.out, List.length_drop, List.length_take] <;> omega)
                        rw [show ((t392).take ((wrap64 (10 + (wrap64 (rd t392 9)))) : Int).toNat).drop (10 : Int).toNat = y410 from Ny410.out.symm] at hr80
                        replace hr80 : Kd.C (Kd.int .u8) _ A80 y410.length y410 := (by rw [hA80]; exact hr80)
                        rw [← hy80, ← hA80, ← hc80] at hcut80
                        have HR413 := Aside0.mk hr80
                        have HC413 := aK (show y410.length ≤ c80 from by rw [hy80, hc80]; exact Nat.sub_le_sub_right (Nat.le_trans (by omega) hroom80) _)
                        clear hr80 hC80 hroom80 hi080 hsz80 hc80
                        have KY80 := Aside0.mk hy80
                        have KA80 := Aside0.mk hA80
                        clear hy80 hA80
                        have KL80 := aK (show ((wrap64 (10 + (wrap64 (rd t392 9)))) : Int).toNat ≤ t392.length from by omega)
                        have KM80 := aK (show 10 ≤ ((wrap64 (10 + (wrap64 (rd t392 9)))) : Int).toNat from by omega)
                        replace q80 := eq_true q80
                        refine start_ (n := 9) (S := fun w' => w'.cell? ⟨gb407, 0, none⟩ = some (.int .i64 (wrap64 (rd t392 0))) ∧ w'.cell? ⟨gb407, 1, none⟩ = some (.int .u32 t401) ∧ w'.cell? ⟨gb407, 2, none⟩ = some (.int .u32 t406) ∧ w'.cell? ⟨gb407, 3, none⟩ = some (.slice none 0 0)) (ds := [8]) #[false, false, false, false, false, false, false, false, false] (by kernel_rfl) rfl rfl ⟨(blk_cell BK407.out 0).trans rfl, (blk_cell BK407.out 1).trans rfl, (blk_cell BK407.out 2).trans rfl, (blk_cell BK407.out 3).trans rfl⟩ (fun hHeld => ?_); refine with_tabW outpostref24_Parse.tab25 outpostref24_Parse.bits25 (fun HT_ HW_ => ?_)
                        generalize wr.drew = w79 at HO_8 BK383 BK384 BK407 HB HR413 hHeld ⊢
                        refine pure_ (i := 0) (N := some 106) (v := ?_) (a' := ?_) #[true, false, false, false, false, false, false, false, false] rfl rfl (any_of HT_.out (by kernel_rfl)) (fun _ _ _ h => h) (Or.inl ⟨by rfl, ?_⟩) ?_ ?_
                        rotate_left
                        ·intro w'
                         go_simp
                         with_reducible rfl
                        rotate_left
                        ·simp only [Act.put, List.setIfInBounds_toArray, List.set_cons_zero, List.set_cons_succ, i64_w, i32_w]
                         rfl
                        refine pure_ (i := 2) (N := some 108) (v := ?_) (a' := ?_) #[true, false, true, false, false, false, false, false, false] rfl rfl (any_of HT_.out (by kernel_rfl)) (fun _ _ _ h => h) (Or.inl ⟨by rfl, ?_⟩) ?_ ?_
                        rotate_left
                        ·intro w'
                         go_simp
                         with_reducible rfl
                        rotate_left
                        ·simp only [Act.put, List.setIfInBounds_toArray, List.set_cons_zero, List.set_cons_succ, i64_w, i32_w]
                         rfl
                        refine pure_ (i := 3) (N := some 109) (v := ?_) (a' := ?_) #[true, false, true, true, false, false, false, false, false] rfl rfl (any_of HT_.out (by kernel_rfl)) (fun _ _ _ h => h) (Or.inl ⟨by rfl, ?_⟩) ?_ ?_
                        rotate_left
                        ·intro w'
                         go_simp
                         with_reducible rfl
                        rotate_left
                        ·simp only [Act.put, List.setIfInBounds_toArray, List.set_cons_zero, List.set_cons_succ, i64_w, i32_w]
                         rfl
                        refine pure_ (i := 4) (N := some 110) (v := ?_) (a' := ?_) #[true, false, true, true, true, false, false, false, false] rfl rfl (any_of HT_.out (by kernel_rfl)) (fun _ _ _ h => h) (Or.inl ⟨by rfl, ?_⟩) ?_ ?_
                        rotate_left
                        ·intro w'
                         go_simp
                         with_reducible rfl
                        rotate_left
                        ·simp only [Act.put, List.setIfInBounds_toArray, List.set_cons_zero, List.set_cons_succ, i64_w, i32_w]
                         rfl
                        refine pure_ (i := 5) (N := some 111) (v := ?_) (a' := ?_) #[true, false, true, true, true, true, false, false, false] rfl rfl (any_of HT_.out (by kernel_rfl)) (fun _ _ _ h => h) (Or.inl ⟨by rfl, ?_⟩) ?_ ?_
                        rotate_left
                        ·intro w'
                         go_simp
                         with_reducible rfl
                        rotate_left
                        ·simp only [Act.put, List.setIfInBounds_toArray, List.set_cons_zero, List.set_cons_succ, i64_w, i32_w]
                         rfl
                        refine take_ (i := 1) (N := some 107) (v := ?_) (a' := ?_) #[true, true, true, true, true, true, false, false, false] rfl rfl (take_ofW HT_.out HW_.out (by kernel_rfl)) (fun _ _ _ h => h) (Or.inl ⟨by rfl, ?_⟩) hHeld ?_ ?_
                        rotate_left
                        ·rintro w' ⟨s0, s1, s2, s3⟩
                         go_simp
                         with_reducible rfl
                        rotate_left
                        ·simp only [Act.put, List.setIfInBounds_toArray, List.set_cons_zero, List.set_cons_succ, i64_w, i32_w]
                         rfl
                        refine one_ (i := 6) (N := some 112) #[true, true, true, true, true, true, true, false, false] rfl rfl (one_of HT_.out (by kernel_rfl)) (by decide) (fun K hK => ?_)
                        refine Kd.R_append_rows_step (Kd.int .u8) (w0 := w) w.heap.size (by rfl) (.tmp 107) (.tmp 111) 27 5 (.int .u8 0) 1 rfl Try.underlying27 info5 rfl (by decide) (by omega) (.slice none 0 0) ([] : List Int) y410 _ _ _ (fun k_ => some k_ ≠ (.slice (some ad396) t392.length co30 : Value).ownBlock) (fun _ => False) rfl rfl ?aO ?aR (fun _ _ h => h) (fun _ h => h.elim) ?aF ?aB ?aS ?aL ?_
                        (case aR => repeat (first | exact (by repeat (first | (with_reducible exact HR413.out) | (with_reducible refine Kd.C_alloc ?_ _) | (with_reducible refine Kd.C_drewN ?_ _) | (with_reducible refine Kd.C_drew ?_) | exact HR413.out)) | (with_reducible refine Kd.C_alloc ?_ _) | (with_reducible refine Kd.C_drewN ?_ _) | (with_reducible refine Kd.C_drew ?_)))
                        (case aB => exact (by repeat (first | (with_reducible first | exact HB.out | apply hA | apply hN | apply hD | refine below_set ?_ GE383.out | refine below_set ?_ GE384.out | refine below_set ?_ GE407.out) | exact HB.out)))
                        (case aF => exact (fun k_ hk => Kd.fresh' (Kd.R_lt (mvR HO_8.out)) k_ hk))
                        (case aO => exact ((Kd.R_nil _ _ _ _ (fun k_ => some k_ ≠ (.slice (some ad396) t392.length co30 : Value).ownBlock))))
                        (case aS => exact (below_size (by repeat (first | (with_reducible first | exact HB.out | apply hA | apply hN | apply hD | refine below_set ?_ GE383.out | refine below_set ?_ GE384.out | refine below_set ?_ GE407.out) | exact HB.out))))
                        (case aL => have := LMc75.out; omega)
                        intro v415 w81 ho hb hg hat
                        rw [← Ny414.out] at ho
                        have n0_ := aK (Kd.R_after (Kd.R_apart_nil (mvR HO_8.out)) hg hat)
                        have n1_ := aK (blk_grown (g := gb383) (o := .cells #[.int .i64 a0_0, .int .i64 a0_1, .int .u32 a0_2, .int .u32 a0_3, .int .u32 a0_4, .bool a0_5] 26 (0, 0)) (mvb BK383.out) hg (by simp [Value.ownBlock]))
                        have n2_ := aK (blk_grown (g := gb384) (o := .cells #[.int .i64 x385000_2, .int .u32 x385001_2, .int .u32 x385002_2, .slice none 0 0] 29 (0, 0)) (mvb BK384.out) hg (by simp [Value.ownBlock]))
                        have n3_ := aK (blk_grown (g := gb407) (o := .cells #[.int .i64 (wrap64 (rd t392 0)), .int .u32 t401, .int .u32 t406, .slice none 0 0] 29 (0, 0)) (mvb BK407.out) hg (by simp [Value.ownBlock]))
                        have n4_ := aK (hb)
                        have n5_ := aK ((show Kd.C (Kd.int .u8) w81 A80 y410.length y410 from by rw [Ny410.out, KA80.out]; exact Kd.C_mid (lo := 10) (hi := ((wrap64 (10 + (wrap64 (rd t392 9)))) : Int).toNat) (c := co30) ((Kd.R_reads' (Kd.R_after (Kd.R_apart_nil (mvR HO_8.out)) hg hat)).2.2) KM80.out KL80.out ((Kd.R_reads' (Kd.R_after (Kd.R_apart_nil (mvR HO_8.out)) hg hat)).2.1)))
                        have n6_ := aK (ho)
                        clear HO_8 BK383 BK384 BK407 HB HR413
                        have HO_8 := n0_
                        have BK383 := n1_
                        have BK384 := n2_
                        have BK407 := n3_
                        have HB := n4_
                        have HR413 := n5_
                        have HO416 := n6_
                        clear n0_ n1_ n2_ n3_ n4_ n5_ n6_ ho hb hg hat
                        obtain ⟨Ao82, co82, eo82⟩ := Kd.R_slice HO416.out
                        (first | subst eo82 | (injection eo82 with f1_ f2_ f3_; have f4_ := f1_.symm; have f5_ := f3_.symm; clear f1_ f2_ f3_; subst f4_; subst f5_))
                        refine hK.out _ _ ⟨(blk_cell BK407.out 0).trans rfl, (blk_cell BK407.out 1).trans rfl, (blk_cell BK407.out 2).trans rfl, (blk_cell BK407.out 3).trans rfl⟩ (fun hHeld => ?_)
                        clear hK K
                        refine norm_ (a' := ?_) ?_ ?_
                        rotate_left
                        ·show Act.put _ (some 112) _ = _
                         simp only [Act.put, List.setIfInBounds_toArray, List.set_cons_zero, List.set_cons_succ, i64_w, i32_w]
                         rfl
                        refine pure_ (i := 7) (N := some 113) (v := ?_) (a' := ?_) #[true, true, true, true, true, true, true, true, false] rfl rfl (any_of HT_.out (by kernel_rfl)) (fun _ _ _ h => h) (Or.inl ⟨by rfl, ?_⟩) ?_ ?_
                        rotate_left
                        ·intro w'
                         go_simp
                         with_reducible rfl
                        rotate_left
                        ·simp only [Act.put, List.setIfInBounds_toArray, List.set_cons_zero, List.set_cons_succ, i64_w, i32_w]
                         rfl
                        refine last_ (i := 8) (N := none) #[true, true, true, true, true, true, true, true, true] rfl rfl (one_of HT_.out (by kernel_rfl)) (by decide) (fun K hK => ?_)
                        have hs83 : w81.cell? ⟨gb407, 3, none⟩ = some (.slice none 0 0) := (blk_cell BK407.out 3).trans rfl
                        have hfs83 := blk_frozen BK407.out 3
                        have hns83_0 := NB383_407.out
                        have hns83_1 := NB384_407.out
                        have hms83_0 := NB407_383.out
                        have hms83_1 := NB407_384.out
                        refine skip_ (w1 := ?_) (by rfl) rfl ?_ ?_
                        rotate_left
                        ·go_simp
                         rfl
                        refine hK.out _ _ ?_
                        clear hK K
                        refine done_ (done_of HT_.out (by kernel_rfl)) ?_
                        obtain ⟨hcz84_0, hcz84_1, hcz84_2, hcz84_3, hfz84_0, hfz84_1, hfz84_2, hfz84_3⟩ := cf4 BK407.out
                        have hnb85 := NB384_383.out
                        have hnc85 := NB383_384.out
                        obtain ⟨hcz86_0, hcz86_1, hcz86_2, hcz86_3, hfz86_0, hfz86_1, hfz86_2, hfz86_3⟩ := cf4 BK384.out
                        try go_wp2
                        refine bodyPost_ret (results_ct rfl _ _ gb384 29 #[.int .i64 (wrap64 (rd t392 0)), .int .u32 t401, .int .u32 t406, .slice Ao82 y414.length co82] (0, 0) _ rfl (by (with_reducible repeat (first | apply bN | apply bD | apply bA)); refine blk_put (cs := #[.int .i64 (wrap64 (rd t392 0)), .int .u32 t401, .int .u32 t406, .slice none 0 0]) ?_ 3 _ rfl; (with_reducible repeat (first | apply bN | apply bD | apply bA)); refine blk_put (cs := #[.int .i64 (wrap64 (rd t392 0)), .int .u32 t401, .int .u32 x385002_2, .slice none 0 0]) ?_ 2 _ rfl; (with_reducible repeat (first | apply bN | apply bD | apply bA)); refine blk_put (cs := #[.int .i64 (wrap64 (rd t392 0)), .int .u32 x385001_2, .int .u32 x385002_2, .slice none 0 0]) ?_ 1 _ rfl; (with_reducible repeat (first | apply bN | apply bD | apply bA)); refine blk_put (cs := #[.int .i64 x385000_2, .int .u32 x385001_2, .int .u32 x385002_2, .slice none 0 0]) ?_ 0 _ rfl; (with_reducible repeat (first | apply bN | apply bD | apply bA)); refine blk_far ?_ NB384_407.out _; exact mvb BK384.out) Try.underlying29 rfl (by kernel_rfl)) rfl ?_
                        exact ⟨_, by first | rfl | (simp [errW_none, errW_some] <;> rfl) | (simp [*, errW_none, errW_some] <;> rfl), by (with_reducible repeat (first | apply Kd.R_alloc | apply Kd.R_drewN | apply Kd.R_drew)); exact Kd.R_mono (Kd.R_far (p := ⟨gb384, 3, none⟩) (Kd.R_far (p := ⟨gb384, 2, none⟩) (Kd.R_far (p := ⟨gb384, 1, none⟩) (Kd.R_far (p := ⟨gb384, 0, none⟩) (Kd.R_far (p := ⟨gb407, 3, none⟩) (Kd.R_types (Kd.R_types HO416.out BK407.out (by decide)) BK384.out (by decide)) (fun _ hk => hk.1.2) (.slice Ao82 y414.length co82)) (fun _ hk => hk.2) (.int .i64 (wrap64 (rd t392 0)))) (fun _ hk => hk.2) (.int .u32 t401)) (fun _ hk => hk.2) (.int .u32 t406)) (fun _ hk => hk.2) (.slice Ao82 y414.length co82)) (fun _ hk => trivial), by repeat (first | (with_reducible first | exact HB.out | apply hA | apply hN | apply hD | refine below_set ?_ GE383.out | refine below_set ?_ GE384.out | refine below_set ?_ GE407.out) | exact HB.out)⟩
                       ·rw [if_neg c75] at H
                        exact absurd H (by simp)
                      ·rw [if_neg c74] at H
                       exact absurd H (by simp)
                     ·rw [if_neg c73] at H
                      exact absurd H (by simp)
                   ·rw [if_neg c66] at H
                    have c66b0 : (t401 == 0) = false := beq_eq_false_iff_ne.mpr c66
                    have c66b1 : (t401 != 0) = true := bne_iff_ne.mpr c66
                    simp only [Option.some.injEq, Prod.mk.injEq] at H
                    obtain ⟨rfl, rfl, rfl, rfl, rfl⟩ := H
                    have hnb87 := NB407_383.out
                    have hnc87 := NB383_407.out
                    have hnb88 := NB407_384.out
                    have hnc88 := NB384_407.out
                    obtain ⟨hcz89_0, hcz89_1, hcz89_2, hcz89_3, hfz89_0, hfz89_1, hfz89_2, hfz89_3⟩ := cf4 BK407.out
                    have hnb90 := NB384_383.out
                    have hnc90 := NB383_384.out
                    obtain ⟨hcz91_0, hcz91_1, hcz91_2, hcz91_3, hfz91_0, hfz91_1, hfz91_2, hfz91_3⟩ := cf4 BK384.out
                    go_wp2
                    refine bodyPost_ret (results_ct rfl _ _ gb384 29 #[.int .i64 0, .int .u32 0, .int .u32 0, .slice none 0 0] (0, 0) _ rfl (by (with_reducible repeat (first | apply bN | apply bD | apply bA)); refine blk_put (cs := #[.int .i64 0, .int .u32 0, .int .u32 0, .slice none 0 0]) ?_ 3 _ rfl; (with_reducible repeat (first | apply bN | apply bD | apply bA)); refine blk_put (cs := #[.int .i64 0, .int .u32 0, .int .u32 x385002_2, .slice none 0 0]) ?_ 2 _ rfl; (with_reducible repeat (first | apply bN | apply bD | apply bA)); refine blk_put (cs := #[.int .i64 0, .int .u32 x385001_2, .int .u32 x385002_2, .slice none 0 0]) ?_ 1 _ rfl; (with_reducible repeat (first | apply bN | apply bD | apply bA)); refine blk_put (cs := #[.int .i64 x385000_2, .int .u32 x385001_2, .int .u32 x385002_2, .slice none 0 0]) ?_ 0 _ rfl; exact mvb BK384.out) Try.underlying29 rfl (by kernel_rfl)) rfl ?_
                    exact ⟨_, by first | rfl | (simp [errW_none, errW_some] <;> rfl) | (simp [*, errW_none, errW_some] <;> rfl), by first | exact Kd.R_nil _ _ _ _ _ | exact Kd.N_nil _ _ _ _ _ | exact Kd.V_nil _ _ _ _ _ | exact Kd.Q_nil _ _ _ _ _ | exact Kd.S_nil _ _ _ _ _, by repeat (first | (with_reducible first | exact HB.out | apply hA | apply hN | apply hD | refine below_set ?_ GE383.out | refine below_set ?_ GE384.out | refine below_set ?_ GE407.out) | exact HB.out)⟩
                  ·rw [if_neg c65] at H
                   have c65b0 : ((wrap64 (rd t392 0)) == 1) = false := beq_eq_false_iff_ne.mpr c65
                   have c65b1 : ((wrap64 (rd t392 0)) != 1) = true := bne_iff_ne.mpr c65
                   clear c65
                   by_cases c92 : 10 ≤ (wrap64 (10 + (wrap64 (rd t392 9))))
                   ·rw [if_pos c92] at H
                    have c92b0 := eq_true c92
                    have c92b1 : decide (10 ≤ (wrap64 (10 + (wrap64 (rd t392 9))))) = true := decide_eq_true c92
                    by_cases c93 : (wrap64 (10 + (wrap64 (rd t392 9)))) ≤ (t392.length : Int)
                    ·rw [if_pos c93] at H
                     have c93b0 := eq_true c93
                     have c93b1 : decide ((wrap64 (10 + (wrap64 (rd t392 9)))) ≤ (t392.length : Int)) = true := decide_eq_true c93
                     obtain ⟨y417, hy417⟩ : ∃ y_ : List Int, y_ = ((t392.take ((wrap64 (10 + (wrap64 (rd t392 9)))) : Int).toNat).drop 10) := ⟨_, rfl⟩
                     replace H : (if ([] : List Int).length + y417.length < 140737488355328 then (some ((wrap64 (rd t392 0)), t401, t406, (([] : List Int) ++ y417), 0)) else (none)) = some (r1, r2, r3, r4, r5) := by first | (rw [hy417]; with_reducible exact H) | (have H2_ := (Option.bind_some _ _).symm.trans H; rw [hy417]; with_reducible exact H2_) | (have H2_ := (Option.bind_some _ _).symm.trans H; with_reducible exact H2_) | with_reducible exact H | (rw [hy417]; exact H) | exact H
                     have Ny417 := Aside0.mk hy417
                     clear hy417
                     by_cases c94 : ([] : List Int).length + y417.length < 140737488355328
                     ·rw [if_pos c94] at H
                      have LMc94 := Aside0.mk c94
                      clear c94
                      obtain ⟨y421, hy421⟩ : ∃ y_ : List Int, y_ = (([] : List Int) ++ y417) := ⟨_, rfl⟩
                      replace H : (some ((wrap64 (rd t392 0)), t401, t406, y421, 0)) = some (r1, r2, r3, r4, r5) := by first | (rw [hy421]; with_reducible exact H) | (have H2_ := (Option.bind_some _ _).symm.trans H; rw [hy421]; with_reducible exact H2_) | (have H2_ := (Option.bind_some _ _).symm.trans H; with_reducible exact H2_) | with_reducible exact H | (rw [hy421]; exact H) | exact H
                      have Ny421 := Aside0.mk hy421
                      clear hy421
                      simp only [Option.some.injEq, Prod.mk.injEq] at H
                      obtain ⟨rfl, rfl, rfl, rfl, rfl⟩ := H
                      have hnb95 := NB407_383.out
                      have hnc95 := NB383_407.out
                      have hnb96 := NB407_384.out
                      have hnc96 := NB384_407.out
                      obtain ⟨hcz97_0, hcz97_1, hcz97_2, hcz97_3, hfz97_0, hfz97_1, hfz97_2, hfz97_3⟩ := cf4 BK407.out
                      try go_wp2
                      have n0_ := aK (Kd.R_drew HO_8.out)
                      have n1_ := aK (blk_drew BK383.out)
                      have n2_ := aK (blk_drew BK384.out)
                      have n3_ := aK (blk_drew BK407.out)
                      have n4_ := aK (below_drew1 HB.out)
                      clear HO_8 BK383 BK384 BK407 HB
                      have HO_8 := n0_
                      have BK383 := n1_
                      have BK384 := n2_
                      have BK407 := n3_
                      have HB := n4_
                      clear n0_ n1_ n2_ n3_ n4_
                      have q99 : ((wrap64 (10 + (wrap64 (rd t392 9)))) : Int) ≤ ((t392.length : Int) : Int) := of_decide_eq_true (by first | (with_reducible assumption) | assumption)
                      obtain ⟨i099, hi099, _, hsz99, _⟩ := info_parts info5
                      have hroom99 : t392.length ≤ co30 := (Kd.R_reads' HO_8.out).2.1
                      have hC99 : Kd.C (Kd.int .u8) _ (some ad396) t392.length t392 := (Kd.R_reads' HO_8.out).2.2
                      have ql99 : (10 : Int) ≤ ((wrap64 (10 + (wrap64 (rd t392 9)))) : Int) := of_decide_eq_true (by first | (with_reducible assumption) | assumption)
                      have hcut99 := cut_mid (P := Try.prog) 27 5 .i64 .i64 Try.underlying27 hi099 1 hsz99 (some ad396) t392.length co30 10 (wrap64 (10 + (wrap64 (rd t392 9)))) (by omega) ql99 q99 hroom99
                      have hr99 := Kd.C_mid (lo := (10 : Int).toNat) (hi := ((wrap64 (10 + (wrap64 (rd t392 9)))) : Int).toNat) (c := co30) hC99 (by omega) (by omega) hroom99
                      obtain ⟨A99, hA99⟩ : ∃ A1, A1 = (if co30 = (10 : Int).toNat then (some ad396) else ((some ad396) : Option Addr).map (·.add ((10 : Int).toNat * 1))) := ⟨_, rfl⟩
                      obtain ⟨c99, hc99⟩ : ∃ c1, c1 = co30 - (10 : Int).toNat := ⟨_, rfl⟩
                      have hy99 : y417.length = ((wrap64 (10 + (wrap64 (rd t392 9)))) : Int).toNat - (10 : Int).toNat := (by rw [Ny417.out, List.length_drop, List.length_take] <;> omega)
                      rw [show ((t392).take ((wrap64 (10 + (wrap64 (rd t392 9)))) : Int).toNat).drop (10 : Int).toNat = y417 from Ny417.out.symm] at hr99
                      replace hr99 : Kd.C (Kd.int .u8) _ A99 y417.length y417 := (by rw [hA99]; exact hr99)
                      rw [← hy99, ← hA99, ← hc99] at hcut99
                      have HR420 := Aside0.mk hr99
                      have HC420 := aK (show y417.length ≤ c99 from by rw [hy99, hc99]; exact Nat.sub_le_sub_right (Nat.le_trans (by omega) hroom99) _)
                      clear hr99 hC99 hroom99 hi099 hsz99 hc99
                      have KY99 := Aside0.mk hy99
                      have KA99 := Aside0.mk hA99
                      clear hy99 hA99
                      have KL99 := aK (show ((wrap64 (10 + (wrap64 (rd t392 9)))) : Int).toNat ≤ t392.length from by omega)
                      have KM99 := aK (show 10 ≤ ((wrap64 (10 + (wrap64 (rd t392 9)))) : Int).toNat from by omega)
                      replace q99 := eq_true q99
                      refine start_ (n := 9) (S := fun w' => w'.cell? ⟨gb407, 0, none⟩ = some (.int .i64 (wrap64 (rd t392 0))) ∧ w'.cell? ⟨gb407, 1, none⟩ = some (.int .u32 t401) ∧ w'.cell? ⟨gb407, 2, none⟩ = some (.int .u32 t406) ∧ w'.cell? ⟨gb407, 3, none⟩ = some (.slice none 0 0)) (ds := [8]) #[false, false, false, false, false, false, false, false, false] (by kernel_rfl) rfl rfl ⟨(blk_cell BK407.out 0).trans rfl, (blk_cell BK407.out 1).trans rfl, (blk_cell BK407.out 2).trans rfl, (blk_cell BK407.out 3).trans rfl⟩ (fun hHeld => ?_); refine with_tabW outpostref24_Parse.tab25 outpostref24_Parse.bits25 (fun HT_ HW_ => ?_)
                      generalize wr.drew = w98 at HO_8 BK383 BK384 BK407 HB HR420 hHeld ⊢
                      refine pure_ (i := 0) (N := some 106) (v := ?_) (a' := ?_) #[true, false, false, false, false, false, false, false, false] rfl rfl (any_of HT_.out (by kernel_rfl)) (fun _ _ _ h => h) (Or.inl ⟨by rfl, ?_⟩) ?_ ?_
                      rotate_left
                      ·intro w'
                       go_simp
                       with_reducible rfl
                      rotate_left
                      ·simp only [Act.put, List.setIfInBounds_toArray, List.set_cons_zero, List.set_cons_succ, i64_w, i32_w]
                       rfl
                      refine pure_ (i := 2) (N := some 108) (v := ?_) (a' := ?_) #[true, false, true, false, false, false, false, false, false] rfl rfl (any_of HT_.out (by kernel_rfl)) (fun _ _ _ h => h) (Or.inl ⟨by rfl, ?_⟩) ?_ ?_
                      rotate_left
                      ·intro w'
                       go_simp
                       with_reducible rfl
                      rotate_left
                      ·simp only [Act.put, List.setIfInBounds_toArray, List.set_cons_zero, List.set_cons_succ, i64_w, i32_w]
                       rfl
                      refine pure_ (i := 3) (N := some 109) (v := ?_) (a' := ?_) #[true, false, true, true, false, false, false, false, false] rfl rfl (any_of HT_.out (by kernel_rfl)) (fun _ _ _ h => h) (Or.inl ⟨by rfl, ?_⟩) ?_ ?_
                      rotate_left
                      ·intro w'
                       go_simp
                       with_reducible rfl
                      rotate_left
                      ·simp only [Act.put, List.setIfInBounds_toArray, List.set_cons_zero, List.set_cons_succ, i64_w, i32_w]
                       rfl
                      refine pure_ (i := 4) (N := some 110) (v := ?_) (a' := ?_) #[true, false, true, true, true, false, false, false, false] rfl rfl (any_of HT_.out (by kernel_rfl)) (fun _ _ _ h => h) (Or.inl ⟨by rfl, ?_⟩) ?_ ?_
                      rotate_left
                      ·intro w'
                       go_simp
                       with_reducible rfl
                      rotate_left
                      ·simp only [Act.put, List.setIfInBounds_toArray, List.set_cons_zero, List.set_cons_succ, i64_w, i32_w]
                       rfl
                      refine pure_ (i := 5) (N := some 111) (v := ?_) (a' := ?_) #[true, false, true, true, true, true, false, false, false] rfl rfl (any_of HT_.out (by kernel_rfl)) (fun _ _ _ h => h) (Or.inl ⟨by rfl, ?_⟩) ?_ ?_
                      rotate_left
                      ·intro w'
                       go_simp
                       with_reducible rfl
                      rotate_left
                      ·simp only [Act.put, List.setIfInBounds_toArray, List.set_cons_zero, List.set_cons_succ, i64_w, i32_w]
                       rfl
                      refine take_ (i := 1) (N := some 107) (v := ?_) (a' := ?_) #[true, true, true, true, true, true, false, false, false] rfl rfl (take_ofW HT_.out HW_.out (by kernel_rfl)) (fun _ _ _ h => h) (Or.inl ⟨by rfl, ?_⟩) hHeld ?_ ?_
                      rotate_left
                      ·rintro w' ⟨s0, s1, s2, s3⟩
                       go_simp
                       with_reducible rfl
                      rotate_left
                      ·simp only [Act.put, List.setIfInBounds_toArray, List.set_cons_zero, List.set_cons_succ, i64_w, i32_w]
                       rfl
                      refine one_ (i := 6) (N := some 112) #[true, true, true, true, true, true, true, false, false] rfl rfl (one_of HT_.out (by kernel_rfl)) (by decide) (fun K hK => ?_)
                      refine Kd.R_append_rows_step (Kd.int .u8) (w0 := w) w.heap.size (by rfl) (.tmp 107) (.tmp 111) 27 5 (.int .u8 0) 1 rfl Try.underlying27 info5 rfl (by decide) (by omega) (.slice none 0 0) ([] : List Int) y417 _ _ _ (fun k_ => some k_ ≠ (.slice (some ad396) t392.length co30 : Value).ownBlock) (fun _ => False) rfl rfl ?aO ?aR (fun _ _ h => h) (fun _ h => h.elim) ?aF ?aB ?aS ?aL ?_
                      (case aR => repeat (first | exact (by repeat (first | (with_reducible exact HR420.out) | (with_reducible refine Kd.C_alloc ?_ _) | (with_reducible refine Kd.C_drewN ?_ _) | (with_reducible refine Kd.C_drew ?_) | exact HR420.out)) | (with_reducible refine Kd.C_alloc ?_ _) | (with_reducible refine Kd.C_drewN ?_ _) | (with_reducible refine Kd.C_drew ?_)))
                      (case aB => exact (by repeat (first | (with_reducible first | exact HB.out | apply hA | apply hN | apply hD | refine below_set ?_ GE383.out | refine below_set ?_ GE384.out | refine below_set ?_ GE407.out) | exact HB.out)))
                      (case aF => exact (fun k_ hk => Kd.fresh' (Kd.R_lt (mvR HO_8.out)) k_ hk))
                      (case aO => exact ((Kd.R_nil _ _ _ _ (fun k_ => some k_ ≠ (.slice (some ad396) t392.length co30 : Value).ownBlock))))
                      (case aS => exact (below_size (by repeat (first | (with_reducible first | exact HB.out | apply hA | apply hN | apply hD | refine below_set ?_ GE383.out | refine below_set ?_ GE384.out | refine below_set ?_ GE407.out) | exact HB.out))))
                      (case aL => have := LMc94.out; omega)
                      intro v422 w100 ho hb hg hat
                      rw [← Ny421.out] at ho
                      have n0_ := aK (Kd.R_after (Kd.R_apart_nil (mvR HO_8.out)) hg hat)
                      have n1_ := aK (blk_grown (g := gb383) (o := .cells #[.int .i64 a0_0, .int .i64 a0_1, .int .u32 a0_2, .int .u32 a0_3, .int .u32 a0_4, .bool a0_5] 26 (0, 0)) (mvb BK383.out) hg (by simp [Value.ownBlock]))
                      have n2_ := aK (blk_grown (g := gb384) (o := .cells #[.int .i64 x385000_2, .int .u32 x385001_2, .int .u32 x385002_2, .slice none 0 0] 29 (0, 0)) (mvb BK384.out) hg (by simp [Value.ownBlock]))
                      have n3_ := aK (blk_grown (g := gb407) (o := .cells #[.int .i64 (wrap64 (rd t392 0)), .int .u32 t401, .int .u32 t406, .slice none 0 0] 29 (0, 0)) (mvb BK407.out) hg (by simp [Value.ownBlock]))
                      have n4_ := aK (hb)
                      have n5_ := aK ((show Kd.C (Kd.int .u8) w100 A99 y417.length y417 from by rw [Ny417.out, KA99.out]; exact Kd.C_mid (lo := 10) (hi := ((wrap64 (10 + (wrap64 (rd t392 9)))) : Int).toNat) (c := co30) ((Kd.R_reads' (Kd.R_after (Kd.R_apart_nil (mvR HO_8.out)) hg hat)).2.2) KM99.out KL99.out ((Kd.R_reads' (Kd.R_after (Kd.R_apart_nil (mvR HO_8.out)) hg hat)).2.1)))
                      have n6_ := aK (ho)
                      clear HO_8 BK383 BK384 BK407 HB HR420
                      have HO_8 := n0_
                      have BK383 := n1_
                      have BK384 := n2_
                      have BK407 := n3_
                      have HB := n4_
                      have HR420 := n5_
                      have HO423 := n6_
                      clear n0_ n1_ n2_ n3_ n4_ n5_ n6_ ho hb hg hat
                      obtain ⟨Ao101, co101, eo101⟩ := Kd.R_slice HO423.out
                      (first | subst eo101 | (injection eo101 with f1_ f2_ f3_; have f4_ := f1_.symm; have f5_ := f3_.symm; clear f1_ f2_ f3_; subst f4_; subst f5_))
                      refine hK.out _ _ ⟨(blk_cell BK407.out 0).trans rfl, (blk_cell BK407.out 1).trans rfl, (blk_cell BK407.out 2).trans rfl, (blk_cell BK407.out 3).trans rfl⟩ (fun hHeld => ?_)
                      clear hK K
                      refine norm_ (a' := ?_) ?_ ?_
                      rotate_left
                      ·show Act.put _ (some 112) _ = _
                       simp only [Act.put, List.setIfInBounds_toArray, List.set_cons_zero, List.set_cons_succ, i64_w, i32_w]
                       rfl
                      refine pure_ (i := 7) (N := some 113) (v := ?_) (a' := ?_) #[true, true, true, true, true, true, true, true, false] rfl rfl (any_of HT_.out (by kernel_rfl)) (fun _ _ _ h => h) (Or.inl ⟨by rfl, ?_⟩) ?_ ?_
                      rotate_left
                      ·intro w'
                       go_simp
                       with_reducible rfl
                      rotate_left
                      ·simp only [Act.put, List.setIfInBounds_toArray, List.set_cons_zero, List.set_cons_succ, i64_w, i32_w]
                       rfl
                      refine last_ (i := 8) (N := none) #[true, true, true, true, true, true, true, true, true] rfl rfl (one_of HT_.out (by kernel_rfl)) (by decide) (fun K hK => ?_)
                      have hs102 : w100.cell? ⟨gb407, 3, none⟩ = some (.slice none 0 0) := (blk_cell BK407.out 3).trans rfl
                      have hfs102 := blk_frozen BK407.out 3
                      have hns102_0 := NB383_407.out
                      have hns102_1 := NB384_407.out
                      have hms102_0 := NB407_383.out
                      have hms102_1 := NB407_384.out
                      refine skip_ (w1 := ?_) (by rfl) rfl ?_ ?_
                      rotate_left
                      ·go_simp
                       rfl
                      refine hK.out _ _ ?_
                      clear hK K
                      refine done_ (done_of HT_.out (by kernel_rfl)) ?_
                      obtain ⟨hcz103_0, hcz103_1, hcz103_2, hcz103_3, hfz103_0, hfz103_1, hfz103_2, hfz103_3⟩ := cf4 BK407.out
                      have hnb104 := NB384_383.out
                      have hnc104 := NB383_384.out
                      obtain ⟨hcz105_0, hcz105_1, hcz105_2, hcz105_3, hfz105_0, hfz105_1, hfz105_2, hfz105_3⟩ := cf4 BK384.out
                      try go_wp2
                      refine bodyPost_ret (results_ct rfl _ _ gb384 29 #[.int .i64 (wrap64 (rd t392 0)), .int .u32 t401, .int .u32 t406, .slice Ao101 y421.length co101] (0, 0) _ rfl (by (with_reducible repeat (first | apply bN | apply bD | apply bA)); refine blk_put (cs := #[.int .i64 (wrap64 (rd t392 0)), .int .u32 t401, .int .u32 t406, .slice none 0 0]) ?_ 3 _ rfl; (with_reducible repeat (first | apply bN | apply bD | apply bA)); refine blk_put (cs := #[.int .i64 (wrap64 (rd t392 0)), .int .u32 t401, .int .u32 x385002_2, .slice none 0 0]) ?_ 2 _ rfl; (with_reducible repeat (first | apply bN | apply bD | apply bA)); refine blk_put (cs := #[.int .i64 (wrap64 (rd t392 0)), .int .u32 x385001_2, .int .u32 x385002_2, .slice none 0 0]) ?_ 1 _ rfl; (with_reducible repeat (first | apply bN | apply bD | apply bA)); refine blk_put (cs := #[.int .i64 x385000_2, .int .u32 x385001_2, .int .u32 x385002_2, .slice none 0 0]) ?_ 0 _ rfl; (with_reducible repeat (first | apply bN | apply bD | apply bA)); refine blk_far ?_ NB384_407.out _; exact mvb BK384.out) Try.underlying29 rfl (by kernel_rfl)) rfl ?_
                      exact ⟨_, by first | rfl | (simp [errW_none, errW_some] <;> rfl) | (simp [*, errW_none, errW_some] <;> rfl), by (with_reducible repeat (first | apply Kd.R_alloc | apply Kd.R_drewN | apply Kd.R_drew)); exact Kd.R_mono (Kd.R_far (p := ⟨gb384, 3, none⟩) (Kd.R_far (p := ⟨gb384, 2, none⟩) (Kd.R_far (p := ⟨gb384, 1, none⟩) (Kd.R_far (p := ⟨gb384, 0, none⟩) (Kd.R_far (p := ⟨gb407, 3, none⟩) (Kd.R_types (Kd.R_types HO423.out BK407.out (by decide)) BK384.out (by decide)) (fun _ hk => hk.1.2) (.slice Ao101 y421.length co101)) (fun _ hk => hk.2) (.int .i64 (wrap64 (rd t392 0)))) (fun _ hk => hk.2) (.int .u32 t401)) (fun _ hk => hk.2) (.int .u32 t406)) (fun _ hk => hk.2) (.slice Ao101 y421.length co101)) (fun _ hk => trivial), by repeat (first | (with_reducible first | exact HB.out | apply hA | apply hN | apply hD | refine below_set ?_ GE383.out | refine below_set ?_ GE384.out | refine below_set ?_ GE407.out) | exact HB.out)⟩
                     ·rw [if_neg c94] at H
                      exact absurd H (by simp)
                    ·rw [if_neg c93] at H
                     exact absurd H (by simp)
                   ·rw [if_neg c92] at H
                    exact absurd H (by simp)
          ·rw [if_neg c18] at H
           exact absurd H (by simp)
         ·rw [if_neg c16] at H
          exact absurd H (by simp)
        ·rw [if_neg c15] at H
         exact absurd H (by simp)
       ·rw [if_neg c13] at H
        exact absurd H (by simp)
      ·rw [if_neg c12] at H
       exact absurd H (by simp)
     ·rw [if_neg c11] at H
      exact absurd H (by simp)
    ·rw [if_neg c10] at H
     have c10b0 : (t395 == 0) = false := beq_eq_false_iff_ne.mpr c10
     have c10b1 : (t395 != 0) = true := bne_iff_ne.mpr c10
     simp only [Option.some.injEq, Prod.mk.injEq] at H
     obtain ⟨rfl, rfl, rfl, rfl, rfl⟩ := H
     go_enter Try.func22, Try.ntmps22
     go_wp2_with (first | ((with_reducible refine gate_dst (N := 2) rfl ?_); refine box_event ?hg (N := 2) ?hd (cs := #[.int .i64 a0_0, .int .i64 a0_1, .int .u32 a0_2, .int .u32 a0_3, .int .u32 a0_4, .bool a0_5]) (t := 26) ?hr ?_; (case hd => rfl); (case hg => rfl); (case hr => first | (go_simp; done) | (go_simp; rfl)); intro gb383 hg w106 hbox hb; have n0_ := aK (below_step (mvh HB.out) hb); have n1_ := aK (hbox); have n2_ := aK ((by rw [hg]; exact (below_size (mvh HB.out)) : w.heap.size ≤ gb383)); have n3_ := aK ((by rw [hg]; exact (below_size (mvh HB.out)) : w.heap.size ≤ gb383)); clear HB; have HB := n0_; have BK383 := n1_; have GW383 := n2_; have GE383 := n3_; clear n0_ n1_ n2_ n3_; clear hb hbox hg) | ((with_reducible refine gate_dst (N := 4) rfl ?_); refine box_event ?hg (N := 4) ?hd (cs := #[.int .i64 0, .int .u32 0, .int .u32 0, .slice none 0 0]) (t := 29) ?hr ?_; (case hd => rfl); (case hg => rfl); (case hr => first | (go_simp; done) | (go_simp; rfl)); intro gb384 hg w107 hbox hb; have n0_ := aK (kb BK383.out hb); have n1_ := aK (below_step (by repeat (first | (with_reducible first | exact HB.out | apply hA | apply hN | apply hD | refine below_set ?_ GE383.out) | exact HB.out)) hb); have n2_ := aK (hbox); have n3_ := aK ((by rw [hg]; exact (below_size (by repeat (first | (with_reducible first | exact HB.out | apply hA | apply hN | apply hD | refine below_set ?_ GE383.out) | exact HB.out))) : w.heap.size ≤ gb384)); have n4_ := aK ((by rw [hg]; exact (below_size (by repeat (first | (with_reducible first | exact HB.out | apply hA | apply hN | apply hD | refine below_set ?_ GE383.out) | exact HB.out))) : w.heap.size ≤ gb384)); have n5_ := aK ((by rw [hg]; exact Nat.ne_of_lt (kl BK383.out) : gb383 ≠ gb384)); have n6_ := aK ((by rw [hg]; exact Nat.ne_of_gt (kl BK383.out) : gb384 ≠ gb383)); clear BK383 HB; have BK383 := n0_; have HB := n1_; have BK384 := n2_; have GW384 := n3_; have GE384 := n4_; have NB383_384 := n5_; have NB384_383 := n6_; clear n0_ n1_ n2_ n3_ n4_ n5_ n6_; clear hb hbox hg; have hnb108 := NB383_384.out; have hnc108 := NB384_383.out; obtain ⟨hcz109_0, hcz109_1, hcz109_2, hcz109_3, hcz109_4, hcz109_5, hfz109_0, hfz109_1, hfz109_2, hfz109_3, hfz109_4, hfz109_5⟩ := cf6 BK383.out) | ((with_reducible refine gate_callee (f := 12) rfl ?_); refine goesL_ (some 15) rfl rfl Try.func12 (by kernel_rfl) rfl #[.agg #[.int .i64 a0_0, .int .i64 a0_1, .int .u32 a0_2, .int .u32 a0_3, .int .u32 a0_4, .bool a0_5]] rfl (by (try simp only [List.map_toArray, List.map_cons, List.map_nil]) <;> rfl) ?_; (with_reducible refine (outpostref24_Length.calls k a0_0 a0_1 a0_2 a0_3 a0_4 a0_5 t385 t386 _ A3.out).mono ?_); rintro e w110 ⟨rfl, hb⟩; refine ⟨_, rfl, ?_⟩; have n0_ := aK (kb BK383.out hb); have n1_ := aK (kb BK384.out hb); have n2_ := aK (below_step (by repeat (first | (with_reducible first | exact HB.out | apply hA | apply hN | apply hD | refine below_set ?_ GE383.out | refine below_set ?_ GE384.out) | exact HB.out)) hb); clear BK383 BK384 HB; have BK383 := n0_; have BK384 := n1_; have HB := n2_; clear n0_ n1_ n2_; (try clear hb)) | ((with_reducible refine gate_callee (f := 37) rfl ?_); refine goesL_ (some 31) rfl rfl Try.func37 (by kernel_rfl) rfl #[.slice A1 l1.length c1] rfl (by (try simp only [List.map_toArray, List.map_cons, List.map_nil]) <;> rfl) ?_; (with_reducible refine (outpostref01_Valid.calls k _ _ l1 true _ ?side1 ?side2 A6.out).mono ?_); (case side1 => repeat (first | exact (Kd.C_below HR1.out HB.out) | (with_reducible refine Kd.C_alloc ?_ _) | (with_reducible refine Kd.C_drewN ?_ _) | (with_reducible refine Kd.C_drew ?_))); (case side2 => exact HC1.out); rintro e w' ⟨rfl, ⟨nd, rfl⟩⟩; refine ⟨_, rfl, ?_⟩; (try (rw [drewN_self w110]; generalize hq_ : World.drewN w110 _ = w110; have n0_ : Aside0 (w110.heap[gb383]? = some (.cells #[.int .i64 a0_0, .int .i64 a0_1, .int .u32 a0_2, .int .u32 a0_3, .int .u32 a0_4, .bool a0_5] 26 (0, 0))) := ⟨by rw [← hq_]; exact (mvb BK383.out)⟩; have n1_ : Aside0 (w110.heap[gb384]? = some (.cells #[.int .i64 0, .int .u32 0, .int .u32 0, .slice none 0 0] 29 (0, 0))) := ⟨by rw [← hq_]; exact (mvb BK384.out)⟩; have n2_ : Aside0 (Below w.heap.size w w110) := ⟨by rw [← hq_]; exact (by repeat (first | (with_reducible first | exact HB.out | apply hA | apply hN | apply hD | refine below_set ?_ GE383.out | refine below_set ?_ GE384.out) | exact HB.out))⟩; clear BK383 BK384 HB hq_; have BK383 := n0_; have BK384 := n1_; have HB := n2_; clear n0_ n1_ n2_))) | ((with_reducible refine gate_callee (f := 38) rfl ?_); refine goesL_ (some 36) rfl rfl Try.func38 (by kernel_rfl) rfl #[.slice A1 l1.length c1] rfl (by (try simp only [List.map_toArray, List.map_cons, List.map_nil]) <;> rfl) ?_; (with_reducible refine (outpostref01_Pack.calls k _ _ l1 t388 t389 _ ?side1 ?side2 A8.out).mono ?_); (case side1 => repeat (first | exact (Kd.C_below HR1.out HB.out) | (with_reducible refine Kd.C_alloc ?_ _) | (with_reducible refine Kd.C_drewN ?_ _) | (with_reducible refine Kd.C_drew ?_))); (case side2 => exact HC1.out); rintro e w111 ⟨v390, rfl, ho0, hb⟩; refine ⟨_, rfl, ?_⟩; have n0_ := aK (Kd.R_lower ho0 (below_size (by repeat (first | (with_reducible first | exact HB.out | apply hA | apply hN | apply hD | refine below_set ?_ GE383.out | refine below_set ?_ GE384.out) | exact HB.out)))); have n1_ := aK (kb BK383.out hb); have n2_ := aK (kb BK384.out hb); have n3_ := aK (below_step (by repeat (first | (with_reducible first | exact HB.out | apply hA | apply hN | apply hD | refine below_set ?_ GE383.out | refine below_set ?_ GE384.out) | exact HB.out)) hb); clear BK383 BK384 HB; have HO391 := n0_; have BK383 := n1_; have BK384 := n2_; have HB := n3_; clear n0_ n1_ n2_ n3_; (try clear hb); (try clear ho0); obtain ⟨hcz112_0, hcz112_1, hcz112_2, hcz112_3, hcz112_4, hcz112_5, hfz112_0, hfz112_1, hfz112_2, hfz112_3, hfz112_4, hfz112_5⟩ := cf6 BK383.out; obtain ⟨Ao113, co113, eo113⟩ := Kd.R_slice HO391.out; subst eo113) | ((with_reducible refine gate_callee (f := 39) rfl ?_); refine goesL_ (some 43) rfl rfl Try.func39 (by kernel_rfl) rfl #[.agg #[.int .i64 a0_1, .int .u32 a0_2, .int .u32 a0_3, .int .u32 a0_4, .bool a0_5], .slice Ao113 t388.length co113] rfl (by (try simp only [List.map_toArray, List.map_cons, List.map_nil]) <;> rfl) ?_; (with_reducible refine (outpostref03_Unseal.calls k a0_1 a0_2 a0_3 a0_4 a0_5 _ _ t388 t392 t395 _ ?side1 ?side2 A9.out).mono ?_); (case side1 => repeat (first | exact (Kd.R_reads' HO391.out).2.2 | (with_reducible refine Kd.C_alloc ?_ _) | (with_reducible refine Kd.C_drewN ?_ _) | (with_reducible refine Kd.C_drew ?_))); (case side2 => exact (Kd.R_reads' HO391.out).2.1); rintro e w114 ⟨v393, rfl, ho0, hb⟩; refine ⟨_, rfl, ?_⟩; have n0_ := aK (Kd.R_elder' (mvR HO391.out) (Kd.R_base ho0) hb); have n1_ := aK (Kd.R_lower (Kd.R_new' ho0 (Kd.R_lt (mvR HO391.out))) (below_size (by repeat (first | (with_reducible first | exact HB.out | apply hA | apply hN | apply hD | refine below_set ?_ GE383.out | refine below_set ?_ GE384.out) | exact HB.out)))); have n2_ := aK (kb BK383.out hb); have n3_ := aK (kb BK384.out hb); have n4_ := aK (below_step (by repeat (first | (with_reducible first | exact HB.out | apply hA | apply hN | apply hD | refine below_set ?_ GE383.out | refine below_set ?_ GE384.out) | exact HB.out)) hb); clear HO391 BK383 BK384 HB; have HO391 := n0_; have HO394 := n1_; have BK383 := n2_; have BK384 := n3_; have HB := n4_; clear n0_ n1_ n2_ n3_ n4_; (try clear hb); (try clear ho0); obtain ⟨hcz115_0, hcz115_1, hcz115_2, hcz115_3, hfz115_0, hfz115_1, hfz115_2, hfz115_3⟩ := cf4 BK384.out))
     refine bodyPost_ret (results_ct rfl _ _ gb384 29 #[.int .i64 0, .int .u32 0, .int .u32 0, .slice none 0 0] (0, 0) _ rfl (by (with_reducible repeat (first | apply bN | apply bD | apply bA)); refine blk_put (cs := #[.int .i64 0, .int .u32 0, .int .u32 0, .slice none 0 0]) ?_ 3 _ rfl; (with_reducible repeat (first | apply bN | apply bD | apply bA)); refine blk_put (cs := #[.int .i64 0, .int .u32 0, .int .u32 0, .slice none 0 0]) ?_ 2 _ rfl; (with_reducible repeat (first | apply bN | apply bD | apply bA)); refine blk_put (cs := #[.int .i64 0, .int .u32 0, .int .u32 0, .slice none 0 0]) ?_ 1 _ rfl; (with_reducible repeat (first | apply bN | apply bD | apply bA)); refine blk_put (cs := #[.int .i64 0, .int .u32 0, .int .u32 0, .slice none 0 0]) ?_ 0 _ rfl; exact mvb BK384.out) Try.underlying29 rfl (by kernel_rfl)) rfl ?_
     exact ⟨_, by first | rfl | (simp [errW_none, errW_some] <;> rfl) | (simp [*, errW_none, errW_some] <;> rfl), by first | exact Kd.R_nil _ _ _ _ _ | exact Kd.N_nil _ _ _ _ _ | exact Kd.V_nil _ _ _ _ _ | exact Kd.Q_nil _ _ _ _ _ | exact Kd.S_nil _ _ _ _ _, by repeat (first | (with_reducible first | exact HB.out | apply hA | apply hN | apply hD | refine below_set ?_ GE383.out | refine below_set ?_ GE384.out) | exact HB.out)⟩
   ·replace c7 := Bool.eq_false_iff.mpr c7
    subst c7
    have H1 : (some (0, 0, 0, ([] : List Int), 10)) = some (r1, r2, r3, r4, r5) := by rw [if_neg (show ¬ (false = true) by decide)] at H; exact H
    clear H
    have H := H1
    clear H1
    simp only [Option.some.injEq, Prod.mk.injEq] at H
    obtain ⟨rfl, rfl, rfl, rfl, rfl⟩ := H
    go_enter Try.func22, Try.ntmps22
    go_wp2_with (first | ((with_reducible refine gate_dst (N := 2) rfl ?_); refine box_event ?hg (N := 2) ?hd (cs := #[.int .i64 a0_0, .int .i64 a0_1, .int .u32 a0_2, .int .u32 a0_3, .int .u32 a0_4, .bool a0_5]) (t := 26) ?hr ?_; (case hd => rfl); (case hg => rfl); (case hr => first | (go_simp; done) | (go_simp; rfl)); intro gb383 hg w116 hbox hb; have n0_ := aK (below_step (mvh HB.out) hb); have n1_ := aK (hbox); have n2_ := aK ((by rw [hg]; exact (below_size (mvh HB.out)) : w.heap.size ≤ gb383)); have n3_ := aK ((by rw [hg]; exact (below_size (mvh HB.out)) : w.heap.size ≤ gb383)); clear HB; have HB := n0_; have BK383 := n1_; have GW383 := n2_; have GE383 := n3_; clear n0_ n1_ n2_ n3_; clear hb hbox hg) | ((with_reducible refine gate_dst (N := 4) rfl ?_); refine box_event ?hg (N := 4) ?hd (cs := #[.int .i64 0, .int .u32 0, .int .u32 0, .slice none 0 0]) (t := 29) ?hr ?_; (case hd => rfl); (case hg => rfl); (case hr => first | (go_simp; done) | (go_simp; rfl)); intro gb384 hg w117 hbox hb; have n0_ := aK (kb BK383.out hb); have n1_ := aK (below_step (by repeat (first | (with_reducible first | exact HB.out | apply hA | apply hN | apply hD | refine below_set ?_ GE383.out) | exact HB.out)) hb); have n2_ := aK (hbox); have n3_ := aK ((by rw [hg]; exact (below_size (by repeat (first | (with_reducible first | exact HB.out | apply hA | apply hN | apply hD | refine below_set ?_ GE383.out) | exact HB.out))) : w.heap.size ≤ gb384)); have n4_ := aK ((by rw [hg]; exact (below_size (by repeat (first | (with_reducible first | exact HB.out | apply hA | apply hN | apply hD | refine below_set ?_ GE383.out) | exact HB.out))) : w.heap.size ≤ gb384)); have n5_ := aK ((by rw [hg]; exact Nat.ne_of_lt (kl BK383.out) : gb383 ≠ gb384)); have n6_ := aK ((by rw [hg]; exact Nat.ne_of_gt (kl BK383.out) : gb384 ≠ gb383)); clear BK383 HB; have BK383 := n0_; have HB := n1_; have BK384 := n2_; have GW384 := n3_; have GE384 := n4_; have NB383_384 := n5_; have NB384_383 := n6_; clear n0_ n1_ n2_ n3_ n4_ n5_ n6_; clear hb hbox hg; have hnb118 := NB383_384.out; have hnc118 := NB384_383.out; obtain ⟨hcz119_0, hcz119_1, hcz119_2, hcz119_3, hcz119_4, hcz119_5, hfz119_0, hfz119_1, hfz119_2, hfz119_3, hfz119_4, hfz119_5⟩ := cf6 BK383.out) | ((with_reducible refine gate_callee (f := 12) rfl ?_); refine goesL_ (some 15) rfl rfl Try.func12 (by kernel_rfl) rfl #[.agg #[.int .i64 a0_0, .int .i64 a0_1, .int .u32 a0_2, .int .u32 a0_3, .int .u32 a0_4, .bool a0_5]] rfl (by (try simp only [List.map_toArray, List.map_cons, List.map_nil]) <;> rfl) ?_; (with_reducible refine (outpostref24_Length.calls k a0_0 a0_1 a0_2 a0_3 a0_4 a0_5 t385 t386 _ A3.out).mono ?_); rintro e w120 ⟨rfl, hb⟩; refine ⟨_, rfl, ?_⟩; have n0_ := aK (kb BK383.out hb); have n1_ := aK (kb BK384.out hb); have n2_ := aK (below_step (by repeat (first | (with_reducible first | exact HB.out | apply hA | apply hN | apply hD | refine below_set ?_ GE383.out | refine below_set ?_ GE384.out) | exact HB.out)) hb); clear BK383 BK384 HB; have BK383 := n0_; have BK384 := n1_; have HB := n2_; clear n0_ n1_ n2_; (try clear hb)) | ((with_reducible refine gate_callee (f := 37) rfl ?_); refine goesL_ (some 31) rfl rfl Try.func37 (by kernel_rfl) rfl #[.slice A1 l1.length c1] rfl (by (try simp only [List.map_toArray, List.map_cons, List.map_nil]) <;> rfl) ?_; (with_reducible refine (outpostref01_Valid.calls k _ _ l1 false _ ?side1 ?side2 A6.out).mono ?_); (case side1 => repeat (first | exact (Kd.C_below HR1.out HB.out) | (with_reducible refine Kd.C_alloc ?_ _) | (with_reducible refine Kd.C_drewN ?_ _) | (with_reducible refine Kd.C_drew ?_))); (case side2 => exact HC1.out); rintro e w' ⟨rfl, ⟨nd, rfl⟩⟩; refine ⟨_, rfl, ?_⟩; (try (rw [drewN_self w120]; generalize hq_ : World.drewN w120 _ = w120; have n0_ : Aside0 (w120.heap[gb383]? = some (.cells #[.int .i64 a0_0, .int .i64 a0_1, .int .u32 a0_2, .int .u32 a0_3, .int .u32 a0_4, .bool a0_5] 26 (0, 0))) := ⟨by rw [← hq_]; exact (mvb BK383.out)⟩; have n1_ : Aside0 (w120.heap[gb384]? = some (.cells #[.int .i64 0, .int .u32 0, .int .u32 0, .slice none 0 0] 29 (0, 0))) := ⟨by rw [← hq_]; exact (mvb BK384.out)⟩; have n2_ : Aside0 (Below w.heap.size w w120) := ⟨by rw [← hq_]; exact (by repeat (first | (with_reducible first | exact HB.out | apply hA | apply hN | apply hD | refine below_set ?_ GE383.out | refine below_set ?_ GE384.out) | exact HB.out))⟩; clear BK383 BK384 HB hq_; have BK383 := n0_; have BK384 := n1_; have HB := n2_; clear n0_ n1_ n2_)); obtain ⟨hcz121_0, hcz121_1, hcz121_2, hcz121_3, hfz121_0, hfz121_1, hfz121_2, hfz121_3⟩ := cf4 BK384.out))
    refine bodyPost_ret (results_ct rfl _ _ gb384 29 #[.int .i64 0, .int .u32 0, .int .u32 0, .slice none 0 0] (0, 0) _ rfl (by (with_reducible repeat (first | apply bN | apply bD | apply bA)); refine blk_put (cs := #[.int .i64 0, .int .u32 0, .int .u32 0, .slice none 0 0]) ?_ 3 _ rfl; (with_reducible repeat (first | apply bN | apply bD | apply bA)); refine blk_put (cs := #[.int .i64 0, .int .u32 0, .int .u32 0, .slice none 0 0]) ?_ 2 _ rfl; (with_reducible repeat (first | apply bN | apply bD | apply bA)); refine blk_put (cs := #[.int .i64 0, .int .u32 0, .int .u32 0, .slice none 0 0]) ?_ 1 _ rfl; (with_reducible repeat (first | apply bN | apply bD | apply bA)); refine blk_put (cs := #[.int .i64 0, .int .u32 0, .int .u32 0, .slice none 0 0]) ?_ 0 _ rfl; exact mvb BK384.out) Try.underlying29 rfl (by kernel_rfl)) rfl ?_
    exact ⟨_, by first | rfl | (simp [errW_none, errW_some] <;> rfl) | (simp [*, errW_none, errW_some] <;> rfl), by first | exact Kd.R_nil _ _ _ _ _ | exact Kd.N_nil _ _ _ _ _ | exact Kd.V_nil _ _ _ _ _ | exact Kd.Q_nil _ _ _ _ _ | exact Kd.S_nil _ _ _ _ _, by repeat (first | (with_reducible first | exact HB.out | apply hA | apply hN | apply hD | refine below_set ?_ GE383.out | refine below_set ?_ GE384.out) | exact HB.out)⟩
  ·rw [if_neg c5] at H
   have c5b0 : ((l1.length : Int) == t385) = false := beq_eq_false_iff_ne.mpr c5
   have c5b1 : ((l1.length : Int) != t385) = true := bne_iff_ne.mpr c5
   simp only [Option.some.injEq, Prod.mk.injEq] at H
   obtain ⟨rfl, rfl, rfl, rfl, rfl⟩ := H
   go_enter Try.func22, Try.ntmps22
   go_wp2_with (first | ((with_reducible refine gate_dst (N := 2) rfl ?_); refine box_event ?hg (N := 2) ?hd (cs := #[.int .i64 a0_0, .int .i64 a0_1, .int .u32 a0_2, .int .u32 a0_3, .int .u32 a0_4, .bool a0_5]) (t := 26) ?hr ?_; (case hd => rfl); (case hg => rfl); (case hr => first | (go_simp; done) | (go_simp; rfl)); intro gb383 hg w122 hbox hb; have n0_ := aK (below_step (mvh HB.out) hb); have n1_ := aK (hbox); have n2_ := aK ((by rw [hg]; exact (below_size (mvh HB.out)) : w.heap.size ≤ gb383)); have n3_ := aK ((by rw [hg]; exact (below_size (mvh HB.out)) : w.heap.size ≤ gb383)); clear HB; have HB := n0_; have BK383 := n1_; have GW383 := n2_; have GE383 := n3_; clear n0_ n1_ n2_ n3_; clear hb hbox hg) | ((with_reducible refine gate_dst (N := 4) rfl ?_); refine box_event ?hg (N := 4) ?hd (cs := #[.int .i64 0, .int .u32 0, .int .u32 0, .slice none 0 0]) (t := 29) ?hr ?_; (case hd => rfl); (case hg => rfl); (case hr => first | (go_simp; done) | (go_simp; rfl)); intro gb384 hg w123 hbox hb; have n0_ := aK (kb BK383.out hb); have n1_ := aK (below_step (by repeat (first | (with_reducible first | exact HB.out | apply hA | apply hN | apply hD | refine below_set ?_ GE383.out) | exact HB.out)) hb); have n2_ := aK (hbox); have n3_ := aK ((by rw [hg]; exact (below_size (by repeat (first | (with_reducible first | exact HB.out | apply hA | apply hN | apply hD | refine below_set ?_ GE383.out) | exact HB.out))) : w.heap.size ≤ gb384)); have n4_ := aK ((by rw [hg]; exact (below_size (by repeat (first | (with_reducible first | exact HB.out | apply hA | apply hN | apply hD | refine below_set ?_ GE383.out) | exact HB.out))) : w.heap.size ≤ gb384)); have n5_ := aK ((by rw [hg]; exact Nat.ne_of_lt (kl BK383.out) : gb383 ≠ gb384)); have n6_ := aK ((by rw [hg]; exact Nat.ne_of_gt (kl BK383.out) : gb384 ≠ gb383)); clear BK383 HB; have BK383 := n0_; have HB := n1_; have BK384 := n2_; have GW384 := n3_; have GE384 := n4_; have NB383_384 := n5_; have NB384_383 := n6_; clear n0_ n1_ n2_ n3_ n4_ n5_ n6_; clear hb hbox hg; have hnb124 := NB383_384.out; have hnc124 := NB384_383.out; obtain ⟨hcz125_0, hcz125_1, hcz125_2, hcz125_3, hcz125_4, hcz125_5, hfz125_0, hfz125_1, hfz125_2, hfz125_3, hfz125_4, hfz125_5⟩ := cf6 BK383.out) | ((with_reducible refine gate_callee (f := 12) rfl ?_); refine goesL_ (some 15) rfl rfl Try.func12 (by kernel_rfl) rfl #[.agg #[.int .i64 a0_0, .int .i64 a0_1, .int .u32 a0_2, .int .u32 a0_3, .int .u32 a0_4, .bool a0_5]] rfl (by (try simp only [List.map_toArray, List.map_cons, List.map_nil]) <;> rfl) ?_; (with_reducible refine (outpostref24_Length.calls k a0_0 a0_1 a0_2 a0_3 a0_4 a0_5 t385 t386 _ A3.out).mono ?_); rintro e w126 ⟨rfl, hb⟩; refine ⟨_, rfl, ?_⟩; have n0_ := aK (kb BK383.out hb); have n1_ := aK (kb BK384.out hb); have n2_ := aK (below_step (by repeat (first | (with_reducible first | exact HB.out | apply hA | apply hN | apply hD | refine below_set ?_ GE383.out | refine below_set ?_ GE384.out) | exact HB.out)) hb); clear BK383 BK384 HB; have BK383 := n0_; have BK384 := n1_; have HB := n2_; clear n0_ n1_ n2_; (try clear hb); obtain ⟨hcz127_0, hcz127_1, hcz127_2, hcz127_3, hfz127_0, hfz127_1, hfz127_2, hfz127_3⟩ := cf4 BK384.out))
   refine bodyPost_ret (results_ct rfl _ _ gb384 29 #[.int .i64 0, .int .u32 0, .int .u32 0, .slice none 0 0] (0, 0) _ rfl (by (with_reducible repeat (first | apply bN | apply bD | apply bA)); refine blk_put (cs := #[.int .i64 0, .int .u32 0, .int .u32 0, .slice none 0 0]) ?_ 3 _ rfl; (with_reducible repeat (first | apply bN | apply bD | apply bA)); refine blk_put (cs := #[.int .i64 0, .int .u32 0, .int .u32 0, .slice none 0 0]) ?_ 2 _ rfl; (with_reducible repeat (first | apply bN | apply bD | apply bA)); refine blk_put (cs := #[.int .i64 0, .int .u32 0, .int .u32 0, .slice none 0 0]) ?_ 1 _ rfl; (with_reducible repeat (first | apply bN | apply bD | apply bA)); refine blk_put (cs := #[.int .i64 0, .int .u32 0, .int .u32 0, .slice none 0 0]) ?_ 0 _ rfl; exact mvb BK384.out) Try.underlying29 rfl (by kernel_rfl)) rfl ?_
   exact ⟨_, by first | rfl | (simp [errW_none, errW_some] <;> rfl) | (simp [*, errW_none, errW_some] <;> rfl), by first | exact Kd.R_nil _ _ _ _ _ | exact Kd.N_nil _ _ _ _ _ | exact Kd.V_nil _ _ _ _ _ | exact Kd.Q_nil _ _ _ _ _ | exact Kd.S_nil _ _ _ _ _, by repeat (first | (with_reducible first | exact HB.out | apply hA | apply hN | apply hD | refine below_set ?_ GE383.out | refine below_set ?_ GE384.out) | exact HB.out)⟩
 ·rw [if_neg c4] at H
  have c4b0 : (t386 == 0) = false := beq_eq_false_iff_ne.mpr c4
  have c4b1 : (t386 != 0) = true := bne_iff_ne.mpr c4
  simp only [Option.some.injEq, Prod.mk.injEq] at H
  obtain ⟨rfl, rfl, rfl, rfl, rfl⟩ := H
  go_enter Try.func22, Try.ntmps22
  go_wp2_with (first | ((with_reducible refine gate_dst (N := 2) rfl ?_); refine box_event ?hg (N := 2) ?hd (cs := #[.int .i64 a0_0, .int .i64 a0_1, .int .u32 a0_2, .int .u32 a0_3, .int .u32 a0_4, .bool a0_5]) (t := 26) ?hr ?_; (case hd => rfl); (case hg => rfl); (case hr => first | (go_simp; done) | (go_simp; rfl)); intro gb383 hg w128 hbox hb; have n0_ := aK (below_step (mvh HB.out) hb); have n1_ := aK (hbox); have n2_ := aK ((by rw [hg]; exact (below_size (mvh HB.out)) : w.heap.size ≤ gb383)); have n3_ := aK ((by rw [hg]; exact (below_size (mvh HB.out)) : w.heap.size ≤ gb383)); clear HB; have HB := n0_; have BK383 := n1_; have GW383 := n2_; have GE383 := n3_; clear n0_ n1_ n2_ n3_; clear hb hbox hg) | ((with_reducible refine gate_dst (N := 4) rfl ?_); refine box_event ?hg (N := 4) ?hd (cs := #[.int .i64 0, .int .u32 0, .int .u32 0, .slice none 0 0]) (t := 29) ?hr ?_; (case hd => rfl); (case hg => rfl); (case hr => first | (go_simp; done) | (go_simp; rfl)); intro gb384 hg w129 hbox hb; have n0_ := aK (kb BK383.out hb); have n1_ := aK (below_step (by repeat (first | (with_reducible first | exact HB.out | apply hA | apply hN | apply hD | refine below_set ?_ GE383.out) | exact HB.out)) hb); have n2_ := aK (hbox); have n3_ := aK ((by rw [hg]; exact (below_size (by repeat (first | (with_reducible first | exact HB.out | apply hA | apply hN | apply hD | refine below_set ?_ GE383.out) | exact HB.out))) : w.heap.size ≤ gb384)); have n4_ := aK ((by rw [hg]; exact (below_size (by repeat (first | (with_reducible first | exact HB.out | apply hA | apply hN | apply hD | refine below_set ?_ GE383.out) | exact HB.out))) : w.heap.size ≤ gb384)); have n5_ := aK ((by rw [hg]; exact Nat.ne_of_lt (kl BK383.out) : gb383 ≠ gb384)); have n6_ := aK ((by rw [hg]; exact Nat.ne_of_gt (kl BK383.out) : gb384 ≠ gb383)); clear BK383 HB; have BK383 := n0_; have HB := n1_; have BK384 := n2_; have GW384 := n3_; have GE384 := n4_; have NB383_384 := n5_; have NB384_383 := n6_; clear n0_ n1_ n2_ n3_ n4_ n5_ n6_; clear hb hbox hg; have hnb130 := NB383_384.out; have hnc130 := NB384_383.out; obtain ⟨hcz131_0, hcz131_1, hcz131_2, hcz131_3, hcz131_4, hcz131_5, hfz131_0, hfz131_1, hfz131_2, hfz131_3, hfz131_4, hfz131_5⟩ := cf6 BK383.out) | ((with_reducible refine gate_callee (f := 12) rfl ?_); refine goesL_ (some 15) rfl rfl Try.func12 (by kernel_rfl) rfl #[.agg #[.int .i64 a0_0, .int .i64 a0_1, .int .u32 a0_2, .int .u32 a0_3, .int .u32 a0_4, .bool a0_5]] rfl (by (try simp only [List.map_toArray, List.map_cons, List.map_nil]) <;> rfl) ?_; (with_reducible refine (outpostref24_Length.calls k a0_0 a0_1 a0_2 a0_3 a0_4 a0_5 t385 t386 _ A3.out).mono ?_); rintro e w132 ⟨rfl, hb⟩; refine ⟨_, rfl, ?_⟩; have n0_ := aK (kb BK383.out hb); have n1_ := aK (kb BK384.out hb); have n2_ := aK (below_step (by repeat (first | (with_reducible first | exact HB.out | apply hA | apply hN | apply hD | refine below_set ?_ GE383.out | refine below_set ?_ GE384.out) | exact HB.out)) hb); clear BK383 BK384 HB; have BK383 := n0_; have BK384 := n1_; have HB := n2_; clear n0_ n1_ n2_; (try clear hb); obtain ⟨hcz133_0, hcz133_1, hcz133_2, hcz133_3, hfz133_0, hfz133_1, hfz133_2, hfz133_3⟩ := cf4 BK384.out))
  refine bodyPost_ret (results_ct rfl _ _ gb384 29 #[.int .i64 0, .int .u32 0, .int .u32 0, .slice none 0 0] (0, 0) _ rfl (by (with_reducible repeat (first | apply bN | apply bD | apply bA)); refine blk_put (cs := #[.int .i64 0, .int .u32 0, .int .u32 0, .slice none 0 0]) ?_ 3 _ rfl; (with_reducible repeat (first | apply bN | apply bD | apply bA)); refine blk_put (cs := #[.int .i64 0, .int .u32 0, .int .u32 0, .slice none 0 0]) ?_ 2 _ rfl; (with_reducible repeat (first | apply bN | apply bD | apply bA)); refine blk_put (cs := #[.int .i64 0, .int .u32 0, .int .u32 0, .slice none 0 0]) ?_ 1 _ rfl; (with_reducible repeat (first | apply bN | apply bD | apply bA)); refine blk_put (cs := #[.int .i64 0, .int .u32 0, .int .u32 0, .slice none 0 0]) ?_ 0 _ rfl; exact mvb BK384.out) Try.underlying29 rfl (by kernel_rfl)) rfl ?_
  exact ⟨_, by first | rfl | (simp [errW_none, errW_some] <;> rfl) | (simp [*, errW_none, errW_some] <;> rfl), by first | exact Kd.R_nil _ _ _ _ _ | exact Kd.N_nil _ _ _ _ _ | exact Kd.V_nil _ _ _ _ _ | exact Kd.Q_nil _ _ _ _ _ | exact Kd.S_nil _ _ _ _ _, by repeat (first | (with_reducible first | exact HB.out | apply hA | apply hN | apply hD | refine below_set ?_ GE383.out | refine below_set ?_ GE384.out) | exact HB.out)⟩

end Go.Proofs.Ytaoeehnnboegnaa.P

-- squeezed
