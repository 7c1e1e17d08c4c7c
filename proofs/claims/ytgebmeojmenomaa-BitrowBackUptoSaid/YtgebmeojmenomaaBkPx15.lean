-- written by mk.sh, a program of this session, over the kit's print
import Derived.Test.YtgebmeojmenomaaBkPx0
import Derived.Test.YtgebmeojmenomaaBkPx1
import Derived.Test.YtgebmeojmenomaaBkPx2
import Derived.Test.YtgebmeojmenomaaBkPx3
import Derived.Test.YtgebmeojmenomaaBkPx4
import Derived.Test.YtgebmeojmenomaaBkPx7
import Derived.Test.YtgebmeojmenomaaBkPx9
import Derived.Test.YtgebmeojmenomaaBkPx10
import Derived.Test.YtgebmeojmenomaaBkPx12
import Derived.Test.YtgebmeojmenomaaBkPx14
namespace Go.Proofs.Ytgebmeojmenomaa.P
open Go.RowKit Go.Proofs.YtgebmeojmenomaaW.PrintWords Go.Proofs.YtgebmeojmenomaaW.PrintLast Go.Proofs.YtgebmeojmenomaaW.PrintMore
attribute [local go_sem] max2_int min2_int max_two min_two max_three min_three max_four min_four   -- for this text's walks alone
set_option linter.unusedVariables false
set_option linter.unusedSimpArgs false

/-! ### outpostlaw01_BitrowBack: function 12 -/
mutual
def outpostlaw01_BitrowBack.j0 : Nat → List Int → Int → Int → Int → Bool → Option (Bool)
  | 0, _, _, _, _, _ => none
  | k + 1, x1, x2, x3, x4, x85 => if x85 = true then (some false) else ((outpostlaw01_within.f x3 0 64).bind fun t465 => (if t465 < 64 then (if 0 ≤ (IntKind.u64.wrap (t465)) then (if (shl .u64 1 (IntKind.u64.wrap (t465))) = 0 then (none) else (outpostlaw01_BitrowBack.j1 k x1 (Int.tmod x2 (shl .u64 1 (IntKind.u64.wrap (t465)))) t465 x4)) else (none)) else (outpostlaw01_BitrowBack.j1 k x1 x2 t465 x4)))
def outpostlaw01_BitrowBack.j1 : Nat → List Int → Int → Int → Int → Option (Bool)
  | 0, _, _, _, _ => none
  | k + 1, x1, x2, x3, x4 => (bitrow_Row.f k x2 x3).bind fun bt466 => ((bitrow_Number.f k bt466.1).bind fun bt470 => ((outpostlaw01_num.f bt466.2).bind fun t472 => ((outpostlaw01_num.f bt470.2).bind fun t473 => (if (wrap64 (t472 + t473)) = 0 then (if bt470.1 = x2 then (outpostlaw01_BitrowBack.j2 k x1 x4 ((bt466.1.length : Int) != x3)) else (outpostlaw01_BitrowBack.j2 k x1 x4 true)) else (outpostlaw01_BitrowBack.j2 k x1 x4 true)))))
def outpostlaw01_BitrowBack.j2 : Nat → List Int → Int → Bool → Option (Bool)
  | 0, _, _, _ => none
  | k + 1, x1, x4, x122 => if x122 = true then (some false) else ((outpostlaw01_within.f x4 1 64).bind fun t474 => ((bitrow_Shuffle.f x1 t474).bind fun bt475 => ((bitrow_Unshuffle.f bt475.1 t474).bind fun bt479 => ((bitrow_Unshuffle.f x1 t474).bind fun bt483 => ((bitrow_Shuffle.f bt483.1 t474).bind fun bt487 => ((outpostlaw01_num.f bt475.2).bind fun t491 => ((outpostlaw01_num.f bt479.2).bind fun t492 => ((outpostlaw01_num.f bt483.2).bind fun t493 => ((outpostlaw01_num.f bt487.2).bind fun t494 => (if (wrap64 ((wrap64 ((wrap64 (t491 + t492)) + t493)) + t494)) = 0 then (if (strOfNums bt479.1).toList = (strOfNums x1).toList then (outpostlaw01_BitrowBack.j3 k x1 ((strOfNums bt487.1).toList != (strOfNums x1).toList)) else (outpostlaw01_BitrowBack.j3 k x1 true)) else (outpostlaw01_BitrowBack.j3 k x1 true)))))))))))
def outpostlaw01_BitrowBack.j3 : Nat → List Int → Bool → Option (Bool)
  | 0, _, _ => none
  | k + 1, x1, x174 => if x174 = true then (some false) else ((bitrow_Reverse.f x1).bind fun t495 => ((bitrow_Reverse.f t495).bind fun t498 => ((bitrow_Unweave.f x1 1).bind fun bt501 => ((bitrow_Weave.f k bt501.1).bind fun bt505 => (if (strOfNums t498).toList = (strOfNums x1).toList then ((outpostlaw01_num.f bt501.2).bind fun t509 => ((outpostlaw01_num.f bt505.2).bind fun t510 => (if (wrap64 (t509 + t510)) = 0 then (if (bt501.1.length : Int) = 1 then (some ((strOfNums bt505.1).toList == (strOfNums x1).toList)) else (some false)) else (some false)))) else (some false))))))
end
def outpostlaw01_BitrowBack.f (k : Nat) (l0 : List Int) (l1 : List Int) (a2 : Int) (a3 : Int) (a4 : Int) : Option (Bool) := (outpostlaw01_bits.f k l0).bind fun t441 => ((bitrow_Pack.f k t441).bind fun bt444 => ((bitrow_Unpack.f k bt444.1 (t441.length : Int)).bind fun bt448 => ((bitrow_Unpack.f k l1 (wrap64 (8 * (l1.length : Int)))).bind fun bt452 => ((bitrow_Pack.f k bt452.1).bind fun bt456 => ((outpostlaw01_num.f bt444.2).bind fun t460 => ((outpostlaw01_num.f bt448.2).bind fun t461 => ((outpostlaw01_num.f bt452.2).bind fun t462 => ((outpostlaw01_num.f bt456.2).bind fun t463 => (if (wrap64 ((wrap64 ((wrap64 (t460 + t461)) + t462)) + t463)) = 0 then (if (strOfNums bt448.1).toList = (strOfNums t441).toList then (if (strOfNums bt456.1).toList = (strOfNums l1).toList then ((outpostlaw01_knows.f k).bind fun t464 => (outpostlaw01_BitrowBack.j0 k l1 a2 a3 a4 (!t464))) else (outpostlaw01_BitrowBack.j0 k l1 a2 a3 a4 true)) else (outpostlaw01_BitrowBack.j0 k l1 a2 a3 a4 true)) else (outpostlaw01_BitrowBack.j0 k l1 a2 a3 a4 true))))))))))
theorem outpostlaw01_BitrowBack.mono_l : ∀ k, (∀ y0 y1 y2 y3 y4, LeO (outpostlaw01_BitrowBack.j0 k y0 y1 y2 y3 y4) (outpostlaw01_BitrowBack.j0 (k + 1) y0 y1 y2 y3 y4)) ∧ (∀ y0 y1 y2 y3, LeO (outpostlaw01_BitrowBack.j1 k y0 y1 y2 y3) (outpostlaw01_BitrowBack.j1 (k + 1) y0 y1 y2 y3)) ∧ (∀ y0 y1 y2, LeO (outpostlaw01_BitrowBack.j2 k y0 y1 y2) (outpostlaw01_BitrowBack.j2 (k + 1) y0 y1 y2)) ∧ (∀ y0 y1, LeO (outpostlaw01_BitrowBack.j3 k y0 y1) (outpostlaw01_BitrowBack.j3 (k + 1) y0 y1))
  | 0 => ⟨fun _ _ _ _ _ r h => by simp [outpostlaw01_BitrowBack.j0] at h, fun _ _ _ _ r h => by simp [outpostlaw01_BitrowBack.j1] at h, fun _ _ _ r h => by simp [outpostlaw01_BitrowBack.j2] at h, fun _ _ r h => by simp [outpostlaw01_BitrowBack.j3] at h⟩
  | k + 1 => by
    obtain ⟨ih0, ih1, ih2, ih3⟩ := outpostlaw01_BitrowBack.mono_l k
    refine ⟨?_, ?_, ?_, ?_⟩
    · intro y0 y1 y2 y3 y4
      unfold outpostlaw01_BitrowBack.j0
      repeat' first
      | (with_reducible exact ih0 _ _ _ _ _)
      | (with_reducible exact ih1 _ _ _ _)
      | (with_reducible exact ih2 _ _ _)
      | (with_reducible exact ih3 _ _)
      | (with_reducible exact bitrow_Number.mono _ _)
      | (with_reducible exact bitrow_Pack.mono _ _)
      | (with_reducible exact bitrow_Row.mono _ _ _)
      | (with_reducible exact bitrow_Unpack.mono _ _ _)
      | (with_reducible exact bitrow_Weave.mono _ _)
      | (with_reducible exact outpostlaw01_bits.mono _ _)
      | (with_reducible exact outpostlaw01_knows.mono _)
      | (with_reducible exact LeO.refl _)
      | (with_reducible exact LeO.none _)
      | (with_reducible refine LeO.ite ?_ ?_)
      | (with_reducible refine LeO.bind ?_ (fun _ => ?_))
      | exact ih0 _ _ _ _ _
      | exact ih1 _ _ _ _
      | exact ih2 _ _ _
      | exact ih3 _ _
      | exact bitrow_Number.mono _ _
      | exact bitrow_Pack.mono _ _
      | exact bitrow_Row.mono _ _ _
      | exact bitrow_Unpack.mono _ _ _
      | exact bitrow_Weave.mono _ _
      | exact outpostlaw01_bits.mono _ _
      | exact outpostlaw01_knows.mono _
      | exact LeO.none _
      | refine LeO.ite ?_ ?_
      | refine LeO.bind ?_ (fun _ => ?_)
    · intro y0 y1 y2 y3
      unfold outpostlaw01_BitrowBack.j1
      repeat' first
      | (with_reducible exact ih0 _ _ _ _ _)
      | (with_reducible exact ih1 _ _ _ _)
      | (with_reducible exact ih2 _ _ _)
      | (with_reducible exact ih3 _ _)
      | (with_reducible exact bitrow_Number.mono _ _)
      | (with_reducible exact bitrow_Pack.mono _ _)
      | (with_reducible exact bitrow_Row.mono _ _ _)
      | (with_reducible exact bitrow_Unpack.mono _ _ _)
      | (with_reducible exact bitrow_Weave.mono _ _)
      | (with_reducible exact outpostlaw01_bits.mono _ _)
      | (with_reducible exact outpostlaw01_knows.mono _)
      | (with_reducible exact LeO.refl _)
      | (with_reducible exact LeO.none _)
      | (with_reducible refine LeO.ite ?_ ?_)
      | (with_reducible refine LeO.bind ?_ (fun _ => ?_))
      | exact ih0 _ _ _ _ _
      | exact ih1 _ _ _ _
      | exact ih2 _ _ _
      | exact ih3 _ _
      | exact bitrow_Number.mono _ _
      | exact bitrow_Pack.mono _ _
      | exact bitrow_Row.mono _ _ _
      | exact bitrow_Unpack.mono _ _ _
      | exact bitrow_Weave.mono _ _
      | exact outpostlaw01_bits.mono _ _
      | exact outpostlaw01_knows.mono _
      | exact LeO.none _
      | refine LeO.ite ?_ ?_
      | refine LeO.bind ?_ (fun _ => ?_)
    · intro y0 y1 y2
      unfold outpostlaw01_BitrowBack.j2
      repeat' first
      | (with_reducible exact ih0 _ _ _ _ _)
      | (with_reducible exact ih1 _ _ _ _)
      | (with_reducible exact ih2 _ _ _)
      | (with_reducible exact ih3 _ _)
      | (with_reducible exact bitrow_Number.mono _ _)
      | (with_reducible exact bitrow_Pack.mono _ _)
      | (with_reducible exact bitrow_Row.mono _ _ _)
      | (with_reducible exact bitrow_Unpack.mono _ _ _)
      | (with_reducible exact bitrow_Weave.mono _ _)
      | (with_reducible exact outpostlaw01_bits.mono _ _)
      | (with_reducible exact outpostlaw01_knows.mono _)
      | (with_reducible exact LeO.refl _)
      | (with_reducible exact LeO.none _)
      | (with_reducible refine LeO.ite ?_ ?_)
      | (with_reducible refine LeO.bind ?_ (fun _ => ?_))
      | exact ih0 _ _ _ _ _
      | exact ih1 _ _ _ _
      | exact ih2 _ _ _
      | exact ih3 _ _
      | exact bitrow_Number.mono _ _
      | exact bitrow_Pack.mono _ _
      | exact bitrow_Row.mono _ _ _
      | exact bitrow_Unpack.mono _ _ _
      | exact bitrow_Weave.mono _ _
      | exact outpostlaw01_bits.mono _ _
      | exact outpostlaw01_knows.mono _
      | exact LeO.none _
      | refine LeO.ite ?_ ?_
      | refine LeO.bind ?_ (fun _ => ?_)
    · intro y0 y1
      unfold outpostlaw01_BitrowBack.j3
      repeat' first
      | (with_reducible exact ih0 _ _ _ _ _)
      | (with_reducible exact ih1 _ _ _ _)
      | (with_reducible exact ih2 _ _ _)
      | (with_reducible exact ih3 _ _)
      | (with_reducible exact bitrow_Number.mono _ _)
      | (with_reducible exact bitrow_Pack.mono _ _)
      | (with_reducible exact bitrow_Row.mono _ _ _)
      | (with_reducible exact bitrow_Unpack.mono _ _ _)
      | (with_reducible exact bitrow_Weave.mono _ _)
      | (with_reducible exact outpostlaw01_bits.mono _ _)
      | (with_reducible exact outpostlaw01_knows.mono _)
      | (with_reducible exact LeO.refl _)
      | (with_reducible exact LeO.none _)
      | (with_reducible refine LeO.ite ?_ ?_)
      | (with_reducible refine LeO.bind ?_ (fun _ => ?_))
      | exact ih0 _ _ _ _ _
      | exact ih1 _ _ _ _
      | exact ih2 _ _ _
      | exact ih3 _ _
      | exact bitrow_Number.mono _ _
      | exact bitrow_Pack.mono _ _
      | exact bitrow_Row.mono _ _ _
      | exact bitrow_Unpack.mono _ _ _
      | exact bitrow_Weave.mono _ _
      | exact outpostlaw01_bits.mono _ _
      | exact outpostlaw01_knows.mono _
      | exact LeO.none _
      | refine LeO.ite ?_ ?_
      | refine LeO.bind ?_ (fun _ => ?_)
theorem outpostlaw01_BitrowBack.mono : ∀ a0 a1 a2 a3 a4 k, LeO (outpostlaw01_BitrowBack.f k a0 a1 a2 a3 a4) (outpostlaw01_BitrowBack.f (k + 1) a0 a1 a2 a3 a4) := by
  intro a0 a1 a2 a3 a4 k
  obtain ⟨ih0, ih1, ih2, ih3⟩ := outpostlaw01_BitrowBack.mono_l k
  unfold outpostlaw01_BitrowBack.f
  repeat' first
      | (with_reducible exact ih0 _ _ _ _ _)
      | (with_reducible exact ih1 _ _ _ _)
      | (with_reducible exact ih2 _ _ _)
      | (with_reducible exact ih3 _ _)
      | (with_reducible exact bitrow_Number.mono _ _)
      | (with_reducible exact bitrow_Pack.mono _ _)
      | (with_reducible exact bitrow_Row.mono _ _ _)
      | (with_reducible exact bitrow_Unpack.mono _ _ _)
      | (with_reducible exact bitrow_Weave.mono _ _)
      | (with_reducible exact outpostlaw01_bits.mono _ _)
      | (with_reducible exact outpostlaw01_knows.mono _)
      | (with_reducible exact LeO.refl _)
      | (with_reducible exact LeO.none _)
      | (with_reducible refine LeO.ite ?_ ?_)
      | (with_reducible refine LeO.bind ?_ (fun _ => ?_))
      | exact ih0 _ _ _ _ _
      | exact ih1 _ _ _ _
      | exact ih2 _ _ _
      | exact ih3 _ _
      | exact bitrow_Number.mono _ _
      | exact bitrow_Pack.mono _ _
      | exact bitrow_Row.mono _ _ _
      | exact bitrow_Unpack.mono _ _ _
      | exact bitrow_Weave.mono _ _
      | exact outpostlaw01_bits.mono _ _
      | exact outpostlaw01_knows.mono _
      | exact LeO.none _
      | refine LeO.ite ?_ ?_
      | refine LeO.bind ?_ (fun _ => ?_)
set_option maxHeartbeats 8000000 in
set_option maxRecDepth 100000 in
theorem outpostlaw01_BitrowBack.calls (k : Nat) (A0 : Option Addr) (c0 : Nat) (l0 : List Int) (A1 : Option Addr) (c1 : Nat) (l1 : List Int) (a2 : Int) (a3 : Int) (a4 : Int) (r : Bool) (w : World) (hr0 : Kd.C (Kd.int .u8) w A0 l0.length l0) (hc0 : l0.length ≤ c0) (hr1 : Kd.C (Kd.int .u8) w A1 l1.length l1) (hc1 : l1.length ≤ c1) (h : outpostlaw01_BitrowBack.f k l0 l1 a2 a3 a4 = some r) :
    Calls Try.prog 12 #[.slice A0 l0.length c0, .slice A1 l1.length c1, .int .u64 a2, .int .i64 a3, .int .i64 a4] w fun e w' => e = .returned (.bool r) ∧ Below w.heap.size w w' := by
  have HR0 := Aside0.mk hr0
  have HC0 := Aside0.mk hc0
  clear hr0 hc0
  have HR1 := Aside0.mk hr1
  have HC1 := Aside0.mk hc1
  clear hr1 hc1
  have HB := Aside0.mk (Below.refl w.heap.size w)
  have H : ((outpostlaw01_bits.f k l0).bind fun t441 => ((bitrow_Pack.f k t441).bind fun bt444 => ((bitrow_Unpack.f k bt444.1 (t441.length : Int)).bind fun bt448 => ((bitrow_Unpack.f k l1 (wrap64 (8 * (l1.length : Int)))).bind fun bt452 => ((bitrow_Pack.f k bt452.1).bind fun bt456 => ((outpostlaw01_num.f bt444.2).bind fun t460 => ((outpostlaw01_num.f bt448.2).bind fun t461 => ((outpostlaw01_num.f bt452.2).bind fun t462 => ((outpostlaw01_num.f bt456.2).bind fun t463 => (if (wrap64 ((wrap64 ((wrap64 (t460 + t461)) + t462)) + t463)) = 0 then (if (strOfNums bt448.1).toList = (strOfNums t441).toList then (if (strOfNums bt456.1).toList = (strOfNums l1).toList then ((outpostlaw01_knows.f k).bind fun t464 => (outpostlaw01_BitrowBack.j0 k l1 a2 a3 a4 (!t464))) else (outpostlaw01_BitrowBack.j0 k l1 a2 a3 a4 true)) else (outpostlaw01_BitrowBack.j0 k l1 a2 a3 a4 true)) else (outpostlaw01_BitrowBack.j0 k l1 a2 a3 a4 true))))))))))) = some r := h
  clear h
  replace H := Option.bind_eq_some_iff.mp H
  obtain ⟨t441, A60, H⟩ := H
  replace H : ((bitrow_Pack.f k t441).bind fun bt444 => ((bitrow_Unpack.f k bt444.1 (t441.length : Int)).bind fun bt448 => ((bitrow_Unpack.f k l1 (wrap64 (8 * (l1.length : Int)))).bind fun bt452 => ((bitrow_Pack.f k bt452.1).bind fun bt456 => ((outpostlaw01_num.f bt444.2).bind fun t460 => ((outpostlaw01_num.f bt448.2).bind fun t461 => ((outpostlaw01_num.f bt452.2).bind fun t462 => ((outpostlaw01_num.f bt456.2).bind fun t463 => (if (wrap64 ((wrap64 ((wrap64 (t460 + t461)) + t462)) + t463)) = 0 then (if (strOfNums bt448.1).toList = (strOfNums t441).toList then (if (strOfNums bt456.1).toList = (strOfNums l1).toList then ((outpostlaw01_knows.f k).bind fun t464 => (outpostlaw01_BitrowBack.j0 k l1 a2 a3 a4 (!t464))) else (outpostlaw01_BitrowBack.j0 k l1 a2 a3 a4 true)) else (outpostlaw01_BitrowBack.j0 k l1 a2 a3 a4 true)) else (outpostlaw01_BitrowBack.j0 k l1 a2 a3 a4 true)))))))))) = some r := H
  have A6 := Aside0.mk A60
  clear A60
  replace H := Option.bind_eq_some_iff.mp H
  obtain ⟨⟨t444, t445⟩, A70, H⟩ := H
  replace H : ((bitrow_Unpack.f k t444 (t441.length : Int)).bind fun bt448 => ((bitrow_Unpack.f k l1 (wrap64 (8 * (l1.length : Int)))).bind fun bt452 => ((bitrow_Pack.f k bt452.1).bind fun bt456 => ((outpostlaw01_num.f t445).bind fun t460 => ((outpostlaw01_num.f bt448.2).bind fun t461 => ((outpostlaw01_num.f bt452.2).bind fun t462 => ((outpostlaw01_num.f bt456.2).bind fun t463 => (if (wrap64 ((wrap64 ((wrap64 (t460 + t461)) + t462)) + t463)) = 0 then (if (strOfNums bt448.1).toList = (strOfNums t441).toList then (if (strOfNums bt456.1).toList = (strOfNums l1).toList then ((outpostlaw01_knows.f k).bind fun t464 => (outpostlaw01_BitrowBack.j0 k l1 a2 a3 a4 (!t464))) else (outpostlaw01_BitrowBack.j0 k l1 a2 a3 a4 true)) else (outpostlaw01_BitrowBack.j0 k l1 a2 a3 a4 true)) else (outpostlaw01_BitrowBack.j0 k l1 a2 a3 a4 true))))))))) = some r := H
  have A7 := Aside0.mk A70
  clear A70
  replace H := Option.bind_eq_some_iff.mp H
  obtain ⟨⟨t448, t449⟩, A80, H⟩ := H
  replace H : ((bitrow_Unpack.f k l1 (wrap64 (8 * (l1.length : Int)))).bind fun bt452 => ((bitrow_Pack.f k bt452.1).bind fun bt456 => ((outpostlaw01_num.f t445).bind fun t460 => ((outpostlaw01_num.f t449).bind fun t461 => ((outpostlaw01_num.f bt452.2).bind fun t462 => ((outpostlaw01_num.f bt456.2).bind fun t463 => (if (wrap64 ((wrap64 ((wrap64 (t460 + t461)) + t462)) + t463)) = 0 then (if (strOfNums t448).toList = (strOfNums t441).toList then (if (strOfNums bt456.1).toList = (strOfNums l1).toList then ((outpostlaw01_knows.f k).bind fun t464 => (outpostlaw01_BitrowBack.j0 k l1 a2 a3 a4 (!t464))) else (outpostlaw01_BitrowBack.j0 k l1 a2 a3 a4 true)) else (outpostlaw01_BitrowBack.j0 k l1 a2 a3 a4 true)) else (outpostlaw01_BitrowBack.j0 k l1 a2 a3 a4 true)))))))) = some r := H
  have A8 := Aside0.mk A80
  clear A80
  replace H := Option.bind_eq_some_iff.mp H
  obtain ⟨⟨t452, t453⟩, A90, H⟩ := H
  replace H : ((bitrow_Pack.f k t452).bind fun bt456 => ((outpostlaw01_num.f t445).bind fun t460 => ((outpostlaw01_num.f t449).bind fun t461 => ((outpostlaw01_num.f t453).bind fun t462 => ((outpostlaw01_num.f bt456.2).bind fun t463 => (if (wrap64 ((wrap64 ((wrap64 (t460 + t461)) + t462)) + t463)) = 0 then (if (strOfNums t448).toList = (strOfNums t441).toList then (if (strOfNums bt456.1).toList = (strOfNums l1).toList then ((outpostlaw01_knows.f k).bind fun t464 => (outpostlaw01_BitrowBack.j0 k l1 a2 a3 a4 (!t464))) else (outpostlaw01_BitrowBack.j0 k l1 a2 a3 a4 true)) else (outpostlaw01_BitrowBack.j0 k l1 a2 a3 a4 true)) else (outpostlaw01_BitrowBack.j0 k l1 a2 a3 a4 true))))))) = some r := H
  have A9 := Aside0.mk A90
  clear A90
  replace H := Option.bind_eq_some_iff.mp H
  obtain ⟨⟨t456, t457⟩, A100, H⟩ := H
  replace H : ((outpostlaw01_num.f t445).bind fun t460 => ((outpostlaw01_num.f t449).bind fun t461 => ((outpostlaw01_num.f t453).bind fun t462 => ((outpostlaw01_num.f t457).bind fun t463 => (if (wrap64 ((wrap64 ((wrap64 (t460 + t461)) + t462)) + t463)) = 0 then (if (strOfNums t448).toList = (strOfNums t441).toList then (if (strOfNums t456).toList = (strOfNums l1).toList then ((outpostlaw01_knows.f k).bind fun t464 => (outpostlaw01_BitrowBack.j0 k l1 a2 a3 a4 (!t464))) else (outpostlaw01_BitrowBack.j0 k l1 a2 a3 a4 true)) else (outpostlaw01_BitrowBack.j0 k l1 a2 a3 a4 true)) else (outpostlaw01_BitrowBack.j0 k l1 a2 a3 a4 true)))))) = some r := H
  have A10 := Aside0.mk A100
  clear A100
  have HC11 := Aside0.mk H
  clear H
  go_enter Try.func12, Try.ntmps12
  go_upto_region 6 with (first | ((with_reducible refine gate_callee (f := 46) rfl ?_); refine goesL_ (some 30) rfl rfl Try.func46 (by kernel_rfl) rfl #[.slice A0 l0.length c0] rfl (by (try simp only [List.map_toArray, List.map_cons, List.map_nil]); first | done | rfl | (simp only [List.length_drop, List.length_take]; rfl)) ?_; (with_reducible refine (outpostlaw01_bits.calls k _ _ l0 t441 _ ?side1 ?side2 A6.out).mono ?_); (case side1 => repeat (first | exact HR0.out | (with_reducible refine Kd.C_alloc ?_ _) | (with_reducible refine Kd.C_drewN ?_ _) | (with_reducible refine Kd.C_drew ?_))); (case side2 => exact HC0.out); rintro e w12 ⟨v442, rfl, ho0, hb⟩; refine ⟨_, rfl, ?_⟩; have n0_ := Aside0.mk (Kd.R_lower ho0 (below_size (by repeat (first | (with_reducible first | exact HB.out | apply below_alloc | apply pw_below_drewN | apply below_drew1) | exact HB.out)))); have n1_ := Aside0.mk (below_step (by repeat (first | (with_reducible first | exact HB.out | apply below_alloc | apply pw_below_drewN | apply below_drew1) | exact HB.out)) hb); clear HB; have HO443 := n0_; have HB := n1_; clear n0_ n1_; (try clear hb); (try clear hb2); (try clear hk); (try clear hi); (try clear ho0); obtain ⟨Ao13, co13, eo13⟩ := Kd.R_slice HO443.out; subst eo13) | ((with_reducible refine gate_callee (f := 16) rfl ?_); refine goesL_ (some 33) rfl rfl Try.func16 (by kernel_rfl) rfl #[.slice Ao13 t441.length co13] rfl (by (try simp only [List.map_toArray, List.map_cons, List.map_nil]); first | done | rfl | (simp only [List.length_drop, List.length_take]; rfl)) ?_; (with_reducible refine (bitrow_Pack.calls k _ _ t441 t444 t445 _ ?side1 ?side2 A7.out).mono ?_); (case side1 => repeat (first | exact (Kd.R_reads' HO443.out).2.2 | (with_reducible refine Kd.C_alloc ?_ _) | (with_reducible refine Kd.C_drewN ?_ _) | (with_reducible refine Kd.C_drew ?_))); (case side2 => exact (Kd.R_reads' HO443.out).2.1); rintro e w14 ⟨v446, rfl, ho0, hb⟩; refine ⟨_, rfl, ?_⟩; have n0_ := Aside0.mk (Kd.R_elder' (by (with_reducible repeat (first | apply Kd.R_alloc | apply Kd.R_drewN | apply Kd.R_drew)); exact HO443.out) (Kd.R_base ho0) hb); have n1_ := Aside0.mk (Kd.R_lower (Kd.R_new' ho0 (Kd.R_lt (by (with_reducible repeat (first | apply Kd.R_alloc | apply Kd.R_drewN | apply Kd.R_drew)); exact HO443.out))) (below_size (by repeat (first | (with_reducible first | exact HB.out | apply below_alloc | apply pw_below_drewN | apply below_drew1) | exact HB.out)))); have n2_ := Aside0.mk (below_step (by repeat (first | (with_reducible first | exact HB.out | apply below_alloc | apply pw_below_drewN | apply below_drew1) | exact HB.out)) hb); clear HO443; clear HB; have HO443 := n0_; have HO447 := n1_; have HB := n2_; clear n0_ n1_ n2_; (try clear hb); (try clear hb2); (try clear hk); (try clear hi); (try clear ho0); obtain ⟨Ao15, co15, eo15⟩ := Kd.R_slice HO447.out; subst eo15) | ((with_reducible refine gate_callee (f := 23) rfl ?_); refine goesL_ (some 40) rfl rfl Try.func23 (by kernel_rfl) rfl #[.slice Ao15 t444.length co15, .int .i64 (t441.length : Int)] rfl (by (try simp only [List.map_toArray, List.map_cons, List.map_nil]); first | done | rfl | (simp only [List.length_drop, List.length_take]; rfl)) ?_; (with_reducible refine (bitrow_Unpack.calls k _ _ t444 (t441.length : Int) t448 t449 _ ?side1 ?side2 A8.out).mono ?_); (case side1 => repeat (first | exact (Kd.R_reads' HO447.out).2.2 | (with_reducible refine Kd.C_alloc ?_ _) | (with_reducible refine Kd.C_drewN ?_ _) | (with_reducible refine Kd.C_drew ?_))); (case side2 => exact (Kd.R_reads' HO447.out).2.1); rintro e w16 ⟨v450, rfl, ho0, hb⟩; refine ⟨_, rfl, ?_⟩; have n0_ := Aside0.mk (Kd.R_elder' (by (with_reducible repeat (first | apply Kd.R_alloc | apply Kd.R_drewN | apply Kd.R_drew)); exact HO443.out) (Kd.R_base ho0) hb); have n1_ := Aside0.mk (Kd.R_elder' (by (with_reducible repeat (first | apply Kd.R_alloc | apply Kd.R_drewN | apply Kd.R_drew)); exact HO447.out) (Kd.R_base ho0) hb); have n2_ := Aside0.mk (Kd.R_lower (Kd.R_new' (Kd.R_new' ho0 (Kd.R_lt (by (with_reducible repeat (first | apply Kd.R_alloc | apply Kd.R_drewN | apply Kd.R_drew)); exact HO443.out))) (Kd.R_lt (by (with_reducible repeat (first | apply Kd.R_alloc | apply Kd.R_drewN | apply Kd.R_drew)); exact HO447.out))) (below_size (by repeat (first | (with_reducible first | exact HB.out | apply below_alloc | apply pw_below_drewN | apply below_drew1) | exact HB.out)))); have n3_ := Aside0.mk (below_step (by repeat (first | (with_reducible first | exact HB.out | apply below_alloc | apply pw_below_drewN | apply below_drew1) | exact HB.out)) hb); clear HO443; clear HO447; clear HB; have HO443 := n0_; have HO447 := n1_; have HO451 := n2_; have HB := n3_; clear n0_ n1_ n2_ n3_; (try clear hb); (try clear hb2); (try clear hk); (try clear hi); (try clear ho0)) | ((with_reducible refine gate_callee (f := 23) rfl ?_); refine goesL_ (some 48) rfl rfl Try.func23 (by kernel_rfl) rfl #[.slice A1 l1.length c1, .int .i64 (wrap64 (8 * (l1.length : Int)))] rfl (by (try simp only [List.map_toArray, List.map_cons, List.map_nil]); first | done | rfl | (simp only [List.length_drop, List.length_take]; rfl)) ?_; (with_reducible refine (bitrow_Unpack.calls k _ _ l1 (wrap64 (8 * (l1.length : Int))) t452 t453 _ ?side1 ?side2 A9.out).mono ?_); (case side1 => repeat (first | exact (Kd.C_below HR1.out HB.out) | (with_reducible refine Kd.C_alloc ?_ _) | (with_reducible refine Kd.C_drewN ?_ _) | (with_reducible refine Kd.C_drew ?_))); (case side2 => exact HC1.out); rintro e w17 ⟨v454, rfl, ho0, hb⟩; refine ⟨_, rfl, ?_⟩; have n0_ := Aside0.mk (Kd.R_elder' (by (with_reducible repeat (first | apply Kd.R_alloc | apply Kd.R_drewN | apply Kd.R_drew)); exact HO443.out) (Kd.R_base ho0) hb); have n1_ := Aside0.mk (Kd.R_elder' (by (with_reducible repeat (first | apply Kd.R_alloc | apply Kd.R_drewN | apply Kd.R_drew)); exact HO447.out) (Kd.R_base ho0) hb); have n2_ := Aside0.mk (Kd.R_elder' (by (with_reducible repeat (first | apply Kd.R_alloc | apply Kd.R_drewN | apply Kd.R_drew)); exact HO451.out) (Kd.R_base ho0) hb); have n3_ := Aside0.mk (Kd.R_lower (Kd.R_new' (Kd.R_new' (Kd.R_new' ho0 (Kd.R_lt (by (with_reducible repeat (first | apply Kd.R_alloc | apply Kd.R_drewN | apply Kd.R_drew)); exact HO443.out))) (Kd.R_lt (by (with_reducible repeat (first | apply Kd.R_alloc | apply Kd.R_drewN | apply Kd.R_drew)); exact HO447.out))) (Kd.R_lt (by (with_reducible repeat (first | apply Kd.R_alloc | apply Kd.R_drewN | apply Kd.R_drew)); exact HO451.out))) (below_size (by repeat (first | (with_reducible first | exact HB.out | apply below_alloc | apply pw_below_drewN | apply below_drew1) | exact HB.out)))); have n4_ := Aside0.mk (below_step (by repeat (first | (with_reducible first | exact HB.out | apply below_alloc | apply pw_below_drewN | apply below_drew1) | exact HB.out)) hb); clear HO443; clear HO447; clear HO451; clear HB; have HO443 := n0_; have HO447 := n1_; have HO451 := n2_; have HO455 := n3_; have HB := n4_; clear n0_ n1_ n2_ n3_ n4_; (try clear hb); (try clear hb2); (try clear hk); (try clear hi); (try clear ho0); obtain ⟨Ao18, co18, eo18⟩ := Kd.R_slice HO455.out; subst eo18) | ((with_reducible refine gate_callee (f := 16) rfl ?_); refine goesL_ (some 53) rfl rfl Try.func16 (by kernel_rfl) rfl #[.slice Ao18 t452.length co18] rfl (by (try simp only [List.map_toArray, List.map_cons, List.map_nil]); first | done | rfl | (simp only [List.length_drop, List.length_take]; rfl)) ?_; (with_reducible refine (bitrow_Pack.calls k _ _ t452 t456 t457 _ ?side1 ?side2 A10.out).mono ?_); (case side1 => repeat (first | exact (Kd.R_reads' HO455.out).2.2 | (with_reducible refine Kd.C_alloc ?_ _) | (with_reducible refine Kd.C_drewN ?_ _) | (with_reducible refine Kd.C_drew ?_))); (case side2 => exact (Kd.R_reads' HO455.out).2.1); rintro e w19 ⟨v458, rfl, ho0, hb⟩; refine ⟨_, rfl, ?_⟩; have n0_ := Aside0.mk (Kd.R_elder' (by (with_reducible repeat (first | apply Kd.R_alloc | apply Kd.R_drewN | apply Kd.R_drew)); exact HO443.out) (Kd.R_base ho0) hb); have n1_ := Aside0.mk (Kd.R_elder' (by (with_reducible repeat (first | apply Kd.R_alloc | apply Kd.R_drewN | apply Kd.R_drew)); exact HO447.out) (Kd.R_base ho0) hb); have n2_ := Aside0.mk (Kd.R_elder' (by (with_reducible repeat (first | apply Kd.R_alloc | apply Kd.R_drewN | apply Kd.R_drew)); exact HO451.out) (Kd.R_base ho0) hb); have n3_ := Aside0.mk (Kd.R_elder' (by (with_reducible repeat (first | apply Kd.R_alloc | apply Kd.R_drewN | apply Kd.R_drew)); exact HO455.out) (Kd.R_base ho0) hb); have n4_ := Aside0.mk (Kd.R_lower (Kd.R_new' (Kd.R_new' (Kd.R_new' (Kd.R_new' ho0 (Kd.R_lt (by (with_reducible repeat (first | apply Kd.R_alloc | apply Kd.R_drewN | apply Kd.R_drew)); exact HO443.out))) (Kd.R_lt (by (with_reducible repeat (first | apply Kd.R_alloc | apply Kd.R_drewN | apply Kd.R_drew)); exact HO447.out))) (Kd.R_lt (by (with_reducible repeat (first | apply Kd.R_alloc | apply Kd.R_drewN | apply Kd.R_drew)); exact HO451.out))) (Kd.R_lt (by (with_reducible repeat (first | apply Kd.R_alloc | apply Kd.R_drewN | apply Kd.R_drew)); exact HO455.out))) (below_size (by repeat (first | (with_reducible first | exact HB.out | apply below_alloc | apply pw_below_drewN | apply below_drew1) | exact HB.out)))); have n5_ := Aside0.mk (below_step (by repeat (first | (with_reducible first | exact HB.out | apply below_alloc | apply pw_below_drewN | apply below_drew1) | exact HB.out)) hb); clear HO443; clear HO447; clear HO451; clear HO455; clear HB; have HO443 := n0_; have HO447 := n1_; have HO451 := n2_; have HO455 := n3_; have HO459 := n4_; have HB := n5_; clear n0_ n1_ n2_ n3_ n4_ n5_; (try clear hb); (try clear hb2); (try clear hk); (try clear hi); (try clear ho0)))
  (try simp only [Act.put, List.setIfInBounds_toArray, List.set_cons_zero, List.set_cons_succ])
  go_cut [85] (fun v85 wc => ∃ (kq : Nat) (x85_10 : Bool), v85 = .bool x85_10 ∧ Aside0 (outpostlaw01_BitrowBack.j0 kq l1 a2 a3 a4 x85_10 = some r) ∧ Aside0 (kq ≤ k) ∧ Aside0 (Below w.heap.size w wc))
  case first => as_aux_lemma =>
    have H := HC11.out
    clear HC11
    replace H := Option.bind_eq_some_iff.mp H
    obtain ⟨t460, A200, H⟩ := H
    replace H : ((outpostlaw01_num.f t449).bind fun t461 => ((outpostlaw01_num.f t453).bind fun t462 => ((outpostlaw01_num.f t457).bind fun t463 => (if (wrap64 ((wrap64 ((wrap64 (t460 + t461)) + t462)) + t463)) = 0 then (if (strOfNums t448).toList = (strOfNums t441).toList then (if (strOfNums t456).toList = (strOfNums l1).toList then ((outpostlaw01_knows.f k).bind fun t464 => (outpostlaw01_BitrowBack.j0 k l1 a2 a3 a4 (!t464))) else (outpostlaw01_BitrowBack.j0 k l1 a2 a3 a4 true)) else (outpostlaw01_BitrowBack.j0 k l1 a2 a3 a4 true)) else (outpostlaw01_BitrowBack.j0 k l1 a2 a3 a4 true))))) = some r := H
    have A20 := Aside0.mk A200
    clear A200
    replace H := Option.bind_eq_some_iff.mp H
    obtain ⟨t461, A210, H⟩ := H
    replace H : ((outpostlaw01_num.f t453).bind fun t462 => ((outpostlaw01_num.f t457).bind fun t463 => (if (wrap64 ((wrap64 ((wrap64 (t460 + t461)) + t462)) + t463)) = 0 then (if (strOfNums t448).toList = (strOfNums t441).toList then (if (strOfNums t456).toList = (strOfNums l1).toList then ((outpostlaw01_knows.f k).bind fun t464 => (outpostlaw01_BitrowBack.j0 k l1 a2 a3 a4 (!t464))) else (outpostlaw01_BitrowBack.j0 k l1 a2 a3 a4 true)) else (outpostlaw01_BitrowBack.j0 k l1 a2 a3 a4 true)) else (outpostlaw01_BitrowBack.j0 k l1 a2 a3 a4 true)))) = some r := H
    have A21 := Aside0.mk A210
    clear A210
    replace H := Option.bind_eq_some_iff.mp H
    obtain ⟨t462, A220, H⟩ := H
    replace H : ((outpostlaw01_num.f t457).bind fun t463 => (if (wrap64 ((wrap64 ((wrap64 (t460 + t461)) + t462)) + t463)) = 0 then (if (strOfNums t448).toList = (strOfNums t441).toList then (if (strOfNums t456).toList = (strOfNums l1).toList then ((outpostlaw01_knows.f k).bind fun t464 => (outpostlaw01_BitrowBack.j0 k l1 a2 a3 a4 (!t464))) else (outpostlaw01_BitrowBack.j0 k l1 a2 a3 a4 true)) else (outpostlaw01_BitrowBack.j0 k l1 a2 a3 a4 true)) else (outpostlaw01_BitrowBack.j0 k l1 a2 a3 a4 true))) = some r := H
    have A22 := Aside0.mk A220
    clear A220
    replace H := Option.bind_eq_some_iff.mp H
    obtain ⟨t463, A230, H⟩ := H
    replace H : (if (wrap64 ((wrap64 ((wrap64 (t460 + t461)) + t462)) + t463)) = 0 then (if (strOfNums t448).toList = (strOfNums t441).toList then (if (strOfNums t456).toList = (strOfNums l1).toList then ((outpostlaw01_knows.f k).bind fun t464 => (outpostlaw01_BitrowBack.j0 k l1 a2 a3 a4 (!t464))) else (outpostlaw01_BitrowBack.j0 k l1 a2 a3 a4 true)) else (outpostlaw01_BitrowBack.j0 k l1 a2 a3 a4 true)) else (outpostlaw01_BitrowBack.j0 k l1 a2 a3 a4 true)) = some r := H
    have A23 := Aside0.mk A230
    clear A230
    by_cases c24 : (wrap64 ((wrap64 ((wrap64 (t460 + t461)) + t462)) + t463)) = 0
    · rw [if_pos c24] at H
      have c24b0 : ((wrap64 ((wrap64 ((wrap64 (t460 + t461)) + t462)) + t463)) == 0) = true := beq_iff_eq.mpr c24
      have c24b1 : ((wrap64 ((wrap64 ((wrap64 (t460 + t461)) + t462)) + t463)) != 0) = false := bne_eq_false_iff_eq.mpr c24
      clear c24
      (first | rw [c24b0] | (simp only [i64_w, i32_w]; rw [c24b0]) | skip)
      by_cases c25 : (strOfNums t448).toList = (strOfNums t441).toList
      · rw [if_pos c25] at H
        have c25b0 : ((strOfNums t448).toList == (strOfNums t441).toList) = true := beq_iff_eq.mpr c25
        have c25b1 : ((strOfNums t448).toList != (strOfNums t441).toList) = false := bne_eq_false_iff_eq.mpr c25
        clear c25
        by_cases c26 : (strOfNums t456).toList = (strOfNums l1).toList
        · rw [if_pos c26] at H
          have c26b0 : ((strOfNums t456).toList == (strOfNums l1).toList) = true := beq_iff_eq.mpr c26
          have c26b1 : ((strOfNums t456).toList != (strOfNums l1).toList) = false := bne_eq_false_iff_eq.mpr c26
          clear c26
          replace H := Option.bind_eq_some_iff.mp H
          obtain ⟨t464, A270, H⟩ := H
          replace H : (outpostlaw01_BitrowBack.j0 k l1 a2 a3 a4 (!t464)) = some r := H
          have A27 := Aside0.mk A270
          clear A270
          have H' := Aside0.mk H
          clear H
          go_wp2_with (first | ((with_reducible refine gate_callee (f := 19) rfl ?_); refine goesL_ (some 57) rfl rfl Try.func19 (by kernel_rfl) rfl #[.int .i64 t445] rfl (by (try simp only [List.map_toArray, List.map_cons, List.map_nil]); first | done | rfl | (simp only [List.length_drop, List.length_take]; rfl)) ?_; (with_reducible refine (outpostlaw01_num.calls t445 t460 _ A20.out).mono ?_); rintro e w' ⟨rfl, ⟨nd, rfl⟩⟩; refine ⟨_, rfl, ?_⟩) | ((with_reducible refine gate_callee (f := 19) rfl ?_); refine goesL_ (some 59) rfl rfl Try.func19 (by kernel_rfl) rfl #[.int .i64 t449] rfl (by (try simp only [List.map_toArray, List.map_cons, List.map_nil]); first | done | rfl | (simp only [List.length_drop, List.length_take]; rfl)) ?_; (with_reducible refine (outpostlaw01_num.calls t449 t461 _ A21.out).mono ?_); rintro e w' ⟨rfl, ⟨nd, rfl⟩⟩; refine ⟨_, rfl, ?_⟩) | ((with_reducible refine gate_callee (f := 19) rfl ?_); refine goesL_ (some 62) rfl rfl Try.func19 (by kernel_rfl) rfl #[.int .i64 t453] rfl (by (try simp only [List.map_toArray, List.map_cons, List.map_nil]); first | done | rfl | (simp only [List.length_drop, List.length_take]; rfl)) ?_; (with_reducible refine (outpostlaw01_num.calls t453 t462 _ A22.out).mono ?_); rintro e w' ⟨rfl, ⟨nd, rfl⟩⟩; refine ⟨_, rfl, ?_⟩) | ((with_reducible refine gate_callee (f := 19) rfl ?_); refine goesL_ (some 65) rfl rfl Try.func19 (by kernel_rfl) rfl #[.int .i64 t457] rfl (by (try simp only [List.map_toArray, List.map_cons, List.map_nil]); first | done | rfl | (simp only [List.length_drop, List.length_take]; rfl)) ?_; (with_reducible refine (outpostlaw01_num.calls t457 t463 _ A23.out).mono ?_); rintro e w' ⟨rfl, ⟨nd, rfl⟩⟩; refine ⟨_, rfl, ?_⟩; have hcv28 := own_string (P := Try.prog) Try.underlying22 Try.underlying5 Try.underlying9 (Kd.own_of_R HO451.out); have hcv29 := fun n_ => own_string (P := Try.prog) Try.underlying22 Try.underlying5 Try.underlying9 (Kd.own_of_R (Kd.R_drewN HO451.out n_)); have hcv30 := own_string (P := Try.prog) Try.underlying22 Try.underlying5 Try.underlying9 (Kd.own_of_R HO443.out); have hcv31 := fun n_ => own_string (P := Try.prog) Try.underlying22 Try.underlying5 Try.underlying9 (Kd.own_of_R (Kd.R_drewN HO443.out n_)); have hcv32 := own_string (P := Try.prog) Try.underlying22 Try.underlying5 Try.underlying9 (Kd.own_of_R HO459.out); have hcv33 := fun n_ => own_string (P := Try.prog) Try.underlying22 Try.underlying5 Try.underlying9 (Kd.own_of_R (Kd.R_drewN HO459.out n_)); have hcv34 := Kd.C_string (P := Try.prog) (A := A1) (c := c1) Try.underlying22 Try.underlying5 Try.underlying9 (Kd.C_below HR1.out HB.out); have hcv35 := fun n_ => Kd.C_string (P := Try.prog) (A := A1) (c := c1) Try.underlying22 Try.underlying5 Try.underlying9 (Kd.C_drewN (Kd.C_below HR1.out HB.out) n_)) | (go_at_call 21; (with_reducible refine (outpostlaw01_knows.calls k  t464 _ A27.out).mono ?_); rintro e w36 ⟨rfl, hb⟩; have n0_ := Aside0.mk (Kd.R_below (by (with_reducible repeat (first | apply Kd.R_alloc | apply Kd.R_drewN | apply Kd.R_drew)); exact HO443.out) hb); have n1_ := Aside0.mk (Kd.R_below (by (with_reducible repeat (first | apply Kd.R_alloc | apply Kd.R_drewN | apply Kd.R_drew)); exact HO447.out) hb); have n2_ := Aside0.mk (Kd.R_below (by (with_reducible repeat (first | apply Kd.R_alloc | apply Kd.R_drewN | apply Kd.R_drew)); exact HO451.out) hb); have n3_ := Aside0.mk (Kd.R_below (by (with_reducible repeat (first | apply Kd.R_alloc | apply Kd.R_drewN | apply Kd.R_drew)); exact HO455.out) hb); have n4_ := Aside0.mk (Kd.R_below (by (with_reducible repeat (first | apply Kd.R_alloc | apply Kd.R_drewN | apply Kd.R_drew)); exact HO459.out) hb); have n5_ := Aside0.mk (below_step (by repeat (first | (with_reducible first | exact HB.out | apply below_alloc | apply pw_below_drewN | apply below_drew1) | exact HB.out)) hb); clear HO443; clear HO447; clear HO451; clear HO455; clear HO459; clear HB; have HO443 := n0_; have HO447 := n1_; have HO451 := n2_; have HO455 := n3_; have HO459 := n4_; have HB := n5_; clear n0_ n1_ n2_ n3_ n4_ n5_; (try clear hb); (try clear hb2); (try clear hk); (try clear hi)))
          go_meet
          case rel => exact ⟨_, (!t464), (by first | rfl | (simp; done) | (simp [*]; done) | (simp [wrap64]; done)), H', ⟨by first | omega | exact Nat.le_refl _⟩, ⟨by repeat (first | (with_reducible first | exact HB.out | apply below_alloc | apply pw_below_drewN | apply below_drew1) | exact HB.out)⟩⟩
        · rw [if_neg c26] at H
          have c26b0 : ((strOfNums t456).toList == (strOfNums l1).toList) = false := beq_eq_false_iff_ne.mpr c26
          have c26b1 : ((strOfNums t456).toList != (strOfNums l1).toList) = true := bne_iff_ne.mpr c26
          have H' := Aside0.mk H
          clear H
          go_wp2_with (first | ((with_reducible refine gate_callee (f := 19) rfl ?_); refine goesL_ (some 57) rfl rfl Try.func19 (by kernel_rfl) rfl #[.int .i64 t445] rfl (by (try simp only [List.map_toArray, List.map_cons, List.map_nil]); first | done | rfl | (simp only [List.length_drop, List.length_take]; rfl)) ?_; (with_reducible refine (outpostlaw01_num.calls t445 t460 _ A20.out).mono ?_); rintro e w' ⟨rfl, ⟨nd, rfl⟩⟩; refine ⟨_, rfl, ?_⟩) | ((with_reducible refine gate_callee (f := 19) rfl ?_); refine goesL_ (some 59) rfl rfl Try.func19 (by kernel_rfl) rfl #[.int .i64 t449] rfl (by (try simp only [List.map_toArray, List.map_cons, List.map_nil]); first | done | rfl | (simp only [List.length_drop, List.length_take]; rfl)) ?_; (with_reducible refine (outpostlaw01_num.calls t449 t461 _ A21.out).mono ?_); rintro e w' ⟨rfl, ⟨nd, rfl⟩⟩; refine ⟨_, rfl, ?_⟩) | ((with_reducible refine gate_callee (f := 19) rfl ?_); refine goesL_ (some 62) rfl rfl Try.func19 (by kernel_rfl) rfl #[.int .i64 t453] rfl (by (try simp only [List.map_toArray, List.map_cons, List.map_nil]); first | done | rfl | (simp only [List.length_drop, List.length_take]; rfl)) ?_; (with_reducible refine (outpostlaw01_num.calls t453 t462 _ A22.out).mono ?_); rintro e w' ⟨rfl, ⟨nd, rfl⟩⟩; refine ⟨_, rfl, ?_⟩) | ((with_reducible refine gate_callee (f := 19) rfl ?_); refine goesL_ (some 65) rfl rfl Try.func19 (by kernel_rfl) rfl #[.int .i64 t457] rfl (by (try simp only [List.map_toArray, List.map_cons, List.map_nil]); first | done | rfl | (simp only [List.length_drop, List.length_take]; rfl)) ?_; (with_reducible refine (outpostlaw01_num.calls t457 t463 _ A23.out).mono ?_); rintro e w' ⟨rfl, ⟨nd, rfl⟩⟩; refine ⟨_, rfl, ?_⟩; have hcv37 := own_string (P := Try.prog) Try.underlying22 Try.underlying5 Try.underlying9 (Kd.own_of_R HO451.out); have hcv38 := fun n_ => own_string (P := Try.prog) Try.underlying22 Try.underlying5 Try.underlying9 (Kd.own_of_R (Kd.R_drewN HO451.out n_)); have hcv39 := own_string (P := Try.prog) Try.underlying22 Try.underlying5 Try.underlying9 (Kd.own_of_R HO443.out); have hcv40 := fun n_ => own_string (P := Try.prog) Try.underlying22 Try.underlying5 Try.underlying9 (Kd.own_of_R (Kd.R_drewN HO443.out n_)); have hcv41 := own_string (P := Try.prog) Try.underlying22 Try.underlying5 Try.underlying9 (Kd.own_of_R HO459.out); have hcv42 := fun n_ => own_string (P := Try.prog) Try.underlying22 Try.underlying5 Try.underlying9 (Kd.own_of_R (Kd.R_drewN HO459.out n_)); have hcv43 := Kd.C_string (P := Try.prog) (A := A1) (c := c1) Try.underlying22 Try.underlying5 Try.underlying9 (Kd.C_below HR1.out HB.out); have hcv44 := fun n_ => Kd.C_string (P := Try.prog) (A := A1) (c := c1) Try.underlying22 Try.underlying5 Try.underlying9 (Kd.C_drewN (Kd.C_below HR1.out HB.out) n_)))
          go_meet
          case rel => exact ⟨_, (true), (by first | rfl | (simp; done) | (simp [*]; done) | (simp [wrap64]; done)), H', ⟨by first | omega | exact Nat.le_refl _⟩, ⟨by repeat (first | (with_reducible first | exact HB.out | apply below_alloc | apply pw_below_drewN | apply below_drew1) | exact HB.out)⟩⟩
      · rw [if_neg c25] at H
        have c25b0 : ((strOfNums t448).toList == (strOfNums t441).toList) = false := beq_eq_false_iff_ne.mpr c25
        have c25b1 : ((strOfNums t448).toList != (strOfNums t441).toList) = true := bne_iff_ne.mpr c25
        have H' := Aside0.mk H
        clear H
        go_wp2_with (first | ((with_reducible refine gate_callee (f := 19) rfl ?_); refine goesL_ (some 57) rfl rfl Try.func19 (by kernel_rfl) rfl #[.int .i64 t445] rfl (by (try simp only [List.map_toArray, List.map_cons, List.map_nil]); first | done | rfl | (simp only [List.length_drop, List.length_take]; rfl)) ?_; (with_reducible refine (outpostlaw01_num.calls t445 t460 _ A20.out).mono ?_); rintro e w' ⟨rfl, ⟨nd, rfl⟩⟩; refine ⟨_, rfl, ?_⟩) | ((with_reducible refine gate_callee (f := 19) rfl ?_); refine goesL_ (some 59) rfl rfl Try.func19 (by kernel_rfl) rfl #[.int .i64 t449] rfl (by (try simp only [List.map_toArray, List.map_cons, List.map_nil]); first | done | rfl | (simp only [List.length_drop, List.length_take]; rfl)) ?_; (with_reducible refine (outpostlaw01_num.calls t449 t461 _ A21.out).mono ?_); rintro e w' ⟨rfl, ⟨nd, rfl⟩⟩; refine ⟨_, rfl, ?_⟩) | ((with_reducible refine gate_callee (f := 19) rfl ?_); refine goesL_ (some 62) rfl rfl Try.func19 (by kernel_rfl) rfl #[.int .i64 t453] rfl (by (try simp only [List.map_toArray, List.map_cons, List.map_nil]); first | done | rfl | (simp only [List.length_drop, List.length_take]; rfl)) ?_; (with_reducible refine (outpostlaw01_num.calls t453 t462 _ A22.out).mono ?_); rintro e w' ⟨rfl, ⟨nd, rfl⟩⟩; refine ⟨_, rfl, ?_⟩) | ((with_reducible refine gate_callee (f := 19) rfl ?_); refine goesL_ (some 65) rfl rfl Try.func19 (by kernel_rfl) rfl #[.int .i64 t457] rfl (by (try simp only [List.map_toArray, List.map_cons, List.map_nil]); first | done | rfl | (simp only [List.length_drop, List.length_take]; rfl)) ?_; (with_reducible refine (outpostlaw01_num.calls t457 t463 _ A23.out).mono ?_); rintro e w' ⟨rfl, ⟨nd, rfl⟩⟩; refine ⟨_, rfl, ?_⟩; have hcv45 := own_string (P := Try.prog) Try.underlying22 Try.underlying5 Try.underlying9 (Kd.own_of_R HO451.out); have hcv46 := fun n_ => own_string (P := Try.prog) Try.underlying22 Try.underlying5 Try.underlying9 (Kd.own_of_R (Kd.R_drewN HO451.out n_)); have hcv47 := own_string (P := Try.prog) Try.underlying22 Try.underlying5 Try.underlying9 (Kd.own_of_R HO443.out); have hcv48 := fun n_ => own_string (P := Try.prog) Try.underlying22 Try.underlying5 Try.underlying9 (Kd.own_of_R (Kd.R_drewN HO443.out n_))))
        go_meet
        case rel => exact ⟨_, (true), (by first | rfl | (simp; done) | (simp [*]; done) | (simp [wrap64]; done)), H', ⟨by first | omega | exact Nat.le_refl _⟩, ⟨by repeat (first | (with_reducible first | exact HB.out | apply below_alloc | apply pw_below_drewN | apply below_drew1) | exact HB.out)⟩⟩
    · rw [if_neg c24] at H
      have c24b0 : ((wrap64 ((wrap64 ((wrap64 (t460 + t461)) + t462)) + t463)) == 0) = false := beq_eq_false_iff_ne.mpr c24
      have c24b1 : ((wrap64 ((wrap64 ((wrap64 (t460 + t461)) + t462)) + t463)) != 0) = true := bne_iff_ne.mpr c24
      clear c24
      (first | rw [c24b0] | (simp only [i64_w, i32_w]; rw [c24b0]) | skip)
      have H' := Aside0.mk H
      clear H
      go_wp2_with (first | ((with_reducible refine gate_callee (f := 19) rfl ?_); refine goesL_ (some 57) rfl rfl Try.func19 (by kernel_rfl) rfl #[.int .i64 t445] rfl (by (try simp only [List.map_toArray, List.map_cons, List.map_nil]); first | done | rfl | (simp only [List.length_drop, List.length_take]; rfl)) ?_; (with_reducible refine (outpostlaw01_num.calls t445 t460 _ A20.out).mono ?_); rintro e w' ⟨rfl, ⟨nd, rfl⟩⟩; refine ⟨_, rfl, ?_⟩) | ((with_reducible refine gate_callee (f := 19) rfl ?_); refine goesL_ (some 59) rfl rfl Try.func19 (by kernel_rfl) rfl #[.int .i64 t449] rfl (by (try simp only [List.map_toArray, List.map_cons, List.map_nil]); first | done | rfl | (simp only [List.length_drop, List.length_take]; rfl)) ?_; (with_reducible refine (outpostlaw01_num.calls t449 t461 _ A21.out).mono ?_); rintro e w' ⟨rfl, ⟨nd, rfl⟩⟩; refine ⟨_, rfl, ?_⟩) | ((with_reducible refine gate_callee (f := 19) rfl ?_); refine goesL_ (some 62) rfl rfl Try.func19 (by kernel_rfl) rfl #[.int .i64 t453] rfl (by (try simp only [List.map_toArray, List.map_cons, List.map_nil]); first | done | rfl | (simp only [List.length_drop, List.length_take]; rfl)) ?_; (with_reducible refine (outpostlaw01_num.calls t453 t462 _ A22.out).mono ?_); rintro e w' ⟨rfl, ⟨nd, rfl⟩⟩; refine ⟨_, rfl, ?_⟩) | ((with_reducible refine gate_callee (f := 19) rfl ?_); refine goesL_ (some 65) rfl rfl Try.func19 (by kernel_rfl) rfl #[.int .i64 t457] rfl (by (try simp only [List.map_toArray, List.map_cons, List.map_nil]); first | done | rfl | (simp only [List.length_drop, List.length_take]; rfl)) ?_; (with_reducible refine (outpostlaw01_num.calls t457 t463 _ A23.out).mono ?_); rintro e w' ⟨rfl, ⟨nd, rfl⟩⟩; refine ⟨_, rfl, ?_⟩))
      go_meet
      case rel => exact ⟨_, (true), (by first | rfl | (simp; done) | (simp [*]; done) | (simp [wrap64]; done)), H', ⟨by first | omega | exact Nat.le_refl _⟩, ⟨by repeat (first | (with_reducible first | exact HB.out | apply below_alloc | apply pw_below_drewN | apply below_drew1) | exact HB.out)⟩⟩
  case rest => as_aux_lemma =>
    clear HC11
    try clear c1
    try clear c2
    try clear p2
    try clear hcv2
    try clear hcv3
    try clear c4
    try clear hcv4
    try clear p6
    try clear c12
    try clear c16
    try clear c19
    try clear c23
    try clear c24
    try clear c24b0
    try clear c24b1
    try clear c25
    try clear c25b0
    try clear c25b1
    try clear c26
    try clear c26b0
    try clear c26b1
    try clear hcv28
    try clear hcv29
    try clear hcv30
    try clear hcv31
    try clear hcv32
    try clear hcv33
    try clear hcv34
    try clear hcv35
    try clear hcv37
    try clear hcv38
    try clear hcv39
    try clear hcv40
    try clear hcv41
    try clear hcv42
    try clear hcv43
    try clear hcv44
    try clear hcv45
    try clear c46
    try clear hcv46
    try clear hcv47
    try clear hcv48
    obtain ⟨kq, x85_10, rfl, HA, HJ10, HB⟩ := hcut
    cases kq with
    | zero => exact absurd HA.out (by simp [outpostlaw01_BitrowBack.j0])
    | succ kj10 =>
      have H := HA.out
      clear HA
      simp only [outpostlaw01_BitrowBack.j0] at H
      by_cases c49 : x85_10 = true
      · subst c49
        have H1 : (some false) = some r := by rw [if_pos rfl] at H; exact H
        clear H
        have H := H1
        clear H1
        obtain rfl := Option.some.inj H
        go_wp2
        go_ret
        exact ⟨by first | rfl | (simp [errW_none, errW_some] <;> rfl) | (simp [*, errW_none, errW_some] <;> rfl), by repeat (first | (with_reducible first | exact HB.out | apply below_alloc | apply pw_below_drewN | apply below_drew1) | exact HB.out)⟩
      · replace c49 := Bool.eq_false_iff.mpr c49
        subst c49
        have H1 : ((outpostlaw01_within.f a3 0 64).bind fun t465 => (if t465 < 64 then (if 0 ≤ (IntKind.u64.wrap (t465)) then (if (shl .u64 1 (IntKind.u64.wrap (t465))) = 0 then (none) else (outpostlaw01_BitrowBack.j1 kj10 l1 (Int.tmod a2 (shl .u64 1 (IntKind.u64.wrap (t465)))) t465 a4)) else (none)) else (outpostlaw01_BitrowBack.j1 kj10 l1 a2 t465 a4))) = some r := by rw [if_neg (show ¬ (false = true) by decide)] at H; exact H
        clear H
        have H := H1
        clear H1
        replace H := Option.bind_eq_some_iff.mp H
        obtain ⟨t465, A500, H⟩ := H
        replace H : (if t465 < 64 then (if 0 ≤ (IntKind.u64.wrap (t465)) then (if (shl .u64 1 (IntKind.u64.wrap (t465))) = 0 then (none) else (outpostlaw01_BitrowBack.j1 kj10 l1 (Int.tmod a2 (shl .u64 1 (IntKind.u64.wrap (t465)))) t465 a4)) else (none)) else (outpostlaw01_BitrowBack.j1 kj10 l1 a2 t465 a4)) = some r := H
        have A50 := Aside0.mk A500
        clear A500
        have HC51 := Aside0.mk H
        clear H
        go_upto_if 89 with (first | ((with_reducible refine gate_callee (f := 25) rfl ?_); refine goesL_ (some 87) rfl rfl Try.func25 (by kernel_rfl) rfl #[.int .i64 a3, .int .i64 0, .int .i64 64] rfl (by (try simp only [List.map_toArray, List.map_cons, List.map_nil]); first | done | rfl | (simp only [List.length_drop, List.length_take]; rfl)) ?_; (with_reducible refine (outpostlaw01_within.calls a3 0 64 t465 _ A50.out).mono ?_); rintro e w' ⟨rfl, ⟨nd, rfl⟩⟩; refine ⟨_, rfl, ?_⟩))
        (try simp only [Act.put, List.setIfInBounds_toArray, List.set_cons_zero, List.set_cons_succ])
        go_cut [2] (fun v2 wc => ∃ (kq : Nat) (x2_50 : Int), v2 = .int .u64 x2_50 ∧ Aside0 (outpostlaw01_BitrowBack.j1 kq l1 x2_50 t465 a4 = some r) ∧ Aside0 (kq ≤ kj10) ∧ Aside0 (Below w.heap.size w wc))
        case first => as_aux_lemma =>
          have H := HC51.out
          clear HC51
          by_cases c52 : t465 < 64
          · rw [if_pos c52] at H
            have c52b0 : decide (t465 < 64) = true := decide_eq_true c52
            clear c52
            (first | rw [c52b0] | (simp only [i64_w, i32_w]; rw [c52b0]) | skip)
            obtain ⟨ji53, hji53⟩ : ∃ j_ : Int, (IntKind.u64.wrap (t465)) = j_ := ⟨_, rfl⟩
            replace H : (if 0 ≤ (ji53) then (if (shl .u64 1 (ji53)) = 0 then (none) else (outpostlaw01_BitrowBack.j1 kj10 l1 (Int.tmod a2 (shl .u64 1 (ji53))) t465 a4)) else (none)) = some r := by first | (rw [hji53] at H; exact H) | (simp only [hji53] at H ⊢; exact H)
            by_cases c54 : 0 ≤ (ji53)
            · rw [if_pos c54] at H
              have c54b0 := eq_true c54
              have c54b1 : decide (0 ≤ (ji53)) = true := decide_eq_true c54
              clear c54
              obtain ⟨ji55, hji55⟩ : ∃ j_ : Int, (shl .u64 1 (ji53)) = j_ := ⟨_, rfl⟩
              replace H : (if (ji55) = 0 then (none) else (outpostlaw01_BitrowBack.j1 kj10 l1 (Int.tmod a2 (ji55)) t465 a4)) = some r := by first | (rw [hji55] at H; exact H) | (simp only [hji55] at H ⊢; exact H)
              have hji55_ : (IntKind.u64.wrap (1 * 2 ^ min (ji53).toNat 64)) = ji55 := hji55
              have hji55z : (ji53) ≤ 64 → (IntKind.u64.wrap (1 * 2 ^ (ji53).toNat)) = ji55 := shl_small hji55
              have hji55u : (IntKind.u64.wrap (2 ^ min (ji53).toNat 64)) = ji55 := by have h_ := hji55_; rw [Int.one_mul] at h_; exact h_
              have hji55v : (ji53) ≤ 64 → (IntKind.u64.wrap (2 ^ (ji53).toNat)) = ji55 := fun hle_ => by have h_ := hji55z hle_; rw [Int.one_mul] at h_; exact h_
              by_cases c56 : (ji55) = 0
              · rw [if_pos c56] at H
                exact absurd H (by simp)
              · rw [if_neg c56] at H
                have c56b0 : ((ji55) == 0) = false := beq_eq_false_iff_ne.mpr c56
                have c56b1 : ((ji55) != 0) = true := bne_iff_ne.mpr c56
                have H' := Aside0.mk H
                clear H
                go_wp2
                go_meet
                case rel => exact ⟨_, (Int.tmod a2 (ji55)), (by first | rfl | (simp; done) | (simp only [← hji55] <;> (first | rfl | simp)) | (simp [*]; done) | (simp [wrap64]; done)), H', ⟨by have := HJ10.out; first | omega | exact Nat.le_refl _⟩, ⟨by repeat (first | (with_reducible first | exact HB.out | apply below_alloc | apply pw_below_drewN | apply below_drew1) | exact HB.out)⟩⟩
            · rw [if_neg c54] at H
              exact absurd H (by simp)
          · rw [if_neg c52] at H
            have c52b0 : decide (t465 < 64) = false := decide_eq_false c52
            clear c52
            (first | rw [c52b0] | (simp only [i64_w, i32_w]; rw [c52b0]) | skip)
            have H' := Aside0.mk H
            clear H
            go_wp2
            go_meet
            case rel => exact ⟨_, (a2), (by first | rfl | (simp; done) | (simp [*]; done) | (simp [wrap64]; done)), H', ⟨by have := HJ10.out; first | omega | exact Nat.le_refl _⟩, ⟨by repeat (first | (with_reducible first | exact HB.out | apply below_alloc | apply pw_below_drewN | apply below_drew1) | exact HB.out)⟩⟩
        case rest => as_aux_lemma =>
          clear HC51
          try clear c1
          try clear c2
          try clear p2
          try clear hcv2
          try clear hcv3
          try clear c4
          try clear hcv4
          try clear c5
          try clear p6
          try clear c12
          try clear c16
          try clear c19
          try clear c23
          try clear c24
          try clear c24b0
          try clear c24b1
          try clear c25
          try clear c25b0
          try clear c25b1
          try clear c26
          try clear c26b0
          try clear c26b1
          try clear hcv28
          try clear hcv29
          try clear hcv30
          try clear hcv31
          try clear hcv32
          try clear hcv33
          try clear hcv34
          try clear hcv35
          try clear hcv37
          try clear hcv38
          try clear hcv39
          try clear hcv40
          try clear hcv41
          try clear hcv42
          try clear hcv43
          try clear hcv44
          try clear hcv45
          try clear c46
          try clear hcv46
          try clear hcv47
          try clear hcv48
          try clear c49
          try clear c52
          try clear c52b0
          try clear c54
          try clear c54b0
          try clear c54b1
          try clear c56
          try clear c56b0
          try clear c56b1
          try clear p2
          try clear p6
          obtain ⟨kq, x2_50, rfl, HA, HJ50, HB⟩ := hcut
          cases kq with
          | zero => exact absurd HA.out (by simp [outpostlaw01_BitrowBack.j1])
          | succ kj50 =>
            have H := HA.out
            clear HA
            simp only [outpostlaw01_BitrowBack.j1] at H
            replace H := Option.bind_eq_some_iff.mp H
            obtain ⟨⟨t466, t467⟩, A570, H⟩ := H
            replace H : ((bitrow_Number.f kj50 t466).bind fun bt470 => ((outpostlaw01_num.f t467).bind fun t472 => ((outpostlaw01_num.f bt470.2).bind fun t473 => (if (wrap64 (t472 + t473)) = 0 then (if bt470.1 = x2_50 then (outpostlaw01_BitrowBack.j2 kj50 l1 a4 ((t466.length : Int) != t465)) else (outpostlaw01_BitrowBack.j2 kj50 l1 a4 true)) else (outpostlaw01_BitrowBack.j2 kj50 l1 a4 true))))) = some r := H
            have A57 := Aside0.mk A570
            clear A570
            replace H := Option.bind_eq_some_iff.mp H
            obtain ⟨⟨t470, t471⟩, A580, H⟩ := H
            replace H : ((outpostlaw01_num.f t467).bind fun t472 => ((outpostlaw01_num.f t471).bind fun t473 => (if (wrap64 (t472 + t473)) = 0 then (if t470 = x2_50 then (outpostlaw01_BitrowBack.j2 kj50 l1 a4 ((t466.length : Int) != t465)) else (outpostlaw01_BitrowBack.j2 kj50 l1 a4 true)) else (outpostlaw01_BitrowBack.j2 kj50 l1 a4 true)))) = some r := H
            have A58 := Aside0.mk A580
            clear A580
            have HC59 := Aside0.mk H
            clear H
            go_upto_region 13 with (first | ((with_reducible refine gate_callee (f := 29) rfl ?_); refine goesL_ (some 98) rfl rfl Try.func29 (by kernel_rfl) rfl #[.int .u64 x2_50, .int .i64 t465] rfl (by (try simp only [List.map_toArray, List.map_cons, List.map_nil]); first | done | rfl | (simp only [List.length_drop, List.length_take]; rfl)) ?_; (with_reducible refine (bitrow_Row.calls kj50 x2_50 t465 t466 t467 _ A57.out).mono ?_); rintro e w60 ⟨v468, rfl, ho0, hb⟩; refine ⟨_, rfl, ?_⟩; have n0_ := Aside0.mk (Kd.R_lower ho0 (below_size (by repeat (first | (with_reducible first | exact HB.out | apply below_alloc | apply pw_below_drewN | apply below_drew1) | exact HB.out)))); have n1_ := Aside0.mk (below_step (by repeat (first | (with_reducible first | exact HB.out | apply below_alloc | apply pw_below_drewN | apply below_drew1) | exact HB.out)) hb); clear HB; have HO469 := n0_; have HB := n1_; clear n0_ n1_; (try clear hb); (try clear hb2); (try clear hk); (try clear hi); (try clear ho0); obtain ⟨Ao61, co61, eo61⟩ := Kd.R_slice HO469.out; subst eo61) | ((with_reducible refine gate_callee (f := 28) rfl ?_); refine goesL_ (some 103) rfl rfl Try.func28 (by kernel_rfl) rfl #[.slice Ao61 t466.length co61] rfl (by (try simp only [List.map_toArray, List.map_cons, List.map_nil]); first | done | rfl | (simp only [List.length_drop, List.length_take]; rfl)) ?_; (with_reducible refine (bitrow_Number.calls kj50 _ _ t466 t470 t471 _ ?side1 ?side2 A58.out).mono ?_); (case side1 => repeat (first | exact (Kd.R_reads' HO469.out).2.2 | (with_reducible refine Kd.C_alloc ?_ _) | (with_reducible refine Kd.C_drewN ?_ _) | (with_reducible refine Kd.C_drew ?_))); (case side2 => exact (Kd.R_reads' HO469.out).2.1); rintro e w' ⟨rfl, ⟨nd, rfl⟩⟩; refine ⟨_, rfl, ?_⟩))
            (try simp only [Act.put, List.setIfInBounds_toArray, List.set_cons_zero, List.set_cons_succ])
            go_cut [122] (fun v122 wc => ∃ (kq : Nat) (x122_58 : Bool), v122 = .bool x122_58 ∧ Aside0 (outpostlaw01_BitrowBack.j2 kq l1 a4 x122_58 = some r) ∧ Aside0 (kq ≤ kj50) ∧ Aside0 (Below w.heap.size w wc))
            case first => as_aux_lemma =>
              have H := HC59.out
              clear HC59
              replace H := Option.bind_eq_some_iff.mp H
              obtain ⟨t472, A620, H⟩ := H
              replace H : ((outpostlaw01_num.f t471).bind fun t473 => (if (wrap64 (t472 + t473)) = 0 then (if t470 = x2_50 then (outpostlaw01_BitrowBack.j2 kj50 l1 a4 ((t466.length : Int) != t465)) else (outpostlaw01_BitrowBack.j2 kj50 l1 a4 true)) else (outpostlaw01_BitrowBack.j2 kj50 l1 a4 true))) = some r := H
              have A62 := Aside0.mk A620
              clear A620
              replace H := Option.bind_eq_some_iff.mp H
              obtain ⟨t473, A630, H⟩ := H
              replace H : (if (wrap64 (t472 + t473)) = 0 then (if t470 = x2_50 then (outpostlaw01_BitrowBack.j2 kj50 l1 a4 ((t466.length : Int) != t465)) else (outpostlaw01_BitrowBack.j2 kj50 l1 a4 true)) else (outpostlaw01_BitrowBack.j2 kj50 l1 a4 true)) = some r := H
              have A63 := Aside0.mk A630
              clear A630
              by_cases c64 : (wrap64 (t472 + t473)) = 0
              · rw [if_pos c64] at H
                have c64b0 : ((wrap64 (t472 + t473)) == 0) = true := beq_iff_eq.mpr c64
                have c64b1 : ((wrap64 (t472 + t473)) != 0) = false := bne_eq_false_iff_eq.mpr c64
                clear c64
                (first | rw [c64b0] | (simp only [i64_w, i32_w]; rw [c64b0]) | skip)
                by_cases c65 : t470 = x2_50
                · rw [if_pos c65] at H
                  have c65b0 : (t470 == x2_50) = true := beq_iff_eq.mpr c65
                  have c65b1 : (t470 != x2_50) = false := bne_eq_false_iff_eq.mpr c65
                  clear c65
                  have H' := Aside0.mk H
                  clear H
                  go_wp2_with (first | ((with_reducible refine gate_callee (f := 19) rfl ?_); refine goesL_ (some 107) rfl rfl Try.func19 (by kernel_rfl) rfl #[.int .i64 t467] rfl (by (try simp only [List.map_toArray, List.map_cons, List.map_nil]); first | done | rfl | (simp only [List.length_drop, List.length_take]; rfl)) ?_; (with_reducible refine (outpostlaw01_num.calls t467 t472 _ A62.out).mono ?_); rintro e w' ⟨rfl, ⟨nd, rfl⟩⟩; refine ⟨_, rfl, ?_⟩) | ((with_reducible refine gate_callee (f := 19) rfl ?_); refine goesL_ (some 109) rfl rfl Try.func19 (by kernel_rfl) rfl #[.int .i64 t471] rfl (by (try simp only [List.map_toArray, List.map_cons, List.map_nil]); first | done | rfl | (simp only [List.length_drop, List.length_take]; rfl)) ?_; (with_reducible refine (outpostlaw01_num.calls t471 t473 _ A63.out).mono ?_); rintro e w' ⟨rfl, ⟨nd, rfl⟩⟩; refine ⟨_, rfl, ?_⟩))
                  go_meet
                  case rel => exact ⟨_, (((t466.length : Int) != t465)), (by first | rfl | (simp; done) | (simp [*]; done) | (simp [wrap64]; done)), H', ⟨by have := HJ10.out; have := HJ50.out; first | omega | exact Nat.le_refl _⟩, ⟨by repeat (first | (with_reducible first | exact HB.out | apply below_alloc | apply pw_below_drewN | apply below_drew1) | exact HB.out)⟩⟩
                · rw [if_neg c65] at H
                  have c65b0 : (t470 == x2_50) = false := beq_eq_false_iff_ne.mpr c65
                  have c65b1 : (t470 != x2_50) = true := bne_iff_ne.mpr c65
                  have H' := Aside0.mk H
                  clear H
                  go_wp2_with (first | ((with_reducible refine gate_callee (f := 19) rfl ?_); refine goesL_ (some 107) rfl rfl Try.func19 (by kernel_rfl) rfl #[.int .i64 t467] rfl (by (try simp only [List.map_toArray, List.map_cons, List.map_nil]); first | done | rfl | (simp only [List.length_drop, List.length_take]; rfl)) ?_; (with_reducible refine (outpostlaw01_num.calls t467 t472 _ A62.out).mono ?_); rintro e w' ⟨rfl, ⟨nd, rfl⟩⟩; refine ⟨_, rfl, ?_⟩) | ((with_reducible refine gate_callee (f := 19) rfl ?_); refine goesL_ (some 109) rfl rfl Try.func19 (by kernel_rfl) rfl #[.int .i64 t471] rfl (by (try simp only [List.map_toArray, List.map_cons, List.map_nil]); first | done | rfl | (simp only [List.length_drop, List.length_take]; rfl)) ?_; (with_reducible refine (outpostlaw01_num.calls t471 t473 _ A63.out).mono ?_); rintro e w' ⟨rfl, ⟨nd, rfl⟩⟩; refine ⟨_, rfl, ?_⟩))
                  go_meet
                  case rel => exact ⟨_, (true), (by first | rfl | (simp; done) | (simp [*]; done) | (simp [wrap64]; done)), H', ⟨by have := HJ10.out; have := HJ50.out; first | omega | exact Nat.le_refl _⟩, ⟨by repeat (first | (with_reducible first | exact HB.out | apply below_alloc | apply pw_below_drewN | apply below_drew1) | exact HB.out)⟩⟩
              · rw [if_neg c64] at H
                have c64b0 : ((wrap64 (t472 + t473)) == 0) = false := beq_eq_false_iff_ne.mpr c64
                have c64b1 : ((wrap64 (t472 + t473)) != 0) = true := bne_iff_ne.mpr c64
                clear c64
                (first | rw [c64b0] | (simp only [i64_w, i32_w]; rw [c64b0]) | skip)
                have H' := Aside0.mk H
                clear H
                go_wp2_with (first | ((with_reducible refine gate_callee (f := 19) rfl ?_); refine goesL_ (some 107) rfl rfl Try.func19 (by kernel_rfl) rfl #[.int .i64 t467] rfl (by (try simp only [List.map_toArray, List.map_cons, List.map_nil]); first | done | rfl | (simp only [List.length_drop, List.length_take]; rfl)) ?_; (with_reducible refine (outpostlaw01_num.calls t467 t472 _ A62.out).mono ?_); rintro e w' ⟨rfl, ⟨nd, rfl⟩⟩; refine ⟨_, rfl, ?_⟩) | ((with_reducible refine gate_callee (f := 19) rfl ?_); refine goesL_ (some 109) rfl rfl Try.func19 (by kernel_rfl) rfl #[.int .i64 t471] rfl (by (try simp only [List.map_toArray, List.map_cons, List.map_nil]); first | done | rfl | (simp only [List.length_drop, List.length_take]; rfl)) ?_; (with_reducible refine (outpostlaw01_num.calls t471 t473 _ A63.out).mono ?_); rintro e w' ⟨rfl, ⟨nd, rfl⟩⟩; refine ⟨_, rfl, ?_⟩))
                go_meet
                case rel => exact ⟨_, (true), (by first | rfl | (simp; done) | (simp [*]; done) | (simp [wrap64]; done)), H', ⟨by have := HJ10.out; have := HJ50.out; first | omega | exact Nat.le_refl _⟩, ⟨by repeat (first | (with_reducible first | exact HB.out | apply below_alloc | apply pw_below_drewN | apply below_drew1) | exact HB.out)⟩⟩
            case rest => as_aux_lemma =>
              clear HC59
              try clear c1
              try clear c2
              try clear p2
              try clear hcv2
              try clear hcv3
              try clear c4
              try clear hcv4
              try clear c5
              try clear c6
              try clear p6
              try clear c12
              try clear c16
              try clear c19
              try clear c23
              try clear c24
              try clear c24b0
              try clear c24b1
              try clear c25
              try clear c25b0
              try clear c25b1
              try clear c26
              try clear c26b0
              try clear c26b1
              try clear c28
              try clear hcv28
              try clear c29
              try clear hcv29
              try clear hcv30
              try clear hcv31
              try clear hcv32
              try clear hcv33
              try clear hcv34
              try clear hcv35
              try clear hcv37
              try clear hcv38
              try clear hcv39
              try clear hcv40
              try clear hcv41
              try clear hcv42
              try clear hcv43
              try clear hcv44
              try clear hcv45
              try clear c46
              try clear hcv46
              try clear hcv47
              try clear hcv48
              try clear c49
              try clear c52
              try clear c52b0
              try clear c54
              try clear c54b0
              try clear c54b1
              try clear c56
              try clear c56b0
              try clear c56b1
              try clear c64
              try clear c64b0
              try clear c64b1
              try clear p64
              try clear c65
              try clear c65b0
              try clear c65b1
              try clear p2
              try clear p6
              obtain ⟨kq, x122_58, rfl, HA, HJ58, HB⟩ := hcut
              cases kq with
              | zero => exact absurd HA.out (by simp [outpostlaw01_BitrowBack.j2])
              | succ kj58 =>
                have H := HA.out
                clear HA
                simp only [outpostlaw01_BitrowBack.j2] at H
                by_cases c66 : x122_58 = true
                · subst c66
                  have H1 : (some false) = some r := by rw [if_pos rfl] at H; exact H
                  clear H
                  have H := H1
                  clear H1
                  obtain rfl := Option.some.inj H
                  go_wp2
                  go_ret
                  exact ⟨by first | rfl | (simp [errW_none, errW_some] <;> rfl) | (simp [*, errW_none, errW_some] <;> rfl), by repeat (first | (with_reducible first | exact HB.out | apply below_alloc | apply pw_below_drewN | apply below_drew1) | exact HB.out)⟩
                · replace c66 := Bool.eq_false_iff.mpr c66
                  subst c66
                  have H1 : ((outpostlaw01_within.f a4 1 64).bind fun t474 => ((bitrow_Shuffle.f l1 t474).bind fun bt475 => ((bitrow_Unshuffle.f bt475.1 t474).bind fun bt479 => ((bitrow_Unshuffle.f l1 t474).bind fun bt483 => ((bitrow_Shuffle.f bt483.1 t474).bind fun bt487 => ((outpostlaw01_num.f bt475.2).bind fun t491 => ((outpostlaw01_num.f bt479.2).bind fun t492 => ((outpostlaw01_num.f bt483.2).bind fun t493 => ((outpostlaw01_num.f bt487.2).bind fun t494 => (if (wrap64 ((wrap64 ((wrap64 (t491 + t492)) + t493)) + t494)) = 0 then (if (strOfNums bt479.1).toList = (strOfNums l1).toList then (outpostlaw01_BitrowBack.j3 kj58 l1 ((strOfNums bt487.1).toList != (strOfNums l1).toList)) else (outpostlaw01_BitrowBack.j3 kj58 l1 true)) else (outpostlaw01_BitrowBack.j3 kj58 l1 true))))))))))) = some r := by rw [if_neg (show ¬ (false = true) by decide)] at H; exact H
                  clear H
                  have H := H1
                  clear H1
                  replace H := Option.bind_eq_some_iff.mp H
                  obtain ⟨t474, A670, H⟩ := H
                  replace H : ((bitrow_Shuffle.f l1 t474).bind fun bt475 => ((bitrow_Unshuffle.f bt475.1 t474).bind fun bt479 => ((bitrow_Unshuffle.f l1 t474).bind fun bt483 => ((bitrow_Shuffle.f bt483.1 t474).bind fun bt487 => ((outpostlaw01_num.f bt475.2).bind fun t491 => ((outpostlaw01_num.f bt479.2).bind fun t492 => ((outpostlaw01_num.f bt483.2).bind fun t493 => ((outpostlaw01_num.f bt487.2).bind fun t494 => (if (wrap64 ((wrap64 ((wrap64 (t491 + t492)) + t493)) + t494)) = 0 then (if (strOfNums bt479.1).toList = (strOfNums l1).toList then (outpostlaw01_BitrowBack.j3 kj58 l1 ((strOfNums bt487.1).toList != (strOfNums l1).toList)) else (outpostlaw01_BitrowBack.j3 kj58 l1 true)) else (outpostlaw01_BitrowBack.j3 kj58 l1 true)))))))))) = some r := H
                  have A67 := Aside0.mk A670
                  clear A670
                  replace H := Option.bind_eq_some_iff.mp H
                  obtain ⟨⟨t475, t476⟩, A680, H⟩ := H
                  replace H : ((bitrow_Unshuffle.f t475 t474).bind fun bt479 => ((bitrow_Unshuffle.f l1 t474).bind fun bt483 => ((bitrow_Shuffle.f bt483.1 t474).bind fun bt487 => ((outpostlaw01_num.f t476).bind fun t491 => ((outpostlaw01_num.f bt479.2).bind fun t492 => ((outpostlaw01_num.f bt483.2).bind fun t493 => ((outpostlaw01_num.f bt487.2).bind fun t494 => (if (wrap64 ((wrap64 ((wrap64 (t491 + t492)) + t493)) + t494)) = 0 then (if (strOfNums bt479.1).toList = (strOfNums l1).toList then (outpostlaw01_BitrowBack.j3 kj58 l1 ((strOfNums bt487.1).toList != (strOfNums l1).toList)) else (outpostlaw01_BitrowBack.j3 kj58 l1 true)) else (outpostlaw01_BitrowBack.j3 kj58 l1 true))))))))) = some r := H
                  have A68 := Aside0.mk A680
                  clear A680
                  replace H := Option.bind_eq_some_iff.mp H
                  obtain ⟨⟨t479, t480⟩, A690, H⟩ := H
                  replace H : ((bitrow_Unshuffle.f l1 t474).bind fun bt483 => ((bitrow_Shuffle.f bt483.1 t474).bind fun bt487 => ((outpostlaw01_num.f t476).bind fun t491 => ((outpostlaw01_num.f t480).bind fun t492 => ((outpostlaw01_num.f bt483.2).bind fun t493 => ((outpostlaw01_num.f bt487.2).bind fun t494 => (if (wrap64 ((wrap64 ((wrap64 (t491 + t492)) + t493)) + t494)) = 0 then (if (strOfNums t479).toList = (strOfNums l1).toList then (outpostlaw01_BitrowBack.j3 kj58 l1 ((strOfNums bt487.1).toList != (strOfNums l1).toList)) else (outpostlaw01_BitrowBack.j3 kj58 l1 true)) else (outpostlaw01_BitrowBack.j3 kj58 l1 true)))))))) = some r := H
                  have A69 := Aside0.mk A690
                  clear A690
                  replace H := Option.bind_eq_some_iff.mp H
                  obtain ⟨⟨t483, t484⟩, A700, H⟩ := H
                  replace H : ((bitrow_Shuffle.f t483 t474).bind fun bt487 => ((outpostlaw01_num.f t476).bind fun t491 => ((outpostlaw01_num.f t480).bind fun t492 => ((outpostlaw01_num.f t484).bind fun t493 => ((outpostlaw01_num.f bt487.2).bind fun t494 => (if (wrap64 ((wrap64 ((wrap64 (t491 + t492)) + t493)) + t494)) = 0 then (if (strOfNums t479).toList = (strOfNums l1).toList then (outpostlaw01_BitrowBack.j3 kj58 l1 ((strOfNums bt487.1).toList != (strOfNums l1).toList)) else (outpostlaw01_BitrowBack.j3 kj58 l1 true)) else (outpostlaw01_BitrowBack.j3 kj58 l1 true))))))) = some r := H
                  have A70 := Aside0.mk A700
                  clear A700
                  replace H := Option.bind_eq_some_iff.mp H
                  obtain ⟨⟨t487, t488⟩, A710, H⟩ := H
                  replace H : ((outpostlaw01_num.f t476).bind fun t491 => ((outpostlaw01_num.f t480).bind fun t492 => ((outpostlaw01_num.f t484).bind fun t493 => ((outpostlaw01_num.f t488).bind fun t494 => (if (wrap64 ((wrap64 ((wrap64 (t491 + t492)) + t493)) + t494)) = 0 then (if (strOfNums t479).toList = (strOfNums l1).toList then (outpostlaw01_BitrowBack.j3 kj58 l1 ((strOfNums t487).toList != (strOfNums l1).toList)) else (outpostlaw01_BitrowBack.j3 kj58 l1 true)) else (outpostlaw01_BitrowBack.j3 kj58 l1 true)))))) = some r := H
                  have A71 := Aside0.mk A710
                  clear A710
                  have HC72 := Aside0.mk H
                  clear H
                  go_upto_region 20 with (first | ((with_reducible refine gate_callee (f := 25) rfl ?_); refine goesL_ (some 124) rfl rfl Try.func25 (by kernel_rfl) rfl #[.int .i64 a4, .int .i64 1, .int .i64 64] rfl (by (try simp only [List.map_toArray, List.map_cons, List.map_nil]); first | done | rfl | (simp only [List.length_drop, List.length_take]; rfl)) ?_; (with_reducible refine (outpostlaw01_within.calls a4 1 64 t474 _ A67.out).mono ?_); rintro e w' ⟨rfl, ⟨nd, rfl⟩⟩; refine ⟨_, rfl, ?_⟩) | ((with_reducible refine gate_callee (f := 33) rfl ?_); refine goesL_ (some 128) rfl rfl Try.func33 (by kernel_rfl) rfl #[.slice A1 l1.length c1, .int .i64 t474] rfl (by (try simp only [List.map_toArray, List.map_cons, List.map_nil]); first | done | rfl | (simp only [List.length_drop, List.length_take]; rfl)) ?_; (with_reducible refine (bitrow_Shuffle.calls _ _ l1 t474 t475 t476 _ ?side1 ?side2 A68.out).mono ?_); (case side1 => repeat (first | exact (Kd.C_below HR1.out (by repeat (first | (with_reducible first | exact HB.out | apply below_alloc | apply pw_below_drewN | apply below_drew1) | exact HB.out))) | (with_reducible refine Kd.C_alloc ?_ _) | (with_reducible refine Kd.C_drewN ?_ _) | (with_reducible refine Kd.C_drew ?_))); (case side2 => exact HC1.out); rintro e w73 ⟨v477, rfl, ho0, hb⟩; refine ⟨_, rfl, ?_⟩; have n0_ := Aside0.mk (Kd.R_lower ho0 (below_size (by repeat (first | (with_reducible first | exact HB.out | apply below_alloc | apply pw_below_drewN | apply below_drew1) | exact HB.out)))); have n1_ := Aside0.mk (below_step (by repeat (first | (with_reducible first | exact HB.out | apply below_alloc | apply pw_below_drewN | apply below_drew1) | exact HB.out)) hb); clear HB; have HO478 := n0_; have HB := n1_; clear n0_ n1_; (try clear hb); (try clear hb2); (try clear hk); (try clear hi); (try clear ho0); obtain ⟨Ao74, co74, eo74⟩ := Kd.R_slice HO478.out; subst eo74) | ((with_reducible refine gate_callee (f := 34) rfl ?_); refine goesL_ (some 134) rfl rfl Try.func34 (by kernel_rfl) rfl #[.slice Ao74 t475.length co74, .int .i64 t474] rfl (by (try simp only [List.map_toArray, List.map_cons, List.map_nil]); first | done | rfl | (simp only [List.length_drop, List.length_take]; rfl)) ?_; (with_reducible refine (bitrow_Unshuffle.calls _ _ t475 t474 t479 t480 _ ?side1 ?side2 A69.out).mono ?_); (case side1 => repeat (first | exact (Kd.R_reads' HO478.out).2.2 | (with_reducible refine Kd.C_alloc ?_ _) | (with_reducible refine Kd.C_drewN ?_ _) | (with_reducible refine Kd.C_drew ?_))); (case side2 => exact (Kd.R_reads' HO478.out).2.1); rintro e w75 ⟨v481, rfl, ho0, hb⟩; refine ⟨_, rfl, ?_⟩; have n0_ := Aside0.mk (Kd.R_elder' (by (with_reducible repeat (first | apply Kd.R_alloc | apply Kd.R_drewN | apply Kd.R_drew)); exact HO478.out) (Kd.R_base ho0) hb); have n1_ := Aside0.mk (Kd.R_lower (Kd.R_new' ho0 (Kd.R_lt (by (with_reducible repeat (first | apply Kd.R_alloc | apply Kd.R_drewN | apply Kd.R_drew)); exact HO478.out))) (below_size (by repeat (first | (with_reducible first | exact HB.out | apply below_alloc | apply pw_below_drewN | apply below_drew1) | exact HB.out)))); have n2_ := Aside0.mk (below_step (by repeat (first | (with_reducible first | exact HB.out | apply below_alloc | apply pw_below_drewN | apply below_drew1) | exact HB.out)) hb); clear HO478; clear HB; have HO478 := n0_; have HO482 := n1_; have HB := n2_; clear n0_ n1_ n2_; (try clear hb); (try clear hb2); (try clear hk); (try clear hi); (try clear ho0)) | ((with_reducible refine gate_callee (f := 34) rfl ?_); refine goesL_ (some 140) rfl rfl Try.func34 (by kernel_rfl) rfl #[.slice A1 l1.length c1, .int .i64 t474] rfl (by (try simp only [List.map_toArray, List.map_cons, List.map_nil]); first | done | rfl | (simp only [List.length_drop, List.length_take]; rfl)) ?_; (with_reducible refine (bitrow_Unshuffle.calls _ _ l1 t474 t483 t484 _ ?side1 ?side2 A70.out).mono ?_); (case side1 => repeat (first | exact (Kd.C_below HR1.out HB.out) | (with_reducible refine Kd.C_alloc ?_ _) | (with_reducible refine Kd.C_drewN ?_ _) | (with_reducible refine Kd.C_drew ?_))); (case side2 => exact HC1.out); rintro e w76 ⟨v485, rfl, ho0, hb⟩; refine ⟨_, rfl, ?_⟩; have n0_ := Aside0.mk (Kd.R_elder' (by (with_reducible repeat (first | apply Kd.R_alloc | apply Kd.R_drewN | apply Kd.R_drew)); exact HO478.out) (Kd.R_base ho0) hb); have n1_ := Aside0.mk (Kd.R_elder' (by (with_reducible repeat (first | apply Kd.R_alloc | apply Kd.R_drewN | apply Kd.R_drew)); exact HO482.out) (Kd.R_base ho0) hb); have n2_ := Aside0.mk (Kd.R_lower (Kd.R_new' (Kd.R_new' ho0 (Kd.R_lt (by (with_reducible repeat (first | apply Kd.R_alloc | apply Kd.R_drewN | apply Kd.R_drew)); exact HO478.out))) (Kd.R_lt (by (with_reducible repeat (first | apply Kd.R_alloc | apply Kd.R_drewN | apply Kd.R_drew)); exact HO482.out))) (below_size (by repeat (first | (with_reducible first | exact HB.out | apply below_alloc | apply pw_below_drewN | apply below_drew1) | exact HB.out)))); have n3_ := Aside0.mk (below_step (by repeat (first | (with_reducible first | exact HB.out | apply below_alloc | apply pw_below_drewN | apply below_drew1) | exact HB.out)) hb); clear HO478; clear HO482; clear HB; have HO478 := n0_; have HO482 := n1_; have HO486 := n2_; have HB := n3_; clear n0_ n1_ n2_ n3_; (try clear hb); (try clear hb2); (try clear hk); (try clear hi); (try clear ho0); obtain ⟨Ao77, co77, eo77⟩ := Kd.R_slice HO486.out; subst eo77) | ((with_reducible refine gate_callee (f := 33) rfl ?_); refine goesL_ (some 146) rfl rfl Try.func33 (by kernel_rfl) rfl #[.slice Ao77 t483.length co77, .int .i64 t474] rfl (by (try simp only [List.map_toArray, List.map_cons, List.map_nil]); first | done | rfl | (simp only [List.length_drop, List.length_take]; rfl)) ?_; (with_reducible refine (bitrow_Shuffle.calls _ _ t483 t474 t487 t488 _ ?side1 ?side2 A71.out).mono ?_); (case side1 => repeat (first | exact (Kd.R_reads' HO486.out).2.2 | (with_reducible refine Kd.C_alloc ?_ _) | (with_reducible refine Kd.C_drewN ?_ _) | (with_reducible refine Kd.C_drew ?_))); (case side2 => exact (Kd.R_reads' HO486.out).2.1); rintro e w78 ⟨v489, rfl, ho0, hb⟩; refine ⟨_, rfl, ?_⟩; have n0_ := Aside0.mk (Kd.R_elder' (by (with_reducible repeat (first | apply Kd.R_alloc | apply Kd.R_drewN | apply Kd.R_drew)); exact HO478.out) (Kd.R_base ho0) hb); have n1_ := Aside0.mk (Kd.R_elder' (by (with_reducible repeat (first | apply Kd.R_alloc | apply Kd.R_drewN | apply Kd.R_drew)); exact HO482.out) (Kd.R_base ho0) hb); have n2_ := Aside0.mk (Kd.R_elder' (by (with_reducible repeat (first | apply Kd.R_alloc | apply Kd.R_drewN | apply Kd.R_drew)); exact HO486.out) (Kd.R_base ho0) hb); have n3_ := Aside0.mk (Kd.R_lower (Kd.R_new' (Kd.R_new' (Kd.R_new' ho0 (Kd.R_lt (by (with_reducible repeat (first | apply Kd.R_alloc | apply Kd.R_drewN | apply Kd.R_drew)); exact HO478.out))) (Kd.R_lt (by (with_reducible repeat (first | apply Kd.R_alloc | apply Kd.R_drewN | apply Kd.R_drew)); exact HO482.out))) (Kd.R_lt (by (with_reducible repeat (first | apply Kd.R_alloc | apply Kd.R_drewN | apply Kd.R_drew)); exact HO486.out))) (below_size (by repeat (first | (with_reducible first | exact HB.out | apply below_alloc | apply pw_below_drewN | apply below_drew1) | exact HB.out)))); have n4_ := Aside0.mk (below_step (by repeat (first | (with_reducible first | exact HB.out | apply below_alloc | apply pw_below_drewN | apply below_drew1) | exact HB.out)) hb); clear HO478; clear HO482; clear HO486; clear HB; have HO478 := n0_; have HO482 := n1_; have HO486 := n2_; have HO490 := n3_; have HB := n4_; clear n0_ n1_ n2_ n3_ n4_; (try clear hb); (try clear hb2); (try clear hk); (try clear hi); (try clear ho0)))
                  (try simp only [Act.put, List.setIfInBounds_toArray, List.set_cons_zero, List.set_cons_succ])
                  go_cut [174] (fun v174 wc => ∃ (kq : Nat) (x174_71 : Bool), v174 = .bool x174_71 ∧ Aside0 (outpostlaw01_BitrowBack.j3 kq l1 x174_71 = some r) ∧ Aside0 (kq ≤ kj58) ∧ Aside0 (Below w.heap.size w wc))
                  case first => as_aux_lemma =>
                    have H := HC72.out
                    clear HC72
                    replace H := Option.bind_eq_some_iff.mp H
                    obtain ⟨t491, A790, H⟩ := H
                    replace H : ((outpostlaw01_num.f t480).bind fun t492 => ((outpostlaw01_num.f t484).bind fun t493 => ((outpostlaw01_num.f t488).bind fun t494 => (if (wrap64 ((wrap64 ((wrap64 (t491 + t492)) + t493)) + t494)) = 0 then (if (strOfNums t479).toList = (strOfNums l1).toList then (outpostlaw01_BitrowBack.j3 kj58 l1 ((strOfNums t487).toList != (strOfNums l1).toList)) else (outpostlaw01_BitrowBack.j3 kj58 l1 true)) else (outpostlaw01_BitrowBack.j3 kj58 l1 true))))) = some r := H
                    have A79 := Aside0.mk A790
                    clear A790
                    replace H := Option.bind_eq_some_iff.mp H
                    obtain ⟨t492, A800, H⟩ := H
                    replace H : ((outpostlaw01_num.f t484).bind fun t493 => ((outpostlaw01_num.f t488).bind fun t494 => (if (wrap64 ((wrap64 ((wrap64 (t491 + t492)) + t493)) + t494)) = 0 then (if (strOfNums t479).toList = (strOfNums l1).toList then (outpostlaw01_BitrowBack.j3 kj58 l1 ((strOfNums t487).toList != (strOfNums l1).toList)) else (outpostlaw01_BitrowBack.j3 kj58 l1 true)) else (outpostlaw01_BitrowBack.j3 kj58 l1 true)))) = some r := H
                    have A80 := Aside0.mk A800
                    clear A800
                    replace H := Option.bind_eq_some_iff.mp H
                    obtain ⟨t493, A810, H⟩ := H
                    replace H : ((outpostlaw01_num.f t488).bind fun t494 => (if (wrap64 ((wrap64 ((wrap64 (t491 + t492)) + t493)) + t494)) = 0 then (if (strOfNums t479).toList = (strOfNums l1).toList then (outpostlaw01_BitrowBack.j3 kj58 l1 ((strOfNums t487).toList != (strOfNums l1).toList)) else (outpostlaw01_BitrowBack.j3 kj58 l1 true)) else (outpostlaw01_BitrowBack.j3 kj58 l1 true))) = some r := H
                    have A81 := Aside0.mk A810
                    clear A810
                    replace H := Option.bind_eq_some_iff.mp H
                    obtain ⟨t494, A820, H⟩ := H
                    replace H : (if (wrap64 ((wrap64 ((wrap64 (t491 + t492)) + t493)) + t494)) = 0 then (if (strOfNums t479).toList = (strOfNums l1).toList then (outpostlaw01_BitrowBack.j3 kj58 l1 ((strOfNums t487).toList != (strOfNums l1).toList)) else (outpostlaw01_BitrowBack.j3 kj58 l1 true)) else (outpostlaw01_BitrowBack.j3 kj58 l1 true)) = some r := H
                    have A82 := Aside0.mk A820
                    clear A820
                    by_cases c83 : (wrap64 ((wrap64 ((wrap64 (t491 + t492)) + t493)) + t494)) = 0
                    · rw [if_pos c83] at H
                      have c83b0 : ((wrap64 ((wrap64 ((wrap64 (t491 + t492)) + t493)) + t494)) == 0) = true := beq_iff_eq.mpr c83
                      have c83b1 : ((wrap64 ((wrap64 ((wrap64 (t491 + t492)) + t493)) + t494)) != 0) = false := bne_eq_false_iff_eq.mpr c83
                      clear c83
                      (first | rw [c83b0] | (simp only [i64_w, i32_w]; rw [c83b0]) | skip)
                      by_cases c84 : (strOfNums t479).toList = (strOfNums l1).toList
                      · rw [if_pos c84] at H
                        have c84b0 : ((strOfNums t479).toList == (strOfNums l1).toList) = true := beq_iff_eq.mpr c84
                        have c84b1 : ((strOfNums t479).toList != (strOfNums l1).toList) = false := bne_eq_false_iff_eq.mpr c84
                        clear c84
                        have H' := Aside0.mk H
                        clear H
                        go_wp2_with (first | ((with_reducible refine gate_callee (f := 19) rfl ?_); refine goesL_ (some 150) rfl rfl Try.func19 (by kernel_rfl) rfl #[.int .i64 t476] rfl (by (try simp only [List.map_toArray, List.map_cons, List.map_nil]); first | done | rfl | (simp only [List.length_drop, List.length_take]; rfl)) ?_; (with_reducible refine (outpostlaw01_num.calls t476 t491 _ A79.out).mono ?_); rintro e w' ⟨rfl, ⟨nd, rfl⟩⟩; refine ⟨_, rfl, ?_⟩) | ((with_reducible refine gate_callee (f := 19) rfl ?_); refine goesL_ (some 152) rfl rfl Try.func19 (by kernel_rfl) rfl #[.int .i64 t480] rfl (by (try simp only [List.map_toArray, List.map_cons, List.map_nil]); first | done | rfl | (simp only [List.length_drop, List.length_take]; rfl)) ?_; (with_reducible refine (outpostlaw01_num.calls t480 t492 _ A80.out).mono ?_); rintro e w' ⟨rfl, ⟨nd, rfl⟩⟩; refine ⟨_, rfl, ?_⟩) | ((with_reducible refine gate_callee (f := 19) rfl ?_); refine goesL_ (some 155) rfl rfl Try.func19 (by kernel_rfl) rfl #[.int .i64 t484] rfl (by (try simp only [List.map_toArray, List.map_cons, List.map_nil]); first | done | rfl | (simp only [List.length_drop, List.length_take]; rfl)) ?_; (with_reducible refine (outpostlaw01_num.calls t484 t493 _ A81.out).mono ?_); rintro e w' ⟨rfl, ⟨nd, rfl⟩⟩; refine ⟨_, rfl, ?_⟩) | ((with_reducible refine gate_callee (f := 19) rfl ?_); refine goesL_ (some 158) rfl rfl Try.func19 (by kernel_rfl) rfl #[.int .i64 t488] rfl (by (try simp only [List.map_toArray, List.map_cons, List.map_nil]); first | done | rfl | (simp only [List.length_drop, List.length_take]; rfl)) ?_; (with_reducible refine (outpostlaw01_num.calls t488 t494 _ A82.out).mono ?_); rintro e w' ⟨rfl, ⟨nd, rfl⟩⟩; refine ⟨_, rfl, ?_⟩; have hcv85 := own_string (P := Try.prog) Try.underlying22 Try.underlying5 Try.underlying9 (Kd.own_of_R HO482.out); have hcv86 := fun n_ => own_string (P := Try.prog) Try.underlying22 Try.underlying5 Try.underlying9 (Kd.own_of_R (Kd.R_drewN HO482.out n_)); have hcv87 := Kd.C_string (P := Try.prog) (A := A1) (c := c1) Try.underlying22 Try.underlying5 Try.underlying9 (Kd.C_below HR1.out HB.out); have hcv88 := fun n_ => Kd.C_string (P := Try.prog) (A := A1) (c := c1) Try.underlying22 Try.underlying5 Try.underlying9 (Kd.C_drewN (Kd.C_below HR1.out HB.out) n_); have hcv89 := own_string (P := Try.prog) Try.underlying22 Try.underlying5 Try.underlying9 (Kd.own_of_R HO490.out); have hcv90 := fun n_ => own_string (P := Try.prog) Try.underlying22 Try.underlying5 Try.underlying9 (Kd.own_of_R (Kd.R_drewN HO490.out n_)); have hcv91 := Kd.C_string (P := Try.prog) (A := A1) (c := c1) Try.underlying22 Try.underlying5 Try.underlying9 (Kd.C_below HR1.out HB.out); have hcv92 := fun n_ => Kd.C_string (P := Try.prog) (A := A1) (c := c1) Try.underlying22 Try.underlying5 Try.underlying9 (Kd.C_drewN (Kd.C_below HR1.out HB.out) n_)))
                        go_meet
                        case rel => exact ⟨_, (((strOfNums t487).toList != (strOfNums l1).toList)), (by first | rfl | (simp; done) | (simp [*]; done) | (simp [wrap64]; done)), H', ⟨by have := HJ10.out; have := HJ50.out; have := HJ58.out; first | omega | exact Nat.le_refl _⟩, ⟨by repeat (first | (with_reducible first | exact HB.out | apply below_alloc | apply pw_below_drewN | apply below_drew1) | exact HB.out)⟩⟩
                      · rw [if_neg c84] at H
                        have c84b0 : ((strOfNums t479).toList == (strOfNums l1).toList) = false := beq_eq_false_iff_ne.mpr c84
                        have c84b1 : ((strOfNums t479).toList != (strOfNums l1).toList) = true := bne_iff_ne.mpr c84
                        have H' := Aside0.mk H
                        clear H
                        go_wp2_with (first | ((with_reducible refine gate_callee (f := 19) rfl ?_); refine goesL_ (some 150) rfl rfl Try.func19 (by kernel_rfl) rfl #[.int .i64 t476] rfl (by (try simp only [List.map_toArray, List.map_cons, List.map_nil]); first | done | rfl | (simp only [List.length_drop, List.length_take]; rfl)) ?_; (with_reducible refine (outpostlaw01_num.calls t476 t491 _ A79.out).mono ?_); rintro e w' ⟨rfl, ⟨nd, rfl⟩⟩; refine ⟨_, rfl, ?_⟩) | ((with_reducible refine gate_callee (f := 19) rfl ?_); refine goesL_ (some 152) rfl rfl Try.func19 (by kernel_rfl) rfl #[.int .i64 t480] rfl (by (try simp only [List.map_toArray, List.map_cons, List.map_nil]); first | done | rfl | (simp only [List.length_drop, List.length_take]; rfl)) ?_; (with_reducible refine (outpostlaw01_num.calls t480 t492 _ A80.out).mono ?_); rintro e w' ⟨rfl, ⟨nd, rfl⟩⟩; refine ⟨_, rfl, ?_⟩) | ((with_reducible refine gate_callee (f := 19) rfl ?_); refine goesL_ (some 155) rfl rfl Try.func19 (by kernel_rfl) rfl #[.int .i64 t484] rfl (by (try simp only [List.map_toArray, List.map_cons, List.map_nil]); first | done | rfl | (simp only [List.length_drop, List.length_take]; rfl)) ?_; (with_reducible refine (outpostlaw01_num.calls t484 t493 _ A81.out).mono ?_); rintro e w' ⟨rfl, ⟨nd, rfl⟩⟩; refine ⟨_, rfl, ?_⟩) | ((with_reducible refine gate_callee (f := 19) rfl ?_); refine goesL_ (some 158) rfl rfl Try.func19 (by kernel_rfl) rfl #[.int .i64 t488] rfl (by (try simp only [List.map_toArray, List.map_cons, List.map_nil]); first | done | rfl | (simp only [List.length_drop, List.length_take]; rfl)) ?_; (with_reducible refine (outpostlaw01_num.calls t488 t494 _ A82.out).mono ?_); rintro e w' ⟨rfl, ⟨nd, rfl⟩⟩; refine ⟨_, rfl, ?_⟩; have hcv93 := own_string (P := Try.prog) Try.underlying22 Try.underlying5 Try.underlying9 (Kd.own_of_R HO482.out); have hcv94 := fun n_ => own_string (P := Try.prog) Try.underlying22 Try.underlying5 Try.underlying9 (Kd.own_of_R (Kd.R_drewN HO482.out n_)); have hcv95 := Kd.C_string (P := Try.prog) (A := A1) (c := c1) Try.underlying22 Try.underlying5 Try.underlying9 (Kd.C_below HR1.out HB.out); have hcv96 := fun n_ => Kd.C_string (P := Try.prog) (A := A1) (c := c1) Try.underlying22 Try.underlying5 Try.underlying9 (Kd.C_drewN (Kd.C_below HR1.out HB.out) n_)))
                        go_meet
                        case rel => exact ⟨_, (true), (by first | rfl | (simp; done) | (simp [*]; done) | (simp [wrap64]; done)), H', ⟨by have := HJ10.out; have := HJ50.out; have := HJ58.out; first | omega | exact Nat.le_refl _⟩, ⟨by repeat (first | (with_reducible first | exact HB.out | apply below_alloc | apply pw_below_drewN | apply below_drew1) | exact HB.out)⟩⟩
                    · rw [if_neg c83] at H
                      have c83b0 : ((wrap64 ((wrap64 ((wrap64 (t491 + t492)) + t493)) + t494)) == 0) = false := beq_eq_false_iff_ne.mpr c83
                      have c83b1 : ((wrap64 ((wrap64 ((wrap64 (t491 + t492)) + t493)) + t494)) != 0) = true := bne_iff_ne.mpr c83
                      clear c83
                      (first | rw [c83b0] | (simp only [i64_w, i32_w]; rw [c83b0]) | skip)
                      have H' := Aside0.mk H
                      clear H
                      go_wp2_with (first | ((with_reducible refine gate_callee (f := 19) rfl ?_); refine goesL_ (some 150) rfl rfl Try.func19 (by kernel_rfl) rfl #[.int .i64 t476] rfl (by (try simp only [List.map_toArray, List.map_cons, List.map_nil]); first | done | rfl | (simp only [List.length_drop, List.length_take]; rfl)) ?_; (with_reducible refine (outpostlaw01_num.calls t476 t491 _ A79.out).mono ?_); rintro e w' ⟨rfl, ⟨nd, rfl⟩⟩; refine ⟨_, rfl, ?_⟩) | ((with_reducible refine gate_callee (f := 19) rfl ?_); refine goesL_ (some 152) rfl rfl Try.func19 (by kernel_rfl) rfl #[.int .i64 t480] rfl (by (try simp only [List.map_toArray, List.map_cons, List.map_nil]); first | done | rfl | (simp only [List.length_drop, List.length_take]; rfl)) ?_; (with_reducible refine (outpostlaw01_num.calls t480 t492 _ A80.out).mono ?_); rintro e w' ⟨rfl, ⟨nd, rfl⟩⟩; refine ⟨_, rfl, ?_⟩) | ((with_reducible refine gate_callee (f := 19) rfl ?_); refine goesL_ (some 155) rfl rfl Try.func19 (by kernel_rfl) rfl #[.int .i64 t484] rfl (by (try simp only [List.map_toArray, List.map_cons, List.map_nil]); first | done | rfl | (simp only [List.length_drop, List.length_take]; rfl)) ?_; (with_reducible refine (outpostlaw01_num.calls t484 t493 _ A81.out).mono ?_); rintro e w' ⟨rfl, ⟨nd, rfl⟩⟩; refine ⟨_, rfl, ?_⟩) | ((with_reducible refine gate_callee (f := 19) rfl ?_); refine goesL_ (some 158) rfl rfl Try.func19 (by kernel_rfl) rfl #[.int .i64 t488] rfl (by (try simp only [List.map_toArray, List.map_cons, List.map_nil]); first | done | rfl | (simp only [List.length_drop, List.length_take]; rfl)) ?_; (with_reducible refine (outpostlaw01_num.calls t488 t494 _ A82.out).mono ?_); rintro e w' ⟨rfl, ⟨nd, rfl⟩⟩; refine ⟨_, rfl, ?_⟩))
                      go_meet
                      case rel => exact ⟨_, (true), (by first | rfl | (simp; done) | (simp [*]; done) | (simp [wrap64]; done)), H', ⟨by have := HJ10.out; have := HJ50.out; have := HJ58.out; first | omega | exact Nat.le_refl _⟩, ⟨by repeat (first | (with_reducible first | exact HB.out | apply below_alloc | apply pw_below_drewN | apply below_drew1) | exact HB.out)⟩⟩
                  case rest => as_aux_lemma =>
                    clear HC72
                    try clear c1
                    try clear c2
                    try clear p2
                    try clear hcv2
                    try clear c3
                    try clear hcv3
                    try clear c4
                    try clear hcv4
                    try clear c5
                    try clear c6
                    try clear p6
                    try clear c8
                    try clear hcv8
                    try clear hcv9
                    try clear c12
                    try clear c16
                    try clear c19
                    try clear c23
                    try clear c24
                    try clear c24b0
                    try clear c24b1
                    try clear c25
                    try clear c25b0
                    try clear c25b1
                    try clear c26
                    try clear c26b0
                    try clear c26b1
                    try clear c28
                    try clear hcv28
                    try clear c29
                    try clear hcv29
                    try clear hcv30
                    try clear hcv31
                    try clear hcv32
                    try clear c33
                    try clear hcv33
                    try clear c34
                    try clear hcv34
                    try clear hcv35
                    try clear hcv37
                    try clear hcv38
                    try clear hcv39
                    try clear hcv40
                    try clear hcv41
                    try clear hcv42
                    try clear hcv43
                    try clear hcv44
                    try clear hcv45
                    try clear c46
                    try clear hcv46
                    try clear hcv47
                    try clear hcv48
                    try clear c49
                    try clear c52
                    try clear c52b0
                    try clear c54
                    try clear c54b0
                    try clear c54b1
                    try clear c56
                    try clear c56b0
                    try clear c56b1
                    try clear c64
                    try clear c64b0
                    try clear c64b1
                    try clear p64
                    try clear c65
                    try clear c65b0
                    try clear c65b1
                    try clear c66
                    try clear c83
                    try clear c83b0
                    try clear c83b1
                    try clear c84
                    try clear c84b0
                    try clear c84b1
                    try clear hcv85
                    try clear hcv86
                    try clear hcv87
                    try clear hcv88
                    try clear hcv89
                    try clear hcv90
                    try clear hcv91
                    try clear hcv92
                    try clear hcv93
                    try clear hcv94
                    try clear hcv95
                    try clear hcv96
                    try clear p2
                    try clear p6
                    try clear p64
                    obtain ⟨kq, x174_71, rfl, HA, HJ71, HB⟩ := hcut
                    cases kq with
                    | zero => exact absurd HA.out (by simp [outpostlaw01_BitrowBack.j3])
                    | succ kj71 =>
                      have H := HA.out
                      clear HA
                      simp only [outpostlaw01_BitrowBack.j3] at H
                      by_cases c97 : x174_71 = true
                      · subst c97
                        have H1 : (some false) = some r := by rw [if_pos rfl] at H; exact H
                        clear H
                        have H := H1
                        clear H1
                        obtain rfl := Option.some.inj H
                        go_wp2
                        go_ret
                        exact ⟨by first | rfl | (simp [errW_none, errW_some] <;> rfl) | (simp [*, errW_none, errW_some] <;> rfl), by repeat (first | (with_reducible first | exact HB.out | apply below_alloc | apply pw_below_drewN | apply below_drew1) | exact HB.out)⟩
                      · replace c97 := Bool.eq_false_iff.mpr c97
                        subst c97
                        have H1 : ((bitrow_Reverse.f l1).bind fun t495 => ((bitrow_Reverse.f t495).bind fun t498 => ((bitrow_Unweave.f l1 1).bind fun bt501 => ((bitrow_Weave.f kj71 bt501.1).bind fun bt505 => (if (strOfNums t498).toList = (strOfNums l1).toList then ((outpostlaw01_num.f bt501.2).bind fun t509 => ((outpostlaw01_num.f bt505.2).bind fun t510 => (if (wrap64 (t509 + t510)) = 0 then (if (bt501.1.length : Int) = 1 then (some ((strOfNums bt505.1).toList == (strOfNums l1).toList)) else (some false)) else (some false)))) else (some false)))))) = some r := by rw [if_neg (show ¬ (false = true) by decide)] at H; exact H
                        clear H
                        have H := H1
                        clear H1
                        replace H := Option.bind_eq_some_iff.mp H
                        obtain ⟨t495, A980, H⟩ := H
                        replace H : ((bitrow_Reverse.f t495).bind fun t498 => ((bitrow_Unweave.f l1 1).bind fun bt501 => ((bitrow_Weave.f kj71 bt501.1).bind fun bt505 => (if (strOfNums t498).toList = (strOfNums l1).toList then ((outpostlaw01_num.f bt501.2).bind fun t509 => ((outpostlaw01_num.f bt505.2).bind fun t510 => (if (wrap64 (t509 + t510)) = 0 then (if (bt501.1.length : Int) = 1 then (some ((strOfNums bt505.1).toList == (strOfNums l1).toList)) else (some false)) else (some false)))) else (some false))))) = some r := H
                        have A98 := Aside0.mk A980
                        clear A980
                        replace H := Option.bind_eq_some_iff.mp H
                        obtain ⟨t498, A990, H⟩ := H
                        replace H : ((bitrow_Unweave.f l1 1).bind fun bt501 => ((bitrow_Weave.f kj71 bt501.1).bind fun bt505 => (if (strOfNums t498).toList = (strOfNums l1).toList then ((outpostlaw01_num.f bt501.2).bind fun t509 => ((outpostlaw01_num.f bt505.2).bind fun t510 => (if (wrap64 (t509 + t510)) = 0 then (if (bt501.1.length : Int) = 1 then (some ((strOfNums bt505.1).toList == (strOfNums l1).toList)) else (some false)) else (some false)))) else (some false)))) = some r := H
                        have A99 := Aside0.mk A990
                        clear A990
                        replace H := Option.bind_eq_some_iff.mp H
                        obtain ⟨⟨t501, t502⟩, A1000, H⟩ := H
                        replace H : ((bitrow_Weave.f kj71 t501).bind fun bt505 => (if (strOfNums t498).toList = (strOfNums l1).toList then ((outpostlaw01_num.f t502).bind fun t509 => ((outpostlaw01_num.f bt505.2).bind fun t510 => (if (wrap64 (t509 + t510)) = 0 then (if (t501.length : Int) = 1 then (some ((strOfNums bt505.1).toList == (strOfNums l1).toList)) else (some false)) else (some false)))) else (some false))) = some r := H
                        have A100 := Aside0.mk A1000
                        clear A1000
                        replace H := Option.bind_eq_some_iff.mp H
                        obtain ⟨⟨t505, t506⟩, A1010, H⟩ := H
                        replace H : (if (strOfNums t498).toList = (strOfNums l1).toList then ((outpostlaw01_num.f t502).bind fun t509 => ((outpostlaw01_num.f t506).bind fun t510 => (if (wrap64 (t509 + t510)) = 0 then (if (t501.length : Int) = 1 then (some ((strOfNums t505).toList == (strOfNums l1).toList)) else (some false)) else (some false)))) else (some false)) = some r := H
                        have A101 := Aside0.mk A1010
                        clear A1010
                        by_cases c102 : (strOfNums t498).toList = (strOfNums l1).toList
                        · rw [if_pos c102] at H
                          have c102b0 : ((strOfNums t498).toList == (strOfNums l1).toList) = true := beq_iff_eq.mpr c102
                          have c102b1 : ((strOfNums t498).toList != (strOfNums l1).toList) = false := bne_eq_false_iff_eq.mpr c102
                          clear c102
                          replace H := Option.bind_eq_some_iff.mp H
                          obtain ⟨t509, A1030, H⟩ := H
                          replace H : ((outpostlaw01_num.f t506).bind fun t510 => (if (wrap64 (t509 + t510)) = 0 then (if (t501.length : Int) = 1 then (some ((strOfNums t505).toList == (strOfNums l1).toList)) else (some false)) else (some false))) = some r := H
                          have A103 := Aside0.mk A1030
                          clear A1030
                          replace H := Option.bind_eq_some_iff.mp H
                          obtain ⟨t510, A1040, H⟩ := H
                          replace H : (if (wrap64 (t509 + t510)) = 0 then (if (t501.length : Int) = 1 then (some ((strOfNums t505).toList == (strOfNums l1).toList)) else (some false)) else (some false)) = some r := H
                          have A104 := Aside0.mk A1040
                          clear A1040
                          by_cases c105 : (wrap64 (t509 + t510)) = 0
                          · rw [if_pos c105] at H
                            have c105b0 : ((wrap64 (t509 + t510)) == 0) = true := beq_iff_eq.mpr c105
                            have c105b1 : ((wrap64 (t509 + t510)) != 0) = false := bne_eq_false_iff_eq.mpr c105
                            clear c105
                            by_cases c106 : (t501.length : Int) = 1
                            · rw [if_pos c106] at H
                              have c106b0 : ((t501.length : Int) == 1) = true := beq_iff_eq.mpr c106
                              have c106b1 : ((t501.length : Int) != 1) = false := bne_eq_false_iff_eq.mpr c106
                              clear c106
                              obtain rfl := Option.some.inj H
                              go_wp2_with (first | ((with_reducible refine gate_callee (f := 47) rfl ?_); refine goesL_ (some 176) rfl rfl Try.func47 (by kernel_rfl) rfl #[.slice A1 l1.length c1] rfl (by (try simp only [List.map_toArray, List.map_cons, List.map_nil]); first | done | rfl | (simp only [List.length_drop, List.length_take]; rfl)) ?_; (with_reducible refine (bitrow_Reverse.calls _ _ l1 t495 _ ?side1 ?side2 A98.out).mono ?_); (case side1 => repeat (first | exact (Kd.C_below HR1.out HB.out) | (with_reducible refine Kd.C_alloc ?_ _) | (with_reducible refine Kd.C_drewN ?_ _) | (with_reducible refine Kd.C_drew ?_))); (case side2 => exact HC1.out); rintro e w107 ⟨v496, rfl, ho0, hb⟩; refine ⟨_, rfl, ?_⟩; have n0_ := Aside0.mk (Kd.R_lower ho0 (below_size (by repeat (first | (with_reducible first | exact HB.out | apply below_alloc | apply pw_below_drewN | apply below_drew1) | exact HB.out)))); have n1_ := Aside0.mk (below_step (by repeat (first | (with_reducible first | exact HB.out | apply below_alloc | apply pw_below_drewN | apply below_drew1) | exact HB.out)) hb); clear HB; have HO497 := n0_; have HB := n1_; clear n0_ n1_; (try clear hb); (try clear hb2); (try clear hk); (try clear hi); (try clear ho0); obtain ⟨Ao108, co108, eo108⟩ := Kd.R_slice HO497.out; subst eo108) | ((with_reducible refine gate_callee (f := 47) rfl ?_); refine goesL_ (some 177) rfl rfl Try.func47 (by kernel_rfl) rfl #[.slice Ao108 t495.length co108] rfl (by (try simp only [List.map_toArray, List.map_cons, List.map_nil]); first | done | rfl | (simp only [List.length_drop, List.length_take]; rfl)) ?_; (with_reducible refine (bitrow_Reverse.calls _ _ t495 t498 _ ?side1 ?side2 A99.out).mono ?_); (case side1 => repeat (first | exact (Kd.R_reads' HO497.out).2.2 | (with_reducible refine Kd.C_alloc ?_ _) | (with_reducible refine Kd.C_drewN ?_ _) | (with_reducible refine Kd.C_drew ?_))); (case side2 => exact (Kd.R_reads' HO497.out).2.1); rintro e w109 ⟨v499, rfl, ho0, hb⟩; refine ⟨_, rfl, ?_⟩; have n0_ := Aside0.mk (Kd.R_elder' (by (with_reducible repeat (first | apply Kd.R_alloc | apply Kd.R_drewN | apply Kd.R_drew)); exact HO497.out) (Kd.R_base ho0) hb); have n1_ := Aside0.mk (Kd.R_lower (Kd.R_new' ho0 (Kd.R_lt (by (with_reducible repeat (first | apply Kd.R_alloc | apply Kd.R_drewN | apply Kd.R_drew)); exact HO497.out))) (below_size (by repeat (first | (with_reducible first | exact HB.out | apply below_alloc | apply pw_below_drewN | apply below_drew1) | exact HB.out)))); have n2_ := Aside0.mk (below_step (by repeat (first | (with_reducible first | exact HB.out | apply below_alloc | apply pw_below_drewN | apply below_drew1) | exact HB.out)) hb); clear HO497; clear HB; have HO497 := n0_; have HO500 := n1_; have HB := n2_; clear n0_ n1_ n2_; (try clear hb); (try clear hb2); (try clear hk); (try clear hi); (try clear ho0)) | ((with_reducible refine gate_callee (f := 38) rfl ?_); refine goesL_ (some 180) rfl rfl Try.func38 (by kernel_rfl) rfl #[.slice A1 l1.length c1, .int .i64 1] rfl (by (try simp only [List.map_toArray, List.map_cons, List.map_nil]); first | done | rfl | (simp only [List.length_drop, List.length_take]; rfl)) ?_; (with_reducible refine (bitrow_Unweave.calls _ _ l1 1 t501 t502 _ ?side1 ?side2 A100.out).mono ?_); (case side1 => repeat (first | exact (Kd.C_below HR1.out HB.out) | (with_reducible refine Kd.C_alloc ?_ _) | (with_reducible refine Kd.C_drewN ?_ _) | (with_reducible refine Kd.C_drew ?_))); (case side2 => exact HC1.out); rintro e w110 ⟨v503, rfl, ho0, hb⟩; refine ⟨_, rfl, ?_⟩; have n0_ := Aside0.mk (Kd.R_below (by (with_reducible repeat (first | apply Kd.R_alloc | apply Kd.R_drewN | apply Kd.R_drew)); exact HO497.out) hb); have n1_ := Aside0.mk (Kd.R_below (by (with_reducible repeat (first | apply Kd.R_alloc | apply Kd.R_drewN | apply Kd.R_drew)); exact HO500.out) hb); have n2_ := Aside0.mk (Kd.V_lower (Kd.V_mono (ok' := fun k_ => some k_ ≠ (.slice Ao108 t495.length co108 : Value).ownBlock ∧ some k_ ≠ (v499 : Value).ownBlock) ho0 (fun k_ hk_ => ⟨(Kd.fresh' (Kd.R_lt (by (with_reducible repeat (first | apply Kd.R_alloc | apply Kd.R_drewN | apply Kd.R_drew)); exact HO497.out)) k_ hk_), (Kd.fresh' (Kd.R_lt (by (with_reducible repeat (first | apply Kd.R_alloc | apply Kd.R_drewN | apply Kd.R_drew)); exact HO500.out)) k_ hk_)⟩)) (below_size (by repeat (first | (with_reducible first | exact HB.out | apply below_alloc | apply pw_below_drewN | apply below_drew1) | exact HB.out)))); have n3_ := Aside0.mk (below_step (by repeat (first | (with_reducible first | exact HB.out | apply below_alloc | apply pw_below_drewN | apply below_drew1) | exact HB.out)) hb); clear HO497; clear HO500; clear HB; have HO497 := n0_; have HO500 := n1_; have HO504 := n2_; have HB := n3_; clear n0_ n1_ n2_ n3_; (try clear hb); (try clear hb2); (try clear hk); (try clear hi); (try clear ho0); obtain ⟨Ao111, co111, eo111⟩ := Kd.V_slice HO504.out; subst eo111) | ((with_reducible refine gate_callee (f := 37) rfl ?_); refine goesL_ (some 185) rfl rfl Try.func37 (by kernel_rfl) rfl #[.slice Ao111 t501.length co111] rfl (by (try simp only [List.map_toArray, List.map_cons, List.map_nil]); first | done | rfl | (simp only [List.length_drop, List.length_take]; rfl)) ?_; (with_reducible refine (bitrow_Weave.calls kj71 _ _ t501 t505 t506 _ ?side1 ?side2 A101.out).mono ?_); (case side1 => repeat (first | exact (Kd.V_reads' HO504.out).2.2 | (with_reducible refine Kd.C_alloc ?_ _) | (with_reducible refine Kd.C_drewN ?_ _) | (with_reducible refine Kd.C_drew ?_))); (case side2 => exact (Kd.V_reads' HO504.out).2.1); rintro e w112 ⟨v507, rfl, ho0, hb⟩; refine ⟨_, rfl, ?_⟩; have n0_ := Aside0.mk (Kd.R_elder' (by (with_reducible repeat (first | apply Kd.R_alloc | apply Kd.R_drewN | apply Kd.R_drew)); exact HO497.out) (Kd.R_base ho0) hb); have n1_ := Aside0.mk (Kd.R_elder' (by (with_reducible repeat (first | apply Kd.R_alloc | apply Kd.R_drewN | apply Kd.R_drew)); exact HO500.out) (Kd.R_base ho0) hb); have n2_ := Aside0.mk (Kd.V_elder' (by (with_reducible repeat (first | apply Kd.V_alloc | apply Kd.V_drewN | apply Kd.V_drew)); exact HO504.out) (Kd.R_base ho0) hb); have n3_ := Aside0.mk (Kd.R_lower (Kd.R_new' (Kd.R_new' ho0 (Kd.R_lt (by (with_reducible repeat (first | apply Kd.R_alloc | apply Kd.R_drewN | apply Kd.R_drew)); exact HO497.out))) (Kd.R_lt (by (with_reducible repeat (first | apply Kd.R_alloc | apply Kd.R_drewN | apply Kd.R_drew)); exact HO500.out))) (below_size (by repeat (first | (with_reducible first | exact HB.out | apply below_alloc | apply pw_below_drewN | apply below_drew1) | exact HB.out)))); have n4_ := Aside0.mk (below_step (by repeat (first | (with_reducible first | exact HB.out | apply below_alloc | apply pw_below_drewN | apply below_drew1) | exact HB.out)) hb); clear HO497; clear HO500; clear HO504; clear HB; have HO497 := n0_; have HO500 := n1_; have HO504 := n2_; have HO508 := n3_; have HB := n4_; clear n0_ n1_ n2_ n3_ n4_; (try clear hb); (try clear hb2); (try clear hk); (try clear hi); (try clear ho0); have hcv113 := own_string (P := Try.prog) Try.underlying22 Try.underlying5 Try.underlying9 (Kd.own_of_R HO500.out); have hcv114 := fun n_ => own_string (P := Try.prog) Try.underlying22 Try.underlying5 Try.underlying9 (Kd.own_of_R (Kd.R_drewN HO500.out n_)); have hcv115 := Kd.C_string (P := Try.prog) (A := A1) (c := c1) Try.underlying22 Try.underlying5 Try.underlying9 (Kd.C_below HR1.out HB.out); have hcv116 := fun n_ => Kd.C_string (P := Try.prog) (A := A1) (c := c1) Try.underlying22 Try.underlying5 Try.underlying9 (Kd.C_drewN (Kd.C_below HR1.out HB.out) n_)) | (go_at_call 19; (with_reducible refine (outpostlaw01_num.calls t502 t509 _ A103.out).mono ?_); rintro e w' ⟨rfl, ⟨nd, rfl⟩⟩) | (go_at_call 19; (with_reducible refine (outpostlaw01_num.calls t506 t510 _ A104.out).mono ?_); rintro e w' ⟨rfl, ⟨nd, rfl⟩⟩; have hcv117 := own_string (P := Try.prog) Try.underlying22 Try.underlying5 Try.underlying9 (Kd.own_of_R HO508.out); have hcv118 := fun n_ => own_string (P := Try.prog) Try.underlying22 Try.underlying5 Try.underlying9 (Kd.own_of_R (Kd.R_drewN HO508.out n_)); have hcv119 := Kd.C_string (P := Try.prog) (A := A1) (c := c1) Try.underlying22 Try.underlying5 Try.underlying9 (Kd.C_below HR1.out HB.out); have hcv120 := fun n_ => Kd.C_string (P := Try.prog) (A := A1) (c := c1) Try.underlying22 Try.underlying5 Try.underlying9 (Kd.C_drewN (Kd.C_below HR1.out HB.out) n_)))
                              go_ret
                              exact ⟨by first | rfl | (simp [errW_none, errW_some] <;> rfl) | (simp [*, errW_none, errW_some] <;> rfl), by repeat (first | (with_reducible first | exact HB.out | apply below_alloc | apply pw_below_drewN | apply below_drew1) | exact HB.out)⟩
                            · rw [if_neg c106] at H
                              have c106b0 : ((t501.length : Int) == 1) = false := beq_eq_false_iff_ne.mpr c106
                              have c106b1 : ((t501.length : Int) != 1) = true := bne_iff_ne.mpr c106
                              obtain rfl := Option.some.inj H
                              go_wp2_with (first | ((with_reducible refine gate_callee (f := 47) rfl ?_); refine goesL_ (some 176) rfl rfl Try.func47 (by kernel_rfl) rfl #[.slice A1 l1.length c1] rfl (by (try simp only [List.map_toArray, List.map_cons, List.map_nil]); first | done | rfl | (simp only [List.length_drop, List.length_take]; rfl)) ?_; (with_reducible refine (bitrow_Reverse.calls _ _ l1 t495 _ ?side1 ?side2 A98.out).mono ?_); (case side1 => repeat (first | exact (Kd.C_below HR1.out HB.out) | (with_reducible refine Kd.C_alloc ?_ _) | (with_reducible refine Kd.C_drewN ?_ _) | (with_reducible refine Kd.C_drew ?_))); (case side2 => exact HC1.out); rintro e w121 ⟨v496, rfl, ho0, hb⟩; refine ⟨_, rfl, ?_⟩; have n0_ := Aside0.mk (Kd.R_lower ho0 (below_size (by repeat (first | (with_reducible first | exact HB.out | apply below_alloc | apply pw_below_drewN | apply below_drew1) | exact HB.out)))); have n1_ := Aside0.mk (below_step (by repeat (first | (with_reducible first | exact HB.out | apply below_alloc | apply pw_below_drewN | apply below_drew1) | exact HB.out)) hb); clear HB; have HO497 := n0_; have HB := n1_; clear n0_ n1_; (try clear hb); (try clear hb2); (try clear hk); (try clear hi); (try clear ho0); obtain ⟨Ao122, co122, eo122⟩ := Kd.R_slice HO497.out; subst eo122) | ((with_reducible refine gate_callee (f := 47) rfl ?_); refine goesL_ (some 177) rfl rfl Try.func47 (by kernel_rfl) rfl #[.slice Ao122 t495.length co122] rfl (by (try simp only [List.map_toArray, List.map_cons, List.map_nil]); first | done | rfl | (simp only [List.length_drop, List.length_take]; rfl)) ?_; (with_reducible refine (bitrow_Reverse.calls _ _ t495 t498 _ ?side1 ?side2 A99.out).mono ?_); (case side1 => repeat (first | exact (Kd.R_reads' HO497.out).2.2 | (with_reducible refine Kd.C_alloc ?_ _) | (with_reducible refine Kd.C_drewN ?_ _) | (with_reducible refine Kd.C_drew ?_))); (case side2 => exact (Kd.R_reads' HO497.out).2.1); rintro e w123 ⟨v499, rfl, ho0, hb⟩; refine ⟨_, rfl, ?_⟩; have n0_ := Aside0.mk (Kd.R_elder' (by (with_reducible repeat (first | apply Kd.R_alloc | apply Kd.R_drewN | apply Kd.R_drew)); exact HO497.out) (Kd.R_base ho0) hb); have n1_ := Aside0.mk (Kd.R_lower (Kd.R_new' ho0 (Kd.R_lt (by (with_reducible repeat (first | apply Kd.R_alloc | apply Kd.R_drewN | apply Kd.R_drew)); exact HO497.out))) (below_size (by repeat (first | (with_reducible first | exact HB.out | apply below_alloc | apply pw_below_drewN | apply below_drew1) | exact HB.out)))); have n2_ := Aside0.mk (below_step (by repeat (first | (with_reducible first | exact HB.out | apply below_alloc | apply pw_below_drewN | apply below_drew1) | exact HB.out)) hb); clear HO497; clear HB; have HO497 := n0_; have HO500 := n1_; have HB := n2_; clear n0_ n1_ n2_; (try clear hb); (try clear hb2); (try clear hk); (try clear hi); (try clear ho0)) | ((with_reducible refine gate_callee (f := 38) rfl ?_); refine goesL_ (some 180) rfl rfl Try.func38 (by kernel_rfl) rfl #[.slice A1 l1.length c1, .int .i64 1] rfl (by (try simp only [List.map_toArray, List.map_cons, List.map_nil]); first | done | rfl | (simp only [List.length_drop, List.length_take]; rfl)) ?_; (with_reducible refine (bitrow_Unweave.calls _ _ l1 1 t501 t502 _ ?side1 ?side2 A100.out).mono ?_); (case side1 => repeat (first | exact (Kd.C_below HR1.out HB.out) | (with_reducible refine Kd.C_alloc ?_ _) | (with_reducible refine Kd.C_drewN ?_ _) | (with_reducible refine Kd.C_drew ?_))); (case side2 => exact HC1.out); rintro e w124 ⟨v503, rfl, ho0, hb⟩; refine ⟨_, rfl, ?_⟩; have n0_ := Aside0.mk (Kd.R_below (by (with_reducible repeat (first | apply Kd.R_alloc | apply Kd.R_drewN | apply Kd.R_drew)); exact HO497.out) hb); have n1_ := Aside0.mk (Kd.R_below (by (with_reducible repeat (first | apply Kd.R_alloc | apply Kd.R_drewN | apply Kd.R_drew)); exact HO500.out) hb); have n2_ := Aside0.mk (Kd.V_lower (Kd.V_mono (ok' := fun k_ => some k_ ≠ (.slice Ao122 t495.length co122 : Value).ownBlock ∧ some k_ ≠ (v499 : Value).ownBlock) ho0 (fun k_ hk_ => ⟨(Kd.fresh' (Kd.R_lt (by (with_reducible repeat (first | apply Kd.R_alloc | apply Kd.R_drewN | apply Kd.R_drew)); exact HO497.out)) k_ hk_), (Kd.fresh' (Kd.R_lt (by (with_reducible repeat (first | apply Kd.R_alloc | apply Kd.R_drewN | apply Kd.R_drew)); exact HO500.out)) k_ hk_)⟩)) (below_size (by repeat (first | (with_reducible first | exact HB.out | apply below_alloc | apply pw_below_drewN | apply below_drew1) | exact HB.out)))); have n3_ := Aside0.mk (below_step (by repeat (first | (with_reducible first | exact HB.out | apply below_alloc | apply pw_below_drewN | apply below_drew1) | exact HB.out)) hb); clear HO497; clear HO500; clear HB; have HO497 := n0_; have HO500 := n1_; have HO504 := n2_; have HB := n3_; clear n0_ n1_ n2_ n3_; (try clear hb); (try clear hb2); (try clear hk); (try clear hi); (try clear ho0); obtain ⟨Ao125, co125, eo125⟩ := Kd.V_slice HO504.out; subst eo125) | ((with_reducible refine gate_callee (f := 37) rfl ?_); refine goesL_ (some 185) rfl rfl Try.func37 (by kernel_rfl) rfl #[.slice Ao125 t501.length co125] rfl (by (try simp only [List.map_toArray, List.map_cons, List.map_nil]); first | done | rfl | (simp only [List.length_drop, List.length_take]; rfl)) ?_; (with_reducible refine (bitrow_Weave.calls kj71 _ _ t501 t505 t506 _ ?side1 ?side2 A101.out).mono ?_); (case side1 => repeat (first | exact (Kd.V_reads' HO504.out).2.2 | (with_reducible refine Kd.C_alloc ?_ _) | (with_reducible refine Kd.C_drewN ?_ _) | (with_reducible refine Kd.C_drew ?_))); (case side2 => exact (Kd.V_reads' HO504.out).2.1); rintro e w126 ⟨v507, rfl, ho0, hb⟩; refine ⟨_, rfl, ?_⟩; have n0_ := Aside0.mk (Kd.R_elder' (by (with_reducible repeat (first | apply Kd.R_alloc | apply Kd.R_drewN | apply Kd.R_drew)); exact HO497.out) (Kd.R_base ho0) hb); have n1_ := Aside0.mk (Kd.R_elder' (by (with_reducible repeat (first | apply Kd.R_alloc | apply Kd.R_drewN | apply Kd.R_drew)); exact HO500.out) (Kd.R_base ho0) hb); have n2_ := Aside0.mk (Kd.V_elder' (by (with_reducible repeat (first | apply Kd.V_alloc | apply Kd.V_drewN | apply Kd.V_drew)); exact HO504.out) (Kd.R_base ho0) hb); have n3_ := Aside0.mk (Kd.R_lower (Kd.R_new' (Kd.R_new' ho0 (Kd.R_lt (by (with_reducible repeat (first | apply Kd.R_alloc | apply Kd.R_drewN | apply Kd.R_drew)); exact HO497.out))) (Kd.R_lt (by (with_reducible repeat (first | apply Kd.R_alloc | apply Kd.R_drewN | apply Kd.R_drew)); exact HO500.out))) (below_size (by repeat (first | (with_reducible first | exact HB.out | apply below_alloc | apply pw_below_drewN | apply below_drew1) | exact HB.out)))); have n4_ := Aside0.mk (below_step (by repeat (first | (with_reducible first | exact HB.out | apply below_alloc | apply pw_below_drewN | apply below_drew1) | exact HB.out)) hb); clear HO497; clear HO500; clear HO504; clear HB; have HO497 := n0_; have HO500 := n1_; have HO504 := n2_; have HO508 := n3_; have HB := n4_; clear n0_ n1_ n2_ n3_ n4_; (try clear hb); (try clear hb2); (try clear hk); (try clear hi); (try clear ho0); have hcv127 := own_string (P := Try.prog) Try.underlying22 Try.underlying5 Try.underlying9 (Kd.own_of_R HO500.out); have hcv128 := fun n_ => own_string (P := Try.prog) Try.underlying22 Try.underlying5 Try.underlying9 (Kd.own_of_R (Kd.R_drewN HO500.out n_)); have hcv129 := Kd.C_string (P := Try.prog) (A := A1) (c := c1) Try.underlying22 Try.underlying5 Try.underlying9 (Kd.C_below HR1.out HB.out); have hcv130 := fun n_ => Kd.C_string (P := Try.prog) (A := A1) (c := c1) Try.underlying22 Try.underlying5 Try.underlying9 (Kd.C_drewN (Kd.C_below HR1.out HB.out) n_)) | (go_at_call 19; (with_reducible refine (outpostlaw01_num.calls t502 t509 _ A103.out).mono ?_); rintro e w' ⟨rfl, ⟨nd, rfl⟩⟩) | (go_at_call 19; (with_reducible refine (outpostlaw01_num.calls t506 t510 _ A104.out).mono ?_); rintro e w' ⟨rfl, ⟨nd, rfl⟩⟩))
                              go_ret
                              exact ⟨by first | rfl | (simp [errW_none, errW_some] <;> rfl) | (simp [*, errW_none, errW_some] <;> rfl), by repeat (first | (with_reducible first | exact HB.out | apply below_alloc | apply pw_below_drewN | apply below_drew1) | exact HB.out)⟩
                          · rw [if_neg c105] at H
                            have c105b0 : ((wrap64 (t509 + t510)) == 0) = false := beq_eq_false_iff_ne.mpr c105
                            have c105b1 : ((wrap64 (t509 + t510)) != 0) = true := bne_iff_ne.mpr c105
                            clear c105
                            obtain rfl := Option.some.inj H
                            go_wp2_with (first | ((with_reducible refine gate_callee (f := 47) rfl ?_); refine goesL_ (some 176) rfl rfl Try.func47 (by kernel_rfl) rfl #[.slice A1 l1.length c1] rfl (by (try simp only [List.map_toArray, List.map_cons, List.map_nil]); first | done | rfl | (simp only [List.length_drop, List.length_take]; rfl)) ?_; (with_reducible refine (bitrow_Reverse.calls _ _ l1 t495 _ ?side1 ?side2 A98.out).mono ?_); (case side1 => repeat (first | exact (Kd.C_below HR1.out HB.out) | (with_reducible refine Kd.C_alloc ?_ _) | (with_reducible refine Kd.C_drewN ?_ _) | (with_reducible refine Kd.C_drew ?_))); (case side2 => exact HC1.out); rintro e w131 ⟨v496, rfl, ho0, hb⟩; refine ⟨_, rfl, ?_⟩; have n0_ := Aside0.mk (Kd.R_lower ho0 (below_size (by repeat (first | (with_reducible first | exact HB.out | apply below_alloc | apply pw_below_drewN | apply below_drew1) | exact HB.out)))); have n1_ := Aside0.mk (below_step (by repeat (first | (with_reducible first | exact HB.out | apply below_alloc | apply pw_below_drewN | apply below_drew1) | exact HB.out)) hb); clear HB; have HO497 := n0_; have HB := n1_; clear n0_ n1_; (try clear hb); (try clear hb2); (try clear hk); (try clear hi); (try clear ho0); obtain ⟨Ao132, co132, eo132⟩ := Kd.R_slice HO497.out; subst eo132) | ((with_reducible refine gate_callee (f := 47) rfl ?_); refine goesL_ (some 177) rfl rfl Try.func47 (by kernel_rfl) rfl #[.slice Ao132 t495.length co132] rfl (by (try simp only [List.map_toArray, List.map_cons, List.map_nil]); first | done | rfl | (simp only [List.length_drop, List.length_take]; rfl)) ?_; (with_reducible refine (bitrow_Reverse.calls _ _ t495 t498 _ ?side1 ?side2 A99.out).mono ?_); (case side1 => repeat (first | exact (Kd.R_reads' HO497.out).2.2 | (with_reducible refine Kd.C_alloc ?_ _) | (with_reducible refine Kd.C_drewN ?_ _) | (with_reducible refine Kd.C_drew ?_))); (case side2 => exact (Kd.R_reads' HO497.out).2.1); rintro e w133 ⟨v499, rfl, ho0, hb⟩; refine ⟨_, rfl, ?_⟩; have n0_ := Aside0.mk (Kd.R_elder' (by (with_reducible repeat (first | apply Kd.R_alloc | apply Kd.R_drewN | apply Kd.R_drew)); exact HO497.out) (Kd.R_base ho0) hb); have n1_ := Aside0.mk (Kd.R_lower (Kd.R_new' ho0 (Kd.R_lt (by (with_reducible repeat (first | apply Kd.R_alloc | apply Kd.R_drewN | apply Kd.R_drew)); exact HO497.out))) (below_size (by repeat (first | (with_reducible first | exact HB.out | apply below_alloc | apply pw_below_drewN | apply below_drew1) | exact HB.out)))); have n2_ := Aside0.mk (below_step (by repeat (first | (with_reducible first | exact HB.out | apply below_alloc | apply pw_below_drewN | apply below_drew1) | exact HB.out)) hb); clear HO497; clear HB; have HO497 := n0_; have HO500 := n1_; have HB := n2_; clear n0_ n1_ n2_; (try clear hb); (try clear hb2); (try clear hk); (try clear hi); (try clear ho0)) | ((with_reducible refine gate_callee (f := 38) rfl ?_); refine goesL_ (some 180) rfl rfl Try.func38 (by kernel_rfl) rfl #[.slice A1 l1.length c1, .int .i64 1] rfl (by (try simp only [List.map_toArray, List.map_cons, List.map_nil]); first | done | rfl | (simp only [List.length_drop, List.length_take]; rfl)) ?_; (with_reducible refine (bitrow_Unweave.calls _ _ l1 1 t501 t502 _ ?side1 ?side2 A100.out).mono ?_); (case side1 => repeat (first | exact (Kd.C_below HR1.out HB.out) | (with_reducible refine Kd.C_alloc ?_ _) | (with_reducible refine Kd.C_drewN ?_ _) | (with_reducible refine Kd.C_drew ?_))); (case side2 => exact HC1.out); rintro e w134 ⟨v503, rfl, ho0, hb⟩; refine ⟨_, rfl, ?_⟩; have n0_ := Aside0.mk (Kd.R_below (by (with_reducible repeat (first | apply Kd.R_alloc | apply Kd.R_drewN | apply Kd.R_drew)); exact HO497.out) hb); have n1_ := Aside0.mk (Kd.R_below (by (with_reducible repeat (first | apply Kd.R_alloc | apply Kd.R_drewN | apply Kd.R_drew)); exact HO500.out) hb); have n2_ := Aside0.mk (Kd.V_lower (Kd.V_mono (ok' := fun k_ => some k_ ≠ (.slice Ao132 t495.length co132 : Value).ownBlock ∧ some k_ ≠ (v499 : Value).ownBlock) ho0 (fun k_ hk_ => ⟨(Kd.fresh' (Kd.R_lt (by (with_reducible repeat (first | apply Kd.R_alloc | apply Kd.R_drewN | apply Kd.R_drew)); exact HO497.out)) k_ hk_), (Kd.fresh' (Kd.R_lt (by (with_reducible repeat (first | apply Kd.R_alloc | apply Kd.R_drewN | apply Kd.R_drew)); exact HO500.out)) k_ hk_)⟩)) (below_size (by repeat (first | (with_reducible first | exact HB.out | apply below_alloc | apply pw_below_drewN | apply below_drew1) | exact HB.out)))); have n3_ := Aside0.mk (below_step (by repeat (first | (with_reducible first | exact HB.out | apply below_alloc | apply pw_below_drewN | apply below_drew1) | exact HB.out)) hb); clear HO497; clear HO500; clear HB; have HO497 := n0_; have HO500 := n1_; have HO504 := n2_; have HB := n3_; clear n0_ n1_ n2_ n3_; (try clear hb); (try clear hb2); (try clear hk); (try clear hi); (try clear ho0); obtain ⟨Ao135, co135, eo135⟩ := Kd.V_slice HO504.out; subst eo135) | ((with_reducible refine gate_callee (f := 37) rfl ?_); refine goesL_ (some 185) rfl rfl Try.func37 (by kernel_rfl) rfl #[.slice Ao135 t501.length co135] rfl (by (try simp only [List.map_toArray, List.map_cons, List.map_nil]); first | done | rfl | (simp only [List.length_drop, List.length_take]; rfl)) ?_; (with_reducible refine (bitrow_Weave.calls kj71 _ _ t501 t505 t506 _ ?side1 ?side2 A101.out).mono ?_); (case side1 => repeat (first | exact (Kd.V_reads' HO504.out).2.2 | (with_reducible refine Kd.C_alloc ?_ _) | (with_reducible refine Kd.C_drewN ?_ _) | (with_reducible refine Kd.C_drew ?_))); (case side2 => exact (Kd.V_reads' HO504.out).2.1); rintro e w136 ⟨v507, rfl, ho0, hb⟩; refine ⟨_, rfl, ?_⟩; have n0_ := Aside0.mk (Kd.R_elder' (by (with_reducible repeat (first | apply Kd.R_alloc | apply Kd.R_drewN | apply Kd.R_drew)); exact HO497.out) (Kd.R_base ho0) hb); have n1_ := Aside0.mk (Kd.R_elder' (by (with_reducible repeat (first | apply Kd.R_alloc | apply Kd.R_drewN | apply Kd.R_drew)); exact HO500.out) (Kd.R_base ho0) hb); have n2_ := Aside0.mk (Kd.V_elder' (by (with_reducible repeat (first | apply Kd.V_alloc | apply Kd.V_drewN | apply Kd.V_drew)); exact HO504.out) (Kd.R_base ho0) hb); have n3_ := Aside0.mk (Kd.R_lower (Kd.R_new' (Kd.R_new' ho0 (Kd.R_lt (by (with_reducible repeat (first | apply Kd.R_alloc | apply Kd.R_drewN | apply Kd.R_drew)); exact HO497.out))) (Kd.R_lt (by (with_reducible repeat (first | apply Kd.R_alloc | apply Kd.R_drewN | apply Kd.R_drew)); exact HO500.out))) (below_size (by repeat (first | (with_reducible first | exact HB.out | apply below_alloc | apply pw_below_drewN | apply below_drew1) | exact HB.out)))); have n4_ := Aside0.mk (below_step (by repeat (first | (with_reducible first | exact HB.out | apply below_alloc | apply pw_below_drewN | apply below_drew1) | exact HB.out)) hb); clear HO497; clear HO500; clear HO504; clear HB; have HO497 := n0_; have HO500 := n1_; have HO504 := n2_; have HO508 := n3_; have HB := n4_; clear n0_ n1_ n2_ n3_ n4_; (try clear hb); (try clear hb2); (try clear hk); (try clear hi); (try clear ho0); have hcv137 := own_string (P := Try.prog) Try.underlying22 Try.underlying5 Try.underlying9 (Kd.own_of_R HO500.out); have hcv138 := fun n_ => own_string (P := Try.prog) Try.underlying22 Try.underlying5 Try.underlying9 (Kd.own_of_R (Kd.R_drewN HO500.out n_)); have hcv139 := Kd.C_string (P := Try.prog) (A := A1) (c := c1) Try.underlying22 Try.underlying5 Try.underlying9 (Kd.C_below HR1.out HB.out); have hcv140 := fun n_ => Kd.C_string (P := Try.prog) (A := A1) (c := c1) Try.underlying22 Try.underlying5 Try.underlying9 (Kd.C_drewN (Kd.C_below HR1.out HB.out) n_)) | (go_at_call 19; (with_reducible refine (outpostlaw01_num.calls t502 t509 _ A103.out).mono ?_); rintro e w' ⟨rfl, ⟨nd, rfl⟩⟩) | (go_at_call 19; (with_reducible refine (outpostlaw01_num.calls t506 t510 _ A104.out).mono ?_); rintro e w' ⟨rfl, ⟨nd, rfl⟩⟩))
                            go_ret
                            exact ⟨by first | rfl | (simp [errW_none, errW_some] <;> rfl) | (simp [*, errW_none, errW_some] <;> rfl), by repeat (first | (with_reducible first | exact HB.out | apply below_alloc | apply pw_below_drewN | apply below_drew1) | exact HB.out)⟩
                        · rw [if_neg c102] at H
                          have c102b0 : ((strOfNums t498).toList == (strOfNums l1).toList) = false := beq_eq_false_iff_ne.mpr c102
                          have c102b1 : ((strOfNums t498).toList != (strOfNums l1).toList) = true := bne_iff_ne.mpr c102
                          obtain rfl := Option.some.inj H
                          go_wp2_with (first | ((with_reducible refine gate_callee (f := 47) rfl ?_); refine goesL_ (some 176) rfl rfl Try.func47 (by kernel_rfl) rfl #[.slice A1 l1.length c1] rfl (by (try simp only [List.map_toArray, List.map_cons, List.map_nil]); first | done | rfl | (simp only [List.length_drop, List.length_take]; rfl)) ?_; (with_reducible refine (bitrow_Reverse.calls _ _ l1 t495 _ ?side1 ?side2 A98.out).mono ?_); (case side1 => repeat (first | exact (Kd.C_below HR1.out HB.out) | (with_reducible refine Kd.C_alloc ?_ _) | (with_reducible refine Kd.C_drewN ?_ _) | (with_reducible refine Kd.C_drew ?_))); (case side2 => exact HC1.out); rintro e w141 ⟨v496, rfl, ho0, hb⟩; refine ⟨_, rfl, ?_⟩; have n0_ := Aside0.mk (Kd.R_lower ho0 (below_size (by repeat (first | (with_reducible first | exact HB.out | apply below_alloc | apply pw_below_drewN | apply below_drew1) | exact HB.out)))); have n1_ := Aside0.mk (below_step (by repeat (first | (with_reducible first | exact HB.out | apply below_alloc | apply pw_below_drewN | apply below_drew1) | exact HB.out)) hb); clear HB; have HO497 := n0_; have HB := n1_; clear n0_ n1_; (try clear hb); (try clear hb2); (try clear hk); (try clear hi); (try clear ho0); obtain ⟨Ao142, co142, eo142⟩ := Kd.R_slice HO497.out; subst eo142) | ((with_reducible refine gate_callee (f := 47) rfl ?_); refine goesL_ (some 177) rfl rfl Try.func47 (by kernel_rfl) rfl #[.slice Ao142 t495.length co142] rfl (by (try simp only [List.map_toArray, List.map_cons, List.map_nil]); first | done | rfl | (simp only [List.length_drop, List.length_take]; rfl)) ?_; (with_reducible refine (bitrow_Reverse.calls _ _ t495 t498 _ ?side1 ?side2 A99.out).mono ?_); (case side1 => repeat (first | exact (Kd.R_reads' HO497.out).2.2 | (with_reducible refine Kd.C_alloc ?_ _) | (with_reducible refine Kd.C_drewN ?_ _) | (with_reducible refine Kd.C_drew ?_))); (case side2 => exact (Kd.R_reads' HO497.out).2.1); rintro e w143 ⟨v499, rfl, ho0, hb⟩; refine ⟨_, rfl, ?_⟩; have n0_ := Aside0.mk (Kd.R_elder' (by (with_reducible repeat (first | apply Kd.R_alloc | apply Kd.R_drewN | apply Kd.R_drew)); exact HO497.out) (Kd.R_base ho0) hb); have n1_ := Aside0.mk (Kd.R_lower (Kd.R_new' ho0 (Kd.R_lt (by (with_reducible repeat (first | apply Kd.R_alloc | apply Kd.R_drewN | apply Kd.R_drew)); exact HO497.out))) (below_size (by repeat (first | (with_reducible first | exact HB.out | apply below_alloc | apply pw_below_drewN | apply below_drew1) | exact HB.out)))); have n2_ := Aside0.mk (below_step (by repeat (first | (with_reducible first | exact HB.out | apply below_alloc | apply pw_below_drewN | apply below_drew1) | exact HB.out)) hb); clear HO497; clear HB; have HO497 := n0_; have HO500 := n1_; have HB := n2_; clear n0_ n1_ n2_; (try clear hb); (try clear hb2); (try clear hk); (try clear hi); (try clear ho0)) | ((with_reducible refine gate_callee (f := 38) rfl ?_); refine goesL_ (some 180) rfl rfl Try.func38 (by kernel_rfl) rfl #[.slice A1 l1.length c1, .int .i64 1] rfl (by (try simp only [List.map_toArray, List.map_cons, List.map_nil]); first | done | rfl | (simp only [List.length_drop, List.length_take]; rfl)) ?_; (with_reducible refine (bitrow_Unweave.calls _ _ l1 1 t501 t502 _ ?side1 ?side2 A100.out).mono ?_); (case side1 => repeat (first | exact (Kd.C_below HR1.out HB.out) | (with_reducible refine Kd.C_alloc ?_ _) | (with_reducible refine Kd.C_drewN ?_ _) | (with_reducible refine Kd.C_drew ?_))); (case side2 => exact HC1.out); rintro e w144 ⟨v503, rfl, ho0, hb⟩; refine ⟨_, rfl, ?_⟩; have n0_ := Aside0.mk (Kd.R_below (by (with_reducible repeat (first | apply Kd.R_alloc | apply Kd.R_drewN | apply Kd.R_drew)); exact HO497.out) hb); have n1_ := Aside0.mk (Kd.R_below (by (with_reducible repeat (first | apply Kd.R_alloc | apply Kd.R_drewN | apply Kd.R_drew)); exact HO500.out) hb); have n2_ := Aside0.mk (Kd.V_lower (Kd.V_mono (ok' := fun k_ => some k_ ≠ (.slice Ao142 t495.length co142 : Value).ownBlock ∧ some k_ ≠ (v499 : Value).ownBlock) ho0 (fun k_ hk_ => ⟨(Kd.fresh' (Kd.R_lt (by (with_reducible repeat (first | apply Kd.R_alloc | apply Kd.R_drewN | apply Kd.R_drew)); exact HO497.out)) k_ hk_), (Kd.fresh' (Kd.R_lt (by (with_reducible repeat (first | apply Kd.R_alloc | apply Kd.R_drewN | apply Kd.R_drew)); exact HO500.out)) k_ hk_)⟩)) (below_size (by repeat (first | (with_reducible first | exact HB.out | apply below_alloc | apply pw_below_drewN | apply below_drew1) | exact HB.out)))); have n3_ := Aside0.mk (below_step (by repeat (first | (with_reducible first | exact HB.out | apply below_alloc | apply pw_below_drewN | apply below_drew1) | exact HB.out)) hb); clear HO497; clear HO500; clear HB; have HO497 := n0_; have HO500 := n1_; have HO504 := n2_; have HB := n3_; clear n0_ n1_ n2_ n3_; (try clear hb); (try clear hb2); (try clear hk); (try clear hi); (try clear ho0); obtain ⟨Ao145, co145, eo145⟩ := Kd.V_slice HO504.out; subst eo145) | ((with_reducible refine gate_callee (f := 37) rfl ?_); refine goesL_ (some 185) rfl rfl Try.func37 (by kernel_rfl) rfl #[.slice Ao145 t501.length co145] rfl (by (try simp only [List.map_toArray, List.map_cons, List.map_nil]); first | done | rfl | (simp only [List.length_drop, List.length_take]; rfl)) ?_; (with_reducible refine (bitrow_Weave.calls kj71 _ _ t501 t505 t506 _ ?side1 ?side2 A101.out).mono ?_); (case side1 => repeat (first | exact (Kd.V_reads' HO504.out).2.2 | (with_reducible refine Kd.C_alloc ?_ _) | (with_reducible refine Kd.C_drewN ?_ _) | (with_reducible refine Kd.C_drew ?_))); (case side2 => exact (Kd.V_reads' HO504.out).2.1); rintro e w146 ⟨v507, rfl, ho0, hb⟩; refine ⟨_, rfl, ?_⟩; have n0_ := Aside0.mk (Kd.R_elder' (by (with_reducible repeat (first | apply Kd.R_alloc | apply Kd.R_drewN | apply Kd.R_drew)); exact HO497.out) (Kd.R_base ho0) hb); have n1_ := Aside0.mk (Kd.R_elder' (by (with_reducible repeat (first | apply Kd.R_alloc | apply Kd.R_drewN | apply Kd.R_drew)); exact HO500.out) (Kd.R_base ho0) hb); have n2_ := Aside0.mk (Kd.V_elder' (by (with_reducible repeat (first | apply Kd.V_alloc | apply Kd.V_drewN | apply Kd.V_drew)); exact HO504.out) (Kd.R_base ho0) hb); have n3_ := Aside0.mk (Kd.R_lower (Kd.R_new' (Kd.R_new' ho0 (Kd.R_lt (by (with_reducible repeat (first | apply Kd.R_alloc | apply Kd.R_drewN | apply Kd.R_drew)); exact HO497.out))) (Kd.R_lt (by (with_reducible repeat (first | apply Kd.R_alloc | apply Kd.R_drewN | apply Kd.R_drew)); exact HO500.out))) (below_size (by repeat (first | (with_reducible first | exact HB.out | apply below_alloc | apply pw_below_drewN | apply below_drew1) | exact HB.out)))); have n4_ := Aside0.mk (below_step (by repeat (first | (with_reducible first | exact HB.out | apply below_alloc | apply pw_below_drewN | apply below_drew1) | exact HB.out)) hb); clear HO497; clear HO500; clear HO504; clear HB; have HO497 := n0_; have HO500 := n1_; have HO504 := n2_; have HO508 := n3_; have HB := n4_; clear n0_ n1_ n2_ n3_ n4_; (try clear hb); (try clear hb2); (try clear hk); (try clear hi); (try clear ho0); have hcv147 := own_string (P := Try.prog) Try.underlying22 Try.underlying5 Try.underlying9 (Kd.own_of_R HO500.out); have hcv148 := fun n_ => own_string (P := Try.prog) Try.underlying22 Try.underlying5 Try.underlying9 (Kd.own_of_R (Kd.R_drewN HO500.out n_)); have hcv149 := Kd.C_string (P := Try.prog) (A := A1) (c := c1) Try.underlying22 Try.underlying5 Try.underlying9 (Kd.C_below HR1.out HB.out); have hcv150 := fun n_ => Kd.C_string (P := Try.prog) (A := A1) (c := c1) Try.underlying22 Try.underlying5 Try.underlying9 (Kd.C_drewN (Kd.C_below HR1.out HB.out) n_)))
                          go_ret
                          exact ⟨by first | rfl | (simp [errW_none, errW_some] <;> rfl) | (simp [*, errW_none, errW_some] <;> rfl), by repeat (first | (with_reducible first | exact HB.out | apply below_alloc | apply pw_below_drewN | apply below_drew1) | exact HB.out)⟩

/-- THE ONE PURE STATEMENT of outpostlaw01_BitrowBack: yours. -/
def outpostlaw01_BitrowBack.Pure : Prop := ∀ (l0 : List Int) (l1 : List Int) (a2 : Int) (a3 : Int) (a4 : Int), l0.length ≤ maxLen → l0.length * 1 ≤ 140737488351232 → (∀ x ∈ l0, (Lit.int .u8 x).wf = true) → l1.length ≤ maxLen → l1.length * 1 ≤ 140737488351232 → (∀ x ∈ l1, (Lit.int .u8 x).wf = true) → (Lit.int .u64 a2).wf = true → (Lit.int .i64 a3).wf = true → (Lit.int .i64 a4).wf = true → ∃ k, outpostlaw01_BitrowBack.f k l0 l1 a2 a3 a4 = some true
theorem outpostlaw01_BitrowBack.walk (P : outpostlaw01_BitrowBack.Pure) (a0 : Option Addr) (len0 cap0 : Nat) (z0 : List Int) (a1 : Option Addr) (len1 cap1 : Nat) (z1 : List Int) (a2 : Int) (a3 : Int) (a4 : Int) (w : World) (w0 : (a0 = none ∧ len0 = 0 ∧ cap0 = 0 ∧ z0 = []) ∨ ∃ x, a0 = some x ∧ len0 ≤ cap0 ∧ cap0 ≤ maxLen ∧ z0.length = cap0 ∧ (∀ i, i < z0.length → w.cell? (x.add i) = some (.int .u8 (z0.getD i 0))) ∧ ∀ n ∈ z0, (Lit.int .u8 n).wf = true) (y0 : len0 * 1 ≤ 140737488351232) (w1 : (a1 = none ∧ len1 = 0 ∧ cap1 = 0 ∧ z1 = []) ∨ ∃ x, a1 = some x ∧ len1 ≤ cap1 ∧ cap1 ≤ maxLen ∧ z1.length = cap1 ∧ (∀ i, i < z1.length → w.cell? (x.add i) = some (.int .u8 (z1.getD i 0))) ∧ ∀ n ∈ z1, (Lit.int .u8 n).wf = true) (y1 : len1 * 1 ≤ 140737488351232) (w2 : (Lit.int .u64 a2).wf = true) (w3 : (Lit.int .i64 a3).wf = true) (w4 : (Lit.int .i64 a4).wf = true) :
    Calls Try.prog 12 #[.slice a0 len0 cap0, .slice a1 len1 cap1, .int .u64 a2, .int .i64 a3, .int .i64 a4] w fun e w' => e = .returned (.bool true) ∧ Below w.heap.size w w' := by
  obtain ⟨l0, rfl, hr0, hm0, hw0, hc0⟩ := ReadsInt.ofRowC w0
  obtain ⟨l1, rfl, hr1, hm1, hw1, hc1⟩ := ReadsInt.ofRowC w1
  obtain ⟨k, h⟩ := P l0 l1 a2 a3 a4 hm0 y0 hw0 hm1 y1 hw1 w2 w3 w4
  refine (outpostlaw01_BitrowBack.calls k _ _ l0 _ _ l1 a2 a3 a4 true w (Kd.C_of_reads (d := (0 : Int)) (h1 := fun _ => rfl) hr0) hc0 (Kd.C_of_reads (d := (0 : Int)) (h1 := fun _ => rfl) hr1) hc1 h).mono ?_
  rintro e w' ⟨rfl, hd⟩
  exact ⟨rfl, hd⟩

end Go.Proofs.Ytgebmeojmenomaa.P
