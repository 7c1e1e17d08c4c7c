import Derived.Test.YtdhnjnkjhfomiaaRpPx0
import Derived.Test.YtdhnjnkjhfomiaaRpPx6
import Derived.Test.YtdhnjnkjhfomiaaRpPx9
import Derived.Test.YtdhnjnkjhfomiaaRpPx11
import Derived.Test.YtdhnjnkjhfomiaaRpPx13
import Derived.Test.YtdhnjnkjhfomiaaRpPx18
import Derived.Test.YtdhnjnkjhfomiaaRpPx60
import Derived.Test.YtdhnjnkjhfomiaaRpPx23
import Derived.Test.YtdhnjnkjhfomiaaRpQVstr
-- written by mk.sh, a program of this session, over the kit's print
namespace Go.Proofs.Ytdhnjnkjhfomiaa.P
open Go.RowKit Go.Proofs.YtdhnjnkjhfomiaaW.PrintWords Go.Proofs.YtdhnjnkjhfomiaaW.PrintLast Go.Proofs.YtdhnjnkjhfomiaaW.PrintMore
attribute [local go_sem] max2_int min2_int max_two min_two max_three min_three max_four min_four   -- for this text's walks alone
set_option linter.unusedVariables false
set_option linter.unusedSimpArgs false

mutual
def l4_ReedsolApart.j0 : Nat → List Int → List Int → Bool → Int → Int → Int → Int → Option (Bool)
 | 0,_,_,_,_,_,_,_ => none
 | k + 1,x1,x2,x25,x421000,x421001,x421002,x421003 => if x25 = true then ((l4_knows.f k).bind fun t423 => (some t423)) else ((l4_elements.f k x421000 x421001 x421002 x421003 x1).bind fun t424 => ((l4_elements.f k x421000 x421001 x421002 x421003 x2).bind fun t427 => (if 0 ≤ (mn (t424.length : Int) (t427.length : Int)) then (if (mn (t424.length : Int) (t427.length : Int)) ≤ (t424.length : Int) then ((reedsol_Encode.f k x421000 x421001 x421002 x421003 (t424.take ((mn (t424.length : Int) (t427.length : Int)) : Int).toNat)).bind fun bt435 => (if (mn (t424.length : Int) (t427.length : Int)) ≤ (t427.length : Int) then ((reedsol_Encode.f k x421000 x421001 x421002 x421003 (t427.take ((mn (t424.length : Int) (t427.length : Int)) : Int).toNat)).bind fun bt444 => ((reedsol_Generator.f k x421000 x421001 x421002 x421003).bind fun bt448 => ((l4_num.f bt435.2).bind fun t452 => ((l4_num.f bt444.2).bind fun t453 => ((l4_num.f bt448.2).bind fun t454 => (if (wrap64 ((wrap64 (t452 + t453)) + t454)) = 0 then (if (bt435.1.length : Int) = (wrap64 ((mn (t424.length : Int) (t427.length : Int)) + x421003)) then (if (bt444.1.length : Int) = (bt435.1.length : Int) then (if (bt448.1.length : Int) = (wrap64 (x421003 + 1)) then (if 0 < (bt448.1.length : Int) then (l4_ReedsolApart.j1 k t424 t427 (mn (t424.length : Int) (t427.length : Int)) bt435.1 bt444.1 bt448.1 ((rd bt448.1 0) != 1) x421000 x421001 x421002 x421003) else (none)) else (l4_ReedsolApart.j1 k t424 t427 (mn (t424.length : Int) (t427.length : Int)) bt435.1 bt444.1 bt448.1 true x421000 x421001 x421002 x421003)) else (l4_ReedsolApart.j1 k t424 t427 (mn (t424.length : Int) (t427.length : Int)) bt435.1 bt444.1 bt448.1 true x421000 x421001 x421002 x421003)) else (l4_ReedsolApart.j1 k t424 t427 (mn (t424.length : Int) (t427.length : Int)) bt435.1 bt444.1 bt448.1 true x421000 x421001 x421002 x421003)) else (l4_ReedsolApart.j1 k t424 t427 (mn (t424.length : Int) (t427.length : Int)) bt435.1 bt444.1 bt448.1 true x421000 x421001 x421002 x421003))))))) else (none))) else (none)) else (none))))
def l4_ReedsolApart.j1 : Nat → List Int → List Int → Int → List Int → List Int → List Int → Bool → Int → Int → Int → Int → Option (Bool)
 | 0,_,_,_,_,_,_,_,_,_,_,_ => none
 | k + 1,x7,x8,x9,x10,x12,x14,x97,x421000,x421001,x421002,x421003 => if x97 = true then (some false) else (l4_ReedsolApart.l0 k x7 x8 x9 x10 x12 x14 0 0 x421000 x421001 x421002 x421003)
def l4_ReedsolApart.l0 : Nat → List Int → List Int → Int → List Int → List Int → List Int → Int → Int → Int → Int → Int → Int → Option (Bool)
 | 0,_,_,_,_,_,_,_,_,_,_,_,_ => none
 | k + 1,x7,x8,x9,x10,x12,x14,x16,x17,x421000,x421001,x421002,x421003 => if x17 < (x10.length : Int) then (if 0 ≤ x17 then (if x17 < (x12.length : Int) then (if (rd x10 x17) = (rd x12 x17) then (l4_ReedsolApart.l0 k x7 x8 x9 x10 x12 x14 x16 (wrap64 (x17 + 1)) x421000 x421001 x421002 x421003) else (l4_ReedsolApart.l0 k x7 x8 x9 x10 x12 x14 (wrap64 (x16 + 1)) (wrap64 (x17 + 1)) x421000 x421001 x421002 x421003)) else (none)) else (none)) else (l4_ReedsolApart.l1 k x7 x8 x9 x14 x16 0 x421000 x421001 x421002 x421003)
def l4_ReedsolApart.l1 : Nat → List Int → List Int → Int → List Int → Int → Int → Int → Int → Int → Int → Option (Bool)
 | 0,_,_,_,_,_,_,_,_,_,_ => none
 | k + 1,x7,x8,x9,x14,x16,x18,x421000,x421001,x421002,x421003 => if x18 < (x14.length : Int) then (if 0 ≤ x18 then (if (rd x14 x18) = 0 then (some false) else (l4_ReedsolApart.l1 k x7 x8 x9 x14 x16 (wrap64 (x18 + 1)) x421000 x421001 x421002 x421003)) else (none)) else (if 0 ≤ x9 then (if x9 ≤ (x7.length : Int) then (if x9 ≤ (x8.length : Int) then (if (strOfNums (x7.take (x9 : Int).toNat)).toList = (strOfNums (x8.take (x9 : Int).toNat)).toList then (if x16 = 0 then (some true) else (if (strOfNums (x7.take (x9 : Int).toNat)).toList = (strOfNums (x8.take (x9 : Int).toNat)).toList then (some false) else (some (decide (x16 > x421003))))) else (if (strOfNums (x7.take (x9 : Int).toNat)).toList = (strOfNums (x8.take (x9 : Int).toNat)).toList then (some false) else (some (decide (x16 > x421003))))) else (none)) else (none)) else (none))
end
def l4_ReedsolApart.f (k : Nat) (a0_0 : Int) (a0_1 : Int) (a0_2 : Int) (a0_3 : Int) (l1 : List Int) (l2 : List Int) : Option (Bool) := (r4_Check.f k a0_0 a0_1 a0_2 a0_3).bind fun t421 => (if t421 = 0 then ((l4_knows.f k).bind fun t422 => (l4_ReedsolApart.j0 k l1 l2 (!t422) a0_0 a0_1 a0_2 a0_3)) else (l4_ReedsolApart.j0 k l1 l2 true a0_0 a0_1 a0_2 a0_3))
theorem l4_ReedsolApart.mono_l : ∀ k,(∀ y0 y1 y2 y3 y4 y5 y6,LeO (l4_ReedsolApart.j0 k y0 y1 y2 y3 y4 y5 y6) (l4_ReedsolApart.j0 (k + 1) y0 y1 y2 y3 y4 y5 y6)) ∧ (∀ y0 y1 y2 y3 y4 y5 y6 y7 y8 y9 y10,LeO (l4_ReedsolApart.j1 k y0 y1 y2 y3 y4 y5 y6 y7 y8 y9 y10) (l4_ReedsolApart.j1 (k + 1) y0 y1 y2 y3 y4 y5 y6 y7 y8 y9 y10)) ∧ (∀ y0 y1 y2 y3 y4 y5 y6 y7 y8 y9 y10 y11,LeO (l4_ReedsolApart.l0 k y0 y1 y2 y3 y4 y5 y6 y7 y8 y9 y10 y11) (l4_ReedsolApart.l0 (k + 1) y0 y1 y2 y3 y4 y5 y6 y7 y8 y9 y10 y11)) ∧ (∀ y0 y1 y2 y3 y4 y5 y6 y7 y8 y9,LeO (l4_ReedsolApart.l1 k y0 y1 y2 y3 y4 y5 y6 y7 y8 y9) (l4_ReedsolApart.l1 (k + 1) y0 y1 y2 y3 y4 y5 y6 y7 y8 y9))
 | 0 => ⟨fun _ _ _ _ _ _ _ r h => by simp [l4_ReedsolApart.j0] at h,fun _ _ _ _ _ _ _ _ _ _ _ r h => by simp [l4_ReedsolApart.j1] at h,fun _ _ _ _ _ _ _ _ _ _ _ _ r h => by simp [l4_ReedsolApart.l0] at h,fun _ _ _ _ _ _ _ _ _ _ r h => by simp [l4_ReedsolApart.l1] at h⟩
 | k + 1 => by
  obtain ⟨ih0,ih1,ih2,ih3⟩ := l4_ReedsolApart.mono_l k
  refine ⟨?_,?_,?_,?_⟩
  ·intro y0 y1 y2 y3 y4 y5 y6
   unfold l4_ReedsolApart.j0
   repeat' first
   | (with_reducible exact ih0 _ _ _ _ _ _ _)
   | (with_reducible exact ih1 _ _ _ _ _ _ _ _ _ _ _)
   | (with_reducible exact ih2 _ _ _ _ _ _ _ _ _ _ _ _)
   | (with_reducible exact ih3 _ _ _ _ _ _ _ _ _ _)
   | (with_reducible exact l4_elements.mono _ _ _ _ _ _)
   | (with_reducible exact l4_knows.mono _)
   | (with_reducible exact r4_Check.mono _ _ _ _ _)
   | (with_reducible exact reedsol_Encode.mono _ _ _ _ _ _)
   | (with_reducible exact reedsol_Generator.mono _ _ _ _ _)
   | (with_reducible exact LeO.refl _)
   | (with_reducible exact LeO.none _)
   | (with_reducible refine LeO.ite ?_ ?_)
   | (with_reducible refine LeO.bind ?_ (fun _ => ?_))
   | exact ih0 _ _ _ _ _ _ _
   | exact ih1 _ _ _ _ _ _ _ _ _ _ _
   | exact ih2 _ _ _ _ _ _ _ _ _ _ _ _
   | exact ih3 _ _ _ _ _ _ _ _ _ _
   | exact l4_elements.mono _ _ _ _ _ _
   | exact l4_knows.mono _
   | exact r4_Check.mono _ _ _ _ _
   | exact reedsol_Encode.mono _ _ _ _ _ _
   | exact reedsol_Generator.mono _ _ _ _ _
   | exact LeO.none _
   | refine LeO.ite ?_ ?_
   | refine LeO.bind ?_ (fun _ => ?_)
  ·intro y0 y1 y2 y3 y4 y5 y6 y7 y8 y9 y10
   unfold l4_ReedsolApart.j1
   repeat' first
   | (with_reducible exact ih0 _ _ _ _ _ _ _)
   | (with_reducible exact ih1 _ _ _ _ _ _ _ _ _ _ _)
   | (with_reducible exact ih2 _ _ _ _ _ _ _ _ _ _ _ _)
   | (with_reducible exact ih3 _ _ _ _ _ _ _ _ _ _)
   | (with_reducible exact l4_elements.mono _ _ _ _ _ _)
   | (with_reducible exact l4_knows.mono _)
   | (with_reducible exact r4_Check.mono _ _ _ _ _)
   | (with_reducible exact reedsol_Encode.mono _ _ _ _ _ _)
   | (with_reducible exact reedsol_Generator.mono _ _ _ _ _)
   | (with_reducible exact LeO.refl _)
   | (with_reducible exact LeO.none _)
   | (with_reducible refine LeO.ite ?_ ?_)
   | (with_reducible refine LeO.bind ?_ (fun _ => ?_))
   | exact ih0 _ _ _ _ _ _ _
   | exact ih1 _ _ _ _ _ _ _ _ _ _ _
   | exact ih2 _ _ _ _ _ _ _ _ _ _ _ _
   | exact ih3 _ _ _ _ _ _ _ _ _ _
   | exact l4_elements.mono _ _ _ _ _ _
   | exact l4_knows.mono _
   | exact r4_Check.mono _ _ _ _ _
   | exact reedsol_Encode.mono _ _ _ _ _ _
   | exact reedsol_Generator.mono _ _ _ _ _
   | exact LeO.none _
   | refine LeO.ite ?_ ?_
   | refine LeO.bind ?_ (fun _ => ?_)
  ·intro y0 y1 y2 y3 y4 y5 y6 y7 y8 y9 y10 y11
   unfold l4_ReedsolApart.l0
   repeat' first
   | (with_reducible exact ih0 _ _ _ _ _ _ _)
   | (with_reducible exact ih1 _ _ _ _ _ _ _ _ _ _ _)
   | (with_reducible exact ih2 _ _ _ _ _ _ _ _ _ _ _ _)
   | (with_reducible exact ih3 _ _ _ _ _ _ _ _ _ _)
   | (with_reducible exact l4_elements.mono _ _ _ _ _ _)
   | (with_reducible exact l4_knows.mono _)
   | (with_reducible exact r4_Check.mono _ _ _ _ _)
   | (with_reducible exact reedsol_Encode.mono _ _ _ _ _ _)
   | (with_reducible exact reedsol_Generator.mono _ _ _ _ _)
   | (with_reducible exact LeO.refl _)
   | (with_reducible exact LeO.none _)
   | (with_reducible refine LeO.ite ?_ ?_)
   | (with_reducible refine LeO.bind ?_ (fun _ => ?_))
   | exact ih0 _ _ _ _ _ _ _
   | exact ih1 _ _ _ _ _ _ _ _ _ _ _
   | exact ih2 _ _ _ _ _ _ _ _ _ _ _ _
   | exact ih3 _ _ _ _ _ _ _ _ _ _
   | exact l4_elements.mono _ _ _ _ _ _
   | exact l4_knows.mono _
   | exact r4_Check.mono _ _ _ _ _
   | exact reedsol_Encode.mono _ _ _ _ _ _
   | exact reedsol_Generator.mono _ _ _ _ _
   | exact LeO.none _
   | refine LeO.ite ?_ ?_
   | refine LeO.bind ?_ (fun _ => ?_)
  ·intro y0 y1 y2 y3 y4 y5 y6 y7 y8 y9
   unfold l4_ReedsolApart.l1
   repeat' first
   | (with_reducible exact ih0 _ _ _ _ _ _ _)
   | (with_reducible exact ih1 _ _ _ _ _ _ _ _ _ _ _)
   | (with_reducible exact ih2 _ _ _ _ _ _ _ _ _ _ _ _)
   | (with_reducible exact ih3 _ _ _ _ _ _ _ _ _ _)
   | (with_reducible exact l4_elements.mono _ _ _ _ _ _)
   | (with_reducible exact l4_knows.mono _)
   | (with_reducible exact r4_Check.mono _ _ _ _ _)
   | (with_reducible exact reedsol_Encode.mono _ _ _ _ _ _)
   | (with_reducible exact reedsol_Generator.mono _ _ _ _ _)
   | (with_reducible exact LeO.refl _)
   | (with_reducible exact LeO.none _)
   | (with_reducible refine LeO.ite ?_ ?_)
   | (with_reducible refine LeO.bind ?_ (fun _ => ?_))
   | exact ih0 _ _ _ _ _ _ _
   | exact ih1 _ _ _ _ _ _ _ _ _ _ _
   | exact ih2 _ _ _ _ _ _ _ _ _ _ _ _
   | exact ih3 _ _ _ _ _ _ _ _ _ _
   | exact l4_elements.mono _ _ _ _ _ _
   | exact l4_knows.mono _
   | exact r4_Check.mono _ _ _ _ _
   | exact reedsol_Encode.mono _ _ _ _ _ _
   | exact reedsol_Generator.mono _ _ _ _ _
   | exact LeO.none _
   | refine LeO.ite ?_ ?_
   | refine LeO.bind ?_ (fun _ => ?_)
theorem l4_ReedsolApart.mono : ∀ a0 a1 a2 a3 a4 a5 k,LeO (l4_ReedsolApart.f k a0 a1 a2 a3 a4 a5) (l4_ReedsolApart.f (k + 1) a0 a1 a2 a3 a4 a5) := by
 intro a0 a1 a2 a3 a4 a5 k
 obtain ⟨ih0,ih1,ih2,ih3⟩ := l4_ReedsolApart.mono_l k
 unfold l4_ReedsolApart.f
 repeat' first
   | (with_reducible exact ih0 _ _ _ _ _ _ _)
   | (with_reducible exact ih1 _ _ _ _ _ _ _ _ _ _ _)
   | (with_reducible exact ih2 _ _ _ _ _ _ _ _ _ _ _ _)
   | (with_reducible exact ih3 _ _ _ _ _ _ _ _ _ _)
   | (with_reducible exact l4_elements.mono _ _ _ _ _ _)
   | (with_reducible exact l4_knows.mono _)
   | (with_reducible exact r4_Check.mono _ _ _ _ _)
   | (with_reducible exact reedsol_Encode.mono _ _ _ _ _ _)
   | (with_reducible exact reedsol_Generator.mono _ _ _ _ _)
   | (with_reducible exact LeO.refl _)
   | (with_reducible exact LeO.none _)
   | (with_reducible refine LeO.ite ?_ ?_)
   | (with_reducible refine LeO.bind ?_ (fun _ => ?_))
   | exact ih0 _ _ _ _ _ _ _
   | exact ih1 _ _ _ _ _ _ _ _ _ _ _
   | exact ih2 _ _ _ _ _ _ _ _ _ _ _ _
   | exact ih3 _ _ _ _ _ _ _ _ _ _
   | exact l4_elements.mono _ _ _ _ _ _
   | exact l4_knows.mono _
   | exact r4_Check.mono _ _ _ _ _
   | exact reedsol_Encode.mono _ _ _ _ _ _
   | exact reedsol_Generator.mono _ _ _ _ _
   | exact LeO.none _
   | refine LeO.ite ?_ ?_
   | refine LeO.bind ?_ (fun _ => ?_)
def l4_ReedsolApart.T6 : Bool × List (List Nat × List Nat) := (true,[([],[]),([],[]),([],[]),([1,2],[1,2]),([0,3],[0,3]),([4],[4]),([5],[5]),([5],[5]),([6,4,0,1,2,3,4,5,6],[6]),([7,8,0,1,2,3,4,5,6,7,8],[7])])
def l4_ReedsolApart.B6 : List Nat := [0,0,0,6,15,31,63,63,127,511]
theorem l4_ReedsolApart.tab6 : rtab .any (opsOf Try.f6 6) = l4_ReedsolApart.T6 := by kernel_rfl
theorem l4_ReedsolApart.bits6 : waitsOk l4_ReedsolApart.T6.2 l4_ReedsolApart.B6 = true := by kernel_rfl
def l4_ReedsolApart.T7 : Bool × List (List Nat × List Nat) := (true,[([],[]),([],[]),([],[]),([1,2],[1,2]),([0,3],[0,3]),([4],[4]),([5],[5]),([5],[5]),([6,4,0,1,2,3,4,5,6],[6]),([7,8,0,1,2,3,4,5,6,7,8],[7])])
def l4_ReedsolApart.B7 : List Nat := [0,0,0,6,15,31,63,63,127,511]
theorem l4_ReedsolApart.tab7 : rtab .any (opsOf Try.f6 7) = l4_ReedsolApart.T7 := by kernel_rfl
theorem l4_ReedsolApart.bits7 : waitsOk l4_ReedsolApart.T7.2 l4_ReedsolApart.B7 = true := by kernel_rfl
def l4_ReedsolApart.T15 : Bool × List (List Nat × List Nat) := (true,[([],[]),([],[]),([0,1],[0,1]),([2],[2]),([],[]),([],[]),([4,5],[4,5]),([6],[6]),([3,7],[3,7])])
def l4_ReedsolApart.B15 : List Nat := [0,0,3,7,0,0,48,112,255]
theorem l4_ReedsolApart.tab15 : rtab .any (opsOf Try.f6 15) = l4_ReedsolApart.T15 := by kernel_rfl
theorem l4_ReedsolApart.bits15 : waitsOk l4_ReedsolApart.T15.2 l4_ReedsolApart.B15 = true := by kernel_rfl
def l4_ReedsolApart.T22 : Bool × List (List Nat × List Nat) := (true,[([],[]),([],[]),([0,1],[0,1]),([2],[2]),([],[]),([],[]),([4,5],[4,5]),([6],[6]),([3,7],[3,7]),([8],[8]),([9],[9]),([10,9],[9,10]),([9,11],[9,11]),([12,9],[12]),([13],[13]),([13],[13]),([14,15,13],[13,14,15]),([16,13],[13,16]),([13],[13]),([13],[13]),([18,19,13],[13,18,19]),([20,13],[13,20]),([17,21,13],[13,17,21]),([22,13,13],[13,22]),([23],[23]),([23],[23]),([25,23],[23,25]),([24,26,23],[23,24,26]),([23,27,13],[13,23,27]),([13,28],[13,28]),([29,23,0,1,2,3,4,5,6,7,8,9,10,11,12,13,14,15,16,17,18,19,20,21,22,23,24,25,26,27,28,29],[29])])
def l4_ReedsolApart.B22 : List Nat := [0,0,3,7,0,0,48,112,255,511,1023,2047,4095,8191,16383,16383,65535,131071,16383,16383,802815,1851391,4194303,8388607,16777215,16777215,50331647,134217727,268435455,536870911,1073741823]
theorem l4_ReedsolApart.tab22 : rtab .any (opsOf Try.f6 22) = l4_ReedsolApart.T22 := by kernel_rfl
theorem l4_ReedsolApart.bits22 : waitsOk l4_ReedsolApart.T22.2 l4_ReedsolApart.B22 = true := by kernel_rfl
theorem l4_ReedsolApart.no_false {r : Bool} {G : Prop} (hr : r = true) (h : some false = some r) : G := by
 subst hr
 cases h
theorem l4_ReedsolApart.no_j1 {k : Nat} {x7 : List Int} {x8 : List Int} {x9 : Int} {x10 : List Int} {x12 : List Int} {x14 : List Int} {x421000 : Int} {x421001 : Int} {x421002 : Int} {x421003 : Int} {r : Bool} {G : Prop} (hr : r = true) (h : l4_ReedsolApart.j1 k x7 x8 x9 x10 x12 x14 true x421000 x421001 x421002 x421003 = some r) : G := by
 subst hr
 cases k <;> simp [l4_ReedsolApart.j1] at h
set_option maxHeartbeats 8000000 in
set_option maxRecDepth 100000 in
theorem l4_ReedsolApart.calls (k : Nat) (a0_0 : Int) (a0_1 : Int) (a0_2 : Int) (a0_3 : Int) (A1 : Option Addr) (c1 : Nat) (l1 : List Int) (A2 : Option Addr) (c2 : Nat) (l2 : List Int) (r : Bool) (hr9_ : r = true) (w : World) (hr1 : Kd.C (Kd.int .u8) w A1 l1.length l1) (hc1 : l1.length ≤ c1) (hr2 : Kd.C (Kd.int .u8) w A2 l2.length l2) (hc2 : l2.length ≤ c2) (h : l4_ReedsolApart.f k a0_0 a0_1 a0_2 a0_3 l1 l2 = some r) :
  Calls Try.prog 6 #[.agg #[.int .i64 a0_0,.int .u64 a0_1,.int .i64 a0_2,.int .i64 a0_3],.slice A1 l1.length c1,.slice A2 l2.length c2] w fun e w' => e = .returned (.bool r) ∧ Below w.heap.size w w' := by
 have HR9_ := Aside0.mk hr9_
 clear hr9_
 have hu26 := Try.underlying26
 have HR1 := Aside0.mk hr1
 have HC1 := Aside0.mk hc1
 clear hr1 hc1
 have HR2 := Aside0.mk hr2
 have HC2 := Aside0.mk hc2
 clear hr2 hc2
 have HB := aK (Below.refl w.heap.size w)
 have H : ((r4_Check.f k a0_0 a0_1 a0_2 a0_3).bind fun t421 => (if t421 = 0 then ((l4_knows.f k).bind fun t422 => (l4_ReedsolApart.j0 k l1 l2 (!t422) a0_0 a0_1 a0_2 a0_3)) else (l4_ReedsolApart.j0 k l1 l2 true a0_0 a0_1 a0_2 a0_3))) = some r := h
 clear h
 have HC4 := Aside0.mk H
 clear H
 go_enter Try.func6,Try.ntmps6
 go_upto_region 1 with (first | ((with_reducible refine gate_dst (N := 3) rfl ?_); (try (refine gate_guard (by rfl) ?_; dsimp only)); refine box_event ?hg (N := 3) ?hd (cs := #[.int .i64 a0_0,.int .u64 a0_1,.int .i64 a0_2,.int .i64 a0_3]) (t := 26) ?hr ?_; (case hd => rfl); (case hg => rfl); (case hr => first | (go_simp; done) | (go_simp; rfl)); intro gb420 hg w5 hbox hb; have n0_ := aK (below_step (mvh HB.out) hb); have n1_ := aK (hbox); have n2_ := aK ((by rw [hg]; exact (below_size (mvh HB.out)) : w.heap.size ≤ gb420)); have n3_ := aK ((by rw [hg]; exact (below_size (mvh HB.out)) : w.heap.size ≤ gb420)); clear HB; have HB := n0_; have BK420 := n1_; have GW420 := n2_; have GE420 := n3_; clear n0_ n1_ n2_ n3_; clear hb hbox hg))
 (try simp only [Act.put,List.setIfInBounds_toArray,List.set_cons_zero,List.set_cons_succ])
 go_cut [25] (fun v25 wc => ∃ (kq : Nat) (x25_3 : Bool),v25 = .bool x25_3 ∧ Aside0 (l4_ReedsolApart.j0 kq l1 l2 x25_3 a0_0 a0_1 a0_2 a0_3 = some r) ∧ Aside0 (kq ≤ k) ∧ Aside0 (wc.heap[gb420]? = some (.cells #[.int .i64 a0_0,.int .u64 a0_1,.int .i64 a0_2,.int .i64 a0_3] 26 (0,0))) ∧ Aside0 (Below w.heap.size w wc))
 case first =>
  have H := HC4.out
  clear HC4
  replace H := Option.bind_eq_some_iff.mp H
  obtain ⟨t421,A60,H⟩ := H
  replace H : (if t421 = 0 then ((l4_knows.f k).bind fun t422 => (l4_ReedsolApart.j0 k l1 l2 (!t422) a0_0 a0_1 a0_2 a0_3)) else (l4_ReedsolApart.j0 k l1 l2 true a0_0 a0_1 a0_2 a0_3)) = some r := H
  have A6 := Aside0.mk A60
  clear A60
  by_cases c7 : t421 = 0
  ·rw [if_pos c7] at H
   have c7b0 : (t421 == 0) = true := beq_iff_eq.mpr c7
   have c7b1 : (t421 != 0) = false := bne_eq_false_iff_eq.mpr c7
   clear c7
   (first | rw [c7b0] | (simp only [i64_w,i32_w]; rw [c7b0]) | rw [c7b1] | skip)
   replace H := Option.bind_eq_some_iff.mp H
   obtain ⟨t422,A80,H⟩ := H
   replace H : (l4_ReedsolApart.j0 k l1 l2 (!t422) a0_0 a0_1 a0_2 a0_3) = some r := H
   have A8 := Aside0.mk A80
   clear A80
   have H' := Aside0.mk H
   clear H
   obtain ⟨hcz9_0,hcz9_1,hcz9_2,hcz9_3,hfz9_0,hfz9_1,hfz9_2,hfz9_3⟩ := cf4 BK420.out
   go_wp2_with (first | ((with_reducible refine gate_callee (f := 22) rfl ?_); refine goesL_ (some 20) rfl rfl Try.func22 (by kernel_rfl) rfl #[.agg #[.int .i64 a0_0,.int .u64 a0_1,.int .i64 a0_2,.int .i64 a0_3]] rfl (by (try simp only [List.map_toArray,List.map_cons,List.map_nil]) <;> rfl) ?_; (with_reducible refine (r4_Check.calls k a0_0 a0_1 a0_2 a0_3 t421 _ A6.out).mono ?_); rintro e w10 ⟨rfl,hb⟩; refine ⟨_,rfl,?_⟩; have n0_ := aK (kb BK420.out hb); have n1_ := aK (below_step (by repeat (first | (with_reducible first | exact HB.out | apply hA | apply hN | apply hD | refine below_set ?_ GE420.out) | exact HB.out)) hb); clear BK420 HB; have BK420 := n0_; have HB := n1_; clear n0_ n1_; (try clear hb)) | (go_at_call 16; (with_reducible refine (l4_knows.calls k  t422 _ A8.out).mono ?_); rintro e w11 ⟨rfl,hb⟩; have n0_ := aK (kb BK420.out hb); have n1_ := aK (below_step (by repeat (first | (with_reducible first | exact HB.out | apply hA | apply hN | apply hD | refine below_set ?_ GE420.out) | exact HB.out)) hb); clear BK420 HB; have BK420 := n0_; have HB := n1_; clear n0_ n1_; (try clear hb)))
   go_meet
   case rel => exact ⟨_,(!t422),(by first | rfl | (simp; done) | (simp [*]; done) | (simp [wrap64]; done)),H',⟨by first | omega | exact Nat.le_refl _⟩,⟨mvb BK420.out⟩,⟨by repeat (first | (with_reducible first | exact HB.out | apply hA | apply hN | apply hD | refine below_set ?_ GE420.out) | exact HB.out)⟩⟩
  ·rw [if_neg c7] at H
   have c7b0 : (t421 == 0) = false := beq_eq_false_iff_ne.mpr c7
   have c7b1 : (t421 != 0) = true := bne_iff_ne.mpr c7
   (first | rw [c7b0] | (simp only [i64_w,i32_w]; rw [c7b0]) | rw [c7b1] | skip)
   have H' := Aside0.mk H
   clear H
   obtain ⟨hcz12_0,hcz12_1,hcz12_2,hcz12_3,hfz12_0,hfz12_1,hfz12_2,hfz12_3⟩ := cf4 BK420.out
   go_wp2_with (first | ((with_reducible refine gate_callee (f := 22) rfl ?_); refine goesL_ (some 20) rfl rfl Try.func22 (by kernel_rfl) rfl #[.agg #[.int .i64 a0_0,.int .u64 a0_1,.int .i64 a0_2,.int .i64 a0_3]] rfl (by (try simp only [List.map_toArray,List.map_cons,List.map_nil]) <;> rfl) ?_; (with_reducible refine (r4_Check.calls k a0_0 a0_1 a0_2 a0_3 t421 _ A6.out).mono ?_); rintro e w13 ⟨rfl,hb⟩; refine ⟨_,rfl,?_⟩; have n0_ := aK (kb BK420.out hb); have n1_ := aK (below_step (by repeat (first | (with_reducible first | exact HB.out | apply hA | apply hN | apply hD | refine below_set ?_ GE420.out) | exact HB.out)) hb); clear BK420 HB; have BK420 := n0_; have HB := n1_; clear n0_ n1_; (try clear hb)))
   go_meet
   case rel => exact ⟨_,(true),(by first | rfl | (simp; done) | (simp [*]; done) | (simp [wrap64]; done)),H',⟨by first | omega | exact Nat.le_refl _⟩,⟨mvb BK420.out⟩,⟨by repeat (first | (with_reducible first | exact HB.out | apply hA | apply hN | apply hD | refine below_set ?_ GE420.out) | exact HB.out)⟩⟩
 case rest =>
  clear HC4
  (try clear c1); (try clear c2); (try clear p2); (try clear c6); (try clear p6); (try clear c7); (try clear c7b0); (try clear c7b1); (try clear hcz12_0); (try clear hcz12_1); (try clear hcz12_2); (try clear hcz12_3); (try clear hcz9_0); (try clear hcz9_1); (try clear hcz9_2); (try clear hcz9_3); (try clear hfz12_0)
  (try clear hfz12_1); (try clear hfz12_2); (try clear hfz12_3); (try clear hfz9_0); (try clear hfz9_1); (try clear hfz9_2); (try clear hfz9_3)
  obtain ⟨kq,x25_3,rfl,HA,HJ3,BK420,HB⟩ := hcut
  cases kq with
  | zero => exact absurd HA.out (by simp [l4_ReedsolApart.j0])
  | succ kj3 =>
   have H := HA.out
   clear HA
   simp only [l4_ReedsolApart.j0] at H
   by_cases c14 : x25_3 = true
   ·subst c14
    have H1 : ((l4_knows.f kj3).bind fun t423 => (some t423)) = some r := by rw [if_pos rfl] at H; exact H
    clear H
    have H := H1
    clear H1
    replace H := Option.bind_eq_some_iff.mp H
    obtain ⟨t423,A150,H⟩ := H
    replace H : (some t423) = some r := H
    have A15 := Aside0.mk A150
    clear A150
    obtain rfl := Option.some.inj H
    go_wp2_with (first | ((with_reducible refine gate_callee (f := 16) rfl ?_); refine goesL_ (some 26) rfl rfl Try.func16 (by kernel_rfl) rfl #[] rfl (by (try simp only [List.map_toArray,List.map_cons,List.map_nil]) <;> rfl) ?_; (with_reducible refine (l4_knows.calls kj3  t423 _ A15.out).mono ?_); rintro e w16 ⟨rfl,hb⟩; refine ⟨_,rfl,?_⟩; have n0_ := aK (kb BK420.out hb); have n1_ := aK (below_step (by repeat (first | (with_reducible first | exact HB.out | apply hA | apply hN | apply hD | refine below_set ?_ GE420.out) | exact HB.out)) hb); clear BK420 HB; have BK420 := n0_; have HB := n1_; clear n0_ n1_; (try clear hb)))
    go_ret
    exact ⟨by first | rfl | (simp [errW_none,errW_some] <;> rfl) | (simp [*,errW_none,errW_some] <;> rfl),by repeat (first | (with_reducible first | exact HB.out | apply hA | apply hN | apply hD | refine below_set ?_ GE420.out) | exact HB.out)⟩
   ·replace c14 := Bool.eq_false_iff.mpr c14
    subst c14
    have H1 : ((l4_elements.f kj3 a0_0 a0_1 a0_2 a0_3 l1).bind fun t424 => ((l4_elements.f kj3 a0_0 a0_1 a0_2 a0_3 l2).bind fun t427 => (if 0 ≤ (mn (t424.length : Int) (t427.length : Int)) then (if (mn (t424.length : Int) (t427.length : Int)) ≤ (t424.length : Int) then ((reedsol_Encode.f kj3 a0_0 a0_1 a0_2 a0_3 (t424.take ((mn (t424.length : Int) (t427.length : Int)) : Int).toNat)).bind fun bt435 => (if (mn (t424.length : Int) (t427.length : Int)) ≤ (t427.length : Int) then ((reedsol_Encode.f kj3 a0_0 a0_1 a0_2 a0_3 (t427.take ((mn (t424.length : Int) (t427.length : Int)) : Int).toNat)).bind fun bt444 => ((reedsol_Generator.f kj3 a0_0 a0_1 a0_2 a0_3).bind fun bt448 => ((l4_num.f bt435.2).bind fun t452 => ((l4_num.f bt444.2).bind fun t453 => ((l4_num.f bt448.2).bind fun t454 => (if (wrap64 ((wrap64 (t452 + t453)) + t454)) = 0 then (if (bt435.1.length : Int) = (wrap64 ((mn (t424.length : Int) (t427.length : Int)) + a0_3)) then (if (bt444.1.length : Int) = (bt435.1.length : Int) then (if (bt448.1.length : Int) = (wrap64 (a0_3 + 1)) then (if 0 < (bt448.1.length : Int) then (l4_ReedsolApart.j1 kj3 t424 t427 (mn (t424.length : Int) (t427.length : Int)) bt435.1 bt444.1 bt448.1 ((rd bt448.1 0) != 1) a0_0 a0_1 a0_2 a0_3) else (none)) else (l4_ReedsolApart.j1 kj3 t424 t427 (mn (t424.length : Int) (t427.length : Int)) bt435.1 bt444.1 bt448.1 true a0_0 a0_1 a0_2 a0_3)) else (l4_ReedsolApart.j1 kj3 t424 t427 (mn (t424.length : Int) (t427.length : Int)) bt435.1 bt444.1 bt448.1 true a0_0 a0_1 a0_2 a0_3)) else (l4_ReedsolApart.j1 kj3 t424 t427 (mn (t424.length : Int) (t427.length : Int)) bt435.1 bt444.1 bt448.1 true a0_0 a0_1 a0_2 a0_3)) else (l4_ReedsolApart.j1 kj3 t424 t427 (mn (t424.length : Int) (t427.length : Int)) bt435.1 bt444.1 bt448.1 true a0_0 a0_1 a0_2 a0_3))))))) else (none))) else (none)) else (none)))) = some r := by rw [if_neg (show ¬ (false = true) by decide)] at H; exact H
    clear H
    have H := H1
    clear H1
    replace H := Option.bind_eq_some_iff.mp H
    obtain ⟨t424,A170,H⟩ := H
    replace H : ((l4_elements.f kj3 a0_0 a0_1 a0_2 a0_3 l2).bind fun t427 => (if 0 ≤ (mn (t424.length : Int) (t427.length : Int)) then (if (mn (t424.length : Int) (t427.length : Int)) ≤ (t424.length : Int) then ((reedsol_Encode.f kj3 a0_0 a0_1 a0_2 a0_3 (t424.take ((mn (t424.length : Int) (t427.length : Int)) : Int).toNat)).bind fun bt435 => (if (mn (t424.length : Int) (t427.length : Int)) ≤ (t427.length : Int) then ((reedsol_Encode.f kj3 a0_0 a0_1 a0_2 a0_3 (t427.take ((mn (t424.length : Int) (t427.length : Int)) : Int).toNat)).bind fun bt444 => ((reedsol_Generator.f kj3 a0_0 a0_1 a0_2 a0_3).bind fun bt448 => ((l4_num.f bt435.2).bind fun t452 => ((l4_num.f bt444.2).bind fun t453 => ((l4_num.f bt448.2).bind fun t454 => (if (wrap64 ((wrap64 (t452 + t453)) + t454)) = 0 then (if (bt435.1.length : Int) = (wrap64 ((mn (t424.length : Int) (t427.length : Int)) + a0_3)) then (if (bt444.1.length : Int) = (bt435.1.length : Int) then (if (bt448.1.length : Int) = (wrap64 (a0_3 + 1)) then (if 0 < (bt448.1.length : Int) then (l4_ReedsolApart.j1 kj3 t424 t427 (mn (t424.length : Int) (t427.length : Int)) bt435.1 bt444.1 bt448.1 ((rd bt448.1 0) != 1) a0_0 a0_1 a0_2 a0_3) else (none)) else (l4_ReedsolApart.j1 kj3 t424 t427 (mn (t424.length : Int) (t427.length : Int)) bt435.1 bt444.1 bt448.1 true a0_0 a0_1 a0_2 a0_3)) else (l4_ReedsolApart.j1 kj3 t424 t427 (mn (t424.length : Int) (t427.length : Int)) bt435.1 bt444.1 bt448.1 true a0_0 a0_1 a0_2 a0_3)) else (l4_ReedsolApart.j1 kj3 t424 t427 (mn (t424.length : Int) (t427.length : Int)) bt435.1 bt444.1 bt448.1 true a0_0 a0_1 a0_2 a0_3)) else (l4_ReedsolApart.j1 kj3 t424 t427 (mn (t424.length : Int) (t427.length : Int)) bt435.1 bt444.1 bt448.1 true a0_0 a0_1 a0_2 a0_3))))))) else (none))) else (none)) else (none))) = some r := H
    have A17 := Aside0.mk A170
    clear A170
    replace H := Option.bind_eq_some_iff.mp H
    obtain ⟨t427,A180,H⟩ := H
    replace H : (if 0 ≤ (mn (t424.length : Int) (t427.length : Int)) then (if (mn (t424.length : Int) (t427.length : Int)) ≤ (t424.length : Int) then ((reedsol_Encode.f kj3 a0_0 a0_1 a0_2 a0_3 (t424.take ((mn (t424.length : Int) (t427.length : Int)) : Int).toNat)).bind fun bt435 => (if (mn (t424.length : Int) (t427.length : Int)) ≤ (t427.length : Int) then ((reedsol_Encode.f kj3 a0_0 a0_1 a0_2 a0_3 (t427.take ((mn (t424.length : Int) (t427.length : Int)) : Int).toNat)).bind fun bt444 => ((reedsol_Generator.f kj3 a0_0 a0_1 a0_2 a0_3).bind fun bt448 => ((l4_num.f bt435.2).bind fun t452 => ((l4_num.f bt444.2).bind fun t453 => ((l4_num.f bt448.2).bind fun t454 => (if (wrap64 ((wrap64 (t452 + t453)) + t454)) = 0 then (if (bt435.1.length : Int) = (wrap64 ((mn (t424.length : Int) (t427.length : Int)) + a0_3)) then (if (bt444.1.length : Int) = (bt435.1.length : Int) then (if (bt448.1.length : Int) = (wrap64 (a0_3 + 1)) then (if 0 < (bt448.1.length : Int) then (l4_ReedsolApart.j1 kj3 t424 t427 (mn (t424.length : Int) (t427.length : Int)) bt435.1 bt444.1 bt448.1 ((rd bt448.1 0) != 1) a0_0 a0_1 a0_2 a0_3) else (none)) else (l4_ReedsolApart.j1 kj3 t424 t427 (mn (t424.length : Int) (t427.length : Int)) bt435.1 bt444.1 bt448.1 true a0_0 a0_1 a0_2 a0_3)) else (l4_ReedsolApart.j1 kj3 t424 t427 (mn (t424.length : Int) (t427.length : Int)) bt435.1 bt444.1 bt448.1 true a0_0 a0_1 a0_2 a0_3)) else (l4_ReedsolApart.j1 kj3 t424 t427 (mn (t424.length : Int) (t427.length : Int)) bt435.1 bt444.1 bt448.1 true a0_0 a0_1 a0_2 a0_3)) else (l4_ReedsolApart.j1 kj3 t424 t427 (mn (t424.length : Int) (t427.length : Int)) bt435.1 bt444.1 bt448.1 true a0_0 a0_1 a0_2 a0_3))))))) else (none))) else (none)) else (none)) = some r := H
    have A18 := Aside0.mk A180
    clear A180
    obtain ⟨ji19,hji19⟩ : ∃ j_ : Int,(mn (t424.length : Int) (t427.length : Int)) = j_ := ⟨_,rfl⟩
    replace H : (if 0 ≤ (ji19) then (if (ji19) ≤ (t424.length : Int) then ((reedsol_Encode.f kj3 a0_0 a0_1 a0_2 a0_3 (t424.take ((ji19) : Int).toNat)).bind fun bt435 => (if (ji19) ≤ (t427.length : Int) then ((reedsol_Encode.f kj3 a0_0 a0_1 a0_2 a0_3 (t427.take ((ji19) : Int).toNat)).bind fun bt444 => ((reedsol_Generator.f kj3 a0_0 a0_1 a0_2 a0_3).bind fun bt448 => ((l4_num.f bt435.2).bind fun t452 => ((l4_num.f bt444.2).bind fun t453 => ((l4_num.f bt448.2).bind fun t454 => (if (wrap64 ((wrap64 (t452 + t453)) + t454)) = 0 then (if (bt435.1.length : Int) = (wrap64 ((ji19) + a0_3)) then (if (bt444.1.length : Int) = (bt435.1.length : Int) then (if (bt448.1.length : Int) = (wrap64 (a0_3 + 1)) then (if 0 < (bt448.1.length : Int) then (l4_ReedsolApart.j1 kj3 t424 t427 ji19 bt435.1 bt444.1 bt448.1 ((rd bt448.1 0) != 1) a0_0 a0_1 a0_2 a0_3) else (none)) else (l4_ReedsolApart.j1 kj3 t424 t427 ji19 bt435.1 bt444.1 bt448.1 true a0_0 a0_1 a0_2 a0_3)) else (l4_ReedsolApart.j1 kj3 t424 t427 ji19 bt435.1 bt444.1 bt448.1 true a0_0 a0_1 a0_2 a0_3)) else (l4_ReedsolApart.j1 kj3 t424 t427 ji19 bt435.1 bt444.1 bt448.1 true a0_0 a0_1 a0_2 a0_3)) else (l4_ReedsolApart.j1 kj3 t424 t427 ji19 bt435.1 bt444.1 bt448.1 true a0_0 a0_1 a0_2 a0_3))))))) else (none))) else (none)) else (none)) = some r := by first | (rw [hji19] at H; exact H) | (simp only [hji19] at H ⊢; exact H)
    (try rw [hji19] at A17)
    (try rw [hji19] at A18)
    (try (have hji19l : 0 ≤ ji19 := by (rw [← hji19]; unfold mn; (repeat' split) <;> omega)))
    (try (have hji19m : 0 ≤ ji19 := by omega))
    have hji19_ : (if (t427.length : Int) < (t424.length : Int) then (t427.length : Int) else (t424.length : Int)) = ji19 := hji19
    (try (have hji19n : (if t427.length < t424.length then (t427.length : Int) else (t424.length : Int)) = ji19 := by (have h_ := hji19_; simp only [Int.ofNat_lt] at h_; exact h_)))
    by_cases c20 : 0 ≤ (ji19)
    ·rw [if_pos c20] at H
     have c20b0 := eq_true c20
     have c20b1 : decide (0 ≤ (ji19)) = true := decide_eq_true c20
     clear c20
     by_cases c21 : (ji19) ≤ (t424.length : Int)
     ·rw [if_pos c21] at H
      have c21b0 := eq_true c21
      have c21b1 : decide ((ji19) ≤ (t424.length : Int)) = true := decide_eq_true c21
      clear c21
      obtain ⟨y430,hy430⟩ : ∃ y_ : List Int,y_ = (t424.take ((ji19) : Int).toNat) := ⟨_,rfl⟩
      replace H : ((reedsol_Encode.f kj3 a0_0 a0_1 a0_2 a0_3 y430).bind fun bt435 => (if (ji19) ≤ (t427.length : Int) then ((reedsol_Encode.f kj3 a0_0 a0_1 a0_2 a0_3 (t427.take ((ji19) : Int).toNat)).bind fun bt444 => ((reedsol_Generator.f kj3 a0_0 a0_1 a0_2 a0_3).bind fun bt448 => ((l4_num.f bt435.2).bind fun t452 => ((l4_num.f bt444.2).bind fun t453 => ((l4_num.f bt448.2).bind fun t454 => (if (wrap64 ((wrap64 (t452 + t453)) + t454)) = 0 then (if (bt435.1.length : Int) = (wrap64 ((ji19) + a0_3)) then (if (bt444.1.length : Int) = (bt435.1.length : Int) then (if (bt448.1.length : Int) = (wrap64 (a0_3 + 1)) then (if 0 < (bt448.1.length : Int) then (l4_ReedsolApart.j1 kj3 t424 t427 ji19 bt435.1 bt444.1 bt448.1 ((rd bt448.1 0) != 1) a0_0 a0_1 a0_2 a0_3) else (none)) else (l4_ReedsolApart.j1 kj3 t424 t427 ji19 bt435.1 bt444.1 bt448.1 true a0_0 a0_1 a0_2 a0_3)) else (l4_ReedsolApart.j1 kj3 t424 t427 ji19 bt435.1 bt444.1 bt448.1 true a0_0 a0_1 a0_2 a0_3)) else (l4_ReedsolApart.j1 kj3 t424 t427 ji19 bt435.1 bt444.1 bt448.1 true a0_0 a0_1 a0_2 a0_3)) else (l4_ReedsolApart.j1 kj3 t424 t427 ji19 bt435.1 bt444.1 bt448.1 true a0_0 a0_1 a0_2 a0_3))))))) else (none))) = some r := by first | (rw [hy430]; with_reducible exact H) | (have H2_ := (Option.bind_some _ _).symm.trans H; rw [hy430]; with_reducible exact H2_) | (have H2_ := (Option.bind_some _ _).symm.trans H; with_reducible exact H2_) | with_reducible exact H | (rw [hy430]; exact H) | exact H
      have Ny430 := Aside0.mk hy430
      clear hy430
      replace H := Option.bind_eq_some_iff.mp H
      obtain ⟨⟨t435,t438⟩,A220,H⟩ := H
      replace H : (if (ji19) ≤ (t427.length : Int) then ((reedsol_Encode.f kj3 a0_0 a0_1 a0_2 a0_3 (t427.take ((ji19) : Int).toNat)).bind fun bt444 => ((reedsol_Generator.f kj3 a0_0 a0_1 a0_2 a0_3).bind fun bt448 => ((l4_num.f t438).bind fun t452 => ((l4_num.f bt444.2).bind fun t453 => ((l4_num.f bt448.2).bind fun t454 => (if (wrap64 ((wrap64 (t452 + t453)) + t454)) = 0 then (if (t435.length : Int) = (wrap64 ((ji19) + a0_3)) then (if (bt444.1.length : Int) = (t435.length : Int) then (if (bt448.1.length : Int) = (wrap64 (a0_3 + 1)) then (if 0 < (bt448.1.length : Int) then (l4_ReedsolApart.j1 kj3 t424 t427 ji19 t435 bt444.1 bt448.1 ((rd bt448.1 0) != 1) a0_0 a0_1 a0_2 a0_3) else (none)) else (l4_ReedsolApart.j1 kj3 t424 t427 ji19 t435 bt444.1 bt448.1 true a0_0 a0_1 a0_2 a0_3)) else (l4_ReedsolApart.j1 kj3 t424 t427 ji19 t435 bt444.1 bt448.1 true a0_0 a0_1 a0_2 a0_3)) else (l4_ReedsolApart.j1 kj3 t424 t427 ji19 t435 bt444.1 bt448.1 true a0_0 a0_1 a0_2 a0_3)) else (l4_ReedsolApart.j1 kj3 t424 t427 ji19 t435 bt444.1 bt448.1 true a0_0 a0_1 a0_2 a0_3))))))) else (none)) = some r := H
      have A22 := Aside0.mk A220
      clear A220
      have c23b0 := eq_true (of_decide_eq_true (by first | (with_reducible assumption) | assumption) : 0 ≤ (ji19))
      by_cases c24 : (ji19) ≤ (t427.length : Int)
      ·rw [if_pos c24] at H
       have c24b0 := eq_true c24
       have c24b1 : decide ((ji19) ≤ (t427.length : Int)) = true := decide_eq_true c24
       clear c24
       obtain ⟨y439,hy439⟩ : ∃ y_ : List Int,y_ = (t427.take ((ji19) : Int).toNat) := ⟨_,rfl⟩
       replace H : ((reedsol_Encode.f kj3 a0_0 a0_1 a0_2 a0_3 y439).bind fun bt444 => ((reedsol_Generator.f kj3 a0_0 a0_1 a0_2 a0_3).bind fun bt448 => ((l4_num.f t438).bind fun t452 => ((l4_num.f bt444.2).bind fun t453 => ((l4_num.f bt448.2).bind fun t454 => (if (wrap64 ((wrap64 (t452 + t453)) + t454)) = 0 then (if (t435.length : Int) = (wrap64 ((ji19) + a0_3)) then (if (bt444.1.length : Int) = (t435.length : Int) then (if (bt448.1.length : Int) = (wrap64 (a0_3 + 1)) then (if 0 < (bt448.1.length : Int) then (l4_ReedsolApart.j1 kj3 t424 t427 ji19 t435 bt444.1 bt448.1 ((rd bt448.1 0) != 1) a0_0 a0_1 a0_2 a0_3) else (none)) else (l4_ReedsolApart.j1 kj3 t424 t427 ji19 t435 bt444.1 bt448.1 true a0_0 a0_1 a0_2 a0_3)) else (l4_ReedsolApart.j1 kj3 t424 t427 ji19 t435 bt444.1 bt448.1 true a0_0 a0_1 a0_2 a0_3)) else (l4_ReedsolApart.j1 kj3 t424 t427 ji19 t435 bt444.1 bt448.1 true a0_0 a0_1 a0_2 a0_3)) else (l4_ReedsolApart.j1 kj3 t424 t427 ji19 t435 bt444.1 bt448.1 true a0_0 a0_1 a0_2 a0_3))))))) = some r := by first | (rw [hy439]; with_reducible exact H) | (have H2_ := (Option.bind_some _ _).symm.trans H; rw [hy439]; with_reducible exact H2_) | (have H2_ := (Option.bind_some _ _).symm.trans H; with_reducible exact H2_) | with_reducible exact H | (rw [hy439]; exact H) | exact H
       have Ny439 := Aside0.mk hy439
       clear hy439
       replace H := Option.bind_eq_some_iff.mp H
       obtain ⟨⟨t444,t447⟩,A250,H⟩ := H
       replace H : ((reedsol_Generator.f kj3 a0_0 a0_1 a0_2 a0_3).bind fun bt448 => ((l4_num.f t438).bind fun t452 => ((l4_num.f t447).bind fun t453 => ((l4_num.f bt448.2).bind fun t454 => (if (wrap64 ((wrap64 (t452 + t453)) + t454)) = 0 then (if (t435.length : Int) = (wrap64 ((ji19) + a0_3)) then (if (t444.length : Int) = (t435.length : Int) then (if (bt448.1.length : Int) = (wrap64 (a0_3 + 1)) then (if 0 < (bt448.1.length : Int) then (l4_ReedsolApart.j1 kj3 t424 t427 ji19 t435 t444 bt448.1 ((rd bt448.1 0) != 1) a0_0 a0_1 a0_2 a0_3) else (none)) else (l4_ReedsolApart.j1 kj3 t424 t427 ji19 t435 t444 bt448.1 true a0_0 a0_1 a0_2 a0_3)) else (l4_ReedsolApart.j1 kj3 t424 t427 ji19 t435 t444 bt448.1 true a0_0 a0_1 a0_2 a0_3)) else (l4_ReedsolApart.j1 kj3 t424 t427 ji19 t435 t444 bt448.1 true a0_0 a0_1 a0_2 a0_3)) else (l4_ReedsolApart.j1 kj3 t424 t427 ji19 t435 t444 bt448.1 true a0_0 a0_1 a0_2 a0_3)))))) = some r := H
       have A25 := Aside0.mk A250
       clear A250
       replace H := Option.bind_eq_some_iff.mp H
       obtain ⟨⟨t448,t451⟩,A260,H⟩ := H
       replace H : ((l4_num.f t438).bind fun t452 => ((l4_num.f t447).bind fun t453 => ((l4_num.f t451).bind fun t454 => (if (wrap64 ((wrap64 (t452 + t453)) + t454)) = 0 then (if (t435.length : Int) = (wrap64 ((ji19) + a0_3)) then (if (t444.length : Int) = (t435.length : Int) then (if (t448.length : Int) = (wrap64 (a0_3 + 1)) then (if 0 < (t448.length : Int) then (l4_ReedsolApart.j1 kj3 t424 t427 ji19 t435 t444 t448 ((rd t448 0) != 1) a0_0 a0_1 a0_2 a0_3) else (none)) else (l4_ReedsolApart.j1 kj3 t424 t427 ji19 t435 t444 t448 true a0_0 a0_1 a0_2 a0_3)) else (l4_ReedsolApart.j1 kj3 t424 t427 ji19 t435 t444 t448 true a0_0 a0_1 a0_2 a0_3)) else (l4_ReedsolApart.j1 kj3 t424 t427 ji19 t435 t444 t448 true a0_0 a0_1 a0_2 a0_3)) else (l4_ReedsolApart.j1 kj3 t424 t427 ji19 t435 t444 t448 true a0_0 a0_1 a0_2 a0_3))))) = some r := H
       have A26 := Aside0.mk A260
       clear A260
       have HC27 := Aside0.mk H
       clear H
       obtain ⟨hcz28_0,hcz28_1,hcz28_2,hcz28_3,hfz28_0,hfz28_1,hfz28_2,hfz28_3⟩ := cf4 BK420.out
       try go_wp2_with (first | ((with_reducible refine gate_callee (f := 24) rfl ?_); refine goesL_ (some 29) rfl rfl Try.func24 (by kernel_rfl) rfl #[.agg #[.int .i64 a0_0,.int .u64 a0_1,.int .i64 a0_2,.int .i64 a0_3],.slice A1 l1.length c1] rfl (by (try simp only [List.map_toArray,List.map_cons,List.map_nil]) <;> rfl) ?_; (with_reducible refine (l4_elements.calls kj3 a0_0 a0_1 a0_2 a0_3 _ _ l1 t424 _ ?side1 ?side2 A17.out).mono ?_); (case side1 => repeat (first | exact (Kd.C_below HR1.out HB.out) | (with_reducible refine Kd.C_alloc ?_ _) | (with_reducible refine Kd.C_drewN ?_ _) | (with_reducible refine Kd.C_drew ?_))); (case side2 => exact HC1.out); rintro e w29 ⟨v425,rfl,ho0,hb⟩; refine ⟨_,rfl,?_⟩; have n0_ := aK (Kd.R_lower ho0 (below_size (by repeat (first | (with_reducible first | exact HB.out | apply hA | apply hN | apply hD | refine below_set ?_ GE420.out) | exact HB.out)))); have n1_ := aK (kb BK420.out hb); have n2_ := aK (below_step (by repeat (first | (with_reducible first | exact HB.out | apply hA | apply hN | apply hD | refine below_set ?_ GE420.out) | exact HB.out)) hb); clear BK420 HB; have HO426 := n0_; have BK420 := n1_; have HB := n2_; clear n0_ n1_ n2_; (try clear hb); (try clear ho0); obtain ⟨hcz30_0,hcz30_1,hcz30_2,hcz30_3,hfz30_0,hfz30_1,hfz30_2,hfz30_3⟩ := cf4 BK420.out) | ((with_reducible refine gate_callee (f := 24) rfl ?_); refine goesL_ (some 32) rfl rfl Try.func24 (by kernel_rfl) rfl #[.agg #[.int .i64 a0_0,.int .u64 a0_1,.int .i64 a0_2,.int .i64 a0_3],.slice A2 l2.length c2] rfl (by (try simp only [List.map_toArray,List.map_cons,List.map_nil]) <;> rfl) ?_; (with_reducible refine (l4_elements.calls kj3 a0_0 a0_1 a0_2 a0_3 _ _ l2 t427 _ ?side1 ?side2 A18.out).mono ?_); (case side1 => repeat (first | exact (Kd.C_below HR2.out HB.out) | (with_reducible refine Kd.C_alloc ?_ _) | (with_reducible refine Kd.C_drewN ?_ _) | (with_reducible refine Kd.C_drew ?_))); (case side2 => exact HC2.out); rintro e w31 ⟨v428,rfl,ho0,hb⟩; refine ⟨_,rfl,?_⟩; have n0_ := aK (Kd.R_elder' (mvR HO426.out) (Kd.R_base ho0) hb); have n1_ := aK (Kd.R_lower (Kd.R_new' ho0 (Kd.R_lt (mvR HO426.out))) (below_size (by repeat (first | (with_reducible first | exact HB.out | apply hA | apply hN | apply hD | refine below_set ?_ GE420.out) | exact HB.out)))); have n2_ := aK (kb BK420.out hb); have n3_ := aK (below_step (by repeat (first | (with_reducible first | exact HB.out | apply hA | apply hN | apply hD | refine below_set ?_ GE420.out) | exact HB.out)) hb); clear HO426 BK420 HB; have HO426 := n0_; have HO429 := n1_; have BK420 := n2_; have HB := n3_; clear n0_ n1_ n2_ n3_; (try clear hb); (try clear ho0); obtain ⟨Ao32,co32,eo32⟩ := Kd.R_slice HO426.out; subst eo32; obtain ⟨Ao33,co33,eo33⟩ := Kd.R_slice HO429.out; subst eo33))
       have n0_ := aK (Kd.R_drew HO426.out)
       have n1_ := aK (Kd.R_drew HO429.out)
       have n2_ := aK (blk_drew BK420.out)
       have n3_ := aK (below_drew1 HB.out)
       clear HO426 HO429 BK420 HB
       have HO426 := n0_
       have HO429 := n1_
       have BK420 := n2_
       have HB := n3_
       clear n0_ n1_ n2_ n3_
       have q35 : ((ji19) : Int) ≤ ((t424.length : Int) : Int) := of_decide_eq_true (by first | (with_reducible assumption) | assumption)
       obtain ⟨i035,hi035,_,hsz35,_⟩ := info_parts info5
       have hroom35 : t424.length ≤ co32 := (Kd.R_reads' HO426.out).2.1
       have hC35 : Kd.F (Kd.int .u8) _ _ Ao32 t424.length t424 := (Kd.V_at (base := w.heap.size) (Kd.R_V (Kd.R_types (HO426.out) BK420.out (by decide)))).2.2
       have hcut35 := cut_to (P := Try.prog) 27 5 .i64 Try.underlying27 hi035 Ao32 t424.length co32 (ji19) (of_decide_eq_true (by first | (with_reducible assumption) | assumption)) q35 hroom35
       have hr35 := Kd.F_take (m := ((ji19) : Int).toNat) hC35 (by omega)
       have hy35 : y430.length = ((ji19) : Int).toNat := (by rw [Ny430.out,List.length_take]; omega)
       rw [← Ny430.out] at hr35
       rw [← hy35] at hcut35
       have HO434 := aK (show Kd.V (Kd.int .u8) 5 _ w.heap.size _ (.slice Ao32 y430.length co32) y430 from Kd.V_mk (by omega) hr35)
       have HC434 := aK (show y430.length ≤ co32 from by omega)
       clear hr35 hC35 hroom35 hi035 hsz35
       have KY35 := Aside0.mk hy35
       clear hy35
       replace q35 := eq_true q35
       refine start_ (n := 10) (S := fun w' => w'.cell? ⟨gb420,0,none⟩ = some (.int .i64 a0_0) ∧ w'.cell? ⟨gb420,1,none⟩ = some (.int .u64 a0_1) ∧ w'.cell? ⟨gb420,2,none⟩ = some (.int .i64 a0_2) ∧ w'.cell? ⟨gb420,3,none⟩ = some (.int .i64 a0_3)) (ds := []) #[false,false,false,false,false,false,false,false,false,false] (by kernel_rfl) rfl rfl ⟨(blk_cell BK420.out 0).trans rfl,(blk_cell BK420.out 1).trans rfl,(blk_cell BK420.out 2).trans rfl,(blk_cell BK420.out 3).trans rfl⟩ (fun hHeld => ?_); refine with_tabW l4_ReedsolApart.tab6 l4_ReedsolApart.bits6 (fun HT_ HW_ => ?_)
       generalize w31.drew = w34 at HO426 HO429 BK420 HB HO434 hHeld ⊢
       refine pure_ (i := 1) (N := some 40) (v := ?_) (a' := ?_) #[false,true,false,false,false,false,false,false,false,false] rfl rfl (any_of HT_.out (by kernel_rfl)) (fun _ _ _ h => h) (Or.inl ⟨by rfl,?_⟩) ?_ ?_
       rotate_left
       ·intro w'
        go_simp
        with_reducible rfl
       rotate_left
       ·simp only [Act.put,List.setIfInBounds_toArray,List.set_cons_zero,List.set_cons_succ,i64_w,i32_w]
        rfl
       refine pure_ (i := 2) (N := some 41) (v := ?_) (a' := ?_) #[false,true,true,false,false,false,false,false,false,false] rfl rfl (any_of HT_.out (by kernel_rfl)) (fun _ _ _ h => h) (Or.inl ⟨by rfl,?_⟩) ?_ ?_
       rotate_left
       ·intro w'
        go_simp
        with_reducible rfl
       rotate_left
       ·simp only [Act.put,List.setIfInBounds_toArray,List.set_cons_zero,List.set_cons_succ,i64_w,i32_w]
        rfl
       refine pure_ (i := 3) (N := some 42) (v := ?_) (a' := ?_) #[false,true,true,true,false,false,false,false,false,false] rfl rfl (any_of HT_.out (by kernel_rfl)) (fun _ _ _ h => h) (Or.inl ⟨by rfl,?_⟩) ?_ ?_
       rotate_left
       ·intro w'
        go_simp
        with_reducible rfl
       rotate_left
       ·simp only [Act.put,List.setIfInBounds_toArray,List.set_cons_zero,List.set_cons_succ,i64_w,i32_w]
        rfl
       refine take_ (i := 0) (N := some 39) (v := ?_) (a' := ?_) #[true,true,true,true,false,false,false,false,false,false] rfl rfl (take_ofW HT_.out HW_.out (by kernel_rfl)) (fun _ _ _ h => h) (Or.inl ⟨by rfl,?_⟩) hHeld ?_ ?_
       rotate_left
       ·rintro w' ⟨s0,s1,s2,s3⟩
        go_simp
        with_reducible rfl
       rotate_left
       ·simp only [Act.put,List.setIfInBounds_toArray,List.set_cons_zero,List.set_cons_succ,i64_w,i32_w]
        rfl
       refine one_ (i := 4) (N := some 43) #[true,true,true,true,true,false,false,false,false,false] rfl rfl (one_of HT_.out (by kernel_rfl)) (by decide) (fun K hK => ?_)
       refine goes_ Try.func18 (by kernel_rfl) rfl #[.agg #[.int .i64 a0_0,.int .u64 a0_1,.int .i64 a0_2,.int .i64 a0_3],.slice Ao32 y430.length co32] (by rfl) rfl rfl (by (try simp only [List.map_toArray,List.map_cons,List.map_nil]) <;> rfl) ?_
       with_reducible refine (reedsol_Encode.calls kj3 a0_0 a0_1 a0_2 a0_3 _ _ y430 t435 t438 _ ?side1 ?side2 A22.out).mono ?_
       (case side1 => repeat (first | exact (Kd.V_reads' HO434.out).2.2 | (with_reducible refine Kd.C_alloc ?_ _) | (with_reducible refine Kd.C_drewN ?_ _) | (with_reducible refine Kd.C_drew ?_)))
       (case side2 => exact (Kd.V_reads' HO434.out).2.1)
       rintro e w36 ⟨v436,rfl,ho0,hb⟩
       refine ⟨_,rfl,?_⟩
       have n0_ := aK (Kd.R_elder' (mvR HO426.out) (Kd.R_base ho0) hb)
       have n1_ := aK (Kd.R_elder' (mvR HO429.out) (Kd.R_base ho0) hb)
       have n2_ := aK (Kd.V_elder' (by (with_reducible repeat (first | apply Kd.V_alloc | apply Kd.V_drewN | apply Kd.V_drew)); exact HO434.out) (Kd.R_base ho0) hb)
       have n3_ := aK (Kd.R_lower (Kd.R_new' (Kd.R_new' ho0 (Kd.R_lt (mvR HO426.out))) (Kd.R_lt (mvR HO429.out))) (below_size (by repeat (first | (with_reducible first | exact HB.out | apply hA | apply hN | apply hD | refine below_set ?_ GE420.out) | exact HB.out))))
       have n4_ := aK (kb BK420.out hb)
       have n5_ := aK (below_step (by repeat (first | (with_reducible first | exact HB.out | apply hA | apply hN | apply hD | refine below_set ?_ GE420.out) | exact HB.out)) hb)
       clear HO426 HO429 HO434 BK420 HB
       have HO426 := n0_
       have HO429 := n1_
       have HO434 := n2_
       have HO437 := n3_
       have BK420 := n4_
       have HB := n5_
       clear n0_ n1_ n2_ n3_ n4_ n5_
       (try clear hb); (try clear ho0)
       refine hK.out _ _ ⟨(blk_cell BK420.out 0).trans rfl,(blk_cell BK420.out 1).trans rfl,(blk_cell BK420.out 2).trans rfl,(blk_cell BK420.out 3).trans rfl⟩ (fun hHeld => ?_)
       clear hK K
       refine norm_ (a' := ?_) ?_ ?_
       rotate_left
       ·show Act.put _ (some 43) _ = _
        simp only [Act.put,List.setIfInBounds_toArray,List.set_cons_zero,List.set_cons_succ,i64_w,i32_w]
        rfl
       refine pure_ (i := 5) (N := some 38) (v := ?_) (a' := ?_) #[true,true,true,true,true,true,false,false,false,false] rfl rfl (any_of HT_.out (by kernel_rfl)) (fun _ _ _ h => h) (Or.inl ⟨by rfl,?_⟩) ?_ ?_
       rotate_left
       ·intro w'
        go_simp
        with_reducible rfl
       rotate_left
       ·simp only [Act.put,List.setIfInBounds_toArray,List.set_cons_zero,List.set_cons_succ,i64_w,i32_w]
        rfl
       refine pure_ (i := 6) (N := some 44) (v := ?_) (a' := ?_) #[true,true,true,true,true,true,true,false,false,false] rfl rfl (any_of HT_.out (by kernel_rfl)) (fun _ _ _ h => h) (Or.inl ⟨by rfl,?_⟩) ?_ ?_
       rotate_left
       ·intro w'
        go_simp
        with_reducible rfl
       rotate_left
       ·simp only [Act.put,List.setIfInBounds_toArray,List.set_cons_zero,List.set_cons_succ,i64_w,i32_w]
        rfl
       refine pure_ (i := 7) (N := some 45) (v := ?_) (a' := ?_) #[true,true,true,true,true,true,true,true,false,false] rfl rfl (any_of HT_.out (by kernel_rfl)) (fun _ _ _ h => h) (Or.inl ⟨by rfl,?_⟩) ?_ ?_
       rotate_left
       ·intro w'
        go_simp
        with_reducible rfl
       rotate_left
       ·simp only [Act.put,List.setIfInBounds_toArray,List.set_cons_zero,List.set_cons_succ,i64_w,i32_w]
        rfl
       refine pure_ (i := 8) (N := some 10) (v := ?_) (a' := ?_) #[true,true,true,true,true,true,true,true,true,false] rfl rfl (any_of HT_.out (by kernel_rfl)) (fun _ _ _ h => h) (Or.inl ⟨by rfl,?_⟩) ?_ ?_
       rotate_left
       ·intro w'
        go_simp
        with_reducible rfl
       rotate_left
       ·simp only [Act.put,List.setIfInBounds_toArray,List.set_cons_zero,List.set_cons_succ,i64_w,i32_w]
        rfl
       refine pure_ (i := 9) (N := some 11) (v := ?_) (a' := ?_) #[true,true,true,true,true,true,true,true,true,true] rfl rfl (any_of HT_.out (by kernel_rfl)) (fun _ _ _ h => h) (Or.inl ⟨by rfl,?_⟩) ?_ ?_
       rotate_left
       ·intro w'
        go_simp
        with_reducible rfl
       rotate_left
       ·simp only [Act.put,List.setIfInBounds_toArray,List.set_cons_zero,List.set_cons_succ,i64_w,i32_w]
        rfl
       refine done_ (done_of HT_.out (by kernel_rfl)) ?_
       try go_wp2
       have n0_ := aK (Kd.R_drew HO426.out)
       have n1_ := aK (Kd.R_drew HO429.out)
       have n2_ := aK (Kd.V_drew HO434.out)
       have n3_ := aK (Kd.R_drew HO437.out)
       have n4_ := aK (blk_drew BK420.out)
       have n5_ := aK (below_drew1 HB.out)
       clear HO426 HO429 HO434 HO437 BK420 HB
       have HO426 := n0_
       have HO429 := n1_
       have HO434 := n2_
       have HO437 := n3_
       have BK420 := n4_
       have HB := n5_
       clear n0_ n1_ n2_ n3_ n4_ n5_
       have q38 : ((ji19) : Int) ≤ ((t427.length : Int) : Int) := of_decide_eq_true (by first | (with_reducible assumption) | assumption)
       obtain ⟨i038,hi038,_,hsz38,_⟩ := info_parts info5
       have hroom38 : t427.length ≤ co33 := (Kd.R_reads' HO429.out).2.1
       have hC38 : Kd.F (Kd.int .u8) _ _ Ao33 t427.length t427 := (Kd.V_at (base := w.heap.size) (Kd.R_V (Kd.R_types (HO429.out) BK420.out (by decide)))).2.2
       have hcut38 := cut_to (P := Try.prog) 27 5 .i64 Try.underlying27 hi038 Ao33 t427.length co33 (ji19) (of_decide_eq_true (by first | (with_reducible assumption) | assumption)) q38 hroom38
       have hr38 := Kd.F_take (m := ((ji19) : Int).toNat) hC38 (by omega)
       have hy38 : y439.length = ((ji19) : Int).toNat := (by rw [Ny439.out,List.length_take]; omega)
       rw [← Ny439.out] at hr38
       rw [← hy38] at hcut38
       have HO443 := aK (show Kd.V (Kd.int .u8) 5 _ w.heap.size _ (.slice Ao33 y439.length co33) y439 from Kd.V_mk (by omega) hr38)
       have HC443 := aK (show y439.length ≤ co33 from by omega)
       clear hr38 hC38 hroom38 hi038 hsz38
       have KY38 := Aside0.mk hy38
       clear hy38
       replace q38 := eq_true q38
       refine start_ (n := 10) (S := fun w' => w'.cell? ⟨gb420,0,none⟩ = some (.int .i64 a0_0) ∧ w'.cell? ⟨gb420,1,none⟩ = some (.int .u64 a0_1) ∧ w'.cell? ⟨gb420,2,none⟩ = some (.int .i64 a0_2) ∧ w'.cell? ⟨gb420,3,none⟩ = some (.int .i64 a0_3)) (ds := []) #[false,false,false,false,false,false,false,false,false,false] (by kernel_rfl) rfl rfl ⟨(blk_cell BK420.out 0).trans rfl,(blk_cell BK420.out 1).trans rfl,(blk_cell BK420.out 2).trans rfl,(blk_cell BK420.out 3).trans rfl⟩ (fun hHeld => ?_); refine with_tabW l4_ReedsolApart.tab7 l4_ReedsolApart.bits7 (fun HT_ HW_ => ?_)
       generalize w36.drew = w37 at HO426 HO429 HO434 HO437 BK420 HB HO443 hHeld ⊢
       refine pure_ (i := 1) (N := some 48) (v := ?_) (a' := ?_) #[false,true,false,false,false,false,false,false,false,false] rfl rfl (any_of HT_.out (by kernel_rfl)) (fun _ _ _ h => h) (Or.inl ⟨by rfl,?_⟩) ?_ ?_
       rotate_left
       ·intro w'
        go_simp
        with_reducible rfl
       rotate_left
       ·simp only [Act.put,List.setIfInBounds_toArray,List.set_cons_zero,List.set_cons_succ,i64_w,i32_w]
        rfl
       refine pure_ (i := 2) (N := some 49) (v := ?_) (a' := ?_) #[false,true,true,false,false,false,false,false,false,false] rfl rfl (any_of HT_.out (by kernel_rfl)) (fun _ _ _ h => h) (Or.inl ⟨by rfl,?_⟩) ?_ ?_
       rotate_left
       ·intro w'
        go_simp
        with_reducible rfl
       rotate_left
       ·simp only [Act.put,List.setIfInBounds_toArray,List.set_cons_zero,List.set_cons_succ,i64_w,i32_w]
        rfl
       refine pure_ (i := 3) (N := some 50) (v := ?_) (a' := ?_) #[false,true,true,true,false,false,false,false,false,false] rfl rfl (any_of HT_.out (by kernel_rfl)) (fun _ _ _ h => h) (Or.inl ⟨by rfl,?_⟩) ?_ ?_
       rotate_left
       ·intro w'
        go_simp
        with_reducible rfl
       rotate_left
       ·simp only [Act.put,List.setIfInBounds_toArray,List.set_cons_zero,List.set_cons_succ,i64_w,i32_w]
        rfl
       refine take_ (i := 0) (N := some 47) (v := ?_) (a' := ?_) #[true,true,true,true,false,false,false,false,false,false] rfl rfl (take_ofW HT_.out HW_.out (by kernel_rfl)) (fun _ _ _ h => h) (Or.inl ⟨by rfl,?_⟩) hHeld ?_ ?_
       rotate_left
       ·rintro w' ⟨s0,s1,s2,s3⟩
        go_simp
        with_reducible rfl
       rotate_left
       ·simp only [Act.put,List.setIfInBounds_toArray,List.set_cons_zero,List.set_cons_succ,i64_w,i32_w]
        rfl
       refine one_ (i := 4) (N := some 51) #[true,true,true,true,true,false,false,false,false,false] rfl rfl (one_of HT_.out (by kernel_rfl)) (by decide) (fun K hK => ?_)
       refine goes_ Try.func18 (by kernel_rfl) rfl #[.agg #[.int .i64 a0_0,.int .u64 a0_1,.int .i64 a0_2,.int .i64 a0_3],.slice Ao33 y439.length co33] (by rfl) rfl rfl (by (try simp only [List.map_toArray,List.map_cons,List.map_nil]) <;> rfl) ?_
       with_reducible refine (reedsol_Encode.calls kj3 a0_0 a0_1 a0_2 a0_3 _ _ y439 t444 t447 _ ?side1 ?side2 A25.out).mono ?_
       (case side1 => repeat (first | exact (Kd.V_reads' HO443.out).2.2 | (with_reducible refine Kd.C_alloc ?_ _) | (with_reducible refine Kd.C_drewN ?_ _) | (with_reducible refine Kd.C_drew ?_)))
       (case side2 => exact (Kd.V_reads' HO443.out).2.1)
       rintro e w39 ⟨v445,rfl,ho0,hb⟩
       refine ⟨_,rfl,?_⟩
       have n0_ := aK (Kd.R_elder' (mvR HO426.out) (Kd.R_base ho0) hb)
       have n1_ := aK (Kd.R_elder' (mvR HO429.out) (Kd.R_base ho0) hb)
       have n2_ := aK (Kd.V_elder' (by (with_reducible repeat (first | apply Kd.V_alloc | apply Kd.V_drewN | apply Kd.V_drew)); exact HO434.out) (Kd.R_base ho0) hb)
       have n3_ := aK (Kd.R_elder' (mvR HO437.out) (Kd.R_base ho0) hb)
       have n4_ := aK (Kd.V_elder' (by (with_reducible repeat (first | apply Kd.V_alloc | apply Kd.V_drewN | apply Kd.V_drew)); exact HO443.out) (Kd.R_base ho0) hb)
       have n5_ := aK (Kd.R_lower (Kd.R_new' (Kd.R_new' (Kd.R_new' ho0 (Kd.R_lt (mvR HO426.out))) (Kd.R_lt (mvR HO429.out))) (Kd.R_lt (mvR HO437.out))) (below_size (by repeat (first | (with_reducible first | exact HB.out | apply hA | apply hN | apply hD | refine below_set ?_ GE420.out) | exact HB.out))))
       have n6_ := aK (kb BK420.out hb)
       have n7_ := aK (below_step (by repeat (first | (with_reducible first | exact HB.out | apply hA | apply hN | apply hD | refine below_set ?_ GE420.out) | exact HB.out)) hb)
       clear HO426 HO429 HO434 HO437 HO443 BK420 HB
       have HO426 := n0_
       have HO429 := n1_
       have HO434 := n2_
       have HO437 := n3_
       have HO443 := n4_
       have HO446 := n5_
       have BK420 := n6_
       have HB := n7_
       clear n0_ n1_ n2_ n3_ n4_ n5_ n6_ n7_
       (try clear hb); (try clear ho0)
       refine hK.out _ _ ⟨(blk_cell BK420.out 0).trans rfl,(blk_cell BK420.out 1).trans rfl,(blk_cell BK420.out 2).trans rfl,(blk_cell BK420.out 3).trans rfl⟩ (fun hHeld => ?_)
       clear hK K
       refine norm_ (a' := ?_) ?_ ?_
       rotate_left
       ·show Act.put _ (some 51) _ = _
        simp only [Act.put,List.setIfInBounds_toArray,List.set_cons_zero,List.set_cons_succ,i64_w,i32_w]
        rfl
       refine pure_ (i := 5) (N := some 46) (v := ?_) (a' := ?_) #[true,true,true,true,true,true,false,false,false,false] rfl rfl (any_of HT_.out (by kernel_rfl)) (fun _ _ _ h => h) (Or.inl ⟨by rfl,?_⟩) ?_ ?_
       rotate_left
       ·intro w'
        go_simp
        with_reducible rfl
       rotate_left
       ·simp only [Act.put,List.setIfInBounds_toArray,List.set_cons_zero,List.set_cons_succ,i64_w,i32_w]
        rfl
       refine pure_ (i := 6) (N := some 52) (v := ?_) (a' := ?_) #[true,true,true,true,true,true,true,false,false,false] rfl rfl (any_of HT_.out (by kernel_rfl)) (fun _ _ _ h => h) (Or.inl ⟨by rfl,?_⟩) ?_ ?_
       rotate_left
       ·intro w'
        go_simp
        with_reducible rfl
       rotate_left
       ·simp only [Act.put,List.setIfInBounds_toArray,List.set_cons_zero,List.set_cons_succ,i64_w,i32_w]
        rfl
       refine pure_ (i := 7) (N := some 53) (v := ?_) (a' := ?_) #[true,true,true,true,true,true,true,true,false,false] rfl rfl (any_of HT_.out (by kernel_rfl)) (fun _ _ _ h => h) (Or.inl ⟨by rfl,?_⟩) ?_ ?_
       rotate_left
       ·intro w'
        go_simp
        with_reducible rfl
       rotate_left
       ·simp only [Act.put,List.setIfInBounds_toArray,List.set_cons_zero,List.set_cons_succ,i64_w,i32_w]
        rfl
       refine pure_ (i := 8) (N := some 12) (v := ?_) (a' := ?_) #[true,true,true,true,true,true,true,true,true,false] rfl rfl (any_of HT_.out (by kernel_rfl)) (fun _ _ _ h => h) (Or.inl ⟨by rfl,?_⟩) ?_ ?_
       rotate_left
       ·intro w'
        go_simp
        with_reducible rfl
       rotate_left
       ·simp only [Act.put,List.setIfInBounds_toArray,List.set_cons_zero,List.set_cons_succ,i64_w,i32_w]
        rfl
       refine pure_ (i := 9) (N := some 13) (v := ?_) (a' := ?_) #[true,true,true,true,true,true,true,true,true,true] rfl rfl (any_of HT_.out (by kernel_rfl)) (fun _ _ _ h => h) (Or.inl ⟨by rfl,?_⟩) ?_ ?_
       rotate_left
       ·intro w'
        go_simp
        with_reducible rfl
       rotate_left
       ·simp only [Act.put,List.setIfInBounds_toArray,List.set_cons_zero,List.set_cons_succ,i64_w,i32_w]
        rfl
       refine done_ (done_of HT_.out (by kernel_rfl)) ?_
       obtain ⟨hcz40_0,hcz40_1,hcz40_2,hcz40_3,hfz40_0,hfz40_1,hfz40_2,hfz40_3⟩ := cf4 BK420.out
       go_upto_region 9 with (first | ((with_reducible refine gate_callee (f := 17) rfl ?_); refine goesL_ (some 56) rfl rfl Try.func17 (by kernel_rfl) rfl #[.agg #[.int .i64 a0_0,.int .u64 a0_1,.int .i64 a0_2,.int .i64 a0_3]] rfl (by (try simp only [List.map_toArray,List.map_cons,List.map_nil]) <;> rfl) ?_; (with_reducible refine (reedsol_Generator.calls kj3 a0_0 a0_1 a0_2 a0_3 t448 t451 _ A26.out).mono ?_); rintro e w41 ⟨v449,rfl,ho0,hb⟩; refine ⟨_,rfl,?_⟩; have n0_ := aK (Kd.R_elder' (mvR HO426.out) (Kd.R_base ho0) hb); have n1_ := aK (Kd.R_elder' (mvR HO429.out) (Kd.R_base ho0) hb); have n2_ := aK (Kd.V_elder' (by (with_reducible repeat (first | apply Kd.V_alloc | apply Kd.V_drewN | apply Kd.V_drew)); exact HO434.out) (Kd.R_base ho0) hb); have n3_ := aK (Kd.R_elder' (mvR HO437.out) (Kd.R_base ho0) hb); have n4_ := aK (Kd.V_elder' (by (with_reducible repeat (first | apply Kd.V_alloc | apply Kd.V_drewN | apply Kd.V_drew)); exact HO443.out) (Kd.R_base ho0) hb); have n5_ := aK (Kd.R_elder' (mvR HO446.out) (Kd.R_base ho0) hb); have n6_ := aK (Kd.R_lower (Kd.R_new' (Kd.R_new' (Kd.R_new' (Kd.R_new' ho0 (Kd.R_lt (mvR HO426.out))) (Kd.R_lt (mvR HO429.out))) (Kd.R_lt (mvR HO437.out))) (Kd.R_lt (mvR HO446.out))) (below_size (by repeat (first | (with_reducible first | exact HB.out | apply hA | apply hN | apply hD | refine below_set ?_ GE420.out) | exact HB.out)))); have n7_ := aK (kb BK420.out hb); have n8_ := aK (below_step (by repeat (first | (with_reducible first | exact HB.out | apply hA | apply hN | apply hD | refine below_set ?_ GE420.out) | exact HB.out)) hb); clear HO426 HO429 HO434 HO437 HO443 HO446 BK420 HB; have HO426 := n0_; have HO429 := n1_; have HO434 := n2_; have HO437 := n3_; have HO443 := n4_; have HO446 := n5_; have HO450 := n6_; have BK420 := n7_; have HB := n8_; clear n0_ n1_ n2_ n3_ n4_ n5_ n6_ n7_ n8_; (try clear hb); (try clear ho0)))
       (try simp only [Act.put,List.setIfInBounds_toArray,List.set_cons_zero,List.set_cons_succ])
       go_cut [97] (fun v97 wc => ∃ (kq : Nat) (x97_26 : Bool),v97 = .bool x97_26 ∧ Aside0 (l4_ReedsolApart.j1 kq t424 t427 ji19 t435 t444 t448 x97_26 a0_0 a0_1 a0_2 a0_3 = some r) ∧ Aside0 (kq ≤ kj3) ∧ Aside0 (Kd.R (Kd.int .u8) 5 wc w.heap.size (fun k_ => some k_ ≠ ((.slice Ao33 t427.length co33) : Value).ownBlock ∧ some k_ ≠ (v436 : Value).ownBlock ∧ some k_ ≠ (v445 : Value).ownBlock ∧ some k_ ≠ (v449 : Value).ownBlock) (.slice Ao32 t424.length co32) t424) ∧ Aside0 (Kd.R (Kd.int .u8) 5 wc w.heap.size (fun k_ => some k_ ≠ ((.slice Ao32 t424.length co32) : Value).ownBlock ∧ some k_ ≠ (v436 : Value).ownBlock ∧ some k_ ≠ (v445 : Value).ownBlock ∧ some k_ ≠ (v449 : Value).ownBlock) (.slice Ao33 t427.length co33) t427) ∧ Aside0 (Kd.R (Kd.int .u8) 5 wc w.heap.size (fun k_ => some k_ ≠ ((.slice Ao32 t424.length co32) : Value).ownBlock ∧ some k_ ≠ ((.slice Ao33 t427.length co33) : Value).ownBlock ∧ some k_ ≠ (v445 : Value).ownBlock ∧ some k_ ≠ (v449 : Value).ownBlock) v436 t435) ∧ Aside0 (Kd.R (Kd.int .u8) 5 wc w.heap.size (fun k_ => some k_ ≠ ((.slice Ao32 t424.length co32) : Value).ownBlock ∧ some k_ ≠ ((.slice Ao33 t427.length co33) : Value).ownBlock ∧ some k_ ≠ (v436 : Value).ownBlock ∧ some k_ ≠ (v449 : Value).ownBlock) v445 t444) ∧ Aside0 (Kd.R (Kd.int .u8) 5 wc w.heap.size (fun k_ => some k_ ≠ ((.slice Ao32 t424.length co32) : Value).ownBlock ∧ some k_ ≠ ((.slice Ao33 t427.length co33) : Value).ownBlock ∧ some k_ ≠ (v436 : Value).ownBlock ∧ some k_ ≠ (v445 : Value).ownBlock) v449 t448) ∧ Aside0 (wc.heap[gb420]? = some (.cells #[.int .i64 a0_0,.int .u64 a0_1,.int .i64 a0_2,.int .i64 a0_3] 26 (0,0))) ∧ Aside0 (Below w.heap.size w wc))
       case first =>
        have H := HC27.out
        clear HC27
        replace H := Option.bind_eq_some_iff.mp H
        obtain ⟨t452,A420,H⟩ := H
        replace H : ((l4_num.f t447).bind fun t453 => ((l4_num.f t451).bind fun t454 => (if (wrap64 ((wrap64 (t452 + t453)) + t454)) = 0 then (if (t435.length : Int) = (wrap64 ((ji19) + a0_3)) then (if (t444.length : Int) = (t435.length : Int) then (if (t448.length : Int) = (wrap64 (a0_3 + 1)) then (if 0 < (t448.length : Int) then (l4_ReedsolApart.j1 kj3 t424 t427 ji19 t435 t444 t448 ((rd t448 0) != 1) a0_0 a0_1 a0_2 a0_3) else (none)) else (l4_ReedsolApart.j1 kj3 t424 t427 ji19 t435 t444 t448 true a0_0 a0_1 a0_2 a0_3)) else (l4_ReedsolApart.j1 kj3 t424 t427 ji19 t435 t444 t448 true a0_0 a0_1 a0_2 a0_3)) else (l4_ReedsolApart.j1 kj3 t424 t427 ji19 t435 t444 t448 true a0_0 a0_1 a0_2 a0_3)) else (l4_ReedsolApart.j1 kj3 t424 t427 ji19 t435 t444 t448 true a0_0 a0_1 a0_2 a0_3)))) = some r := H
        have A42 := Aside0.mk A420
        clear A420
        replace H := Option.bind_eq_some_iff.mp H
        obtain ⟨t453,A430,H⟩ := H
        replace H : ((l4_num.f t451).bind fun t454 => (if (wrap64 ((wrap64 (t452 + t453)) + t454)) = 0 then (if (t435.length : Int) = (wrap64 ((ji19) + a0_3)) then (if (t444.length : Int) = (t435.length : Int) then (if (t448.length : Int) = (wrap64 (a0_3 + 1)) then (if 0 < (t448.length : Int) then (l4_ReedsolApart.j1 kj3 t424 t427 ji19 t435 t444 t448 ((rd t448 0) != 1) a0_0 a0_1 a0_2 a0_3) else (none)) else (l4_ReedsolApart.j1 kj3 t424 t427 ji19 t435 t444 t448 true a0_0 a0_1 a0_2 a0_3)) else (l4_ReedsolApart.j1 kj3 t424 t427 ji19 t435 t444 t448 true a0_0 a0_1 a0_2 a0_3)) else (l4_ReedsolApart.j1 kj3 t424 t427 ji19 t435 t444 t448 true a0_0 a0_1 a0_2 a0_3)) else (l4_ReedsolApart.j1 kj3 t424 t427 ji19 t435 t444 t448 true a0_0 a0_1 a0_2 a0_3))) = some r := H
        have A43 := Aside0.mk A430
        clear A430
        replace H := Option.bind_eq_some_iff.mp H
        obtain ⟨t454,A440,H⟩ := H
        replace H : (if (wrap64 ((wrap64 (t452 + t453)) + t454)) = 0 then (if (t435.length : Int) = (wrap64 ((ji19) + a0_3)) then (if (t444.length : Int) = (t435.length : Int) then (if (t448.length : Int) = (wrap64 (a0_3 + 1)) then (if 0 < (t448.length : Int) then (l4_ReedsolApart.j1 kj3 t424 t427 ji19 t435 t444 t448 ((rd t448 0) != 1) a0_0 a0_1 a0_2 a0_3) else (none)) else (l4_ReedsolApart.j1 kj3 t424 t427 ji19 t435 t444 t448 true a0_0 a0_1 a0_2 a0_3)) else (l4_ReedsolApart.j1 kj3 t424 t427 ji19 t435 t444 t448 true a0_0 a0_1 a0_2 a0_3)) else (l4_ReedsolApart.j1 kj3 t424 t427 ji19 t435 t444 t448 true a0_0 a0_1 a0_2 a0_3)) else (l4_ReedsolApart.j1 kj3 t424 t427 ji19 t435 t444 t448 true a0_0 a0_1 a0_2 a0_3)) = some r := H
        have A44 := Aside0.mk A440
        clear A440
        by_cases c45 : (wrap64 ((wrap64 (t452 + t453)) + t454)) = 0
        ·rw [if_pos c45] at H
         have c45b0 : ((wrap64 ((wrap64 (t452 + t453)) + t454)) == 0) = true := beq_iff_eq.mpr c45
         have c45b1 : ((wrap64 ((wrap64 (t452 + t453)) + t454)) != 0) = false := bne_eq_false_iff_eq.mpr c45
         clear c45
         (first | rw [c45b0] | (simp only [i64_w,i32_w]; rw [c45b0]) | rw [c45b1] | skip)
         by_cases c46 : (t435.length : Int) = (wrap64 ((ji19) + a0_3))
         ·rw [if_pos c46] at H
          have c46b0 : ((t435.length : Int) == (wrap64 ((ji19) + a0_3))) = true := beq_iff_eq.mpr c46
          have c46b1 : ((t435.length : Int) != (wrap64 ((ji19) + a0_3))) = false := bne_eq_false_iff_eq.mpr c46
          clear c46
          by_cases c47 : (t444.length : Int) = (t435.length : Int)
          ·rw [if_pos c47] at H
           have c47b0 : ((t444.length : Int) == (t435.length : Int)) = true := beq_iff_eq.mpr c47
           have c47b1 : ((t444.length : Int) != (t435.length : Int)) = false := bne_eq_false_iff_eq.mpr c47
           have c47b2 : (t444.length == t435.length) = true := by first | simpa using c47 | (simp at c47 ⊢; omega)
           clear c47
           by_cases c48 : (t448.length : Int) = (wrap64 (a0_3 + 1))
           ·rw [if_pos c48] at H
            have c48b0 : ((t448.length : Int) == (wrap64 (a0_3 + 1))) = true := beq_iff_eq.mpr c48
            have c48b1 : ((t448.length : Int) != (wrap64 (a0_3 + 1))) = false := bne_eq_false_iff_eq.mpr c48
            clear c48
            by_cases c49 : 0 < (t448.length : Int)
            ·rw [if_pos c49] at H
             have c49b0 : decide (0 < (t448.length : Int)) = true := decide_eq_true c49
             have c49b1 : decide (0 < t448.length) = true := decide_eq_true (by omega)
             clear c49
             have H' := Aside0.mk H
             clear H
             go_wp2_with (first | ((with_reducible refine gate_callee (f := 14) rfl ?_); refine goesL_ (some 60) rfl rfl Try.func14 (by kernel_rfl) rfl #[.int .i64 t438] rfl (by (try simp only [List.map_toArray,List.map_cons,List.map_nil]) <;> rfl) ?_; (with_reducible refine (l4_num.calls t438 t452 _ A42.out).mono ?_); rintro e w' ⟨rfl,⟨nd,rfl⟩⟩; refine ⟨_,rfl,?_⟩) | ((with_reducible refine gate_callee (f := 14) rfl ?_); refine goesL_ (some 62) rfl rfl Try.func14 (by kernel_rfl) rfl #[.int .i64 t447] rfl (by (try simp only [List.map_toArray,List.map_cons,List.map_nil]) <;> rfl) ?_; (with_reducible refine (l4_num.calls t447 t453 _ A43.out).mono ?_); rintro e w' ⟨rfl,⟨nd,rfl⟩⟩; refine ⟨_,rfl,?_⟩) | ((with_reducible refine gate_callee (f := 14) rfl ?_); refine goesL_ (some 65) rfl rfl Try.func14 (by kernel_rfl) rfl #[.int .i64 t451] rfl (by (try simp only [List.map_toArray,List.map_cons,List.map_nil]) <;> rfl) ?_; (with_reducible refine (l4_num.calls t451 t454 _ A44.out).mono ?_); rintro e w' ⟨rfl,⟨nd,rfl⟩⟩; refine ⟨_,rfl,?_⟩; obtain ⟨Ao50,co50,eo50⟩ := Kd.R_slice HO437.out; subst eo50; obtain ⟨hcz51_0,hcz51_1,hcz51_2,hcz51_3,hfz51_0,hfz51_1,hfz51_2,hfz51_3⟩ := cf4 BK420.out; obtain ⟨Ao52,co52,eo52⟩ := Kd.R_slice HO446.out; subst eo52; obtain ⟨Ao53,co53,eo53⟩ := Kd.R_slice HO450.out; subst eo53; have p455 : 0 ≤ (0 : Int) := (by omega); have q455 : 0 < (t448.length : Int) := of_decide_eq_true (by first | (with_reducible assumption) | assumption); obtain ⟨ad455,e455,hx455_0⟩ := Kd.at_int (Kd.R_reads' HO450.out).2.2 0 p455 q455; cases e455; have qi455 : (0 < t448.length) = True := eq_true (by omega); (try rw [show ((0 : Int)).toNat = 0 from rfl] at hx455_0); (try rw [Addr.add_zero'] at hx455_0); replace p455 := eq_true p455; replace q455 := eq_true q455))
             go_meet
             case rel => exact ⟨_,(((rd t448 0) != 1)),(by first | rfl | (simp; done) | (simp [*]; done) | (simp [wrap64]; done)),H',⟨by have := HJ3.out; first | omega | exact Nat.le_refl _⟩,⟨by (with_reducible repeat (first | apply Kd.R_alloc | apply Kd.R_drewN | apply Kd.R_drew)); exact Kd.R_mono HO426.out (fun _ hk => ⟨hk.1.1.1.2,⟨hk.1.1.2,⟨hk.1.2,hk.2⟩⟩⟩)⟩,⟨by (with_reducible repeat (first | apply Kd.R_alloc | apply Kd.R_drewN | apply Kd.R_drew)); exact Kd.R_mono HO429.out (fun _ hk => ⟨hk.1.1.1.2,⟨hk.1.1.2,⟨hk.1.2,hk.2⟩⟩⟩)⟩,⟨by (with_reducible repeat (first | apply Kd.R_alloc | apply Kd.R_drewN | apply Kd.R_drew)); exact Kd.R_mono HO437.out (fun _ hk => ⟨hk.1.1.1.2,⟨hk.1.1.2,⟨hk.1.2,hk.2⟩⟩⟩)⟩,⟨by (with_reducible repeat (first | apply Kd.R_alloc | apply Kd.R_drewN | apply Kd.R_drew)); exact Kd.R_mono HO446.out (fun _ hk => ⟨hk.1.1.1.2,⟨hk.1.1.2,⟨hk.1.2,hk.2⟩⟩⟩)⟩,⟨by (with_reducible repeat (first | apply Kd.R_alloc | apply Kd.R_drewN | apply Kd.R_drew)); exact Kd.R_mono HO450.out (fun _ hk => ⟨hk.1.1.1.2,⟨hk.1.1.2,⟨hk.1.2,hk.2⟩⟩⟩)⟩,⟨mvb BK420.out⟩,⟨by repeat (first | (with_reducible first | exact HB.out | apply hA | apply hN | apply hD | refine below_set ?_ GE420.out) | exact HB.out)⟩⟩
            ·rw [if_neg c49] at H
             exact absurd H (by simp)
           ·rw [if_neg c48] at H
            exact l4_ReedsolApart.no_j1 HR9_.out H
          ·rw [if_neg c47] at H
           exact l4_ReedsolApart.no_j1 HR9_.out H
         ·rw [if_neg c46] at H
          exact l4_ReedsolApart.no_j1 HR9_.out H
        ·rw [if_neg c45] at H
         exact l4_ReedsolApart.no_j1 HR9_.out H
       case rest =>
        clear HC27
        (try clear c1); (try clear c2); (try clear p2); (try clear q3); (try clear c4); (try clear p4); (try clear q4); (try clear hx4); (try clear qi4); (try clear c6); (try clear p6); (try clear c7); (try clear c7b0); (try clear c7b1); (try clear c14); (try clear c16); (try clear c17); (try clear c18)
        (try clear c20); (try clear c20b0); (try clear c20b1); (try clear c21); (try clear c21b0); (try clear c21b1); (try clear c22); (try clear c23); (try clear c23b0); (try clear c24); (try clear c24b0); (try clear c24b1); (try clear q35); (try clear q38); (try clear c45); (try clear c45b0); (try clear c45b1)
        (try clear p45); (try clear q45); (try clear hx45); (try clear qi45); (try clear c46); (try clear c46b0); (try clear c46b1); (try clear c47); (try clear c47b0); (try clear c47b1); (try clear c47b2); (try clear c48); (try clear c48b0); (try clear c48b1); (try clear c49); (try clear c49b0); (try clear c49b1)
        (try clear hcz12_0); (try clear hcz12_1); (try clear hcz12_2); (try clear hcz12_3); (try clear hcz28_0); (try clear hcz28_1); (try clear hcz28_2); (try clear hcz28_3); (try clear hcz30_0); (try clear hcz30_1); (try clear hcz30_2); (try clear hcz30_3); (try clear hcz40_0); (try clear hcz40_1)
        (try clear hcz40_2); (try clear hcz40_3); (try clear hcz51_0); (try clear hcz51_1); (try clear hcz51_2); (try clear hcz51_3); (try clear hcz55_0); (try clear hcz55_1); (try clear hcz55_2); (try clear hcz55_3); (try clear hcz59_0); (try clear hcz59_1); (try clear hcz59_2); (try clear hcz59_3)
        (try clear hcz62_0); (try clear hcz62_1); (try clear hcz62_2); (try clear hcz62_3); (try clear hcz9_0); (try clear hcz9_1); (try clear hcz9_2); (try clear hcz9_3); (try clear hfz12_0); (try clear hfz12_1); (try clear hfz12_2); (try clear hfz12_3); (try clear hfz28_0); (try clear hfz28_1); (try clear hfz28_2)
        (try clear hfz28_3); (try clear hfz30_0); (try clear hfz30_1); (try clear hfz30_2); (try clear hfz30_3); (try clear hfz40_0); (try clear hfz40_1); (try clear hfz40_2); (try clear hfz40_3); (try clear hfz51_0); (try clear hfz51_1); (try clear hfz51_2); (try clear hfz51_3); (try clear hfz55_0)
        (try clear hfz55_1); (try clear hfz55_2); (try clear hfz55_3); (try clear hfz59_0); (try clear hfz59_1); (try clear hfz59_2); (try clear hfz59_3); (try clear hfz62_0); (try clear hfz62_1); (try clear hfz62_2); (try clear hfz62_3); (try clear hfz9_0); (try clear hfz9_1); (try clear hfz9_2); (try clear hfz9_3)
        (try clear hx455_0); (try clear p2); (try clear p455); (try clear p6); (try clear q35); (try clear q38); (try clear q455)
        obtain ⟨kq,x97_26,rfl,HA,HJ26,HO_7,HO_8,HO_10,HO_12,HO_14,BK420,HB⟩ := hcut
        cases kq with
        | zero => exact absurd HA.out (by simp [l4_ReedsolApart.j1])
        | succ kj26 =>
         have H := HA.out
         clear HA
         simp only [l4_ReedsolApart.j1] at H
         by_cases c63 : x97_26 = true
         ·subst c63
          exact l4_ReedsolApart.no_false HR9_.out H
         ·replace c63 := Bool.eq_false_iff.mpr c63
          subst c63
          have H1 : (l4_ReedsolApart.l0 kj26 t424 t427 ji19 t435 t444 t448 0 0 a0_0 a0_1 a0_2 a0_3) = some r := by rw [if_neg (show ¬ (false = true) by decide)] at H; exact H
          clear H
          have H := H1
          clear H1
          have H' := Aside0.mk H
          clear H
          go_wp2
          go_loopg [16,17] kj26 (fun kq v16 v17 w' => ∃ (x16_3 : Int) (x17_3 : Int),v16 = .int .i64 x16_3 ∧ v17 = .int .i64 x17_3 ∧ Aside0 (l4_ReedsolApart.l0 kq t424 t427 ji19 t435 t444 t448 x16_3 x17_3 a0_0 a0_1 a0_2 a0_3 = some r) ∧ Aside0 (kq ≤ kj26) ∧ Aside0 (Kd.R (Kd.int .u8) 5 w' w.heap.size (fun k_ => some k_ ≠ ((.slice Ao33 t427.length co33) : Value).ownBlock ∧ some k_ ≠ (v436 : Value).ownBlock ∧ some k_ ≠ (v445 : Value).ownBlock ∧ some k_ ≠ (v449 : Value).ownBlock) (.slice Ao32 t424.length co32) t424) ∧ Aside0 (Kd.R (Kd.int .u8) 5 w' w.heap.size (fun k_ => some k_ ≠ ((.slice Ao32 t424.length co32) : Value).ownBlock ∧ some k_ ≠ (v436 : Value).ownBlock ∧ some k_ ≠ (v445 : Value).ownBlock ∧ some k_ ≠ (v449 : Value).ownBlock) (.slice Ao33 t427.length co33) t427) ∧ Aside0 (Kd.R (Kd.int .u8) 5 w' w.heap.size (fun k_ => some k_ ≠ ((.slice Ao32 t424.length co32) : Value).ownBlock ∧ some k_ ≠ ((.slice Ao33 t427.length co33) : Value).ownBlock ∧ some k_ ≠ (v445 : Value).ownBlock ∧ some k_ ≠ (v449 : Value).ownBlock) v436 t435) ∧ Aside0 (Kd.R (Kd.int .u8) 5 w' w.heap.size (fun k_ => some k_ ≠ ((.slice Ao32 t424.length co32) : Value).ownBlock ∧ some k_ ≠ ((.slice Ao33 t427.length co33) : Value).ownBlock ∧ some k_ ≠ (v436 : Value).ownBlock ∧ some k_ ≠ (v449 : Value).ownBlock) v445 t444) ∧ Aside0 (Kd.R (Kd.int .u8) 5 w' w.heap.size (fun k_ => some k_ ≠ ((.slice Ao32 t424.length co32) : Value).ownBlock ∧ some k_ ≠ ((.slice Ao33 t427.length co33) : Value).ownBlock ∧ some k_ ≠ (v436 : Value).ownBlock ∧ some k_ ≠ (v445 : Value).ownBlock) v449 t448) ∧ Aside0 (w'.heap[gb420]? = some (.cells #[.int .i64 a0_0,.int .u64 a0_1,.int .i64 a0_2,.int .i64 a0_3] 26 (0,0))) ∧ Aside0 (Below w.heap.size w w'))
          case atStart => exact ⟨(0),(0),(by first | rfl | (simp; done) | (simp [*]; done) | (simp [wrap64]; done)),(by first | rfl | (simp; done) | (simp [*]; done) | (simp [wrap64]; done)),H',⟨Nat.le_refl _⟩,⟨mvR HO_7.out⟩,⟨mvR HO_8.out⟩,⟨mvR HO_10.out⟩,⟨mvR HO_12.out⟩,⟨mvR HO_14.out⟩,⟨mvb BK420.out⟩,⟨by repeat (first | (with_reducible first | exact HB.out | apply hA | apply hN | apply hD | refine below_set ?_ GE420.out) | exact HB.out)⟩⟩
          case round =>
           (try clear hHeld)
           clear H'
           (try clear c1); (try clear c2); (try clear p2); (try clear q3); (try clear c4); (try clear p4); (try clear q4); (try clear hx4); (try clear qi4); (try clear c6); (try clear p6); (try clear c7); (try clear c7b0); (try clear c7b1); (try clear c14); (try clear c16); (try clear c17); (try clear c18)
           (try clear c20); (try clear c20b0); (try clear c20b1); (try clear c21); (try clear c21b0); (try clear c21b1); (try clear c22); (try clear c23); (try clear c23b0); (try clear c24); (try clear c24b0); (try clear c24b1); (try clear q35); (try clear q38); (try clear c45); (try clear c45b0); (try clear c45b1)
           (try clear p45); (try clear q45); (try clear hx45); (try clear qi45); (try clear c46); (try clear c46b0); (try clear c46b1); (try clear c47); (try clear c47b0); (try clear c47b1); (try clear c47b2); (try clear c48); (try clear c48b0); (try clear c48b1); (try clear c49); (try clear c49b0); (try clear c49b1)
           (try clear c63); (try clear hcz12_0); (try clear hcz12_1); (try clear hcz12_2); (try clear hcz12_3); (try clear hcz28_0); (try clear hcz28_1); (try clear hcz28_2); (try clear hcz28_3); (try clear hcz30_0); (try clear hcz30_1); (try clear hcz30_2); (try clear hcz30_3); (try clear hcz40_0); (try clear hcz40_1)
           (try clear hcz40_2); (try clear hcz40_3); (try clear hcz51_0); (try clear hcz51_1); (try clear hcz51_2); (try clear hcz51_3); (try clear hcz55_0); (try clear hcz55_1); (try clear hcz55_2); (try clear hcz55_3); (try clear hcz59_0); (try clear hcz59_1); (try clear hcz59_2); (try clear hcz59_3)
           (try clear hcz62_0); (try clear hcz62_1); (try clear hcz62_2); (try clear hcz62_3); (try clear hcz9_0); (try clear hcz9_1); (try clear hcz9_2); (try clear hcz9_3); (try clear hfz12_0); (try clear hfz12_1); (try clear hfz12_2); (try clear hfz12_3); (try clear hfz28_0); (try clear hfz28_1); (try clear hfz28_2)
           (try clear hfz28_3); (try clear hfz30_0); (try clear hfz30_1); (try clear hfz30_2); (try clear hfz30_3); (try clear hfz40_0); (try clear hfz40_1); (try clear hfz40_2); (try clear hfz40_3); (try clear hfz51_0); (try clear hfz51_1); (try clear hfz51_2); (try clear hfz51_3); (try clear hfz55_0)
           (try clear hfz55_1); (try clear hfz55_2); (try clear hfz55_3); (try clear hfz59_0); (try clear hfz59_1); (try clear hfz59_2); (try clear hfz59_3); (try clear hfz62_0); (try clear hfz62_1); (try clear hfz62_2); (try clear hfz62_3); (try clear hfz9_0); (try clear hfz9_1); (try clear hfz9_2)
           (try clear hfz9_3); (try clear hx455_0); (try clear p2); (try clear p4); (try clear p45); (try clear p455); (try clear p6); (try clear q3); (try clear q35); (try clear q38); (try clear q4); (try clear q45); (try clear q455)
           obtain ⟨x16_3,x17_3,rfl,rfl,HA,HK3,HO_7,HO_8,HO_10,HO_12,HO_14,BK420,HB⟩ := hrel
           cases gk with
           | zero => exact absurd HA.out (by simp [l4_ReedsolApart.l0])
           | succ k3 =>
            have H := HA.out
            clear HA
            simp only [l4_ReedsolApart.l0] at H
            by_cases c64 : x17_3 < (t435.length : Int)
            ·rw [if_pos c64] at H
             have c64b0 : decide (x17_3 < (t435.length : Int)) = true := decide_eq_true c64
             clear c64
             by_cases c65 : 0 ≤ x17_3
             ·rw [if_pos c65] at H
              have c65b0 : decide (0 ≤ x17_3) = true := decide_eq_true c65
              clear c65
              by_cases c66 : x17_3 < (t444.length : Int)
              ·rw [if_pos c66] at H
               have c66b0 : decide (x17_3 < (t444.length : Int)) = true := decide_eq_true c66
               clear c66
               by_cases c67 : (rd t435 x17_3) = (rd t444 x17_3)
               ·rw [if_pos c67] at H
                have c67b0 : ((rd t435 x17_3) == (rd t444 x17_3)) = true := beq_iff_eq.mpr c67
                have c67b1 : ((rd t435 x17_3) != (rd t444 x17_3)) = false := bne_eq_false_iff_eq.mpr c67
                clear c67
                have H' := Aside0.mk H
                clear H
                obtain ⟨Ao68,co68,eo68⟩ := Kd.R_slice HO_10.out
                subst eo68
                try go_wp2
                have n0_ := aK (Kd.R_drew HO_7.out)
                have n1_ := aK (Kd.R_drew HO_8.out)
                have n2_ := aK (Kd.R_drew HO_10.out)
                have n3_ := aK (Kd.R_drew HO_12.out)
                have n4_ := aK (Kd.R_drew HO_14.out)
                have n5_ := aK (blk_drew BK420.out)
                have n6_ := aK (below_drew1 HB.out)
                clear HO_7 HO_8 HO_10 HO_12 HO_14 BK420 HB
                have HO_7 := n0_
                have HO_8 := n1_
                have HO_10 := n2_
                have HO_12 := n3_
                have HO_14 := n4_
                have BK420 := n5_
                have HB := n6_
                clear n0_ n1_ n2_ n3_ n4_ n5_ n6_
                have p456 : 0 ≤ (x17_3 : Int) := of_decide_eq_true (by first | (with_reducible assumption) | assumption)
                have q456 : x17_3 < (t435.length : Int) := of_decide_eq_true (by first | (with_reducible assumption) | assumption)
                obtain ⟨ad456,e456,hx456_0⟩ := Kd.at_int (Kd.R_reads' HO_10.out).2.2 x17_3 p456 q456
                cases e456
                replace p456 := eq_true p456
                replace q456 := eq_true q456
                obtain ⟨Ao70,co70,eo70⟩ := Kd.R_slice HO_12.out
                (first | subst eo70 | (injection eo70 with f1_ f2_ f3_; have f4_ := f1_.symm; have f5_ := f3_.symm; clear f1_ f2_ f3_; subst f4_; subst f5_))
                have p457 : 0 ≤ (x17_3 : Int) := of_decide_eq_true (by first | (with_reducible assumption) | assumption)
                have q457 : x17_3 < (t444.length : Int) := of_decide_eq_true (by first | (with_reducible assumption) | assumption)
                obtain ⟨ad457,e457,hx457_0⟩ := Kd.at_int (Kd.R_reads' HO_12.out).2.2 x17_3 p457 q457
                cases e457
                replace p457 := eq_true p457
                replace q457 := eq_true q457
                refine start_ (n := 9) (S := fun w' => w'.cell? (ad456.add (x17_3).toNat) = some (.int .u8 (rd t435 x17_3)) ∧ w'.cell? (ad457.add (x17_3).toNat) = some (.int .u8 (rd t444 x17_3))) (ds := []) #[false,false,false,false,false,false,false,false,false] (by kernel_rfl) rfl rfl ⟨hx456_0,hx457_0⟩ (fun hHeld => ?_); refine with_tabW l4_ReedsolApart.tab15 l4_ReedsolApart.bits15 (fun HT_ HW_ => ?_)
                generalize wr.drew = w69 at HO_7 HO_8 HO_10 HO_12 HO_14 BK420 HB hx456_0 hx457_0 hHeld ⊢
                refine pure_ (i := 0) (N := some 104) (v := ?_) (a' := ?_) #[true,false,false,false,false,false,false,false,false] rfl rfl (any_of HT_.out (by kernel_rfl)) (fun _ _ _ h => h) (Or.inl ⟨by rfl,?_⟩) ?_ ?_
                rotate_left
                ·intro w'
                 go_simp
                 with_reducible rfl
                rotate_left
                ·simp only [Act.put,List.setIfInBounds_toArray,List.set_cons_zero,List.set_cons_succ,i64_w,i32_w]
                 rfl
                refine pure_ (i := 1) (N := some 105) (v := ?_) (a' := ?_) #[true,true,false,false,false,false,false,false,false] rfl rfl (any_of HT_.out (by kernel_rfl)) (fun _ _ _ h => h) (Or.inl ⟨by rfl,?_⟩) ?_ ?_
                rotate_left
                ·intro w'
                 go_simp
                 with_reducible rfl
                rotate_left
                ·simp only [Act.put,List.setIfInBounds_toArray,List.set_cons_zero,List.set_cons_succ,i64_w,i32_w]
                 rfl
                refine pure_ (i := 2) (N := some 106) (v := ?_) (a' := ?_) #[true,true,true,false,false,false,false,false,false] rfl rfl (any_of HT_.out (by kernel_rfl)) (fun _ _ _ h => h) (Or.inl ⟨by rfl,?_⟩) ?_ ?_
                rotate_left
                ·intro w'
                 go_simp
                 with_reducible rfl
                rotate_left
                ·simp only [Act.put,List.setIfInBounds_toArray,List.set_cons_zero,List.set_cons_succ,i64_w,i32_w]
                 rfl
                refine pure_ (i := 4) (N := some 108) (v := ?_) (a' := ?_) #[true,true,true,false,true,false,false,false,false] rfl rfl (any_of HT_.out (by kernel_rfl)) (fun _ _ _ h => h) (Or.inl ⟨by rfl,?_⟩) ?_ ?_
                rotate_left
                ·intro w'
                 go_simp
                 with_reducible rfl
                rotate_left
                ·simp only [Act.put,List.setIfInBounds_toArray,List.set_cons_zero,List.set_cons_succ,i64_w,i32_w]
                 rfl
                refine pure_ (i := 5) (N := some 109) (v := ?_) (a' := ?_) #[true,true,true,false,true,true,false,false,false] rfl rfl (any_of HT_.out (by kernel_rfl)) (fun _ _ _ h => h) (Or.inl ⟨by rfl,?_⟩) ?_ ?_
                rotate_left
                ·intro w'
                 go_simp
                 with_reducible rfl
                rotate_left
                ·simp only [Act.put,List.setIfInBounds_toArray,List.set_cons_zero,List.set_cons_succ,i64_w,i32_w]
                 rfl
                refine pure_ (i := 6) (N := some 110) (v := ?_) (a' := ?_) #[true,true,true,false,true,true,true,false,false] rfl rfl (any_of HT_.out (by kernel_rfl)) (fun _ _ _ h => h) (Or.inl ⟨by rfl,?_⟩) ?_ ?_
                rotate_left
                ·intro w'
                 go_simp
                 with_reducible rfl
                rotate_left
                ·simp only [Act.put,List.setIfInBounds_toArray,List.set_cons_zero,List.set_cons_succ,i64_w,i32_w]
                 rfl
                refine take_ (i := 3) (N := some 107) (v := ?_) (a' := ?_) #[true,true,true,true,true,true,true,false,false] rfl rfl (take_ofW HT_.out HW_.out (by kernel_rfl)) (fun _ _ _ h => h) (Or.inl ⟨by rfl,?_⟩) hHeld ?_ ?_
                rotate_left
                ·rintro w' ⟨s0,s1⟩
                 go_simp
                 with_reducible rfl
                rotate_left
                ·simp only [Act.put,List.setIfInBounds_toArray,List.set_cons_zero,List.set_cons_succ,i64_w,i32_w]
                 rfl
                refine take_ (i := 7) (N := some 111) (v := ?_) (a' := ?_) #[true,true,true,true,true,true,true,true,false] rfl rfl (take_ofW HT_.out HW_.out (by kernel_rfl)) (fun _ _ _ h => h) (Or.inl ⟨by rfl,?_⟩) hHeld ?_ ?_
                rotate_left
                ·rintro w' ⟨s0,s1⟩
                 go_simp
                 with_reducible rfl
                rotate_left
                ·simp only [Act.put,List.setIfInBounds_toArray,List.set_cons_zero,List.set_cons_succ,i64_w,i32_w]
                 rfl
                refine pure_ (i := 8) (N := some 112) (v := ?_) (a' := ?_) #[true,true,true,true,true,true,true,true,true] rfl rfl (any_of HT_.out (by kernel_rfl)) (fun _ _ _ h => h) (Or.inl ⟨by rfl,?_⟩) ?_ ?_
                rotate_left
                ·intro w'
                 go_simp
                 with_reducible rfl
                rotate_left
                ·simp only [Act.put,List.setIfInBounds_toArray,List.set_cons_zero,List.set_cons_succ,i64_w,i32_w]
                 rfl
                refine done_ (done_of HT_.out (by kernel_rfl)) ?_
                try go_wp2
                go_roundg k3
                case measure => have := HJ3.out; have := HJ26.out; have := HK3.out; omega
                case rel => exact ⟨(x16_3),(wrap64 (x17_3 + 1)),(by first | rfl | (simp; done) | (simp [*]; done) | (simp [wrap64]; done)),(by first | rfl | (simp; done) | (simp [*]; done) | (simp [wrap64]; done)),H',⟨by have := HJ3.out; have := HJ26.out; have := HK3.out; omega⟩,⟨mvR HO_7.out⟩,⟨mvR HO_8.out⟩,⟨mvR HO_10.out⟩,⟨mvR HO_12.out⟩,⟨mvR HO_14.out⟩,⟨mvb BK420.out⟩,⟨by repeat (first | (with_reducible first | exact HB.out | apply hA | apply hN | apply hD | refine below_set ?_ GE420.out) | exact HB.out)⟩⟩
               ·rw [if_neg c67] at H
                have c67b0 : ((rd t435 x17_3) == (rd t444 x17_3)) = false := beq_eq_false_iff_ne.mpr c67
                have c67b1 : ((rd t435 x17_3) != (rd t444 x17_3)) = true := bne_iff_ne.mpr c67
                have H' := Aside0.mk H
                clear H
                obtain ⟨Ao71,co71,eo71⟩ := Kd.R_slice HO_10.out
                subst eo71
                try go_wp2
                have n0_ := aK (Kd.R_drew HO_7.out)
                have n1_ := aK (Kd.R_drew HO_8.out)
                have n2_ := aK (Kd.R_drew HO_10.out)
                have n3_ := aK (Kd.R_drew HO_12.out)
                have n4_ := aK (Kd.R_drew HO_14.out)
                have n5_ := aK (blk_drew BK420.out)
                have n6_ := aK (below_drew1 HB.out)
                clear HO_7 HO_8 HO_10 HO_12 HO_14 BK420 HB
                have HO_7 := n0_
                have HO_8 := n1_
                have HO_10 := n2_
                have HO_12 := n3_
                have HO_14 := n4_
                have BK420 := n5_
                have HB := n6_
                clear n0_ n1_ n2_ n3_ n4_ n5_ n6_
                have p456 : 0 ≤ (x17_3 : Int) := of_decide_eq_true (by first | (with_reducible assumption) | assumption)
                have q456 : x17_3 < (t435.length : Int) := of_decide_eq_true (by first | (with_reducible assumption) | assumption)
                obtain ⟨ad456,e456,hx456_0⟩ := Kd.at_int (Kd.R_reads' HO_10.out).2.2 x17_3 p456 q456
                cases e456
                replace p456 := eq_true p456
                replace q456 := eq_true q456
                obtain ⟨Ao73,co73,eo73⟩ := Kd.R_slice HO_12.out
                (first | subst eo73 | (injection eo73 with f1_ f2_ f3_; have f4_ := f1_.symm; have f5_ := f3_.symm; clear f1_ f2_ f3_; subst f4_; subst f5_))
                have p457 : 0 ≤ (x17_3 : Int) := of_decide_eq_true (by first | (with_reducible assumption) | assumption)
                have q457 : x17_3 < (t444.length : Int) := of_decide_eq_true (by first | (with_reducible assumption) | assumption)
                obtain ⟨ad457,e457,hx457_0⟩ := Kd.at_int (Kd.R_reads' HO_12.out).2.2 x17_3 p457 q457
                cases e457
                replace p457 := eq_true p457
                replace q457 := eq_true q457
                refine start_ (n := 9) (S := fun w' => w'.cell? (ad456.add (x17_3).toNat) = some (.int .u8 (rd t435 x17_3)) ∧ w'.cell? (ad457.add (x17_3).toNat) = some (.int .u8 (rd t444 x17_3))) (ds := []) #[false,false,false,false,false,false,false,false,false] (by kernel_rfl) rfl rfl ⟨hx456_0,hx457_0⟩ (fun hHeld => ?_); refine with_tabW l4_ReedsolApart.tab15 l4_ReedsolApart.bits15 (fun HT_ HW_ => ?_)
                generalize wr.drew = w72 at HO_7 HO_8 HO_10 HO_12 HO_14 BK420 HB hx456_0 hx457_0 hHeld ⊢
                refine pure_ (i := 0) (N := some 104) (v := ?_) (a' := ?_) #[true,false,false,false,false,false,false,false,false] rfl rfl (any_of HT_.out (by kernel_rfl)) (fun _ _ _ h => h) (Or.inl ⟨by rfl,?_⟩) ?_ ?_
                rotate_left
                ·intro w'
                 go_simp
                 with_reducible rfl
                rotate_left
                ·simp only [Act.put,List.setIfInBounds_toArray,List.set_cons_zero,List.set_cons_succ,i64_w,i32_w]
                 rfl
                refine pure_ (i := 1) (N := some 105) (v := ?_) (a' := ?_) #[true,true,false,false,false,false,false,false,false] rfl rfl (any_of HT_.out (by kernel_rfl)) (fun _ _ _ h => h) (Or.inl ⟨by rfl,?_⟩) ?_ ?_
                rotate_left
                ·intro w'
                 go_simp
                 with_reducible rfl
                rotate_left
                ·simp only [Act.put,List.setIfInBounds_toArray,List.set_cons_zero,List.set_cons_succ,i64_w,i32_w]
                 rfl
                refine pure_ (i := 2) (N := some 106) (v := ?_) (a' := ?_) #[true,true,true,false,false,false,false,false,false] rfl rfl (any_of HT_.out (by kernel_rfl)) (fun _ _ _ h => h) (Or.inl ⟨by rfl,?_⟩) ?_ ?_
                rotate_left
                ·intro w'
                 go_simp
                 with_reducible rfl
                rotate_left
                ·simp only [Act.put,List.setIfInBounds_toArray,List.set_cons_zero,List.set_cons_succ,i64_w,i32_w]
                 rfl
                refine pure_ (i := 4) (N := some 108) (v := ?_) (a' := ?_) #[true,true,true,false,true,false,false,false,false] rfl rfl (any_of HT_.out (by kernel_rfl)) (fun _ _ _ h => h) (Or.inl ⟨by rfl,?_⟩) ?_ ?_
                rotate_left
                ·intro w'
                 go_simp
                 with_reducible rfl
                rotate_left
                ·simp only [Act.put,List.setIfInBounds_toArray,List.set_cons_zero,List.set_cons_succ,i64_w,i32_w]
                 rfl
                refine pure_ (i := 5) (N := some 109) (v := ?_) (a' := ?_) #[true,true,true,false,true,true,false,false,false] rfl rfl (any_of HT_.out (by kernel_rfl)) (fun _ _ _ h => h) (Or.inl ⟨by rfl,?_⟩) ?_ ?_
                rotate_left
                ·intro w'
                 go_simp
                 with_reducible rfl
                rotate_left
                ·simp only [Act.put,List.setIfInBounds_toArray,List.set_cons_zero,List.set_cons_succ,i64_w,i32_w]
                 rfl
                refine pure_ (i := 6) (N := some 110) (v := ?_) (a' := ?_) #[true,true,true,false,true,true,true,false,false] rfl rfl (any_of HT_.out (by kernel_rfl)) (fun _ _ _ h => h) (Or.inl ⟨by rfl,?_⟩) ?_ ?_
                rotate_left
                ·intro w'
                 go_simp
                 with_reducible rfl
                rotate_left
                ·simp only [Act.put,List.setIfInBounds_toArray,List.set_cons_zero,List.set_cons_succ,i64_w,i32_w]
                 rfl
                refine take_ (i := 3) (N := some 107) (v := ?_) (a' := ?_) #[true,true,true,true,true,true,true,false,false] rfl rfl (take_ofW HT_.out HW_.out (by kernel_rfl)) (fun _ _ _ h => h) (Or.inl ⟨by rfl,?_⟩) hHeld ?_ ?_
                rotate_left
                ·rintro w' ⟨s0,s1⟩
                 go_simp
                 with_reducible rfl
                rotate_left
                ·simp only [Act.put,List.setIfInBounds_toArray,List.set_cons_zero,List.set_cons_succ,i64_w,i32_w]
                 rfl
                refine take_ (i := 7) (N := some 111) (v := ?_) (a' := ?_) #[true,true,true,true,true,true,true,true,false] rfl rfl (take_ofW HT_.out HW_.out (by kernel_rfl)) (fun _ _ _ h => h) (Or.inl ⟨by rfl,?_⟩) hHeld ?_ ?_
                rotate_left
                ·rintro w' ⟨s0,s1⟩
                 go_simp
                 with_reducible rfl
                rotate_left
                ·simp only [Act.put,List.setIfInBounds_toArray,List.set_cons_zero,List.set_cons_succ,i64_w,i32_w]
                 rfl
                refine pure_ (i := 8) (N := some 112) (v := ?_) (a' := ?_) #[true,true,true,true,true,true,true,true,true] rfl rfl (any_of HT_.out (by kernel_rfl)) (fun _ _ _ h => h) (Or.inl ⟨by rfl,?_⟩) ?_ ?_
                rotate_left
                ·intro w'
                 go_simp
                 with_reducible rfl
                rotate_left
                ·simp only [Act.put,List.setIfInBounds_toArray,List.set_cons_zero,List.set_cons_succ,i64_w,i32_w]
                 rfl
                refine done_ (done_of HT_.out (by kernel_rfl)) ?_
                try go_wp2
                go_roundg k3
                case measure => have := HJ3.out; have := HJ26.out; have := HK3.out; omega
                case rel => exact ⟨(wrap64 (x16_3 + 1)),(wrap64 (x17_3 + 1)),(by first | rfl | (simp; done) | (simp [*]; done) | (simp [wrap64]; done)),(by first | rfl | (simp; done) | (simp [*]; done) | (simp [wrap64]; done)),H',⟨by have := HJ3.out; have := HJ26.out; have := HK3.out; omega⟩,⟨mvR HO_7.out⟩,⟨mvR HO_8.out⟩,⟨mvR HO_10.out⟩,⟨mvR HO_12.out⟩,⟨mvR HO_14.out⟩,⟨mvb BK420.out⟩,⟨by repeat (first | (with_reducible first | exact HB.out | apply hA | apply hN | apply hD | refine below_set ?_ GE420.out) | exact HB.out)⟩⟩
              ·rw [if_neg c66] at H
               exact absurd H (by simp)
             ·rw [if_neg c65] at H
              exact absurd H (by simp)
            ·rw [if_neg c64] at H
             have c64b0 : decide (x17_3 < (t435.length : Int)) = false := decide_eq_false c64
             clear c64
             have H' := Aside0.mk H
             clear H
             obtain ⟨Ao74,co74,eo74⟩ := Kd.R_slice HO_10.out
             subst eo74
             go_wp2
             go_loopg [18] k3 (fun kq v18 w' => ∃ (x18_4 : Int),v18 = .int .i64 x18_4 ∧ Aside0 (l4_ReedsolApart.l1 kq t424 t427 ji19 t448 x16_3 x18_4 a0_0 a0_1 a0_2 a0_3 = some r) ∧ Aside0 (kq ≤ k3) ∧ Aside0 (Kd.R (Kd.int .u8) 5 w' w.heap.size (fun k_ => some k_ ≠ ((.slice Ao33 t427.length co33) : Value).ownBlock ∧ some k_ ≠ (v449 : Value).ownBlock) (.slice Ao32 t424.length co32) t424) ∧ Aside0 (Kd.R (Kd.int .u8) 5 w' w.heap.size (fun k_ => some k_ ≠ ((.slice Ao32 t424.length co32) : Value).ownBlock ∧ some k_ ≠ (v449 : Value).ownBlock) (.slice Ao33 t427.length co33) t427) ∧ Aside0 (Kd.R (Kd.int .u8) 5 w' w.heap.size (fun k_ => some k_ ≠ ((.slice Ao32 t424.length co32) : Value).ownBlock ∧ some k_ ≠ ((.slice Ao33 t427.length co33) : Value).ownBlock) v449 t448) ∧ Aside0 (w'.heap[gb420]? = some (.cells #[.int .i64 a0_0,.int .u64 a0_1,.int .i64 a0_2,.int .i64 a0_3] 26 (0,0))) ∧ Aside0 (Below w.heap.size w w'))
             case atStart => exact ⟨(0),(by first | rfl | (simp; done) | (simp [*]; done) | (simp [wrap64]; done)),H',⟨Nat.le_refl _⟩,⟨by (with_reducible repeat (first | apply Kd.R_alloc | apply Kd.R_drewN | apply Kd.R_drew)); exact Kd.R_mono HO_7.out (fun _ hk => ⟨hk.1,hk.2.2.2⟩)⟩,⟨by (with_reducible repeat (first | apply Kd.R_alloc | apply Kd.R_drewN | apply Kd.R_drew)); exact Kd.R_mono HO_8.out (fun _ hk => ⟨hk.1,hk.2.2.2⟩)⟩,⟨by (with_reducible repeat (first | apply Kd.R_alloc | apply Kd.R_drewN | apply Kd.R_drew)); exact Kd.R_mono HO_14.out (fun _ hk => ⟨hk.1,hk.2.1⟩)⟩,⟨mvb BK420.out⟩,⟨by repeat (first | (with_reducible first | exact HB.out | apply hA | apply hN | apply hD | refine below_set ?_ GE420.out) | exact HB.out)⟩⟩
             case round =>
              (try clear hHeld)
              clear H'
              (try clear c1); (try clear c2); (try clear p2); (try clear q3); (try clear c4); (try clear p4); (try clear q4); (try clear hx4); (try clear qi4); (try clear c6); (try clear p6); (try clear c7); (try clear c7b0); (try clear c7b1); (try clear c14); (try clear c16); (try clear c17); (try clear c18)
              (try clear c20); (try clear c20b0); (try clear c20b1); (try clear c21); (try clear c21b0); (try clear c21b1); (try clear c22); (try clear c23); (try clear c23b0); (try clear c24); (try clear c24b0); (try clear c24b1); (try clear q35); (try clear q38); (try clear c45); (try clear c45b0)
              (try clear c45b1); (try clear p45); (try clear q45); (try clear hx45); (try clear qi45); (try clear c46); (try clear c46b0); (try clear c46b1); (try clear c47); (try clear c47b0); (try clear c47b1); (try clear c47b2); (try clear c48); (try clear c48b0); (try clear c48b1); (try clear c49)
              (try clear c49b0); (try clear c49b1); (try clear c63); (try clear c64); (try clear c64b0); (try clear p64); (try clear c65); (try clear c65b0); (try clear c66); (try clear c66b0); (try clear c67); (try clear c67b0); (try clear c67b1); (try clear hcz12_0); (try clear hcz12_1); (try clear hcz12_2)
              (try clear hcz12_3); (try clear hcz28_0); (try clear hcz28_1); (try clear hcz28_2); (try clear hcz28_3); (try clear hcz30_0); (try clear hcz30_1); (try clear hcz30_2); (try clear hcz30_3); (try clear hcz40_0); (try clear hcz40_1); (try clear hcz40_2); (try clear hcz40_3); (try clear hcz51_0)
              (try clear hcz51_1); (try clear hcz51_2); (try clear hcz51_3); (try clear hcz55_0); (try clear hcz55_1); (try clear hcz55_2); (try clear hcz55_3); (try clear hcz59_0); (try clear hcz59_1); (try clear hcz59_2); (try clear hcz59_3); (try clear hcz62_0); (try clear hcz62_1); (try clear hcz62_2)
              (try clear hcz62_3); (try clear hcz9_0); (try clear hcz9_1); (try clear hcz9_2); (try clear hcz9_3); (try clear hfz12_0); (try clear hfz12_1); (try clear hfz12_2); (try clear hfz12_3); (try clear hfz28_0); (try clear hfz28_1); (try clear hfz28_2); (try clear hfz28_3); (try clear hfz30_0)
              (try clear hfz30_1); (try clear hfz30_2); (try clear hfz30_3); (try clear hfz40_0); (try clear hfz40_1); (try clear hfz40_2); (try clear hfz40_3); (try clear hfz51_0); (try clear hfz51_1); (try clear hfz51_2); (try clear hfz51_3); (try clear hfz55_0); (try clear hfz55_1); (try clear hfz55_2)
              (try clear hfz55_3); (try clear hfz59_0); (try clear hfz59_1); (try clear hfz59_2); (try clear hfz59_3); (try clear hfz62_0); (try clear hfz62_1); (try clear hfz62_2); (try clear hfz62_3); (try clear hfz9_0); (try clear hfz9_1); (try clear hfz9_2); (try clear hfz9_3); (try clear hx455_0)
              (try clear hx456_0); (try clear hx457_0); (try clear p2); (try clear p4); (try clear p45); (try clear p455); (try clear p456); (try clear p457); (try clear p6); (try clear q3); (try clear q35); (try clear q38); (try clear q4); (try clear q45); (try clear q455); (try clear q456); (try clear q457)
              obtain ⟨x18_4,rfl,HA,HK4,HO_7,HO_8,HO_14,BK420,HB⟩ := hrel
              cases gk with
              | zero => exact absurd HA.out (by simp [l4_ReedsolApart.l1])
              | succ k4 =>
               have H := HA.out
               clear HA
               simp only [l4_ReedsolApart.l1] at H
               by_cases c75 : x18_4 < (t448.length : Int)
               ·rw [if_pos c75] at H
                have c75b0 : decide (x18_4 < (t448.length : Int)) = true := decide_eq_true c75
                clear c75
                by_cases c76 : 0 ≤ x18_4
                ·rw [if_pos c76] at H
                 have c76b0 : decide (0 ≤ x18_4) = true := decide_eq_true c76
                 clear c76
                 by_cases c77 : (rd t448 x18_4) = 0
                 ·rw [if_pos c77] at H
                  exact l4_ReedsolApart.no_false HR9_.out H
                 ·rw [if_neg c77] at H
                  have c77b0 : ((rd t448 x18_4) == 0) = false := beq_eq_false_iff_ne.mpr c77
                  have c77b1 : ((rd t448 x18_4) != 0) = true := bne_iff_ne.mpr c77
                  have H' := Aside0.mk H
                  clear H
                  obtain ⟨Ao79,co79,eo79⟩ := Kd.R_slice HO_14.out
                  subst eo79
                  have p458 : 0 ≤ (x18_4 : Int) := of_decide_eq_true (by first | (with_reducible assumption) | assumption)
                  have q458 : x18_4 < (t448.length : Int) := of_decide_eq_true (by first | (with_reducible assumption) | assumption)
                  obtain ⟨ad458,e458,hx458_0⟩ := Kd.at_int (Kd.R_reads' HO_14.out).2.2 x18_4 p458 q458
                  cases e458
                  replace p458 := eq_true p458
                  replace q458 := eq_true q458
                  go_wp2
                  go_roundg k4
                  case measure => have := HJ3.out; have := HJ26.out; have := HK3.out; have := HK4.out; omega
                  case rel => exact ⟨(wrap64 (x18_4 + 1)),(by first | rfl | (simp; done) | (simp [*]; done) | (simp [wrap64]; done)),H',⟨by have := HJ3.out; have := HJ26.out; have := HK3.out; have := HK4.out; omega⟩,⟨mvR HO_7.out⟩,⟨mvR HO_8.out⟩,⟨mvR HO_14.out⟩,⟨mvb BK420.out⟩,⟨by repeat (first | (with_reducible first | exact HB.out | apply hA | apply hN | apply hD | refine below_set ?_ GE420.out) | exact HB.out)⟩⟩
                ·rw [if_neg c76] at H
                 exact absurd H (by simp)
               ·rw [if_neg c75] at H
                have c75b0 : decide (x18_4 < (t448.length : Int)) = false := decide_eq_false c75
                clear c75
                by_cases c80 : 0 ≤ ji19
                ·rw [if_pos c80] at H
                 have c80b0 := eq_true c80
                 have c80b1 : decide (0 ≤ ji19) = true := decide_eq_true c80
                 clear c80
                 by_cases c81 : ji19 ≤ (t424.length : Int)
                 ·rw [if_pos c81] at H
                  have c81b0 := eq_true c81
                  have c81b1 : decide (ji19 ≤ (t424.length : Int)) = true := decide_eq_true c81
                  clear c81
                  have hy430 := Ny430.out
                  replace H : (if ji19 ≤ (t427.length : Int) then (if (strOfNums y430).toList = (strOfNums (t427.take (ji19 : Int).toNat)).toList then (if x16_3 = 0 then (some true) else (if (strOfNums (t424.take (ji19 : Int).toNat)).toList = (strOfNums (t427.take (ji19 : Int).toNat)).toList then (some false) else (some (decide (x16_3 > a0_3))))) else (if (strOfNums (t424.take (ji19 : Int).toNat)).toList = (strOfNums (t427.take (ji19 : Int).toNat)).toList then (some false) else (some (decide (x16_3 > a0_3))))) else (none)) = some r := by first | (rw [hy430]; with_reducible exact H) | (have H2_ := (Option.bind_some _ _).symm.trans H; rw [hy430]; with_reducible exact H2_) | (have H2_ := (Option.bind_some _ _).symm.trans H; with_reducible exact H2_) | with_reducible exact H | (rw [hy430]; exact H) | exact H
                  have Ny430 := Aside0.mk hy430
                  clear hy430
                  have c82b0 := eq_true (of_decide_eq_true (by first | (with_reducible assumption) | assumption) : 0 ≤ ji19)
                  by_cases c83 : ji19 ≤ (t427.length : Int)
                  ·rw [if_pos c83] at H
                   have c83b0 := eq_true c83
                   have c83b1 : decide (ji19 ≤ (t427.length : Int)) = true := decide_eq_true c83
                   clear c83
                   have hy439 := Ny439.out
                   replace H : (if (strOfNums y430).toList = (strOfNums y439).toList then (if x16_3 = 0 then (some true) else (if (strOfNums (t424.take (ji19 : Int).toNat)).toList = (strOfNums (t427.take (ji19 : Int).toNat)).toList then (some false) else (some (decide (x16_3 > a0_3))))) else (if (strOfNums (t424.take (ji19 : Int).toNat)).toList = (strOfNums (t427.take (ji19 : Int).toNat)).toList then (some false) else (some (decide (x16_3 > a0_3))))) = some r := by first | (rw [hy439]; with_reducible exact H) | (have H2_ := (Option.bind_some _ _).symm.trans H; rw [hy439]; with_reducible exact H2_) | (have H2_ := (Option.bind_some _ _).symm.trans H; with_reducible exact H2_) | with_reducible exact H | (rw [hy439]; exact H) | exact H
                   have Ny439 := Aside0.mk hy439
                   clear hy439
                   by_cases c84 : (strOfNums y430).toList = (strOfNums y439).toList
                   ·rw [if_pos c84] at H
                    have c84b0 : ((strOfNums y430).toList == (strOfNums y439).toList) = true := beq_iff_eq.mpr c84
                    have c84b1 : ((strOfNums y430).toList != (strOfNums y439).toList) = false := bne_eq_false_iff_eq.mpr c84
                    clear c84
                    by_cases c85 : x16_3 = 0
                    ·rw [if_pos c85] at H
                     have c85b0 : (x16_3 == 0) = true := beq_iff_eq.mpr c85
                     have c85b1 : (x16_3 != 0) = false := bne_eq_false_iff_eq.mpr c85
                     clear c85
                     obtain rfl := Option.some.inj H
                     obtain ⟨Ao86,co86,eo86⟩ := Kd.R_slice HO_14.out
                     subst eo86
                     try go_wp2
                     have n0_ := aK (Kd.R_drew HO_7.out)
                     have n1_ := aK (Kd.R_drew HO_8.out)
                     have n2_ := aK (Kd.R_drew HO_14.out)
                     have n3_ := aK (blk_drew BK420.out)
                     have n4_ := aK (below_drew1 HB.out)
                     clear HO_7 HO_8 HO_14 BK420 HB
                     have HO_7 := n0_
                     have HO_8 := n1_
                     have HO_14 := n2_
                     have BK420 := n3_
                     have HB := n4_
                     clear n0_ n1_ n2_ n3_ n4_
                     have q88 : (ji19 : Int) ≤ ((t424.length : Int) : Int) := of_decide_eq_true (by first | (with_reducible assumption) | assumption)
                     obtain ⟨i088,hi088,_,hsz88,_⟩ := info_parts info5
                     have hroom88 : t424.length ≤ co32 := (Kd.R_reads' HO_7.out).2.1
                     have hC88 : Kd.F (Kd.int .u8) _ _ Ao32 t424.length t424 := (Kd.V_at (base := w.heap.size) (Kd.R_V (Kd.R_types (HO_7.out) BK420.out (by decide)))).2.2
                     have hcut88 := cut_to (P := Try.prog) 27 5 .i64 Try.underlying27 hi088 Ao32 t424.length co32 ji19 (of_decide_eq_true (by first | (with_reducible assumption) | assumption)) q88 hroom88
                     have hr88 := Kd.F_take (m := (ji19 : Int).toNat) hC88 (by omega)
                     have hy88 : y430.length = (ji19 : Int).toNat := (by rw [Ny430.out,List.length_take]; omega)
                     rw [← Ny430.out] at hr88
                     rw [← hy88] at hcut88
                     have HO463 := aK (show Kd.V (Kd.int .u8) 5 _ w.heap.size _ (.slice Ao32 y430.length co32) y430 from Kd.V_mk (by omega) hr88)
                     have HC463 := aK (show y430.length ≤ co32 from by omega)
                     clear hr88 hC88 hroom88 hi088 hsz88
                     have KY88 := Aside0.mk hy88
                     clear hy88
                     replace q88 := eq_true q88
                     have q89 : (ji19 : Int) ≤ ((t427.length : Int) : Int) := of_decide_eq_true (by first | (with_reducible assumption) | assumption)
                     obtain ⟨i089,hi089,_,hsz89,_⟩ := info_parts info5
                     have hroom89 : t427.length ≤ co33 := (Kd.R_reads' HO_8.out).2.1
                     have hC89 : Kd.F (Kd.int .u8) _ _ Ao33 t427.length t427 := (Kd.V_at (base := w.heap.size) (Kd.R_V (Kd.R_types (HO_8.out) BK420.out (by decide)))).2.2
                     have hcut89 := cut_to (P := Try.prog) 27 5 .i64 Try.underlying27 hi089 Ao33 t427.length co33 ji19 (of_decide_eq_true (by first | (with_reducible assumption) | assumption)) q89 hroom89
                     have hr89 := Kd.F_take (m := (ji19 : Int).toNat) hC89 (by omega)
                     have hy89 : y439.length = (ji19 : Int).toNat := (by rw [Ny439.out,List.length_take]; omega)
                     rw [← Ny439.out] at hr89
                     rw [← hy89] at hcut89
                     have HO468 := aK (show Kd.V (Kd.int .u8) 5 _ w.heap.size _ (.slice Ao33 y439.length co33) y439 from Kd.V_mk (by omega) hr89)
                     have HC468 := aK (show y439.length ≤ co33 from by omega)
                     clear hr89 hC89 hroom89 hi089 hsz89
                     have KY89 := Aside0.mk hy89
                     clear hy89
                     replace q89 := eq_true q89
                     refine start_ (n := 31) (S := fun w' => True) (ds := []) #[false,false,false,false,false,false,false,false,false,false,false,false,false,false,false,false,false,false,false,false,false,false,false,false,false,false,false,false,false,false,false] (by kernel_rfl) rfl rfl trivial (fun hHeld => ?_); refine with_tabW l4_ReedsolApart.tab22 l4_ReedsolApart.bits22 (fun HT_ HW_ => ?_)
                     generalize wr.drew = w87 at HO_7 HO_8 HO_14 BK420 HB HO463 HO468 hHeld ⊢
                     refine pure_ (i := 0) (N := some 126) (v := ?_) (a' := ?_) #[true,false,false,false,false,false,false,false,false,false,false,false,false,false,false,false,false,false,false,false,false,false,false,false,false,false,false,false,false,false,false] rfl rfl (any_of HT_.out (by kernel_rfl)) (fun _ _ _ h => h) (Or.inl ⟨by rfl,?_⟩) ?_ ?_
                     rotate_left
                     ·intro w'
                      go_simp
                      with_reducible rfl
                     rotate_left
                     ·simp only [Act.put,List.setIfInBounds_toArray,List.set_cons_zero,List.set_cons_succ,i64_w,i32_w]
                      rfl
                     refine pure_ (i := 1) (N := some 127) (v := ?_) (a' := ?_) #[true,true,false,false,false,false,false,false,false,false,false,false,false,false,false,false,false,false,false,false,false,false,false,false,false,false,false,false,false,false,false] rfl rfl (any_of HT_.out (by kernel_rfl)) (fun _ _ _ h => h) (Or.inl ⟨by rfl,?_⟩) ?_ ?_
                     rotate_left
                     ·intro w'
                      go_simp
                      with_reducible rfl
                     rotate_left
                     ·simp only [Act.put,List.setIfInBounds_toArray,List.set_cons_zero,List.set_cons_succ,i64_w,i32_w]
                      rfl
                     refine pure_ (i := 2) (N := some 128) (v := ?_) (a' := ?_) #[true,true,true,false,false,false,false,false,false,false,false,false,false,false,false,false,false,false,false,false,false,false,false,false,false,false,false,false,false,false,false] rfl rfl (any_of HT_.out (by kernel_rfl)) (fun _ _ _ h => h) (Or.inl ⟨by rfl,?_⟩) ?_ ?_
                     rotate_left
                     ·intro w'
                      go_simp
                      with_reducible rfl
                     rotate_left
                     ·simp only [Act.put,List.setIfInBounds_toArray,List.set_cons_zero,List.set_cons_succ,i64_w,i32_w]
                      rfl
                     refine pure_ (i := 4) (N := some 130) (v := ?_) (a' := ?_) #[true,true,true,false,true,false,false,false,false,false,false,false,false,false,false,false,false,false,false,false,false,false,false,false,false,false,false,false,false,false,false] rfl rfl (any_of HT_.out (by kernel_rfl)) (fun _ _ _ h => h) (Or.inl ⟨by rfl,?_⟩) ?_ ?_
                     rotate_left
                     ·intro w'
                      go_simp
                      with_reducible rfl
                     rotate_left
                     ·simp only [Act.put,List.setIfInBounds_toArray,List.set_cons_zero,List.set_cons_succ,i64_w,i32_w]
                      rfl
                     refine pure_ (i := 5) (N := some 131) (v := ?_) (a' := ?_) #[true,true,true,false,true,true,false,false,false,false,false,false,false,false,false,false,false,false,false,false,false,false,false,false,false,false,false,false,false,false,false] rfl rfl (any_of HT_.out (by kernel_rfl)) (fun _ _ _ h => h) (Or.inl ⟨by rfl,?_⟩) ?_ ?_
                     rotate_left
                     ·intro w'
                      go_simp
                      with_reducible rfl
                     rotate_left
                     ·simp only [Act.put,List.setIfInBounds_toArray,List.set_cons_zero,List.set_cons_succ,i64_w,i32_w]
                      rfl
                     refine pure_ (i := 6) (N := some 132) (v := ?_) (a' := ?_) #[true,true,true,false,true,true,true,false,false,false,false,false,false,false,false,false,false,false,false,false,false,false,false,false,false,false,false,false,false,false,false] rfl rfl (any_of HT_.out (by kernel_rfl)) (fun _ _ _ h => h) (Or.inl ⟨by rfl,?_⟩) ?_ ?_
                     rotate_left
                     ·intro w'
                      go_simp
                      with_reducible rfl
                     rotate_left
                     ·simp only [Act.put,List.setIfInBounds_toArray,List.set_cons_zero,List.set_cons_succ,i64_w,i32_w]
                      rfl
                     refine join_ (σ := Unit) 23 #[true,true,true,true,true,true,true,true,false,false,false,false,false,false,false,false,false,false,false,false,false,false,false,false,false,false,false,false,false,false,false] (fun s_ => [(129,.string (strOfNums y430)),(133,.string (strOfNums y439))]) (fun s_ w' => (Kd.V (Kd.int .u8) 5 w' w.heap.size (fun k_ => some k_ ≠ (.slice Ao86 t448.length co86 : Value).ownBlock ∧ some k_ ≠ (.slice Ao33 t427.length co33 : Value).ownBlock ∧ k_ ≠ gb420) (.slice Ao32 y430.length co32) y430) ∧ (Kd.V (Kd.int .u8) 5 w' w.heap.size (fun k_ => some k_ ≠ (.slice Ao86 t448.length co86 : Value).ownBlock ∧ some k_ ≠ (.slice Ao32 t424.length co32 : Value).ownBlock ∧ k_ ≠ gb420) (.slice Ao33 y439.length co33) y439) ∧ (Kd.R (Kd.int .u8) 5 w' w.heap.size (fun k_ => some k_ ≠ (.slice Ao32 t424.length co32 : Value).ownBlock ∧ some k_ ≠ (.slice Ao33 t427.length co33 : Value).ownBlock) (.slice Ao86 t448.length co86) t448) ∧ (Kd.R (Kd.int .u8) 5 w' w.heap.size (fun k_ => some k_ ≠ (.slice Ao86 t448.length co86 : Value).ownBlock ∧ some k_ ≠ (.slice Ao33 t427.length co33 : Value).ownBlock) (.slice Ao32 t424.length co32) t424) ∧ (Kd.R (Kd.int .u8) 5 w' w.heap.size (fun k_ => some k_ ≠ (.slice Ao86 t448.length co86 : Value).ownBlock ∧ some k_ ≠ (.slice Ao32 t424.length co32 : Value).ownBlock) (.slice Ao33 t427.length co33) t427) ∧ (w'.heap[gb420]? = some (.cells #[.int .i64 a0_0,.int .u64 a0_1,.int .i64 a0_2,.int .i64 a0_3] 26 (0,0))) ∧ (Below w.heap.size w w')) ?_ ?_
                     rotate_left
                     ·intro hCont
                      refine two_ (i := 3) (j := 7) (Ni := some 129) (Nj := some 133) #[true,true,true,true,true,true,true,false,false,false,false,false,false,false,false,false,false,false,false,false,false,false,false,false,false,false,false,false,false,false,false] #[true,true,true,false,true,true,true,true,false,false,false,false,false,false,false,false,false,false,false,false,false,false,false,false,false,false,false,false,false,false,false] rfl rfl rfl rfl (two_of HT_.out (by kernel_rfl)) (by decide) (by decide) (fun K hK => ?_) (fun K hK => ?_)
                      ·skip
                       have hcv90 := V_string (P := Try.prog) Try.underlying27 Try.underlying5 Try.underlying9 HO463.out
                       refine value_ (w1 := ?_) (v := ?_) (by rfl) rfl ?_ ?_
                       rotate_left 2
                       ·go_simp
                        constructor
                        ·rfl
                        ·rfl
                       clear hcv90
                       refine hK.out _ _ trivial (fun hHeld => ?_)
                       clear hK K
                       refine norm_ (a' := ?_) ?_ ?_
                       rotate_left
                       ·show Act.put _ (some 129) _ = _
                        simp only [Act.put,List.setIfInBounds_toArray,List.set_cons_zero,List.set_cons_succ,i64_w,i32_w]
                        rfl
                       refine one_ (i := 7) (N := some 133) #[true,true,true,true,true,true,true,true,false,false,false,false,false,false,false,false,false,false,false,false,false,false,false,false,false,false,false,false,false,false,false] rfl rfl (one_of HT_.out (by kernel_rfl)) (by decide) (fun K hK => ?_)
                       have hcv91 := V_string (P := Try.prog) Try.underlying27 Try.underlying5 Try.underlying9 HO468.out
                       refine value_ (w1 := ?_) (v := ?_) (by rfl) rfl ?_ ?_
                       rotate_left 2
                       ·go_simp
                        constructor
                        ·rfl
                        ·rfl
                       clear hcv91
                       refine hK.out _ _ trivial (fun hHeld => ?_)
                       clear hK K
                       refine norm_ (a' := ?_) ?_ ?_
                       rotate_left
                       ·show Act.put _ (some 133) _ = _
                        simp only [Act.put,List.setIfInBounds_toArray,List.set_cons_zero,List.set_cons_succ,i64_w,i32_w]
                        rfl
                       exact norm_ (by simp only [putAll,Act.put,List.setIfInBounds_toArray,List.set_cons_zero,List.set_cons_succ]) (hCont () _ ⟨(by (with_reducible repeat (first | apply Kd.V_alloc | apply Kd.V_drewN | apply Kd.V_drew)); exact Kd.V_mono HO463.out (fun _ hk => ⟨hk.1.2,⟨hk.1.1,hk.2⟩⟩)),(by (with_reducible repeat (first | apply Kd.V_alloc | apply Kd.V_drewN | apply Kd.V_drew)); exact Kd.V_mono HO468.out (fun _ hk => ⟨hk.1.2,⟨hk.1.1,hk.2⟩⟩)),(mvR HO_14.out),(by (with_reducible repeat (first | apply Kd.R_alloc | apply Kd.R_drewN | apply Kd.R_drew)); exact Kd.R_mono HO_7.out (fun _ hk => ⟨hk.2,hk.1⟩)),(by (with_reducible repeat (first | apply Kd.R_alloc | apply Kd.R_drewN | apply Kd.R_drew)); exact Kd.R_mono HO_8.out (fun _ hk => ⟨hk.2,hk.1⟩)),(mvb BK420.out),(by repeat (first | (with_reducible first | exact HB.out | apply hA | apply hN | apply hD | refine below_set ?_ GE420.out) | exact HB.out))⟩)
                      ·skip
                       have hcv90 := V_string (P := Try.prog) Try.underlying27 Try.underlying5 Try.underlying9 HO468.out
                       refine value_ (w1 := ?_) (v := ?_) (by rfl) rfl ?_ ?_
                       rotate_left 2
                       ·go_simp
                        constructor
                        ·rfl
                        ·rfl
                       clear hcv90
                       refine hK.out _ _ trivial (fun hHeld => ?_)
                       clear hK K
                       refine norm_ (a' := ?_) ?_ ?_
                       rotate_left
                       ·show Act.put _ (some 133) _ = _
                        simp only [Act.put,List.setIfInBounds_toArray,List.set_cons_zero,List.set_cons_succ,i64_w,i32_w]
                        rfl
                       refine one_ (i := 3) (N := some 129) #[true,true,true,true,true,true,true,true,false,false,false,false,false,false,false,false,false,false,false,false,false,false,false,false,false,false,false,false,false,false,false] rfl rfl (one_of HT_.out (by kernel_rfl)) (by decide) (fun K hK => ?_)
                       have hcv91 := V_string (P := Try.prog) Try.underlying27 Try.underlying5 Try.underlying9 HO463.out
                       refine value_ (w1 := ?_) (v := ?_) (by rfl) rfl ?_ ?_
                       rotate_left 2
                       ·go_simp
                        constructor
                        ·rfl
                        ·rfl
                       clear hcv91
                       refine hK.out _ _ trivial (fun hHeld => ?_)
                       clear hK K
                       refine norm_ (a' := ?_) ?_ ?_
                       rotate_left
                       ·show Act.put _ (some 129) _ = _
                        simp only [Act.put,List.setIfInBounds_toArray,List.set_cons_zero,List.set_cons_succ,i64_w,i32_w]
                        rfl
                       exact norm_ (by simp only [putAll,Act.put,List.setIfInBounds_toArray,List.set_cons_zero,List.set_cons_succ]) (hCont () _ ⟨(by (with_reducible repeat (first | apply Kd.V_alloc | apply Kd.V_drewN | apply Kd.V_drew)); exact Kd.V_mono HO463.out (fun _ hk => ⟨hk.1.2,⟨hk.1.1,hk.2⟩⟩)),(by (with_reducible repeat (first | apply Kd.V_alloc | apply Kd.V_drewN | apply Kd.V_drew)); exact Kd.V_mono HO468.out (fun _ hk => ⟨hk.1.2,⟨hk.1.1,hk.2⟩⟩)),(mvR HO_14.out),(by (with_reducible repeat (first | apply Kd.R_alloc | apply Kd.R_drewN | apply Kd.R_drew)); exact Kd.R_mono HO_7.out (fun _ hk => ⟨hk.2,hk.1⟩)),(by (with_reducible repeat (first | apply Kd.R_alloc | apply Kd.R_drewN | apply Kd.R_drew)); exact Kd.R_mono HO_8.out (fun _ hk => ⟨hk.2,hk.1⟩)),(mvb BK420.out),(by repeat (first | (with_reducible first | exact HB.out | apply hA | apply hN | apply hD | refine below_set ?_ GE420.out) | exact HB.out))⟩)
                     rintro _ w92 ⟨h0_,h1_,h2_,h3_,h4_,h5_,h6_⟩
                     have n0_ : Aside0 (Kd.V (Kd.int .u8) 5 w92 w.heap.size (fun k_ => some k_ ≠ (.slice Ao86 t448.length co86 : Value).ownBlock ∧ some k_ ≠ (.slice Ao33 t427.length co33 : Value).ownBlock ∧ k_ ≠ gb420) (.slice Ao32 y430.length co32) y430) := ⟨h0_⟩
                     have n1_ : Aside0 (Kd.V (Kd.int .u8) 5 w92 w.heap.size (fun k_ => some k_ ≠ (.slice Ao86 t448.length co86 : Value).ownBlock ∧ some k_ ≠ (.slice Ao32 t424.length co32 : Value).ownBlock ∧ k_ ≠ gb420) (.slice Ao33 y439.length co33) y439) := ⟨h1_⟩
                     have n2_ : Aside0 (Kd.R (Kd.int .u8) 5 w92 w.heap.size (fun k_ => some k_ ≠ (.slice Ao32 t424.length co32 : Value).ownBlock ∧ some k_ ≠ (.slice Ao33 t427.length co33 : Value).ownBlock) (.slice Ao86 t448.length co86) t448) := ⟨h2_⟩
                     have n3_ : Aside0 (Kd.R (Kd.int .u8) 5 w92 w.heap.size (fun k_ => some k_ ≠ (.slice Ao86 t448.length co86 : Value).ownBlock ∧ some k_ ≠ (.slice Ao33 t427.length co33 : Value).ownBlock) (.slice Ao32 t424.length co32) t424) := ⟨h3_⟩
                     have n4_ : Aside0 (Kd.R (Kd.int .u8) 5 w92 w.heap.size (fun k_ => some k_ ≠ (.slice Ao86 t448.length co86 : Value).ownBlock ∧ some k_ ≠ (.slice Ao32 t424.length co32 : Value).ownBlock) (.slice Ao33 t427.length co33) t427) := ⟨h4_⟩
                     have n5_ : Aside0 (w92.heap[gb420]? = some (.cells #[.int .i64 a0_0,.int .u64 a0_1,.int .i64 a0_2,.int .i64 a0_3] 26 (0,0))) := ⟨h5_⟩
                     have n6_ : Aside0 (Below w.heap.size w w92) := ⟨h6_⟩
                     clear HO_7 HO_8 HO_14 BK420 HB h0_ h1_ h2_ h3_ h4_ h5_ h6_
                     have HO463 := n0_
                     have HO468 := n1_
                     have HO_14 := n2_
                     have HO_7 := n3_
                     have HO_8 := n4_
                     have BK420 := n5_
                     have HB := n6_
                     clear n0_ n1_ n2_ n3_ n4_ n5_ n6_
                     have hHeld := trivial
                     refine norm_ (a' := ?_) ?_ ?_
                     rotate_left
                     ·simp only [putAll,Act.put,List.setIfInBounds_toArray,List.set_cons_zero,List.set_cons_succ]
                      rfl
                     refine pure_ (i := 8) (N := some 134) (v := ?_) (a' := ?_) #[true,true,true,true,true,true,true,true,true,false,false,false,false,false,false,false,false,false,false,false,false,false,false,false,false,false,false,false,false,false,false] rfl rfl (any_of HT_.out (by kernel_rfl)) (fun _ _ _ h => h) (Or.inl ⟨by rfl,?_⟩) ?_ ?_
                     rotate_left
                     ·intro w'
                      go_simp
                      with_reducible rfl
                     rotate_left
                     ·simp only [Act.put,List.setIfInBounds_toArray,List.set_cons_zero,List.set_cons_succ,i64_w,i32_w]
                      rfl
                     refine pure_ (i := 9) (N := some 135) (v := ?_) (a' := ?_) #[true,true,true,true,true,true,true,true,true,true,false,false,false,false,false,false,false,false,false,false,false,false,false,false,false,false,false,false,false,false,false] rfl rfl (any_of HT_.out (by kernel_rfl)) (fun _ _ _ h => h) (Or.inl ⟨by rfl,?_⟩) ?_ ?_
                     rotate_left
                     ·intro w'
                      go_simp
                      with_reducible rfl
                     rotate_left
                     ·simp only [Act.put,List.setIfInBounds_toArray,List.set_cons_zero,List.set_cons_succ,i64_w,i32_w]
                      rfl
                     refine pure_ (i := 10) (N := some 136) (v := ?_) (a' := ?_) #[true,true,true,true,true,true,true,true,true,true,true,false,false,false,false,false,false,false,false,false,false,false,false,false,false,false,false,false,false,false,false] rfl rfl (any_of HT_.out (by kernel_rfl)) (fun _ _ _ h => h) (Or.inl ⟨by rfl,?_⟩) ?_ ?_
                     rotate_left
                     ·intro w'
                      go_simp
                      with_reducible rfl
                     rotate_left
                     ·simp only [Act.put,List.setIfInBounds_toArray,List.set_cons_zero,List.set_cons_succ,i64_w,i32_w]
                      rfl
                     refine pure_ (i := 11) (N := some 137) (v := ?_) (a' := ?_) #[true,true,true,true,true,true,true,true,true,true,true,true,false,false,false,false,false,false,false,false,false,false,false,false,false,false,false,false,false,false,false] rfl rfl (any_of HT_.out (by kernel_rfl)) (fun _ _ _ h => h) (Or.inl ⟨by rfl,?_⟩) ?_ ?_
                     rotate_left
                     ·intro w'
                      go_simp
                      with_reducible rfl
                     rotate_left
                     ·simp only [Act.put,List.setIfInBounds_toArray,List.set_cons_zero,List.set_cons_succ,i64_w,i32_w]
                      rfl
                     refine pure_ (i := 12) (N := some 138) (v := ?_) (a' := ?_) #[true,true,true,true,true,true,true,true,true,true,true,true,true,false,false,false,false,false,false,false,false,false,false,false,false,false,false,false,false,false,false] rfl rfl (any_of HT_.out (by kernel_rfl)) (fun _ _ _ h => h) (Or.inl ⟨by rfl,?_⟩) ?_ ?_
                     rotate_left
                     ·intro w'
                      go_simp
                      with_reducible rfl
                     rotate_left
                     ·simp only [Act.put,List.setIfInBounds_toArray,List.set_cons_zero,List.set_cons_succ,i64_w,i32_w]
                      rfl
                     refine pure_ (i := 13) (N := some 139) (v := ?_) (a' := ?_) #[true,true,true,true,true,true,true,true,true,true,true,true,true,true,false,false,false,false,false,false,false,false,false,false,false,false,false,false,false,false,false] rfl rfl (any_of HT_.out (by kernel_rfl)) (fun _ _ _ h => h) (Or.inl ⟨by rfl,?_⟩) ?_ ?_
                     rotate_left
                     ·intro w'
                      go_simp
                      with_reducible rfl
                     rotate_left
                     ·simp only [Act.put,List.setIfInBounds_toArray,List.set_cons_zero,List.set_cons_succ,i64_w,i32_w]
                      rfl
                     refine pure_ (i := 14) (N := some 140) (v := undef) (a' := ?_) #[true,true,true,true,true,true,true,true,true,true,true,true,true,true,true,false,false,false,false,false,false,false,false,false,false,false,false,false,false,false,false] rfl rfl (any_of HT_.out (by kernel_rfl)) (fun _ _ _ h => h) (Or.inr ⟨by rfl,rfl⟩) ?_ ?_
                     rotate_left
                     ·simp only [Act.put,List.setIfInBounds_toArray,List.set_cons_zero,List.set_cons_succ,i64_w,i32_w]
                      rfl
                     refine pure_ (i := 15) (N := some 141) (v := undef) (a' := ?_) #[true,true,true,true,true,true,true,true,true,true,true,true,true,true,true,true,false,false,false,false,false,false,false,false,false,false,false,false,false,false,false] rfl rfl (any_of HT_.out (by kernel_rfl)) (fun _ _ _ h => h) (Or.inr ⟨by rfl,rfl⟩) ?_ ?_
                     rotate_left
                     ·simp only [Act.put,List.setIfInBounds_toArray,List.set_cons_zero,List.set_cons_succ,i64_w,i32_w]
                      rfl
                     refine pure_ (i := 16) (N := some 142) (v := undef) (a' := ?_) #[true,true,true,true,true,true,true,true,true,true,true,true,true,true,true,true,true,false,false,false,false,false,false,false,false,false,false,false,false,false,false] rfl rfl (any_of HT_.out (by kernel_rfl)) (fun _ _ _ h => h) (Or.inr ⟨by rfl,rfl⟩) ?_ ?_
                     rotate_left
                     ·simp only [Act.put,List.setIfInBounds_toArray,List.set_cons_zero,List.set_cons_succ,i64_w,i32_w]
                      rfl
                     refine pure_ (i := 17) (N := some 143) (v := undef) (a' := ?_) #[true,true,true,true,true,true,true,true,true,true,true,true,true,true,true,true,true,true,false,false,false,false,false,false,false,false,false,false,false,false,false] rfl rfl (any_of HT_.out (by kernel_rfl)) (fun _ _ _ h => h) (Or.inr ⟨by rfl,rfl⟩) ?_ ?_
                     rotate_left
                     ·simp only [Act.put,List.setIfInBounds_toArray,List.set_cons_zero,List.set_cons_succ,i64_w,i32_w]
                      rfl
                     refine pure_ (i := 18) (N := some 144) (v := undef) (a' := ?_) #[true,true,true,true,true,true,true,true,true,true,true,true,true,true,true,true,true,true,true,false,false,false,false,false,false,false,false,false,false,false,false] rfl rfl (any_of HT_.out (by kernel_rfl)) (fun _ _ _ h => h) (Or.inr ⟨by rfl,rfl⟩) ?_ ?_
                     rotate_left
                     ·simp only [Act.put,List.setIfInBounds_toArray,List.set_cons_zero,List.set_cons_succ,i64_w,i32_w]
                      rfl
                     refine pure_ (i := 19) (N := some 145) (v := undef) (a' := ?_) #[true,true,true,true,true,true,true,true,true,true,true,true,true,true,true,true,true,true,true,true,false,false,false,false,false,false,false,false,false,false,false] rfl rfl (any_of HT_.out (by kernel_rfl)) (fun _ _ _ h => h) (Or.inr ⟨by rfl,rfl⟩) ?_ ?_
                     rotate_left
                     ·simp only [Act.put,List.setIfInBounds_toArray,List.set_cons_zero,List.set_cons_succ,i64_w,i32_w]
                      rfl
                     refine pure_ (i := 20) (N := some 146) (v := undef) (a' := ?_) #[true,true,true,true,true,true,true,true,true,true,true,true,true,true,true,true,true,true,true,true,true,false,false,false,false,false,false,false,false,false,false] rfl rfl (any_of HT_.out (by kernel_rfl)) (fun _ _ _ h => h) (Or.inr ⟨by rfl,rfl⟩) ?_ ?_
                     rotate_left
                     ·simp only [Act.put,List.setIfInBounds_toArray,List.set_cons_zero,List.set_cons_succ,i64_w,i32_w]
                      rfl
                     refine pure_ (i := 21) (N := some 147) (v := undef) (a' := ?_) #[true,true,true,true,true,true,true,true,true,true,true,true,true,true,true,true,true,true,true,true,true,true,false,false,false,false,false,false,false,false,false] rfl rfl (any_of HT_.out (by kernel_rfl)) (fun _ _ _ h => h) (Or.inr ⟨by rfl,rfl⟩) ?_ ?_
                     rotate_left
                     ·simp only [Act.put,List.setIfInBounds_toArray,List.set_cons_zero,List.set_cons_succ,i64_w,i32_w]
                      rfl
                     refine pure_ (i := 22) (N := some 148) (v := undef) (a' := ?_) #[true,true,true,true,true,true,true,true,true,true,true,true,true,true,true,true,true,true,true,true,true,true,true,false,false,false,false,false,false,false,false] rfl rfl (any_of HT_.out (by kernel_rfl)) (fun _ _ _ h => h) (Or.inr ⟨by rfl,rfl⟩) ?_ ?_
                     rotate_left
                     ·simp only [Act.put,List.setIfInBounds_toArray,List.set_cons_zero,List.set_cons_succ,i64_w,i32_w]
                      rfl
                     refine pure_ (i := 23) (N := some 149) (v := undef) (a' := ?_) #[true,true,true,true,true,true,true,true,true,true,true,true,true,true,true,true,true,true,true,true,true,true,true,true,false,false,false,false,false,false,false] rfl rfl (any_of HT_.out (by kernel_rfl)) (fun _ _ _ h => h) (Or.inr ⟨by rfl,rfl⟩) ?_ ?_
                     rotate_left
                     ·simp only [Act.put,List.setIfInBounds_toArray,List.set_cons_zero,List.set_cons_succ,i64_w,i32_w]
                      rfl
                     refine pure_ (i := 24) (N := some 150) (v := undef) (a' := ?_) #[true,true,true,true,true,true,true,true,true,true,true,true,true,true,true,true,true,true,true,true,true,true,true,true,true,false,false,false,false,false,false] rfl rfl (any_of HT_.out (by kernel_rfl)) (fun _ _ _ h => h) (Or.inr ⟨by rfl,rfl⟩) ?_ ?_
                     rotate_left
                     ·simp only [Act.put,List.setIfInBounds_toArray,List.set_cons_zero,List.set_cons_succ,i64_w,i32_w]
                      rfl
                     refine pure_ (i := 25) (N := some 151) (v := undef) (a' := ?_) #[true,true,true,true,true,true,true,true,true,true,true,true,true,true,true,true,true,true,true,true,true,true,true,true,true,true,false,false,false,false,false] rfl rfl (any_of HT_.out (by kernel_rfl)) (fun _ _ _ h => h) (Or.inr ⟨by rfl,rfl⟩) ?_ ?_
                     rotate_left
                     ·simp only [Act.put,List.setIfInBounds_toArray,List.set_cons_zero,List.set_cons_succ,i64_w,i32_w]
                      rfl
                     refine pure_ (i := 26) (N := some 152) (v := undef) (a' := ?_) #[true,true,true,true,true,true,true,true,true,true,true,true,true,true,true,true,true,true,true,true,true,true,true,true,true,true,true,false,false,false,false] rfl rfl (any_of HT_.out (by kernel_rfl)) (fun _ _ _ h => h) (Or.inr ⟨by rfl,rfl⟩) ?_ ?_
                     rotate_left
                     ·simp only [Act.put,List.setIfInBounds_toArray,List.set_cons_zero,List.set_cons_succ,i64_w,i32_w]
                      rfl
                     refine pure_ (i := 27) (N := some 153) (v := undef) (a' := ?_) #[true,true,true,true,true,true,true,true,true,true,true,true,true,true,true,true,true,true,true,true,true,true,true,true,true,true,true,true,false,false,false] rfl rfl (any_of HT_.out (by kernel_rfl)) (fun _ _ _ h => h) (Or.inr ⟨by rfl,rfl⟩) ?_ ?_
                     rotate_left
                     ·simp only [Act.put,List.setIfInBounds_toArray,List.set_cons_zero,List.set_cons_succ,i64_w,i32_w]
                      rfl
                     refine pure_ (i := 28) (N := some 154) (v := undef) (a' := ?_) #[true,true,true,true,true,true,true,true,true,true,true,true,true,true,true,true,true,true,true,true,true,true,true,true,true,true,true,true,true,false,false] rfl rfl (any_of HT_.out (by kernel_rfl)) (fun _ _ _ h => h) (Or.inr ⟨by rfl,rfl⟩) ?_ ?_
                     rotate_left
                     ·simp only [Act.put,List.setIfInBounds_toArray,List.set_cons_zero,List.set_cons_succ,i64_w,i32_w]
                      rfl
                     refine pure_ (i := 29) (N := some 155) (v := ?_) (a' := ?_) #[true,true,true,true,true,true,true,true,true,true,true,true,true,true,true,true,true,true,true,true,true,true,true,true,true,true,true,true,true,true,false] rfl rfl (any_of HT_.out (by kernel_rfl)) (fun _ _ _ h => h) (Or.inl ⟨by rfl,?_⟩) ?_ ?_
                     rotate_left
                     ·intro w'
                      go_simp
                      with_reducible rfl
                     rotate_left
                     ·simp only [Act.put,List.setIfInBounds_toArray,List.set_cons_zero,List.set_cons_succ,i64_w,i32_w]
                      rfl
                     refine pure_ (i := 30) (N := some 6) (v := ?_) (a' := ?_) #[true,true,true,true,true,true,true,true,true,true,true,true,true,true,true,true,true,true,true,true,true,true,true,true,true,true,true,true,true,true,true] rfl rfl (any_of HT_.out (by kernel_rfl)) (fun _ _ _ h => h) (Or.inl ⟨by rfl,?_⟩) ?_ ?_
                     rotate_left
                     ·intro w'
                      go_simp
                      with_reducible rfl
                     rotate_left
                     ·simp only [Act.put,List.setIfInBounds_toArray,List.set_cons_zero,List.set_cons_succ,i64_w,i32_w]
                      rfl
                     refine done_ (done_of HT_.out (by kernel_rfl)) ?_
                     try go_wp2
                     go_ret
                     exact ⟨by first | rfl | (simp [errW_none,errW_some] <;> rfl) | (simp only [← hji19]; first | rfl | (simp [errW_none,errW_some] <;> rfl)) | (simp [*,errW_none,errW_some] <;> rfl),by repeat (first | (with_reducible first | exact HB.out | apply hA | apply hN | apply hD | refine below_set ?_ GE420.out) | exact HB.out)⟩
                    ·rw [if_neg c85] at H
                     have c85b0 : (x16_3 == 0) = false := beq_eq_false_iff_ne.mpr c85
                     have c85b1 : (x16_3 != 0) = true := bne_iff_ne.mpr c85
                     have c93b0 := eq_true (of_decide_eq_true (by first | (with_reducible assumption) | assumption) : 0 ≤ ji19)
                     have c94b0 := eq_true (of_decide_eq_true (by first | (with_reducible assumption) | assumption) : ji19 ≤ (t424.length : Int))
                     have hy430 := Ny430.out
                     replace H : (if (strOfNums y430).toList = (strOfNums (t427.take (ji19 : Int).toNat)).toList then (some false) else (some (decide (x16_3 > a0_3)))) = some r := by first | (rw [hy430]; with_reducible exact H) | (have H2_ := (Option.bind_some _ _).symm.trans H; rw [hy430]; with_reducible exact H2_) | (have H2_ := (Option.bind_some _ _).symm.trans H; with_reducible exact H2_) | with_reducible exact H | (rw [hy430]; exact H) | exact H
                     have Ny430 := Aside0.mk hy430
                     clear hy430
                     have c95b0 := eq_true (of_decide_eq_true (by first | (with_reducible assumption) | assumption) : 0 ≤ ji19)
                     have c96b0 := eq_true (of_decide_eq_true (by first | (with_reducible assumption) | assumption) : ji19 ≤ (t427.length : Int))
                     have hy439 := Ny439.out
                     replace H : (if (strOfNums y430).toList = (strOfNums y439).toList then (some false) else (some (decide (x16_3 > a0_3)))) = some r := by first | (rw [hy439]; with_reducible exact H) | (have H2_ := (Option.bind_some _ _).symm.trans H; rw [hy439]; with_reducible exact H2_) | (have H2_ := (Option.bind_some _ _).symm.trans H; with_reducible exact H2_) | with_reducible exact H | (rw [hy439]; exact H) | exact H
                     have Ny439 := Aside0.mk hy439
                     clear hy439
                     by_cases c97 : (strOfNums y430).toList = (strOfNums y439).toList
                     ·rw [if_pos c97] at H
                      exact l4_ReedsolApart.no_false HR9_.out H
                     ·first | exact absurd c84 c97 | exact absurd (beq_iff_eq.mp c84b0) c97
                   ·rw [if_neg c84] at H
                    have c84b0 : ((strOfNums y430).toList == (strOfNums y439).toList) = false := beq_eq_false_iff_ne.mpr c84
                    have c84b1 : ((strOfNums y430).toList != (strOfNums y439).toList) = true := bne_iff_ne.mpr c84
                    have c120b0 := eq_true (of_decide_eq_true (by first | (with_reducible assumption) | assumption) : 0 ≤ ji19)
                    have c121b0 := eq_true (of_decide_eq_true (by first | (with_reducible assumption) | assumption) : ji19 ≤ (t424.length : Int))
                    have hy430 := Ny430.out
                    replace H : (if (strOfNums y430).toList = (strOfNums (t427.take (ji19 : Int).toNat)).toList then (some false) else (some (decide (x16_3 > a0_3)))) = some r := by first | (rw [hy430]; with_reducible exact H) | (have H2_ := (Option.bind_some _ _).symm.trans H; rw [hy430]; with_reducible exact H2_) | (have H2_ := (Option.bind_some _ _).symm.trans H; with_reducible exact H2_) | with_reducible exact H | (rw [hy430]; exact H) | exact H
                    have Ny430 := Aside0.mk hy430
                    clear hy430
                    have c122b0 := eq_true (of_decide_eq_true (by first | (with_reducible assumption) | assumption) : 0 ≤ ji19)
                    have c123b0 := eq_true (of_decide_eq_true (by first | (with_reducible assumption) | assumption) : ji19 ≤ (t427.length : Int))
                    have hy439 := Ny439.out
                    replace H : (if (strOfNums y430).toList = (strOfNums y439).toList then (some false) else (some (decide (x16_3 > a0_3)))) = some r := by first | (rw [hy439]; with_reducible exact H) | (have H2_ := (Option.bind_some _ _).symm.trans H; rw [hy439]; with_reducible exact H2_) | (have H2_ := (Option.bind_some _ _).symm.trans H; with_reducible exact H2_) | with_reducible exact H | (rw [hy439]; exact H) | exact H
                    have Ny439 := Aside0.mk hy439
                    clear hy439
                    by_cases c124 : (strOfNums y430).toList = (strOfNums y439).toList
                    ·first | exact absurd c124 c84 | exact absurd c124 (beq_eq_false_iff_ne.mp c84b0)
                    ·rw [if_neg c124] at H
                     have c124b0 : ((strOfNums y430).toList == (strOfNums y439).toList) = false := beq_eq_false_iff_ne.mpr c124
                     have c124b1 : ((strOfNums y430).toList != (strOfNums y439).toList) = true := bne_iff_ne.mpr c124
                     obtain rfl := Option.some.inj H
                     obtain ⟨Ao136,co136,eo136⟩ := Kd.R_slice HO_14.out
                     subst eo136
                     try go_wp2
                     have n0_ := aK (Kd.R_drew HO_7.out)
                     have n1_ := aK (Kd.R_drew HO_8.out)
                     have n2_ := aK (Kd.R_drew HO_14.out)
                     have n3_ := aK (blk_drew BK420.out)
                     have n4_ := aK (below_drew1 HB.out)
                     clear HO_7 HO_8 HO_14 BK420 HB
                     have HO_7 := n0_
                     have HO_8 := n1_
                     have HO_14 := n2_
                     have BK420 := n3_
                     have HB := n4_
                     clear n0_ n1_ n2_ n3_ n4_
                     have q138 : (ji19 : Int) ≤ ((t424.length : Int) : Int) := of_decide_eq_true (by first | (with_reducible assumption) | assumption)
                     obtain ⟨i0138,hi0138,_,hsz138,_⟩ := info_parts info5
                     have hroom138 : t424.length ≤ co32 := (Kd.R_reads' HO_7.out).2.1
                     have hC138 : Kd.F (Kd.int .u8) _ _ Ao32 t424.length t424 := (Kd.V_at (base := w.heap.size) (Kd.R_V (Kd.R_types (HO_7.out) BK420.out (by decide)))).2.2
                     have hcut138 := cut_to (P := Try.prog) 27 5 .i64 Try.underlying27 hi0138 Ao32 t424.length co32 ji19 (of_decide_eq_true (by first | (with_reducible assumption) | assumption)) q138 hroom138
                     have hr138 := Kd.F_take (m := (ji19 : Int).toNat) hC138 (by omega)
                     have hy138 : y430.length = (ji19 : Int).toNat := (by rw [Ny430.out,List.length_take]; omega)
                     rw [← Ny430.out] at hr138
                     rw [← hy138] at hcut138
                     have HO463 := aK (show Kd.V (Kd.int .u8) 5 _ w.heap.size _ (.slice Ao32 y430.length co32) y430 from Kd.V_mk (by omega) hr138)
                     have HC463 := aK (show y430.length ≤ co32 from by omega)
                     clear hr138 hC138 hroom138 hi0138 hsz138
                     have KY138 := Aside0.mk hy138
                     clear hy138
                     replace q138 := eq_true q138
                     have q139 : (ji19 : Int) ≤ ((t427.length : Int) : Int) := of_decide_eq_true (by first | (with_reducible assumption) | assumption)
                     obtain ⟨i0139,hi0139,_,hsz139,_⟩ := info_parts info5
                     have hroom139 : t427.length ≤ co33 := (Kd.R_reads' HO_8.out).2.1
                     have hC139 : Kd.F (Kd.int .u8) _ _ Ao33 t427.length t427 := (Kd.V_at (base := w.heap.size) (Kd.R_V (Kd.R_types (HO_8.out) BK420.out (by decide)))).2.2
                     have hcut139 := cut_to (P := Try.prog) 27 5 .i64 Try.underlying27 hi0139 Ao33 t427.length co33 ji19 (of_decide_eq_true (by first | (with_reducible assumption) | assumption)) q139 hroom139
                     have hr139 := Kd.F_take (m := (ji19 : Int).toNat) hC139 (by omega)
                     have hy139 : y439.length = (ji19 : Int).toNat := (by rw [Ny439.out,List.length_take]; omega)
                     rw [← Ny439.out] at hr139
                     rw [← hy139] at hcut139
                     have HO468 := aK (show Kd.V (Kd.int .u8) 5 _ w.heap.size _ (.slice Ao33 y439.length co33) y439 from Kd.V_mk (by omega) hr139)
                     have HC468 := aK (show y439.length ≤ co33 from by omega)
                     clear hr139 hC139 hroom139 hi0139 hsz139
                     have KY139 := Aside0.mk hy139
                     clear hy139
                     replace q139 := eq_true q139
                     refine start_ (n := 31) (S := fun w' => w'.cell? ⟨gb420,0,none⟩ = some (.int .i64 a0_0) ∧ w'.cell? ⟨gb420,1,none⟩ = some (.int .u64 a0_1) ∧ w'.cell? ⟨gb420,2,none⟩ = some (.int .i64 a0_2) ∧ w'.cell? ⟨gb420,3,none⟩ = some (.int .i64 a0_3)) (ds := []) #[false,false,false,false,false,false,false,false,false,false,false,false,false,false,false,false,false,false,false,false,false,false,false,false,false,false,false,false,false,false,false] (by kernel_rfl) rfl rfl ⟨(blk_cell BK420.out 0).trans rfl,(blk_cell BK420.out 1).trans rfl,(blk_cell BK420.out 2).trans rfl,(blk_cell BK420.out 3).trans rfl⟩ (fun hHeld => ?_); refine with_tabW l4_ReedsolApart.tab22 l4_ReedsolApart.bits22 (fun HT_ HW_ => ?_)
                     generalize wr.drew = w137 at HO_7 HO_8 HO_14 BK420 HB HO463 HO468 hHeld ⊢
                     refine pure_ (i := 0) (N := some 126) (v := ?_) (a' := ?_) #[true,false,false,false,false,false,false,false,false,false,false,false,false,false,false,false,false,false,false,false,false,false,false,false,false,false,false,false,false,false,false] rfl rfl (any_of HT_.out (by kernel_rfl)) (fun _ _ _ h => h) (Or.inl ⟨by rfl,?_⟩) ?_ ?_
                     rotate_left
                     ·intro w'
                      go_simp
                      with_reducible rfl
                     rotate_left
                     ·simp only [Act.put,List.setIfInBounds_toArray,List.set_cons_zero,List.set_cons_succ,i64_w,i32_w]
                      rfl
                     refine pure_ (i := 1) (N := some 127) (v := ?_) (a' := ?_) #[true,true,false,false,false,false,false,false,false,false,false,false,false,false,false,false,false,false,false,false,false,false,false,false,false,false,false,false,false,false,false] rfl rfl (any_of HT_.out (by kernel_rfl)) (fun _ _ _ h => h) (Or.inl ⟨by rfl,?_⟩) ?_ ?_
                     rotate_left
                     ·intro w'
                      go_simp
                      with_reducible rfl
                     rotate_left
                     ·simp only [Act.put,List.setIfInBounds_toArray,List.set_cons_zero,List.set_cons_succ,i64_w,i32_w]
                      rfl
                     refine pure_ (i := 2) (N := some 128) (v := ?_) (a' := ?_) #[true,true,true,false,false,false,false,false,false,false,false,false,false,false,false,false,false,false,false,false,false,false,false,false,false,false,false,false,false,false,false] rfl rfl (any_of HT_.out (by kernel_rfl)) (fun _ _ _ h => h) (Or.inl ⟨by rfl,?_⟩) ?_ ?_
                     rotate_left
                     ·intro w'
                      go_simp
                      with_reducible rfl
                     rotate_left
                     ·simp only [Act.put,List.setIfInBounds_toArray,List.set_cons_zero,List.set_cons_succ,i64_w,i32_w]
                      rfl
                     refine pure_ (i := 4) (N := some 130) (v := ?_) (a' := ?_) #[true,true,true,false,true,false,false,false,false,false,false,false,false,false,false,false,false,false,false,false,false,false,false,false,false,false,false,false,false,false,false] rfl rfl (any_of HT_.out (by kernel_rfl)) (fun _ _ _ h => h) (Or.inl ⟨by rfl,?_⟩) ?_ ?_
                     rotate_left
                     ·intro w'
                      go_simp
                      with_reducible rfl
                     rotate_left
                     ·simp only [Act.put,List.setIfInBounds_toArray,List.set_cons_zero,List.set_cons_succ,i64_w,i32_w]
                      rfl
                     refine pure_ (i := 5) (N := some 131) (v := ?_) (a' := ?_) #[true,true,true,false,true,true,false,false,false,false,false,false,false,false,false,false,false,false,false,false,false,false,false,false,false,false,false,false,false,false,false] rfl rfl (any_of HT_.out (by kernel_rfl)) (fun _ _ _ h => h) (Or.inl ⟨by rfl,?_⟩) ?_ ?_
                     rotate_left
                     ·intro w'
                      go_simp
                      with_reducible rfl
                     rotate_left
                     ·simp only [Act.put,List.setIfInBounds_toArray,List.set_cons_zero,List.set_cons_succ,i64_w,i32_w]
                      rfl
                     refine pure_ (i := 6) (N := some 132) (v := ?_) (a' := ?_) #[true,true,true,false,true,true,true,false,false,false,false,false,false,false,false,false,false,false,false,false,false,false,false,false,false,false,false,false,false,false,false] rfl rfl (any_of HT_.out (by kernel_rfl)) (fun _ _ _ h => h) (Or.inl ⟨by rfl,?_⟩) ?_ ?_
                     rotate_left
                     ·intro w'
                      go_simp
                      with_reducible rfl
                     rotate_left
                     ·simp only [Act.put,List.setIfInBounds_toArray,List.set_cons_zero,List.set_cons_succ,i64_w,i32_w]
                      rfl
                     refine join_ (σ := Unit) 9 #[true,true,true,true,true,true,true,true,true,true,true,true,true,true,true,true,true,true,true,true,true,true,false,false,false,false,false,false,false,false,false] (fun s_ => [(129,.string (strOfNums y430)),(133,.string (strOfNums y439)),(143,.string (strOfNums y430)),(147,.string (strOfNums y439)),(134,.bool ((strOfNums y430).toList == (strOfNums y439).toList)),(135,.bool ((strOfNums y430).toList == (strOfNums y439).toList)),(136,undef),(137,undef),(138,.bool false),(139,.bool false),(140,.slice Ao32 t424.length co32),(141,.int .i64 ji19),(142,.slice Ao32 y430.length co32),(144,.slice Ao33 t427.length co33),(145,.int .i64 ji19),(146,.slice Ao33 y439.length co33)]) (fun s_ w' => (w'.cell? ⟨gb420,0,none⟩ = some (.int .i64 a0_0) ∧ w'.cell? ⟨gb420,1,none⟩ = some (.int .u64 a0_1) ∧ w'.cell? ⟨gb420,2,none⟩ = some (.int .i64 a0_2) ∧ w'.cell? ⟨gb420,3,none⟩ = some (.int .i64 a0_3)) ∧ (Kd.V (Kd.int .u8) 5 w' w.heap.size (fun k_ => some k_ ≠ (.slice Ao136 t448.length co136 : Value).ownBlock ∧ some k_ ≠ (.slice Ao33 t427.length co33 : Value).ownBlock ∧ k_ ≠ gb420) (.slice Ao32 y430.length co32) y430) ∧ (Kd.V (Kd.int .u8) 5 w' w.heap.size (fun k_ => some k_ ≠ (.slice Ao136 t448.length co136 : Value).ownBlock ∧ some k_ ≠ (.slice Ao32 t424.length co32 : Value).ownBlock ∧ k_ ≠ gb420) (.slice Ao33 y439.length co33) y439) ∧ (Kd.R (Kd.int .u8) 5 w' w.heap.size (fun k_ => some k_ ≠ (.slice Ao32 t424.length co32 : Value).ownBlock ∧ some k_ ≠ (.slice Ao33 t427.length co33 : Value).ownBlock) (.slice Ao136 t448.length co136) t448) ∧ (Kd.R (Kd.int .u8) 5 w' w.heap.size (fun k_ => some k_ ≠ (.slice Ao136 t448.length co136 : Value).ownBlock ∧ some k_ ≠ (.slice Ao33 t427.length co33 : Value).ownBlock) (.slice Ao32 t424.length co32) t424) ∧ (Kd.R (Kd.int .u8) 5 w' w.heap.size (fun k_ => some k_ ≠ (.slice Ao136 t448.length co136 : Value).ownBlock ∧ some k_ ≠ (.slice Ao32 t424.length co32 : Value).ownBlock) (.slice Ao33 t427.length co33) t427) ∧ (w'.heap[gb420]? = some (.cells #[.int .i64 a0_0,.int .u64 a0_1,.int .i64 a0_2,.int .i64 a0_3] 26 (0,0))) ∧ (Below w.heap.size w w')) ?_ ?_
                     rotate_left
                     ·intro hCont
                      refine two_ (i := 3) (j := 7) (Ni := some 129) (Nj := some 133) #[true,true,true,true,true,true,true,false,false,false,false,false,false,false,false,false,false,false,false,false,false,false,false,false,false,false,false,false,false,false,false] #[true,true,true,false,true,true,true,true,false,false,false,false,false,false,false,false,false,false,false,false,false,false,false,false,false,false,false,false,false,false,false] rfl rfl rfl rfl (two_of HT_.out (by kernel_rfl)) (by decide) (by decide) (fun K hK => ?_) (fun K hK => ?_)
                      ·skip
                       have hcv140 := V_string (P := Try.prog) Try.underlying27 Try.underlying5 Try.underlying9 HO463.out
                       refine value_ (w1 := ?_) (v := ?_) (by rfl) rfl ?_ ?_
                       rotate_left 2
                       ·go_simp
                        constructor
                        ·rfl
                        ·rfl
                       clear hcv140
                       refine hK.out _ _ ⟨(blk_cell BK420.out 0).trans rfl,(blk_cell BK420.out 1).trans rfl,(blk_cell BK420.out 2).trans rfl,(blk_cell BK420.out 3).trans rfl⟩ (fun hHeld => ?_)
                       clear hK K
                       refine norm_ (a' := ?_) ?_ ?_
                       rotate_left
                       ·show Act.put _ (some 129) _ = _
                        simp only [Act.put,List.setIfInBounds_toArray,List.set_cons_zero,List.set_cons_succ,i64_w,i32_w]
                        rfl
                       refine one_ (i := 7) (N := some 133) #[true,true,true,true,true,true,true,true,false,false,false,false,false,false,false,false,false,false,false,false,false,false,false,false,false,false,false,false,false,false,false] rfl rfl (one_of HT_.out (by kernel_rfl)) (by decide) (fun K hK => ?_)
                       have hcv141 := V_string (P := Try.prog) Try.underlying27 Try.underlying5 Try.underlying9 HO468.out
                       refine value_ (w1 := ?_) (v := ?_) (by rfl) rfl ?_ ?_
                       rotate_left 2
                       ·go_simp
                        constructor
                        ·rfl
                        ·rfl
                       clear hcv141
                       refine hK.out _ _ ⟨(blk_cell BK420.out 0).trans rfl,(blk_cell BK420.out 1).trans rfl,(blk_cell BK420.out 2).trans rfl,(blk_cell BK420.out 3).trans rfl⟩ (fun hHeld => ?_)
                       clear hK K
                       refine norm_ (a' := ?_) ?_ ?_
                       rotate_left
                       ·show Act.put _ (some 133) _ = _
                        simp only [Act.put,List.setIfInBounds_toArray,List.set_cons_zero,List.set_cons_succ,i64_w,i32_w]
                        rfl
                       refine pure_ (i := 8) (N := some 134) (v := ?_) (a' := ?_) #[true,true,true,true,true,true,true,true,true,false,false,false,false,false,false,false,false,false,false,false,false,false,false,false,false,false,false,false,false,false,false] rfl rfl (any_of HT_.out (by kernel_rfl)) (fun _ _ _ h => h) (Or.inl ⟨by rfl,?_⟩) ?_ ?_
                       rotate_left
                       ·intro w'
                        go_simp
                        with_reducible rfl
                       rotate_left
                       ·simp only [Act.put,List.setIfInBounds_toArray,List.set_cons_zero,List.set_cons_succ,i64_w,i32_w]
                        rfl
                       refine pure_ (i := 9) (N := some 135) (v := ?_) (a' := ?_) #[true,true,true,true,true,true,true,true,true,true,false,false,false,false,false,false,false,false,false,false,false,false,false,false,false,false,false,false,false,false,false] rfl rfl (any_of HT_.out (by kernel_rfl)) (fun _ _ _ h => h) (Or.inl ⟨by rfl,?_⟩) ?_ ?_
                       rotate_left
                       ·intro w'
                        go_simp
                        with_reducible rfl
                       rotate_left
                       ·simp only [Act.put,List.setIfInBounds_toArray,List.set_cons_zero,List.set_cons_succ,i64_w,i32_w]
                        rfl
                       refine pure_ (i := 10) (N := some 136) (v := undef) (a' := ?_) #[true,true,true,true,true,true,true,true,true,true,true,false,false,false,false,false,false,false,false,false,false,false,false,false,false,false,false,false,false,false,false] rfl rfl (any_of HT_.out (by kernel_rfl)) (fun _ _ _ h => h) (Or.inr ⟨by rfl,rfl⟩) ?_ ?_
                       rotate_left
                       ·simp only [Act.put,List.setIfInBounds_toArray,List.set_cons_zero,List.set_cons_succ,i64_w,i32_w]
                        rfl
                       refine pure_ (i := 11) (N := some 137) (v := undef) (a' := ?_) #[true,true,true,true,true,true,true,true,true,true,true,true,false,false,false,false,false,false,false,false,false,false,false,false,false,false,false,false,false,false,false] rfl rfl (any_of HT_.out (by kernel_rfl)) (fun _ _ _ h => h) (Or.inr ⟨by rfl,rfl⟩) ?_ ?_
                       rotate_left
                       ·simp only [Act.put,List.setIfInBounds_toArray,List.set_cons_zero,List.set_cons_succ,i64_w,i32_w]
                        rfl
                       refine pure_ (i := 12) (N := some 138) (v := ?_) (a' := ?_) #[true,true,true,true,true,true,true,true,true,true,true,true,true,false,false,false,false,false,false,false,false,false,false,false,false,false,false,false,false,false,false] rfl rfl (any_of HT_.out (by kernel_rfl)) (fun _ _ _ h => h) (Or.inl ⟨by rfl,?_⟩) ?_ ?_
                       rotate_left
                       ·intro w'
                        go_simp
                        with_reducible rfl
                       rotate_left
                       ·simp only [Act.put,List.setIfInBounds_toArray,List.set_cons_zero,List.set_cons_succ,i64_w,i32_w]
                        rfl
                       refine pure_ (i := 13) (N := some 139) (v := ?_) (a' := ?_) #[true,true,true,true,true,true,true,true,true,true,true,true,true,true,false,false,false,false,false,false,false,false,false,false,false,false,false,false,false,false,false] rfl rfl (any_of HT_.out (by kernel_rfl)) (fun _ _ _ h => h) (Or.inl ⟨by rfl,?_⟩) ?_ ?_
                       rotate_left
                       ·intro w'
                        go_simp
                        with_reducible rfl
                       rotate_left
                       ·simp only [Act.put,List.setIfInBounds_toArray,List.set_cons_zero,List.set_cons_succ,i64_w,i32_w]
                        rfl
                       refine pure_ (i := 14) (N := some 140) (v := ?_) (a' := ?_) #[true,true,true,true,true,true,true,true,true,true,true,true,true,true,true,false,false,false,false,false,false,false,false,false,false,false,false,false,false,false,false] rfl rfl (any_of HT_.out (by kernel_rfl)) (fun _ _ _ h => h) (Or.inl ⟨by rfl,?_⟩) ?_ ?_
                       rotate_left
                       ·intro w'
                        go_simp
                        with_reducible rfl
                       rotate_left
                       ·simp only [Act.put,List.setIfInBounds_toArray,List.set_cons_zero,List.set_cons_succ,i64_w,i32_w]
                        rfl
                       refine pure_ (i := 15) (N := some 141) (v := ?_) (a' := ?_) #[true,true,true,true,true,true,true,true,true,true,true,true,true,true,true,true,false,false,false,false,false,false,false,false,false,false,false,false,false,false,false] rfl rfl (any_of HT_.out (by kernel_rfl)) (fun _ _ _ h => h) (Or.inl ⟨by rfl,?_⟩) ?_ ?_
                       rotate_left
                       ·intro w'
                        go_simp
                        with_reducible rfl
                       rotate_left
                       ·simp only [Act.put,List.setIfInBounds_toArray,List.set_cons_zero,List.set_cons_succ,i64_w,i32_w]
                        rfl
                       refine pure_ (i := 16) (N := some 142) (v := ?_) (a' := ?_) #[true,true,true,true,true,true,true,true,true,true,true,true,true,true,true,true,true,false,false,false,false,false,false,false,false,false,false,false,false,false,false] rfl rfl (any_of HT_.out (by kernel_rfl)) (fun _ _ _ h => h) (Or.inl ⟨by rfl,?_⟩) ?_ ?_
                       rotate_left
                       ·intro w'
                        go_simp
                        with_reducible rfl
                       rotate_left
                       ·simp only [Act.put,List.setIfInBounds_toArray,List.set_cons_zero,List.set_cons_succ,i64_w,i32_w]
                        rfl
                       refine pure_ (i := 18) (N := some 144) (v := ?_) (a' := ?_) #[true,true,true,true,true,true,true,true,true,true,true,true,true,true,true,true,true,false,true,false,false,false,false,false,false,false,false,false,false,false,false] rfl rfl (any_of HT_.out (by kernel_rfl)) (fun _ _ _ h => h) (Or.inl ⟨by rfl,?_⟩) ?_ ?_
                       rotate_left
                       ·intro w'
                        go_simp
                        with_reducible rfl
                       rotate_left
                       ·simp only [Act.put,List.setIfInBounds_toArray,List.set_cons_zero,List.set_cons_succ,i64_w,i32_w]
                        rfl
                       refine pure_ (i := 19) (N := some 145) (v := ?_) (a' := ?_) #[true,true,true,true,true,true,true,true,true,true,true,true,true,true,true,true,true,false,true,true,false,false,false,false,false,false,false,false,false,false,false] rfl rfl (any_of HT_.out (by kernel_rfl)) (fun _ _ _ h => h) (Or.inl ⟨by rfl,?_⟩) ?_ ?_
                       rotate_left
                       ·intro w'
                        go_simp
                        with_reducible rfl
                       rotate_left
                       ·simp only [Act.put,List.setIfInBounds_toArray,List.set_cons_zero,List.set_cons_succ,i64_w,i32_w]
                        rfl
                       refine pure_ (i := 20) (N := some 146) (v := ?_) (a' := ?_) #[true,true,true,true,true,true,true,true,true,true,true,true,true,true,true,true,true,false,true,true,true,false,false,false,false,false,false,false,false,false,false] rfl rfl (any_of HT_.out (by kernel_rfl)) (fun _ _ _ h => h) (Or.inl ⟨by rfl,?_⟩) ?_ ?_
                       rotate_left
                       ·intro w'
                        go_simp
                        with_reducible rfl
                       rotate_left
                       ·simp only [Act.put,List.setIfInBounds_toArray,List.set_cons_zero,List.set_cons_succ,i64_w,i32_w]
                        rfl
                       refine two_ (i := 17) (j := 21) (Ni := some 143) (Nj := some 147) #[true,true,true,true,true,true,true,true,true,true,true,true,true,true,true,true,true,true,true,true,true,false,false,false,false,false,false,false,false,false,false] #[true,true,true,true,true,true,true,true,true,true,true,true,true,true,true,true,true,false,true,true,true,true,false,false,false,false,false,false,false,false,false] rfl rfl rfl rfl (two_of HT_.out (by kernel_rfl)) (by decide) (by decide) (fun K hK => ?_) (fun K hK => ?_)
                       ·skip
                        have hcv142 := V_string (P := Try.prog) Try.underlying27 Try.underlying5 Try.underlying9 HO463.out
                        refine value_ (w1 := ?_) (v := ?_) (by rfl) rfl ?_ ?_
                        rotate_left 2
                        ·go_simp
                         constructor
                         ·rfl
                         ·rfl
                        clear hcv142
                        refine hK.out _ _ ⟨(blk_cell BK420.out 0).trans rfl,(blk_cell BK420.out 1).trans rfl,(blk_cell BK420.out 2).trans rfl,(blk_cell BK420.out 3).trans rfl⟩ (fun hHeld => ?_)
                        clear hK K
                        refine norm_ (a' := ?_) ?_ ?_
                        rotate_left
                        ·show Act.put _ (some 143) _ = _
                         simp only [Act.put,List.setIfInBounds_toArray,List.set_cons_zero,List.set_cons_succ,i64_w,i32_w]
                         rfl
                        refine one_ (i := 21) (N := some 147) #[true,true,true,true,true,true,true,true,true,true,true,true,true,true,true,true,true,true,true,true,true,true,false,false,false,false,false,false,false,false,false] rfl rfl (one_of HT_.out (by kernel_rfl)) (by decide) (fun K hK => ?_)
                        have hcv143 := V_string (P := Try.prog) Try.underlying27 Try.underlying5 Try.underlying9 HO468.out
                        refine value_ (w1 := ?_) (v := ?_) (by rfl) rfl ?_ ?_
                        rotate_left 2
                        ·go_simp
                         constructor
                         ·rfl
                         ·rfl
                        clear hcv143
                        refine hK.out _ _ ⟨(blk_cell BK420.out 0).trans rfl,(blk_cell BK420.out 1).trans rfl,(blk_cell BK420.out 2).trans rfl,(blk_cell BK420.out 3).trans rfl⟩ (fun hHeld => ?_)
                        clear hK K
                        refine norm_ (a' := ?_) ?_ ?_
                        rotate_left
                        ·show Act.put _ (some 147) _ = _
                         simp only [Act.put,List.setIfInBounds_toArray,List.set_cons_zero,List.set_cons_succ,i64_w,i32_w]
                         rfl
                        exact norm_ (by simp only [putAll,Act.put,List.setIfInBounds_toArray,List.set_cons_zero,List.set_cons_succ]; first | done | simp only [c84b0]) (hCont () _ ⟨hHeld,(by (with_reducible repeat (first | apply Kd.V_alloc | apply Kd.V_drewN | apply Kd.V_drew)); exact Kd.V_mono HO463.out (fun _ hk => ⟨hk.1.2,⟨hk.1.1,hk.2⟩⟩)),(by (with_reducible repeat (first | apply Kd.V_alloc | apply Kd.V_drewN | apply Kd.V_drew)); exact Kd.V_mono HO468.out (fun _ hk => ⟨hk.1.2,⟨hk.1.1,hk.2⟩⟩)),(mvR HO_14.out),(by (with_reducible repeat (first | apply Kd.R_alloc | apply Kd.R_drewN | apply Kd.R_drew)); exact Kd.R_mono HO_7.out (fun _ hk => ⟨hk.2,hk.1⟩)),(by (with_reducible repeat (first | apply Kd.R_alloc | apply Kd.R_drewN | apply Kd.R_drew)); exact Kd.R_mono HO_8.out (fun _ hk => ⟨hk.2,hk.1⟩)),(mvb BK420.out),(by repeat (first | (with_reducible first | exact HB.out | apply hA | apply hN | apply hD | refine below_set ?_ GE420.out) | exact HB.out))⟩)
                       ·skip
                        have hcv142 := V_string (P := Try.prog) Try.underlying27 Try.underlying5 Try.underlying9 HO468.out
                        refine value_ (w1 := ?_) (v := ?_) (by rfl) rfl ?_ ?_
                        rotate_left 2
                        ·go_simp
                         constructor
                         ·rfl
                         ·rfl
                        clear hcv142
                        refine hK.out _ _ ⟨(blk_cell BK420.out 0).trans rfl,(blk_cell BK420.out 1).trans rfl,(blk_cell BK420.out 2).trans rfl,(blk_cell BK420.out 3).trans rfl⟩ (fun hHeld => ?_)
                        clear hK K
                        refine norm_ (a' := ?_) ?_ ?_
                        rotate_left
                        ·show Act.put _ (some 147) _ = _
                         simp only [Act.put,List.setIfInBounds_toArray,List.set_cons_zero,List.set_cons_succ,i64_w,i32_w]
                         rfl
                        refine one_ (i := 17) (N := some 143) #[true,true,true,true,true,true,true,true,true,true,true,true,true,true,true,true,true,true,true,true,true,true,false,false,false,false,false,false,false,false,false] rfl rfl (one_of HT_.out (by kernel_rfl)) (by decide) (fun K hK => ?_)
                        have hcv143 := V_string (P := Try.prog) Try.underlying27 Try.underlying5 Try.underlying9 HO463.out
                        refine value_ (w1 := ?_) (v := ?_) (by rfl) rfl ?_ ?_
                        rotate_left 2
                        ·go_simp
                         constructor
                         ·rfl
                         ·rfl
                        clear hcv143
                        refine hK.out _ _ ⟨(blk_cell BK420.out 0).trans rfl,(blk_cell BK420.out 1).trans rfl,(blk_cell BK420.out 2).trans rfl,(blk_cell BK420.out 3).trans rfl⟩ (fun hHeld => ?_)
                        clear hK K
                        refine norm_ (a' := ?_) ?_ ?_
                        rotate_left
                        ·show Act.put _ (some 143) _ = _
                         simp only [Act.put,List.setIfInBounds_toArray,List.set_cons_zero,List.set_cons_succ,i64_w,i32_w]
                         rfl
                        exact norm_ (by simp only [putAll,Act.put,List.setIfInBounds_toArray,List.set_cons_zero,List.set_cons_succ]; first | done | simp only [c84b0]) (hCont () _ ⟨hHeld,(by (with_reducible repeat (first | apply Kd.V_alloc | apply Kd.V_drewN | apply Kd.V_drew)); exact Kd.V_mono HO463.out (fun _ hk => ⟨hk.1.2,⟨hk.1.1,hk.2⟩⟩)),(by (with_reducible repeat (first | apply Kd.V_alloc | apply Kd.V_drewN | apply Kd.V_drew)); exact Kd.V_mono HO468.out (fun _ hk => ⟨hk.1.2,⟨hk.1.1,hk.2⟩⟩)),(mvR HO_14.out),(by (with_reducible repeat (first | apply Kd.R_alloc | apply Kd.R_drewN | apply Kd.R_drew)); exact Kd.R_mono HO_7.out (fun _ hk => ⟨hk.2,hk.1⟩)),(by (with_reducible repeat (first | apply Kd.R_alloc | apply Kd.R_drewN | apply Kd.R_drew)); exact Kd.R_mono HO_8.out (fun _ hk => ⟨hk.2,hk.1⟩)),(mvb BK420.out),(by repeat (first | (with_reducible first | exact HB.out | apply hA | apply hN | apply hD | refine below_set ?_ GE420.out) | exact HB.out))⟩)
                      ·skip
                       have hcv140 := V_string (P := Try.prog) Try.underlying27 Try.underlying5 Try.underlying9 HO468.out
                       refine value_ (w1 := ?_) (v := ?_) (by rfl) rfl ?_ ?_
                       rotate_left 2
                       ·go_simp
                        constructor
                        ·rfl
                        ·rfl
                       clear hcv140
                       refine hK.out _ _ ⟨(blk_cell BK420.out 0).trans rfl,(blk_cell BK420.out 1).trans rfl,(blk_cell BK420.out 2).trans rfl,(blk_cell BK420.out 3).trans rfl⟩ (fun hHeld => ?_)
                       clear hK K
                       refine norm_ (a' := ?_) ?_ ?_
                       rotate_left
                       ·show Act.put _ (some 133) _ = _
                        simp only [Act.put,List.setIfInBounds_toArray,List.set_cons_zero,List.set_cons_succ,i64_w,i32_w]
                        rfl
                       refine one_ (i := 3) (N := some 129) #[true,true,true,true,true,true,true,true,false,false,false,false,false,false,false,false,false,false,false,false,false,false,false,false,false,false,false,false,false,false,false] rfl rfl (one_of HT_.out (by kernel_rfl)) (by decide) (fun K hK => ?_)
                       have hcv141 := V_string (P := Try.prog) Try.underlying27 Try.underlying5 Try.underlying9 HO463.out
                       refine value_ (w1 := ?_) (v := ?_) (by rfl) rfl ?_ ?_
                       rotate_left 2
                       ·go_simp
                        constructor
                        ·rfl
                        ·rfl
                       clear hcv141
                       refine hK.out _ _ ⟨(blk_cell BK420.out 0).trans rfl,(blk_cell BK420.out 1).trans rfl,(blk_cell BK420.out 2).trans rfl,(blk_cell BK420.out 3).trans rfl⟩ (fun hHeld => ?_)
                       clear hK K
                       refine norm_ (a' := ?_) ?_ ?_
                       rotate_left
                       ·show Act.put _ (some 129) _ = _
                        simp only [Act.put,List.setIfInBounds_toArray,List.set_cons_zero,List.set_cons_succ,i64_w,i32_w]
                        rfl
                       refine pure_ (i := 8) (N := some 134) (v := ?_) (a' := ?_) #[true,true,true,true,true,true,true,true,true,false,false,false,false,false,false,false,false,false,false,false,false,false,false,false,false,false,false,false,false,false,false] rfl rfl (any_of HT_.out (by kernel_rfl)) (fun _ _ _ h => h) (Or.inl ⟨by rfl,?_⟩) ?_ ?_
                       rotate_left
                       ·intro w'
                        go_simp
                        with_reducible rfl
                       rotate_left
                       ·simp only [Act.put,List.setIfInBounds_toArray,List.set_cons_zero,List.set_cons_succ,i64_w,i32_w]
                        rfl
                       refine pure_ (i := 9) (N := some 135) (v := ?_) (a' := ?_) #[true,true,true,true,true,true,true,true,true,true,false,false,false,false,false,false,false,false,false,false,false,false,false,false,false,false,false,false,false,false,false] rfl rfl (any_of HT_.out (by kernel_rfl)) (fun _ _ _ h => h) (Or.inl ⟨by rfl,?_⟩) ?_ ?_
                       rotate_left
                       ·intro w'
                        go_simp
                        with_reducible rfl
                       rotate_left
                       ·simp only [Act.put,List.setIfInBounds_toArray,List.set_cons_zero,List.set_cons_succ,i64_w,i32_w]
                        rfl
                       refine pure_ (i := 10) (N := some 136) (v := undef) (a' := ?_) #[true,true,true,true,true,true,true,true,true,true,true,false,false,false,false,false,false,false,false,false,false,false,false,false,false,false,false,false,false,false,false] rfl rfl (any_of HT_.out (by kernel_rfl)) (fun _ _ _ h => h) (Or.inr ⟨by rfl,rfl⟩) ?_ ?_
                       rotate_left
                       ·simp only [Act.put,List.setIfInBounds_toArray,List.set_cons_zero,List.set_cons_succ,i64_w,i32_w]
                        rfl
                       refine pure_ (i := 11) (N := some 137) (v := undef) (a' := ?_) #[true,true,true,true,true,true,true,true,true,true,true,true,false,false,false,false,false,false,false,false,false,false,false,false,false,false,false,false,false,false,false] rfl rfl (any_of HT_.out (by kernel_rfl)) (fun _ _ _ h => h) (Or.inr ⟨by rfl,rfl⟩) ?_ ?_
                       rotate_left
                       ·simp only [Act.put,List.setIfInBounds_toArray,List.set_cons_zero,List.set_cons_succ,i64_w,i32_w]
                        rfl
                       refine pure_ (i := 12) (N := some 138) (v := ?_) (a' := ?_) #[true,true,true,true,true,true,true,true,true,true,true,true,true,false,false,false,false,false,false,false,false,false,false,false,false,false,false,false,false,false,false] rfl rfl (any_of HT_.out (by kernel_rfl)) (fun _ _ _ h => h) (Or.inl ⟨by rfl,?_⟩) ?_ ?_
                       rotate_left
                       ·intro w'
                        go_simp
                        with_reducible rfl
                       rotate_left
                       ·simp only [Act.put,List.setIfInBounds_toArray,List.set_cons_zero,List.set_cons_succ,i64_w,i32_w]
                        rfl
                       refine pure_ (i := 13) (N := some 139) (v := ?_) (a' := ?_) #[true,true,true,true,true,true,true,true,true,true,true,true,true,true,false,false,false,false,false,false,false,false,false,false,false,false,false,false,false,false,false] rfl rfl (any_of HT_.out (by kernel_rfl)) (fun _ _ _ h => h) (Or.inl ⟨by rfl,?_⟩) ?_ ?_
                       rotate_left
                       ·intro w'
                        go_simp
                        with_reducible rfl
                       rotate_left
                       ·simp only [Act.put,List.setIfInBounds_toArray,List.set_cons_zero,List.set_cons_succ,i64_w,i32_w]
                        rfl
                       refine pure_ (i := 14) (N := some 140) (v := ?_) (a' := ?_) #[true,true,true,true,true,true,true,true,true,true,true,true,true,true,true,false,false,false,false,false,false,false,false,false,false,false,false,false,false,false,false] rfl rfl (any_of HT_.out (by kernel_rfl)) (fun _ _ _ h => h) (Or.inl ⟨by rfl,?_⟩) ?_ ?_
                       rotate_left
                       ·intro w'
                        go_simp
                        with_reducible rfl
                       rotate_left
                       ·simp only [Act.put,List.setIfInBounds_toArray,List.set_cons_zero,List.set_cons_succ,i64_w,i32_w]
                        rfl
                       refine pure_ (i := 15) (N := some 141) (v := ?_) (a' := ?_) #[true,true,true,true,true,true,true,true,true,true,true,true,true,true,true,true,false,false,false,false,false,false,false,false,false,false,false,false,false,false,false] rfl rfl (any_of HT_.out (by kernel_rfl)) (fun _ _ _ h => h) (Or.inl ⟨by rfl,?_⟩) ?_ ?_
                       rotate_left
                       ·intro w'
                        go_simp
                        with_reducible rfl
                       rotate_left
                       ·simp only [Act.put,List.setIfInBounds_toArray,List.set_cons_zero,List.set_cons_succ,i64_w,i32_w]
                        rfl
                       refine pure_ (i := 16) (N := some 142) (v := ?_) (a' := ?_) #[true,true,true,true,true,true,true,true,true,true,true,true,true,true,true,true,true,false,false,false,false,false,false,false,false,false,false,false,false,false,false] rfl rfl (any_of HT_.out (by kernel_rfl)) (fun _ _ _ h => h) (Or.inl ⟨by rfl,?_⟩) ?_ ?_
                       rotate_left
                       ·intro w'
                        go_simp
                        with_reducible rfl
                       rotate_left
                       ·simp only [Act.put,List.setIfInBounds_toArray,List.set_cons_zero,List.set_cons_succ,i64_w,i32_w]
                        rfl
                       refine pure_ (i := 18) (N := some 144) (v := ?_) (a' := ?_) #[true,true,true,true,true,true,true,true,true,true,true,true,true,true,true,true,true,false,true,false,false,false,false,false,false,false,false,false,false,false,false] rfl rfl (any_of HT_.out (by kernel_rfl)) (fun _ _ _ h => h) (Or.inl ⟨by rfl,?_⟩) ?_ ?_
                       rotate_left
                       ·intro w'
                        go_simp
                        with_reducible rfl
                       rotate_left
                       ·simp only [Act.put,List.setIfInBounds_toArray,List.set_cons_zero,List.set_cons_succ,i64_w,i32_w]
                        rfl
                       refine pure_ (i := 19) (N := some 145) (v := ?_) (a' := ?_) #[true,true,true,true,true,true,true,true,true,true,true,true,true,true,true,true,true,false,true,true,false,false,false,false,false,false,false,false,false,false,false] rfl rfl (any_of HT_.out (by kernel_rfl)) (fun _ _ _ h => h) (Or.inl ⟨by rfl,?_⟩) ?_ ?_
                       rotate_left
                       ·intro w'
                        go_simp
                        with_reducible rfl
                       rotate_left
                       ·simp only [Act.put,List.setIfInBounds_toArray,List.set_cons_zero,List.set_cons_succ,i64_w,i32_w]
                        rfl
                       refine pure_ (i := 20) (N := some 146) (v := ?_) (a' := ?_) #[true,true,true,true,true,true,true,true,true,true,true,true,true,true,true,true,true,false,true,true,true,false,false,false,false,false,false,false,false,false,false] rfl rfl (any_of HT_.out (by kernel_rfl)) (fun _ _ _ h => h) (Or.inl ⟨by rfl,?_⟩) ?_ ?_
                       rotate_left
                       ·intro w'
                        go_simp
                        with_reducible rfl
                       rotate_left
                       ·simp only [Act.put,List.setIfInBounds_toArray,List.set_cons_zero,List.set_cons_succ,i64_w,i32_w]
                        rfl
                       refine two_ (i := 17) (j := 21) (Ni := some 143) (Nj := some 147) #[true,true,true,true,true,true,true,true,true,true,true,true,true,true,true,true,true,true,true,true,true,false,false,false,false,false,false,false,false,false,false] #[true,true,true,true,true,true,true,true,true,true,true,true,true,true,true,true,true,false,true,true,true,true,false,false,false,false,false,false,false,false,false] rfl rfl rfl rfl (two_of HT_.out (by kernel_rfl)) (by decide) (by decide) (fun K hK => ?_) (fun K hK => ?_)
                       ·skip
                        have hcv142 := V_string (P := Try.prog) Try.underlying27 Try.underlying5 Try.underlying9 HO463.out
                        refine value_ (w1 := ?_) (v := ?_) (by rfl) rfl ?_ ?_
                        rotate_left 2
                        ·go_simp
                         constructor
                         ·rfl
                         ·rfl
                        clear hcv142
                        refine hK.out _ _ ⟨(blk_cell BK420.out 0).trans rfl,(blk_cell BK420.out 1).trans rfl,(blk_cell BK420.out 2).trans rfl,(blk_cell BK420.out 3).trans rfl⟩ (fun hHeld => ?_)
                        clear hK K
                        refine norm_ (a' := ?_) ?_ ?_
                        rotate_left
                        ·show Act.put _ (some 143) _ = _
                         simp only [Act.put,List.setIfInBounds_toArray,List.set_cons_zero,List.set_cons_succ,i64_w,i32_w]
                         rfl
                        refine one_ (i := 21) (N := some 147) #[true,true,true,true,true,true,true,true,true,true,true,true,true,true,true,true,true,true,true,true,true,true,false,false,false,false,false,false,false,false,false] rfl rfl (one_of HT_.out (by kernel_rfl)) (by decide) (fun K hK => ?_)
                        have hcv143 := V_string (P := Try.prog) Try.underlying27 Try.underlying5 Try.underlying9 HO468.out
                        refine value_ (w1 := ?_) (v := ?_) (by rfl) rfl ?_ ?_
                        rotate_left 2
                        ·go_simp
                         constructor
                         ·rfl
                         ·rfl
                        clear hcv143
                        refine hK.out _ _ ⟨(blk_cell BK420.out 0).trans rfl,(blk_cell BK420.out 1).trans rfl,(blk_cell BK420.out 2).trans rfl,(blk_cell BK420.out 3).trans rfl⟩ (fun hHeld => ?_)
                        clear hK K
                        refine norm_ (a' := ?_) ?_ ?_
                        rotate_left
                        ·show Act.put _ (some 147) _ = _
                         simp only [Act.put,List.setIfInBounds_toArray,List.set_cons_zero,List.set_cons_succ,i64_w,i32_w]
                         rfl
                        exact norm_ (by simp only [putAll,Act.put,List.setIfInBounds_toArray,List.set_cons_zero,List.set_cons_succ]; first | done | simp only [c84b0]) (hCont () _ ⟨hHeld,(by (with_reducible repeat (first | apply Kd.V_alloc | apply Kd.V_drewN | apply Kd.V_drew)); exact Kd.V_mono HO463.out (fun _ hk => ⟨hk.1.2,⟨hk.1.1,hk.2⟩⟩)),(by (with_reducible repeat (first | apply Kd.V_alloc | apply Kd.V_drewN | apply Kd.V_drew)); exact Kd.V_mono HO468.out (fun _ hk => ⟨hk.1.2,⟨hk.1.1,hk.2⟩⟩)),(mvR HO_14.out),(by (with_reducible repeat (first | apply Kd.R_alloc | apply Kd.R_drewN | apply Kd.R_drew)); exact Kd.R_mono HO_7.out (fun _ hk => ⟨hk.2,hk.1⟩)),(by (with_reducible repeat (first | apply Kd.R_alloc | apply Kd.R_drewN | apply Kd.R_drew)); exact Kd.R_mono HO_8.out (fun _ hk => ⟨hk.2,hk.1⟩)),(mvb BK420.out),(by repeat (first | (with_reducible first | exact HB.out | apply hA | apply hN | apply hD | refine below_set ?_ GE420.out) | exact HB.out))⟩)
                       ·skip
                        have hcv142 := V_string (P := Try.prog) Try.underlying27 Try.underlying5 Try.underlying9 HO468.out
                        refine value_ (w1 := ?_) (v := ?_) (by rfl) rfl ?_ ?_
                        rotate_left 2
                        ·go_simp
                         constructor
                         ·rfl
                         ·rfl
                        clear hcv142
                        refine hK.out _ _ ⟨(blk_cell BK420.out 0).trans rfl,(blk_cell BK420.out 1).trans rfl,(blk_cell BK420.out 2).trans rfl,(blk_cell BK420.out 3).trans rfl⟩ (fun hHeld => ?_)
                        clear hK K
                        refine norm_ (a' := ?_) ?_ ?_
                        rotate_left
                        ·show Act.put _ (some 147) _ = _
                         simp only [Act.put,List.setIfInBounds_toArray,List.set_cons_zero,List.set_cons_succ,i64_w,i32_w]
                         rfl
                        refine one_ (i := 17) (N := some 143) #[true,true,true,true,true,true,true,true,true,true,true,true,true,true,true,true,true,true,true,true,true,true,false,false,false,false,false,false,false,false,false] rfl rfl (one_of HT_.out (by kernel_rfl)) (by decide) (fun K hK => ?_)
                        have hcv143 := V_string (P := Try.prog) Try.underlying27 Try.underlying5 Try.underlying9 HO463.out
                        refine value_ (w1 := ?_) (v := ?_) (by rfl) rfl ?_ ?_
                        rotate_left 2
                        ·go_simp
                         constructor
                         ·rfl
                         ·rfl
                        clear hcv143
                        refine hK.out _ _ ⟨(blk_cell BK420.out 0).trans rfl,(blk_cell BK420.out 1).trans rfl,(blk_cell BK420.out 2).trans rfl,(blk_cell BK420.out 3).trans rfl⟩ (fun hHeld => ?_)
                        clear hK K
                        refine norm_ (a' := ?_) ?_ ?_
                        rotate_left
                        ·show Act.put _ (some 143) _ = _
                         simp only [Act.put,List.setIfInBounds_toArray,List.set_cons_zero,List.set_cons_succ,i64_w,i32_w]
                         rfl
                        exact norm_ (by simp only [putAll,Act.put,List.setIfInBounds_toArray,List.set_cons_zero,List.set_cons_succ]; first | done | simp only [c84b0]) (hCont () _ ⟨hHeld,(by (with_reducible repeat (first | apply Kd.V_alloc | apply Kd.V_drewN | apply Kd.V_drew)); exact Kd.V_mono HO463.out (fun _ hk => ⟨hk.1.2,⟨hk.1.1,hk.2⟩⟩)),(by (with_reducible repeat (first | apply Kd.V_alloc | apply Kd.V_drewN | apply Kd.V_drew)); exact Kd.V_mono HO468.out (fun _ hk => ⟨hk.1.2,⟨hk.1.1,hk.2⟩⟩)),(mvR HO_14.out),(by (with_reducible repeat (first | apply Kd.R_alloc | apply Kd.R_drewN | apply Kd.R_drew)); exact Kd.R_mono HO_7.out (fun _ hk => ⟨hk.2,hk.1⟩)),(by (with_reducible repeat (first | apply Kd.R_alloc | apply Kd.R_drewN | apply Kd.R_drew)); exact Kd.R_mono HO_8.out (fun _ hk => ⟨hk.2,hk.1⟩)),(mvb BK420.out),(by repeat (first | (with_reducible first | exact HB.out | apply hA | apply hN | apply hD | refine below_set ?_ GE420.out) | exact HB.out))⟩)
                     rintro _ w144 ⟨hS_,h0_,h1_,h2_,h3_,h4_,h5_,h6_⟩
                     have n0_ : Aside0 (Kd.V (Kd.int .u8) 5 w144 w.heap.size (fun k_ => some k_ ≠ (.slice Ao136 t448.length co136 : Value).ownBlock ∧ some k_ ≠ (.slice Ao33 t427.length co33 : Value).ownBlock ∧ k_ ≠ gb420) (.slice Ao32 y430.length co32) y430) := ⟨h0_⟩
                     have n1_ : Aside0 (Kd.V (Kd.int .u8) 5 w144 w.heap.size (fun k_ => some k_ ≠ (.slice Ao136 t448.length co136 : Value).ownBlock ∧ some k_ ≠ (.slice Ao32 t424.length co32 : Value).ownBlock ∧ k_ ≠ gb420) (.slice Ao33 y439.length co33) y439) := ⟨h1_⟩
                     have n2_ : Aside0 (Kd.R (Kd.int .u8) 5 w144 w.heap.size (fun k_ => some k_ ≠ (.slice Ao32 t424.length co32 : Value).ownBlock ∧ some k_ ≠ (.slice Ao33 t427.length co33 : Value).ownBlock) (.slice Ao136 t448.length co136) t448) := ⟨h2_⟩
                     have n3_ : Aside0 (Kd.R (Kd.int .u8) 5 w144 w.heap.size (fun k_ => some k_ ≠ (.slice Ao136 t448.length co136 : Value).ownBlock ∧ some k_ ≠ (.slice Ao33 t427.length co33 : Value).ownBlock) (.slice Ao32 t424.length co32) t424) := ⟨h3_⟩
                     have n4_ : Aside0 (Kd.R (Kd.int .u8) 5 w144 w.heap.size (fun k_ => some k_ ≠ (.slice Ao136 t448.length co136 : Value).ownBlock ∧ some k_ ≠ (.slice Ao32 t424.length co32 : Value).ownBlock) (.slice Ao33 t427.length co33) t427) := ⟨h4_⟩
                     have n5_ : Aside0 (w144.heap[gb420]? = some (.cells #[.int .i64 a0_0,.int .u64 a0_1,.int .i64 a0_2,.int .i64 a0_3] 26 (0,0))) := ⟨h5_⟩
                     have n6_ : Aside0 (Below w.heap.size w w144) := ⟨h6_⟩
                     clear HO_7 HO_8 HO_14 BK420 HB h0_ h1_ h2_ h3_ h4_ h5_ h6_
                     have HO463 := n0_
                     have HO468 := n1_
                     have HO_14 := n2_
                     have HO_7 := n3_
                     have HO_8 := n4_
                     have BK420 := n5_
                     have HB := n6_
                     clear n0_ n1_ n2_ n3_ n4_ n5_ n6_
                     have hHeld : w144.cell? ⟨gb420,0,none⟩ = some (.int .i64 a0_0) ∧ w144.cell? ⟨gb420,1,none⟩ = some (.int .u64 a0_1) ∧ w144.cell? ⟨gb420,2,none⟩ = some (.int .i64 a0_2) ∧ w144.cell? ⟨gb420,3,none⟩ = some (.int .i64 a0_3) := hS_
                     have q145 : (ji19 : Int) ≤ ((t424.length : Int) : Int) := of_decide_eq_true (by first | (with_reducible assumption) | assumption)
                     obtain ⟨i0145,hi0145,_,hsz145,_⟩ := info_parts info5
                     have hroom145 : t424.length ≤ co32 := (Kd.R_reads' HO_7.out).2.1
                     have hC145 : Kd.F (Kd.int .u8) _ _ Ao32 t424.length t424 := (Kd.V_at (base := w.heap.size) (Kd.R_V (Kd.R_types (HO_7.out) BK420.out (by decide)))).2.2
                     have hcut145 := cut_to (P := Try.prog) 27 5 .i64 Try.underlying27 hi0145 Ao32 t424.length co32 ji19 (of_decide_eq_true (by first | (with_reducible assumption) | assumption)) q145 hroom145
                     have hr145 := Kd.F_take (m := (ji19 : Int).toNat) hC145 (by omega)
                     have hy145 : y430.length = (ji19 : Int).toNat := (by rw [Ny430.out,List.length_take]; omega)
                     rw [← Ny430.out] at hr145
                     rw [← hy145] at hcut145
                     have HO483 := aK (show Kd.V (Kd.int .u8) 5 _ w.heap.size _ (.slice Ao32 y430.length co32) y430 from Kd.V_mk (by omega) hr145)
                     have HC483 := aK (show y430.length ≤ co32 from by omega)
                     clear hr145 hC145 hroom145 hi0145 hsz145
                     have KY145 := Aside0.mk hy145
                     clear hy145
                     replace q145 := eq_true q145
                     have q146 : (ji19 : Int) ≤ ((t427.length : Int) : Int) := of_decide_eq_true (by first | (with_reducible assumption) | assumption)
                     obtain ⟨i0146,hi0146,_,hsz146,_⟩ := info_parts info5
                     have hroom146 : t427.length ≤ co33 := (Kd.R_reads' HO_8.out).2.1
                     have hC146 : Kd.F (Kd.int .u8) _ _ Ao33 t427.length t427 := (Kd.V_at (base := w.heap.size) (Kd.R_V (Kd.R_types (HO_8.out) BK420.out (by decide)))).2.2
                     have hcut146 := cut_to (P := Try.prog) 27 5 .i64 Try.underlying27 hi0146 Ao33 t427.length co33 ji19 (of_decide_eq_true (by first | (with_reducible assumption) | assumption)) q146 hroom146
                     have hr146 := Kd.F_take (m := (ji19 : Int).toNat) hC146 (by omega)
                     have hy146 : y439.length = (ji19 : Int).toNat := (by rw [Ny439.out,List.length_take]; omega)
                     rw [← Ny439.out] at hr146
                     rw [← hy146] at hcut146
                     have HO488 := aK (show Kd.V (Kd.int .u8) 5 _ w.heap.size _ (.slice Ao33 y439.length co33) y439 from Kd.V_mk (by omega) hr146)
                     have HC488 := aK (show y439.length ≤ co33 from by omega)
                     clear hr146 hC146 hroom146 hi0146 hsz146
                     have KY146 := Aside0.mk hy146
                     clear hy146
                     replace q146 := eq_true q146
                     refine norm_ (a' := ?_) ?_ ?_
                     rotate_left
                     ·simp only [putAll,Act.put,List.setIfInBounds_toArray,List.set_cons_zero,List.set_cons_succ]
                      rfl
                     refine pure_ (i := 22) (N := some 148) (v := ?_) (a' := ?_) #[true,true,true,true,true,true,true,true,true,true,true,true,true,true,true,true,true,true,true,true,true,true,true,false,false,false,false,false,false,false,false] rfl rfl (any_of HT_.out (by kernel_rfl)) (fun _ _ _ h => h) (Or.inl ⟨by rfl,?_⟩) ?_ ?_
                     rotate_left
                     ·intro w'
                      go_simp
                      with_reducible rfl
                     rotate_left
                     ·simp only [Act.put,List.setIfInBounds_toArray,List.set_cons_zero,List.set_cons_succ,i64_w,i32_w]
                      rfl
                     refine pure_ (i := 23) (N := some 149) (v := ?_) (a' := ?_) #[true,true,true,true,true,true,true,true,true,true,true,true,true,true,true,true,true,true,true,true,true,true,true,true,false,false,false,false,false,false,false] rfl rfl (any_of HT_.out (by kernel_rfl)) (fun _ _ _ h => h) (Or.inl ⟨by rfl,?_⟩) ?_ ?_
                     rotate_left
                     ·intro w'
                      go_simp
                      with_reducible rfl
                     rotate_left
                     ·simp only [Act.put,List.setIfInBounds_toArray,List.set_cons_zero,List.set_cons_succ,i64_w,i32_w]
                      rfl
                     refine pure_ (i := 24) (N := some 150) (v := ?_) (a' := ?_) #[true,true,true,true,true,true,true,true,true,true,true,true,true,true,true,true,true,true,true,true,true,true,true,true,true,false,false,false,false,false,false] rfl rfl (any_of HT_.out (by kernel_rfl)) (fun _ _ _ h => h) (Or.inl ⟨by rfl,?_⟩) ?_ ?_
                     rotate_left
                     ·intro w'
                      go_simp
                      with_reducible rfl
                     rotate_left
                     ·simp only [Act.put,List.setIfInBounds_toArray,List.set_cons_zero,List.set_cons_succ,i64_w,i32_w]
                      rfl
                     refine pure_ (i := 25) (N := some 151) (v := ?_) (a' := ?_) #[true,true,true,true,true,true,true,true,true,true,true,true,true,true,true,true,true,true,true,true,true,true,true,true,true,true,false,false,false,false,false] rfl rfl (any_of HT_.out (by kernel_rfl)) (fun _ _ _ h => h) (Or.inl ⟨by rfl,?_⟩) ?_ ?_
                     rotate_left
                     ·intro w'
                      go_simp
                      with_reducible rfl
                     rotate_left
                     ·simp only [Act.put,List.setIfInBounds_toArray,List.set_cons_zero,List.set_cons_succ,i64_w,i32_w]
                      rfl
                     refine take_ (i := 26) (N := some 152) (v := ?_) (a' := ?_) #[true,true,true,true,true,true,true,true,true,true,true,true,true,true,true,true,true,true,true,true,true,true,true,true,true,true,true,false,false,false,false] rfl rfl (take_ofW HT_.out HW_.out (by kernel_rfl)) (fun _ _ _ h => h) (Or.inl ⟨by rfl,?_⟩) hHeld ?_ ?_
                     rotate_left
                     ·rintro w' ⟨s0,s1,s2,s3⟩
                      go_simp
                      with_reducible rfl
                     rotate_left
                     ·simp only [Act.put,List.setIfInBounds_toArray,List.set_cons_zero,List.set_cons_succ,i64_w,i32_w]
                      rfl
                     refine pure_ (i := 27) (N := some 153) (v := ?_) (a' := ?_) #[true,true,true,true,true,true,true,true,true,true,true,true,true,true,true,true,true,true,true,true,true,true,true,true,true,true,true,true,false,false,false] rfl rfl (any_of HT_.out (by kernel_rfl)) (fun _ _ _ h => h) (Or.inl ⟨by rfl,?_⟩) ?_ ?_
                     rotate_left
                     ·intro w'
                      go_simp
                      with_reducible rfl
                     rotate_left
                     ·simp only [Act.put,List.setIfInBounds_toArray,List.set_cons_zero,List.set_cons_succ,i64_w,i32_w]
                      rfl
                     refine pure_ (i := 28) (N := some 154) (v := ?_) (a' := ?_) #[true,true,true,true,true,true,true,true,true,true,true,true,true,true,true,true,true,true,true,true,true,true,true,true,true,true,true,true,true,false,false] rfl rfl (any_of HT_.out (by kernel_rfl)) (fun _ _ _ h => h) (Or.inl ⟨by rfl,?_⟩) ?_ ?_
                     rotate_left
                     ·intro w'
                      go_simp
                      with_reducible rfl
                     rotate_left
                     ·simp only [Act.put,List.setIfInBounds_toArray,List.set_cons_zero,List.set_cons_succ,i64_w,i32_w]
                      rfl
                     refine pure_ (i := 29) (N := some 155) (v := ?_) (a' := ?_) #[true,true,true,true,true,true,true,true,true,true,true,true,true,true,true,true,true,true,true,true,true,true,true,true,true,true,true,true,true,true,false] rfl rfl (any_of HT_.out (by kernel_rfl)) (fun _ _ _ h => h) (Or.inl ⟨by rfl,?_⟩) ?_ ?_
                     rotate_left
                     ·intro w'
                      go_simp
                      with_reducible rfl
                     rotate_left
                     ·simp only [Act.put,List.setIfInBounds_toArray,List.set_cons_zero,List.set_cons_succ,i64_w,i32_w]
                      rfl
                     refine pure_ (i := 30) (N := some 6) (v := ?_) (a' := ?_) #[true,true,true,true,true,true,true,true,true,true,true,true,true,true,true,true,true,true,true,true,true,true,true,true,true,true,true,true,true,true,true] rfl rfl (any_of HT_.out (by kernel_rfl)) (fun _ _ _ h => h) (Or.inl ⟨by rfl,?_⟩) ?_ ?_
                     rotate_left
                     ·intro w'
                      go_simp
                      with_reducible rfl
                     rotate_left
                     ·simp only [Act.put,List.setIfInBounds_toArray,List.set_cons_zero,List.set_cons_succ,i64_w,i32_w]
                      rfl
                     refine done_ (done_of HT_.out (by kernel_rfl)) ?_
                     try go_wp2
                     go_ret
                     exact ⟨by first | rfl | (simp [errW_none,errW_some] <;> rfl) | (simp only [← hji19]; first | rfl | (simp [errW_none,errW_some] <;> rfl)) | (simp [*,errW_none,errW_some] <;> rfl),by repeat (first | (with_reducible first | exact HB.out | apply hA | apply hN | apply hD | refine below_set ?_ GE420.out) | exact HB.out)⟩
                  ·rw [if_neg c83] at H
                   exact absurd H (by simp)
                 ·rw [if_neg c81] at H
                  exact absurd H (by simp)
                ·rw [if_neg c80] at H
                 exact absurd H (by simp)
      ·rw [if_neg c24] at H
       exact absurd H (by simp)
     ·rw [if_neg c21] at H
      exact absurd H (by simp)
    ·rw [if_neg c20] at H
     exact absurd H (by simp)

def l4_ReedsolApart.Pure : Prop := ∀ (a0_0 : Int) (a0_1 : Int) (a0_2 : Int) (a0_3 : Int) (l1 : List Int) (l2 : List Int),(Lit.int .i64 a0_0).wf = true → (Lit.int .u64 a0_1).wf = true → (Lit.int .i64 a0_2).wf = true → (Lit.int .i64 a0_3).wf = true → l1.length ≤ maxLen → l1.length * 1 ≤ 140737488351232 → (∀ x ∈ l1,(Lit.int .u8 x).wf = true) → l2.length ≤ maxLen → l2.length * 1 ≤ 140737488351232 → (∀ x ∈ l2,(Lit.int .u8 x).wf = true) → ∃ k,l4_ReedsolApart.f k a0_0 a0_1 a0_2 a0_3 l1 l2 = some true
theorem l4_ReedsolApart.walk (P : l4_ReedsolApart.Pure) (a0_0 : Int) (a0_1 : Int) (a0_2 : Int) (a0_3 : Int) (a1 : Option Addr) (len1 cap1 : Nat) (z1 : List Int) (a2 : Option Addr) (len2 cap2 : Nat) (z2 : List Int) (w : World) (w0_0 : (Lit.int .i64 a0_0).wf = true) (w0_1 : (Lit.int .u64 a0_1).wf = true) (w0_2 : (Lit.int .i64 a0_2).wf = true) (w0_3 : (Lit.int .i64 a0_3).wf = true) (w1 : (a1 = none ∧ len1 = 0 ∧ cap1 = 0 ∧ z1 = []) ∨ ∃ x,a1 = some x ∧ len1 ≤ cap1 ∧ cap1 ≤ maxLen ∧ z1.length = cap1 ∧ (∀ i,i < z1.length → w.cell? (x.add i) = some (.int .u8 (z1.getD i 0))) ∧ ∀ n ∈ z1,(Lit.int .u8 n).wf = true) (y1 : len1 * 1 ≤ 140737488351232) (w2 : (a2 = none ∧ len2 = 0 ∧ cap2 = 0 ∧ z2 = []) ∨ ∃ x,a2 = some x ∧ len2 ≤ cap2 ∧ cap2 ≤ maxLen ∧ z2.length = cap2 ∧ (∀ i,i < z2.length → w.cell? (x.add i) = some (.int .u8 (z2.getD i 0))) ∧ ∀ n ∈ z2,(Lit.int .u8 n).wf = true) (y2 : len2 * 1 ≤ 140737488351232) :
  Calls Try.prog 6 #[.agg #[.int .i64 a0_0,.int .u64 a0_1,.int .i64 a0_2,.int .i64 a0_3],.slice a1 len1 cap1,.slice a2 len2 cap2] w fun e w' => e = .returned (.bool true) ∧ Below w.heap.size w w' := by
 obtain ⟨l1,rfl,hr1,hm1,hw1,hc1⟩ := ReadsInt.ofRowC w1
 obtain ⟨l2,rfl,hr2,hm2,hw2,hc2⟩ := ReadsInt.ofRowC w2
 obtain ⟨k,h⟩ := P a0_0 a0_1 a0_2 a0_3 l1 l2 w0_0 w0_1 w0_2 w0_3 hm1 y1 hw1 hm2 y2 hw2
 refine (l4_ReedsolApart.calls k a0_0 a0_1 a0_2 a0_3 _ _ l1 _ _ l2 true rfl w (Kd.C_of_reads (d := (0 : Int)) (h1 := fun _ => rfl) hr1) hc1 (Kd.C_of_reads (d := (0 : Int)) (h1 := fun _ => rfl) hr2) hc2 h).mono ?_
 rintro e w' ⟨rfl,hd⟩
 exact ⟨rfl,hd⟩


end Go.Proofs.Ytdhnjnkjhfomiaa.P

