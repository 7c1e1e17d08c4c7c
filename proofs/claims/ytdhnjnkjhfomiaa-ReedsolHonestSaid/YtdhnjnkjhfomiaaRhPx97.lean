import Derived.Test.YtdhnjnkjhfomiaaRhQVstr
import Derived.Test.YtdhnjnkjhfomiaaRhPx0
import Derived.Test.YtdhnjnkjhfomiaaRhPx6
import Derived.Test.YtdhnjnkjhfomiaaRhPx9
import Derived.Test.YtdhnjnkjhfomiaaRhPx11
import Derived.Test.YtdhnjnkjhfomiaaRhPx13
import Derived.Test.YtdhnjnkjhfomiaaRhPx18
import Derived.Test.YtdhnjnkjhfomiaaRhPx60
-- printed by mk.sh
namespace Go.Proofs.Ytdhnjnkjhfomiaa.P
open Go.RowKit YtdhnjnkjhfomiaaW.PrintWords YtdhnjnkjhfomiaaW.PrintLast YtdhnjnkjhfomiaaW.PrintMore
attribute [local go_sem] max2_int min2_int max_two min_two max_three min_three max_four min_four   -- for this text's walks alone
set_option linter.unusedVariables false
set_option linter.unusedSimpArgs false

mutual
def l4_RH.j0 : Nat → List Int → List Int → Bool → Int → Int → Int → Int → Option (Bool)
 | 0,_,_,_,_,_,_,_ => none
 | k + 1,x1,x2,x34,z0,z1,z2,z3 => if x34 = true then ((l4_knows.f k).bind fun t739 => (some t739)) else (if 0 ≤ (IntKind.u64.wrap (z0)) then (if 0 ≤ (mn (x1.length : Int) (wrap64 ((shl .i64 1 (IntKind.u64.wrap (z0))) - 1))) then (if (mn (x1.length : Int) (wrap64 ((shl .i64 1 (IntKind.u64.wrap (z0))) - 1)) : Int).toNat ≤ 281474976710656 then (l4_RH.l0 k x1 x2 (shl .i64 1 (IntKind.u64.wrap (z0))) (List.replicate (mn (x1.length : Int) (wrap64 ((shl .i64 1 (IntKind.u64.wrap (z0))) - 1)) : Int).toNat 0) 0 z0 z1 z2 z3) else (none)) else (none)) else (none))
def l4_RH.l0 : Nat → List Int → List Int → Int → List Int → Int → Int → Int → Int → Int → Option (Bool)
 | 0,_,_,_,_,_,_,_,_,_ => none
 | k + 1,x1,x2,x7,x8,x9,z0,z1,z2,z3 => if x9 < (x8.length : Int) then (if 0 ≤ x9 then (if x9 < (x1.length : Int) then (if x7 = 0 then (none) else (l4_RH.l0 k x1 x2 x7 (x8.set (x9 : Int).toNat ((Int.tmod (wrap64 (rd x1 x9)) x7) % 256)) (wrap64 (x9 + 1)) z0 z1 z2 z3)) else (none)) else (none)) else (if 0 ≤ (x8.length : Int) then (if ((x8.length : Int) : Int).toNat ≤ 281474976710656 then (l4_RH.l1 k x2 x8 ([] : List Int) (List.replicate ((x8.length : Int) : Int).toNat false) 0 0 z0 z1 z2 z3) else (none)) else (none))
def l4_RH.l1 : Nat → List Int → List Int → List Int → List Bool → Int → Int → Int → Int → Int → Int → Option (Bool)
 | 0,_,_,_,_,_,_,_,_,_,_ => none
 | k + 1,x2,x8,x10,x11,x12,x13,z0,z1,z2,z3 => if x13 < (x2.length : Int) then (l4_RH.j3 k x2 x8 x10 x11 x12 x13 (decide ((x8.length : Int) > 0)) z0 z1 z2 z3) else (l4_RH.j3 k x2 x8 x10 x11 x12 x13 false z0 z1 z2 z3)
def l4_RH.j3 : Nat → List Int → List Int → List Int → List Bool → Int → Int → Bool → Int → Int → Int → Int → Option (Bool)
 | 0,_,_,_,_,_,_,_,_,_,_,_ => none
 | k + 1,x2,x8,x10,x11,x12,x13,x75,z0,z1,z2,z3 => if x75 = true then (if 0 ≤ x13 then (if x13 < (x2.length : Int) then (if (x8.length : Int) = 0 then (none) else (if x10.length < 17592186044416 then ((some (x10 ++ [Int.tmod (wrap64 ((Int.tmod (rd x2 x13) (x8.length : Int)) + (x8.length : Int))) (x8.length : Int)] : List Int)).bind fun y749 => (if 0 ≤ (Int.tmod (wrap64 ((Int.tmod (rd x2 x13) (x8.length : Int)) + (x8.length : Int))) (x8.length : Int)) then (if (Int.tmod (wrap64 ((Int.tmod (rd x2 x13) (x8.length : Int)) + (x8.length : Int))) (x8.length : Int)) < (x11.length : Int) then (if (rdOf false x11 (Int.tmod (wrap64 ((Int.tmod (rd x2 x13) (x8.length : Int)) + (x8.length : Int))) (x8.length : Int)) = true) then (l4_RH.l1 k x2 x8 y749 (x11.set ((Int.tmod (wrap64 ((Int.tmod (rd x2 x13) (x8.length : Int)) + (x8.length : Int))) (x8.length : Int)) : Int).toNat true) x12 (wrap64 (x13 + 1)) z0 z1 z2 z3) else (l4_RH.l1 k x2 x8 y749 (x11.set ((Int.tmod (wrap64 ((Int.tmod (rd x2 x13) (x8.length : Int)) + (x8.length : Int))) (x8.length : Int)) : Int).toNat true) (wrap64 (x12 + 1)) (wrap64 (x13 + 1)) z0 z1 z2 z3)) else (none)) else (none))) else (none))) else (none)) else (none)) else ((reedsol_Decode.f k z0 z1 z2 z3 x8 x10).bind fun bt755 => ((l4_num.f bt755.2.2).bind fun t760 => (if t760 = 0 then ((reedsol_Encode.f k z0 z1 z2 z3 bt755.1).bind fun bt763 => ((reedsol_Member.f k z0 z1 z2 z3 bt763.1).bind fun bt767 => ((l4_num.f bt763.2).bind fun t769 => ((l4_num.f bt767.2).bind fun t770 => (if (wrap64 (t769 + t770)) = 0 then (if bt767.1 = true then (l4_RH.j4 k x8 x11 x12 bt755.1 bt755.2.1 bt763.1 ((bt763.1.length : Int) != (x8.length : Int)) z0 z1 z2 z3) else (l4_RH.j4 k x8 x11 x12 bt755.1 bt755.2.1 bt763.1 true z0 z1 z2 z3)) else (l4_RH.j4 k x8 x11 x12 bt755.1 bt755.2.1 bt763.1 true z0 z1 z2 z3)))))) else (if (bt755.1.length : Int) = 0 then (if bt755.2.1 = 0 then ((l4_num.f bt755.2.2).bind fun t761 => (if ((t761 == 331) == (decide ((x8.length : Int) ≥ z3))) = true then ((l4_num.f bt755.2.2).bind fun t762 => (some ((t762 == 5) == (decide ((x8.length : Int) < z3))))) else (some false))) else (some false)) else (some false)))))
def l4_RH.j4 : Nat → List Int → List Bool → Int → List Int → Int → List Int → Bool → Int → Int → Int → Int → Option (Bool)
 | 0,_,_,_,_,_,_,_,_,_,_,_ => none
 | k + 1,x8,x11,x12,x15,x16,x18,x173,z0,z1,z2,z3 => if x173 = true then (some false) else (l4_RH.l2 k x8 x11 x12 x15 x16 x18 0 0 0 z0 z1 z2 z3)
def l4_RH.l2 : Nat → List Int → List Bool → Int → List Int → Int → List Int → Int → Int → Int → Int → Int → Int → Int → Option (Bool)
 | 0,_,_,_,_,_,_,_,_,_,_,_,_,_ => none
 | k + 1,x8,x11,x12,x15,x16,x18,x22,x23,x24,z0,z1,z2,z3 => if x24 < (x18.length : Int) then (if 0 ≤ x24 then (if x24 < (x8.length : Int) then (if (rd x18 x24) = (rd x8 x24) then (l4_RH.l2 k x8 x11 x12 x15 x16 x18 x22 x23 (wrap64 (x24 + 1)) z0 z1 z2 z3) else (if x24 < (x11.length : Int) then (if rdOf false x11 x24 = true then (l4_RH.l2 k x8 x11 x12 x15 x16 x18 (wrap64 (x22 + 1)) x23 (wrap64 (x24 + 1)) z0 z1 z2 z3) else (l4_RH.l2 k x8 x11 x12 x15 x16 x18 (wrap64 (x22 + 1)) (wrap64 (x23 + 1)) (wrap64 (x24 + 1)) z0 z1 z2 z3)) else (none))) else (none)) else (none)) else ((reedsol_Decode.f k z0 z1 z2 z3 x18 ([] : List Int)).bind fun bt771 => (if x22 = x16 then (if (wrap64 ((wrap64 (2 * x23)) + x12)) ≤ z3 then ((l4_num.f bt771.2.2).bind fun t776 => (if t776 = 0 then (if bt771.2.1 = 0 then (some ((strOfNums bt771.1).toList == (strOfNums x15).toList)) else (some false)) else (some false))) else (some false)) else (some false)))
end
def l4_RH.f (k : Nat) (b0 : Int) (b1 : Int) (b2 : Int) (b3 : Int) (l1 : List Int) (l2 : List Int) : Option (Bool) := (r4_Check.f k b0 b1 b2 b3).bind fun t737 => (if t737 = 0 then ((l4_knows.f k).bind fun t738 => (l4_RH.j0 k l1 l2 (!t738) b0 b1 b2 b3)) else (l4_RH.j0 k l1 l2 true b0 b1 b2 b3))
theorem l4_RH.mono_l : ∀ k,(∀ y0 y1 y2 y3 y4 y5 y6,LeO (l4_RH.j0 k y0 y1 y2 y3 y4 y5 y6) (l4_RH.j0 (k + 1) y0 y1 y2 y3 y4 y5 y6)) ∧ (∀ y0 y1 y2 y3 y4 y5 y6 y7 y8,LeO (l4_RH.l0 k y0 y1 y2 y3 y4 y5 y6 y7 y8) (l4_RH.l0 (k + 1) y0 y1 y2 y3 y4 y5 y6 y7 y8)) ∧ (∀ y0 y1 y2 y3 y4 y5 y6 y7 y8 y9,LeO (l4_RH.l1 k y0 y1 y2 y3 y4 y5 y6 y7 y8 y9) (l4_RH.l1 (k + 1) y0 y1 y2 y3 y4 y5 y6 y7 y8 y9)) ∧ (∀ y0 y1 y2 y3 y4 y5 y6 y7 y8 y9 y10,LeO (l4_RH.j3 k y0 y1 y2 y3 y4 y5 y6 y7 y8 y9 y10) (l4_RH.j3 (k + 1) y0 y1 y2 y3 y4 y5 y6 y7 y8 y9 y10)) ∧ (∀ y0 y1 y2 y3 y4 y5 y6 y7 y8 y9 y10,LeO (l4_RH.j4 k y0 y1 y2 y3 y4 y5 y6 y7 y8 y9 y10) (l4_RH.j4 (k + 1) y0 y1 y2 y3 y4 y5 y6 y7 y8 y9 y10)) ∧ (∀ y0 y1 y2 y3 y4 y5 y6 y7 y8 y9 y10 y11 y12,LeO (l4_RH.l2 k y0 y1 y2 y3 y4 y5 y6 y7 y8 y9 y10 y11 y12) (l4_RH.l2 (k + 1) y0 y1 y2 y3 y4 y5 y6 y7 y8 y9 y10 y11 y12))
 | 0 => ⟨fun _ _ _ _ _ _ _ r h => by simp [l4_RH.j0] at h,fun _ _ _ _ _ _ _ _ _ r h => by simp [l4_RH.l0] at h,fun _ _ _ _ _ _ _ _ _ _ r h => by simp [l4_RH.l1] at h,fun _ _ _ _ _ _ _ _ _ _ _ r h => by simp [l4_RH.j3] at h,fun _ _ _ _ _ _ _ _ _ _ _ r h => by simp [l4_RH.j4] at h,fun _ _ _ _ _ _ _ _ _ _ _ _ _ r h => by simp [l4_RH.l2] at h⟩
 | k + 1 => by
  obtain ⟨ih0,ih1,ih2,ih3,ih4,ih5⟩ := l4_RH.mono_l k
  refine ⟨?_,?_,?_,?_,?_,?_⟩
  ·intro y0 y1 y2 y3 y4 y5 y6
   unfold l4_RH.j0
   repeat' first
   | (with_reducible exact ih0 _ _ _ _ _ _ _)
   | (with_reducible exact ih1 _ _ _ _ _ _ _ _ _)
   | (with_reducible exact ih2 _ _ _ _ _ _ _ _ _ _)
   | (with_reducible exact ih3 _ _ _ _ _ _ _ _ _ _ _)
   | (with_reducible exact ih4 _ _ _ _ _ _ _ _ _ _ _)
   | (with_reducible exact ih5 _ _ _ _ _ _ _ _ _ _ _ _ _)
   | (with_reducible exact l4_knows.mono _)
   | (with_reducible exact r4_Check.mono _ _ _ _ _)
   | (with_reducible exact reedsol_Decode.mono _ _ _ _ _ _ _)
   | (with_reducible exact reedsol_Encode.mono _ _ _ _ _ _)
   | (with_reducible exact reedsol_Member.mono _ _ _ _ _ _)
   | (with_reducible exact LeO.refl _)
   | (with_reducible exact LeO.none _)
   | (with_reducible refine LeO.ite ?_ ?_)
   | (with_reducible refine LeO.bind ?_ (fun _ => ?_))
  ·intro y0 y1 y2 y3 y4 y5 y6 y7 y8
   unfold l4_RH.l0
   repeat' first
   | (with_reducible exact ih0 _ _ _ _ _ _ _)
   | (with_reducible exact ih1 _ _ _ _ _ _ _ _ _)
   | (with_reducible exact ih2 _ _ _ _ _ _ _ _ _ _)
   | (with_reducible exact ih3 _ _ _ _ _ _ _ _ _ _ _)
   | (with_reducible exact ih4 _ _ _ _ _ _ _ _ _ _ _)
   | (with_reducible exact ih5 _ _ _ _ _ _ _ _ _ _ _ _ _)
   | (with_reducible exact l4_knows.mono _)
   | (with_reducible exact r4_Check.mono _ _ _ _ _)
   | (with_reducible exact reedsol_Decode.mono _ _ _ _ _ _ _)
   | (with_reducible exact reedsol_Encode.mono _ _ _ _ _ _)
   | (with_reducible exact reedsol_Member.mono _ _ _ _ _ _)
   | (with_reducible exact LeO.refl _)
   | (with_reducible exact LeO.none _)
   | (with_reducible refine LeO.ite ?_ ?_)
   | (with_reducible refine LeO.bind ?_ (fun _ => ?_))
  ·intro y0 y1 y2 y3 y4 y5 y6 y7 y8 y9
   unfold l4_RH.l1
   repeat' first
   | (with_reducible exact ih0 _ _ _ _ _ _ _)
   | (with_reducible exact ih1 _ _ _ _ _ _ _ _ _)
   | (with_reducible exact ih2 _ _ _ _ _ _ _ _ _ _)
   | (with_reducible exact ih3 _ _ _ _ _ _ _ _ _ _ _)
   | (with_reducible exact ih4 _ _ _ _ _ _ _ _ _ _ _)
   | (with_reducible exact ih5 _ _ _ _ _ _ _ _ _ _ _ _ _)
   | (with_reducible exact l4_knows.mono _)
   | (with_reducible exact r4_Check.mono _ _ _ _ _)
   | (with_reducible exact reedsol_Decode.mono _ _ _ _ _ _ _)
   | (with_reducible exact reedsol_Encode.mono _ _ _ _ _ _)
   | (with_reducible exact reedsol_Member.mono _ _ _ _ _ _)
   | (with_reducible exact LeO.refl _)
   | (with_reducible exact LeO.none _)
   | (with_reducible refine LeO.ite ?_ ?_)
   | (with_reducible refine LeO.bind ?_ (fun _ => ?_))
  ·intro y0 y1 y2 y3 y4 y5 y6 y7 y8 y9 y10
   unfold l4_RH.j3
   repeat' first
   | (with_reducible exact ih0 _ _ _ _ _ _ _)
   | (with_reducible exact ih1 _ _ _ _ _ _ _ _ _)
   | (with_reducible exact ih2 _ _ _ _ _ _ _ _ _ _)
   | (with_reducible exact ih3 _ _ _ _ _ _ _ _ _ _ _)
   | (with_reducible exact ih4 _ _ _ _ _ _ _ _ _ _ _)
   | (with_reducible exact ih5 _ _ _ _ _ _ _ _ _ _ _ _ _)
   | (with_reducible exact l4_knows.mono _)
   | (with_reducible exact r4_Check.mono _ _ _ _ _)
   | (with_reducible exact reedsol_Decode.mono _ _ _ _ _ _ _)
   | (with_reducible exact reedsol_Encode.mono _ _ _ _ _ _)
   | (with_reducible exact reedsol_Member.mono _ _ _ _ _ _)
   | (with_reducible exact LeO.refl _)
   | (with_reducible exact LeO.none _)
   | (with_reducible refine LeO.ite ?_ ?_)
   | (with_reducible refine LeO.bind ?_ (fun _ => ?_))
  ·intro y0 y1 y2 y3 y4 y5 y6 y7 y8 y9 y10
   unfold l4_RH.j4
   repeat' first
   | (with_reducible exact ih0 _ _ _ _ _ _ _)
   | (with_reducible exact ih1 _ _ _ _ _ _ _ _ _)
   | (with_reducible exact ih2 _ _ _ _ _ _ _ _ _ _)
   | (with_reducible exact ih3 _ _ _ _ _ _ _ _ _ _ _)
   | (with_reducible exact ih4 _ _ _ _ _ _ _ _ _ _ _)
   | (with_reducible exact ih5 _ _ _ _ _ _ _ _ _ _ _ _ _)
   | (with_reducible exact l4_knows.mono _)
   | (with_reducible exact r4_Check.mono _ _ _ _ _)
   | (with_reducible exact reedsol_Decode.mono _ _ _ _ _ _ _)
   | (with_reducible exact reedsol_Encode.mono _ _ _ _ _ _)
   | (with_reducible exact reedsol_Member.mono _ _ _ _ _ _)
   | (with_reducible exact LeO.refl _)
   | (with_reducible exact LeO.none _)
   | (with_reducible refine LeO.ite ?_ ?_)
   | (with_reducible refine LeO.bind ?_ (fun _ => ?_))
  ·intro y0 y1 y2 y3 y4 y5 y6 y7 y8 y9 y10 y11 y12
   unfold l4_RH.l2
   repeat' first
   | (with_reducible exact ih0 _ _ _ _ _ _ _)
   | (with_reducible exact ih1 _ _ _ _ _ _ _ _ _)
   | (with_reducible exact ih2 _ _ _ _ _ _ _ _ _ _)
   | (with_reducible exact ih3 _ _ _ _ _ _ _ _ _ _ _)
   | (with_reducible exact ih4 _ _ _ _ _ _ _ _ _ _ _)
   | (with_reducible exact ih5 _ _ _ _ _ _ _ _ _ _ _ _ _)
   | (with_reducible exact l4_knows.mono _)
   | (with_reducible exact r4_Check.mono _ _ _ _ _)
   | (with_reducible exact reedsol_Decode.mono _ _ _ _ _ _ _)
   | (with_reducible exact reedsol_Encode.mono _ _ _ _ _ _)
   | (with_reducible exact reedsol_Member.mono _ _ _ _ _ _)
   | (with_reducible exact LeO.refl _)
   | (with_reducible exact LeO.none _)
   | (with_reducible refine LeO.ite ?_ ?_)
   | (with_reducible refine LeO.bind ?_ (fun _ => ?_))
theorem l4_RH.mono : ∀ a0 a1 a2 a3 a4 a5 k,LeO (l4_RH.f k a0 a1 a2 a3 a4 a5) (l4_RH.f (k + 1) a0 a1 a2 a3 a4 a5) := by
 intro a0 a1 a2 a3 a4 a5 k
 obtain ⟨ih0,ih1,ih2,ih3,ih4,ih5⟩ := l4_RH.mono_l k
 unfold l4_RH.f
 repeat' first
   | (with_reducible exact ih0 _ _ _ _ _ _ _)
   | (with_reducible exact ih1 _ _ _ _ _ _ _ _ _)
   | (with_reducible exact ih2 _ _ _ _ _ _ _ _ _ _)
   | (with_reducible exact ih3 _ _ _ _ _ _ _ _ _ _ _)
   | (with_reducible exact ih4 _ _ _ _ _ _ _ _ _ _ _)
   | (with_reducible exact ih5 _ _ _ _ _ _ _ _ _ _ _ _ _)
   | (with_reducible exact l4_knows.mono _)
   | (with_reducible exact r4_Check.mono _ _ _ _ _)
   | (with_reducible exact reedsol_Decode.mono _ _ _ _ _ _ _)
   | (with_reducible exact reedsol_Encode.mono _ _ _ _ _ _)
   | (with_reducible exact reedsol_Member.mono _ _ _ _ _ _)
   | (with_reducible exact LeO.refl _)
   | (with_reducible exact LeO.none _)
   | (with_reducible refine LeO.ite ?_ ?_)
   | (with_reducible refine LeO.bind ?_ (fun _ => ?_))
def l4_RH.T22 : Bool × List (List Nat × List Nat) := (true,[([],[]),([0],[0]),([1],[1]),([2],[2]),([3],[3]),([4,3],[3,4]),([3,5],[3,5]),([6,3],[6]),([7],[7]),([8,7,7],[7,8]),([9,7],[7,9]),([7],[7]),([11,7],[7,11]),([7],[7]),([13,7],[7,13]),([12,14,7],[7,12,14]),([10,15,7],[7,10,15]),([7,16],[7,16]),([17,9],[17]),([18],[18]),([19,18,18],[18,19]),([20,18],[18,20]),([18],[18]),([22,18],[18,22]),([18],[18]),([24,18],[18,24]),([23,25,18],[18,23,25]),([21,26,18],[18,21,26]),([18,27],[18,27]),([28,20,0,1,2,3,4,5,6,7,8,9,10,11,12,13,14,15,16,17,18,19,20,21,22,23,24,25,26,27,28],[28])])
def l4_RH.B22 : List Nat := [0,1,3,7,15,31,63,127,255,511,1023,255,2303,255,8447,30975,65535,131071,262143,524287,1048575,2097151,524287,4718591,524287,17301503,63438847,134217727,268435455,536870911]
theorem l4_RH.tab22 : rtab .any (opsOf Try.f8 22) = l4_RH.T22 := by kernel_rfl
theorem l4_RH.bits22 : waitsOk l4_RH.T22.2 l4_RH.B22 = true := by kernel_rfl
def l4_RH.T32 : Bool × List (List Nat × List Nat) := (true,[([],[]),([],[]),([0,1],[0,1]),([2],[2]),([],[]),([],[]),([4,5],[4,5]),([6],[6]),([3,7],[3,7])])
def l4_RH.B32 : List Nat := [0,0,3,7,0,0,48,112,255]
theorem l4_RH.tab32 : rtab .any (opsOf Try.f8 32) = l4_RH.T32 := by kernel_rfl
theorem l4_RH.bits32 : waitsOk l4_RH.T32.2 l4_RH.B32 = true := by kernel_rfl
theorem l4_RH.no_false {r : Bool} {G : Prop} (hr : r = true) (h : some false = some r) : G := by
 subst hr
 cases h
theorem l4_RH.no_j4 {k : Nat} {x8 : List Int} {x11 : List Bool} {x12 : Int} {x15 : List Int} {x16 : Int} {x18 : List Int} {z0 : Int} {z1 : Int} {z2 : Int} {z3 : Int} {r : Bool} {G : Prop} (hr : r = true) (h : l4_RH.j4 k x8 x11 x12 x15 x16 x18 true z0 z1 z2 z3 = some r) : G := by
 subst hr
 cases k <;> simp [l4_RH.j4] at h
set_option maxHeartbeats 8000000 in
set_option maxRecDepth 100000 in
theorem l4_RH.calls (k : Nat) (b0 : Int) (b1 : Int) (b2 : Int) (b3 : Int) (A1 : Option Addr) (c1 : Nat) (l1 : List Int) (A2 : Option Addr) (c2 : Nat) (l2 : List Int) (r : Bool) (hr9_ : r = true) (w : World) (hr1 : Kd.C (Kd.int .u8) w A1 l1.length l1) (hc1 : l1.length ≤ c1) (hr2 : Kd.C (Kd.int .i64) w A2 l2.length l2) (hc2 : l2.length ≤ c2) (h : l4_RH.f k b0 b1 b2 b3 l1 l2 = some r) :
  Calls Try.prog 8 #[.agg #[.int .i64 b0,.int .u64 b1,.int .i64 b2,.int .i64 b3],.slice A1 l1.length c1,.slice A2 l2.length c2] w fun e w' => e = .returned (.bool r) ∧ Below w.heap.size w w' := by
 have HR9_ := Aside0.mk hr9_
 clear hr9_
 have hu26 := Try.underlying26
 have HR1 := Aside0.mk hr1
 have HC1 := Aside0.mk hc1
 clear hr1 hc1
 have HR2 := Aside0.mk hr2
 have HC2 := Aside0.mk hc2
 clear hr2 hc2
 have HB := aK (Below.refl w.heap.size w)
 have H : ((r4_Check.f k b0 b1 b2 b3).bind fun t737 => (if t737 = 0 then ((l4_knows.f k).bind fun t738 => (l4_RH.j0 k l1 l2 (!t738) b0 b1 b2 b3)) else (l4_RH.j0 k l1 l2 true b0 b1 b2 b3))) = some r := h
 clear h
 have HC4 := Aside0.mk H
 clear H
 go_enter Try.func8,Try.ntmps8
 go_upto_region 1 with (first | ((with_reducible refine gate_dst (N := 3) rfl ?_); (try (refine gate_guard (by rfl) ?_; dsimp only)); refine box_event ?hg (N := 3) ?hd (cs := #[.int .i64 b0,.int .u64 b1,.int .i64 b2,.int .i64 b3]) (t := 26) ?hr ?_; (case hd => rfl); (case hg => rfl); (case hr => first | (go_simp; done) | (go_simp; rfl)); intro gb736 hg w5 hbox hb; have n0_ := aK (below_step (mvh HB.out) hb); have n1_ := aK (hbox); have n2_ := aK ((by rw [hg]; exact (below_size (mvh HB.out)) : w.heap.size ≤ gb736)); have n3_ := aK ((by rw [hg]; exact (below_size (mvh HB.out)) : w.heap.size ≤ gb736)); clear HB; have HB := n0_; have BK736 := n1_; have GW736 := n2_; have GE736 := n3_; clear n0_ n1_ n2_ n3_; clear hb hbox hg))
 (try simp only [Act.put,List.setIfInBounds_toArray,List.set_cons_zero,List.set_cons_succ])
 go_cut [34] (fun v34 wc => ∃ (kq : Nat) (x34_3 : Bool),v34 = .bool x34_3 ∧ Aside0 (l4_RH.j0 kq l1 l2 x34_3 b0 b1 b2 b3 = some r) ∧ Aside0 (kq ≤ k) ∧ Aside0 (wc.heap[gb736]? = some (.cells #[.int .i64 b0,.int .u64 b1,.int .i64 b2,.int .i64 b3] 26 (0,0))) ∧ Aside0 (Below w.heap.size w wc))
 case first =>
  have H := HC4.out
  clear HC4
  replace H := Option.bind_eq_some_iff.mp H
  obtain ⟨t737,A60,H⟩ := H
  try dsimp only at H
  have A6 := Aside0.mk A60
  clear A60
  by_cases c7 : t737 = 0
  rotate_left
  ·rw [if_neg c7] at H
   have c7b0 : (t737 == 0) = false := beq_eq_false_iff_ne.mpr c7
   have c7b1 : (t737 != 0) = true := bne_iff_ne.mpr c7
   (first | rw [c7b0] | (simp only [i64_w,i32_w]; rw [c7b0]) | rw [c7b1] | skip)
   have H' := Aside0.mk H
   clear H
   obtain ⟨hcz12_0,hcz12_1,hcz12_2,hcz12_3,hfz12_0,hfz12_1,hfz12_2,hfz12_3⟩ := cf4 BK736.out
   go_wp2_with (first | (go_at_call 22; (with_reducible refine (r4_Check.calls k b0 b1 b2 b3 t737 _ A6.out).mono ?_); rintro e w13 ⟨rfl,hb⟩; have n0_ := aK (kb BK736.out hb); have n1_ := aK (below_step (mvh HB.out) hb); clear BK736 HB; have BK736 := n0_; have HB := n1_; clear n0_ n1_; (try clear hb)))
   go_meet
   case rel => exact ⟨_,(true),(by first | rfl | (simp; done) | (simp [*]; done) | (simp [wrap64]; done)),H',⟨by first | omega | exact Nat.le_refl _⟩,⟨mvb BK736.out⟩,⟨mvh HB.out⟩⟩
  rw [if_pos c7] at H
  have c7b0 : (t737 == 0) = true := beq_iff_eq.mpr c7
  have c7b1 : (t737 != 0) = false := bne_eq_false_iff_eq.mpr c7
  clear c7
  (first | rw [c7b0] | (simp only [i64_w,i32_w]; rw [c7b0]) | rw [c7b1] | skip)
  replace H := Option.bind_eq_some_iff.mp H
  obtain ⟨t738,A80,H⟩ := H
  try dsimp only at H
  have A8 := Aside0.mk A80
  clear A80
  have H' := Aside0.mk H
  clear H
  obtain ⟨hcz9_0,hcz9_1,hcz9_2,hcz9_3,hfz9_0,hfz9_1,hfz9_2,hfz9_3⟩ := cf4 BK736.out
  go_wp2_with (first | (go_at_call 22; (with_reducible refine (r4_Check.calls k b0 b1 b2 b3 t737 _ A6.out).mono ?_); rintro e w10 ⟨rfl,hb⟩; have n0_ := aK (kb BK736.out hb); have n1_ := aK (below_step (mvh HB.out) hb); clear BK736 HB; have BK736 := n0_; have HB := n1_; clear n0_ n1_; (try clear hb)) | (go_at_call 16; (with_reducible refine (l4_knows.calls k  t738 _ A8.out).mono ?_); rintro e w11 ⟨rfl,hb⟩; have n0_ := aK (kb BK736.out hb); have n1_ := aK (below_step (mvh HB.out) hb); clear BK736 HB; have BK736 := n0_; have HB := n1_; clear n0_ n1_; (try clear hb)))
  go_meet
  case rel => exact ⟨_,(!t738),(by first | rfl | (simp; done) | (simp [*]; done) | (simp [wrap64]; done)),H',⟨by first | omega | exact Nat.le_refl _⟩,⟨mvb BK736.out⟩,⟨mvh HB.out⟩⟩
 case rest =>
  clear HC4
  (try clear c1); (try clear c2); (try clear p2); (try clear p6); (try clear c7); (try clear c7b0); (try clear c7b1); (try clear c8); (try clear hcz12_0); (try clear hcz12_1); (try clear hcz12_2); (try clear hcz12_3); (try clear hcz9_0); (try clear hcz9_1); (try clear hcz9_2); (try clear hcz9_3); (try clear hfz12_0)
  (try clear hfz12_1); (try clear hfz12_2); (try clear hfz12_3); (try clear hfz9_0); (try clear hfz9_1); (try clear hfz9_2); (try clear hfz9_3)
  obtain ⟨kq,x34_3,rfl,HA,HJ3,BK736,HB⟩ := hcut
  cases kq with
  | zero => exact absurd HA.out (by simp [l4_RH.j0])
  | succ kj3 =>
   have H := HA.out
   clear HA
   simp only [l4_RH.j0] at H
   by_cases c14 : x34_3 = true
   ·subst c14
    have H1 : ((l4_knows.f kj3).bind fun t739 => (some t739)) = some r := by rw [if_pos rfl] at H; exact H
    clear H
    have H := H1
    clear H1
    replace H := Option.bind_eq_some_iff.mp H
    obtain ⟨t739,A150,H⟩ := H
    replace H : (some t739) = some r := H
    have A15 := Aside0.mk A150
    clear A150
    obtain rfl := Option.some.inj H
    go_wp2_with (first | (go_at_call 16; (with_reducible refine (l4_knows.calls kj3  t739 _ A15.out).mono ?_); rintro e w16 ⟨rfl,hb⟩; have n0_ := aK (kb BK736.out hb); have n1_ := aK (below_step (mvh HB.out) hb); clear BK736 HB; have BK736 := n0_; have HB := n1_; clear n0_ n1_; (try clear hb)))
    go_ret
    exact ⟨by first | rfl | (simp [errW_none,errW_some] <;> rfl) | (simp [*,errW_none,errW_some] <;> rfl),mvh HB.out⟩
   ·replace c14 := Bool.eq_false_iff.mpr c14
    subst c14
    have H1 : (if 0 ≤ (IntKind.u64.wrap (b0)) then (if 0 ≤ (mn (l1.length : Int) (wrap64 ((shl .i64 1 (IntKind.u64.wrap (b0))) - 1))) then (if (mn (l1.length : Int) (wrap64 ((shl .i64 1 (IntKind.u64.wrap (b0))) - 1)) : Int).toNat ≤ 281474976710656 then (l4_RH.l0 kj3 l1 l2 (shl .i64 1 (IntKind.u64.wrap (b0))) (List.replicate (mn (l1.length : Int) (wrap64 ((shl .i64 1 (IntKind.u64.wrap (b0))) - 1)) : Int).toNat 0) 0 b0 b1 b2 b3) else (none)) else (none)) else (none)) = some r := by rw [if_neg (show ¬ (false = true) by decide)] at H; exact H
    clear H
    have H := H1
    clear H1
    obtain ⟨ji17,hji17⟩ : ∃ j_ : Int,(IntKind.u64.wrap (b0)) = j_ := ⟨_,rfl⟩
    first | rw [hji17] at H | simp only [hji17] at H
    by_cases c18 : 0 ≤ (ji17)
    rotate_left
    ·rw [if_neg c18] at H
     exact absurd H (by simp)

    rw [if_pos c18] at H
    have c18b0 := eq_true c18
    have c18b1 : decide (0 ≤ (ji17)) = true := decide_eq_true c18
    clear c18
    obtain ⟨ji19,hji19⟩ : ∃ j_ : Int,(shl .i64 1 (ji17)) = j_ := ⟨_,rfl⟩
    first | rw [hji19] at H | simp only [hji19] at H
    have hji19_ : (IntKind.i64.wrap (1 * 2 ^ min (ji17).toNat 64)) = ji19 := hji19
    have hji19z : (ji17) ≤ 64 → (IntKind.i64.wrap (1 * 2 ^ (ji17).toNat)) = ji19 := shl_small hji19
    have hji19u : (IntKind.i64.wrap (2 ^ min (ji17).toNat 64)) = ji19 := by have h_ := hji19_; rw [Int.one_mul] at h_; exact h_
    have hji19v : (ji17) ≤ 64 → (IntKind.i64.wrap (2 ^ (ji17).toNat)) = ji19 := fun hle_ => by have h_ := hji19z hle_; rw [Int.one_mul] at h_; exact h_
    have hji19y : (wrap64 (1 * 2 ^ min (ji17).toNat 64)) = ji19 := (i64_w _).symm.trans hji19_
    have hji19x : (ji17) ≤ 64 → (wrap64 (1 * 2 ^ (ji17).toNat)) = ji19 := fun h_ => (i64_w _).symm.trans (hji19z h_)
    obtain ⟨ji20,hji20⟩ : ∃ j_ : Int,(mn (l1.length : Int) (wrap64 ((ji19) - 1))) = j_ := ⟨_,rfl⟩
    first | rw [hji20] at H | simp only [hji20] at H
    have hji20_ : (if (wrap64 ((ji19) - 1)) < (l1.length : Int) then (wrap64 ((ji19) - 1)) else (l1.length : Int)) = ji20 := hji20
    by_cases c21 : 0 ≤ (ji20)
    rotate_left
    ·rw [if_neg c21] at H
     exact absurd H (by simp)
    rw [if_pos c21] at H
    have c21b0 := eq_true c21
    have c21b1 : decide (0 ≤ (ji20)) = true := decide_eq_true c21
    clear c21
    by_cases c22 : (ji20 : Int).toNat ≤ 281474976710656
    rotate_left
    ·rw [if_neg c22] at H
     exact absurd H (by simp)
    rw [if_pos c22] at H
    have c22b0 := eq_true c22
    have c22b1 : decide ((ji20 : Int).toNat ≤ 281474976710656) = true := decide_eq_true c22
    clear c22
    obtain ⟨y740,hy740⟩ : ∃ y_ : List Int,y_ = (List.replicate (ji20 : Int).toNat 0) := ⟨_,rfl⟩
    replace H : (l4_RH.l0 kj3 l1 l2 ji19 y740 0 b0 b1 b2 b3) = some r := by rw [hy740]; exact H
    have Ny740 := Aside0.mk hy740
    clear hy740
    have H' := Aside0.mk H
    clear H
    obtain ⟨hcz23_0,hcz23_1,hcz23_2,hcz23_3,hfz23_0,hfz23_1,hfz23_2,hfz23_3⟩ := cf4 BK736.out
    go_wp2_with (first | ((with_reducible refine gate_dst (N := 46) rfl ?_); (try (refine gate_guard (by rfl) ?_; dsimp only)); refine Kd.R_make (Kd.int .u8) _ 5 rfl (N := 46) rfl 27 _ _ rfl ji20 rfl rfl Try.underlying27 (.int .u8 0) 1 info5 rfl (by decide) (by omega) 0 (ok := fun _ => True) (okp := fun _ => True) rfl (fun _ hk => hk) trivial (of_decide_eq_true (by first | (with_reducible assumption) | assumption)) (Nat.le_trans (Nat.mul_le_mul_right _ (of_decide_eq_true (by first | (with_reducible assumption) | assumption) : ji20.toNat ≤ 281474976710656)) (by omega)) (Below.refl _ _) (Nat.le_refl _) ?_; intro v741 w24 ho25 hb hg_ hnew_; clear hg_ hnew_; (first | rw [← Ny740.out] at ho25 | (simp only [Int.reduceToNat] at ho25; rw [← Ny740.out] at ho25)); have n0_ := aK (Kd.R_lower ho25 (below_size (mvh HB.out))); have n1_ := aK (kb BK736.out hb); have n2_ := aK (below_step (mvh HB.out) hb); clear BK736 HB; have HO742 := n0_; have BK736 := n1_; have HB := n2_; clear n0_ n1_ n2_; clear hb ho25))
    go_loopg [9] kj3 (fun kq v9 w' => ∃ (x8_2 : List Int) (x9_2 : Int),v9 = .int .i64 x9_2 ∧ Aside0 (l4_RH.l0 kq l1 l2 ji19 x8_2 x9_2 b0 b1 b2 b3 = some r) ∧ Aside0 (kq ≤ kj3) ∧ Aside0 (Kd.R (Kd.int .u8) 5 w' w.heap.size (fun _ => True) v741 x8_2) ∧ Aside0 (w'.heap[gb736]? = some (.cells #[.int .i64 b0,.int .u64 b1,.int .i64 b2,.int .i64 b3] 26 (0,0))) ∧ Aside0 (Below w.heap.size w w'))
    case atStart => exact ⟨(y740),(0),(by first | rfl | (simp; done) | (simp [*]; done) | (simp [wrap64]; done)),H',⟨Nat.le_refl _⟩,⟨mvR HO742.out⟩,⟨mvb BK736.out⟩,⟨mvh HB.out⟩⟩
    case round =>
     clear H'
     (try clear c1); (try clear c2); (try clear p2); (try clear p6); (try clear c7); (try clear c7b0); (try clear c7b1); (try clear c8); (try clear c14); (try clear c16); (try clear c18); (try clear c18b0); (try clear c18b1); (try clear c21); (try clear c21b0); (try clear c21b1); (try clear c22); (try clear c22b0)
     (try clear c22b1); (try clear hcz12_0); (try clear hcz12_1); (try clear hcz12_2); (try clear hcz12_3); (try clear hcz23_0); (try clear hcz23_1); (try clear hcz23_2); (try clear hcz23_3); (try clear hcz9_0); (try clear hcz9_1); (try clear hcz9_2); (try clear hcz9_3); (try clear hfz12_0); (try clear hfz12_1)
     (try clear hfz12_2); (try clear hfz12_3); (try clear hfz23_0); (try clear hfz23_1); (try clear hfz23_2); (try clear hfz23_3); (try clear hfz9_0); (try clear hfz9_1); (try clear hfz9_2); (try clear hfz9_3); (try clear p2); (try clear p6)
     obtain ⟨x8_2,x9_2,rfl,HA,HK2,HO_8,BK736,HB⟩ := hrel
     cases gk with
     | zero => exact absurd HA.out (by simp [l4_RH.l0])
     | succ k2 =>
      have H := HA.out
      clear HA
      simp only [l4_RH.l0] at H
      by_cases c26 : x9_2 < (x8_2.length : Int)
      ·rw [if_pos c26] at H
       have c26b0 : decide (x9_2 < (x8_2.length : Int)) = true := decide_eq_true c26
       clear c26
       by_cases c27 : 0 ≤ x9_2
       rotate_left
       ·rw [if_neg c27] at H
        exact absurd H (by simp)
       rw [if_pos c27] at H
       have c27b0 : decide (0 ≤ x9_2) = true := decide_eq_true c27
       clear c27
       by_cases c28 : x9_2 < (l1.length : Int)
       rotate_left
       ·rw [if_neg c28] at H
        exact absurd H (by simp)
       rw [if_pos c28] at H
       have c28b0 : decide (x9_2 < (l1.length : Int)) = true := decide_eq_true c28
       clear c28
       by_cases c29 : ji19 = 0
       ·rw [if_pos c29] at H
        exact absurd H (by simp)
       ·rw [if_neg c29] at H
        have c29b0 : (ji19 == 0) = false := beq_eq_false_iff_ne.mpr c29
        have c29b1 : (ji19 != 0) = true := bne_iff_ne.mpr c29
        obtain ⟨y744,hy744⟩ : ∃ y_ : List Int,y_ = (x8_2.set (x9_2 : Int).toNat ((Int.tmod (wrap64 (rd l1 x9_2)) ji19) % 256)) := ⟨_,rfl⟩
        replace H : (l4_RH.l0 k2 l1 l2 ji19 y744 (wrap64 (x9_2 + 1)) b0 b1 b2 b3) = some r := by rw [hy744]; exact H
        have Ny744 := Aside0.mk hy744
        clear hy744
        have H' := Aside0.mk H
        clear H
        obtain ⟨Ao31,co31,eo31⟩ := Kd.R_slice HO_8.out
        subst eo31
        have p743 : 0 ≤ (x9_2 : Int) := of_decide_eq_true (by first | (with_reducible assumption) | assumption)
        have q743 : x9_2 < (l1.length : Int) := of_decide_eq_true (by first | (with_reducible assumption) | assumption)
        obtain ⟨ad743,e743,hx743_0⟩ := Kd.at_int HR1.out x9_2 p743 q743
        cases e743
        replace hx743_0 := (HB.out.cell (World.block_lt_of_cell? w _ hx743_0)).trans hx743_0
        replace p743 := eq_true p743
        replace q743 := eq_true q743
        have p30 : 0 ≤ (x9_2 : Int) := of_decide_eq_true (by first | (with_reducible assumption) | assumption)
        have q30 : (x9_2 : Int) < ((x8_2.length : Int) : Int) := of_decide_eq_true (by first | (with_reducible assumption) | assumption)
        obtain ⟨go30,co30,eo30,gb30,gl30,cl30,HG30⟩ := Kd.R_form HO_8.out (by omega)
        (first | cases eo30 | (injection eo30 with ea_ en_ ec_; (first | subst ea_ | (injection ea_ with ea_; subst ea_)); subst ec_; clear en_))
        have GB30 := Aside0.mk gb30
        have GG30 := Aside0.mk HG30
        clear gb30 gl30 HG30
        obtain ⟨hx30_0,hf30_0⟩ := Kd.R_celln 0 HO_8.out (x9_2 : Int) p30 q30
        replace p30 := eq_true p30
        replace q30 := eq_true q30
        have HP32 := Kd.R_putg HO_8.out (x9_2 : Int) ((Int.tmod (wrap64 (rd l1 x9_2)) ji19) % 256)
        go_wp2_with (first | ((with_reducible refine gate_store (t := 5) (p := 63) rfl ?_); refine store_event (t := 5) (p := 63) (v := ?vo_w33) (w1 := (wr.setCell ⟨go30,(x9_2 : Int).toNat,none⟩ (.int .u8 ((Int.tmod (wrap64 (rd l1 x9_2)) ji19) % 256)))) ?hg ?ho ?hn ?hr ?_; (case ho => rfl); (case hg => rfl); (case hn => rfl); (case hr => first | (go_simp; done) | (go_simp; rfl)); intro w33 hw; have hg : wr.grownBy w33 (some go30) := (by rw [hw]; exact HP32.2); have hp_ : Kd.R (Kd.int .u8) 5 w33 w.heap.size (fun _ => True) (.slice (some ⟨go30,0,none⟩) x8_2.length co31) y744 := (by rw [hw,Ny744.out]; exact HP32.1); clear HP32; have n0_ := aK (hp_); have n1_ := aK (blk_grown (g := gb736) (o := .cells #[.int .i64 b0,.int .u64 b1,.int .i64 b2,.int .i64 b3] 26 (0,0)) (mvb BK736.out) hg (Kd.R_ne HO_8.out BK736.out (by decide))); have n2_ := aK ((by rw [hw]; exact below_set (HB.out) GB30.out : Below w.heap.size w w33)); clear HO_8 BK736 HB; have HO_8 := n0_; have BK736 := n1_; have HB := n2_; clear n0_ n1_ n2_; clear hg hw hp_))
        go_roundg k2
        case measure => have := HJ3.out; have := HK2.out; omega
        case rel => exact ⟨(y744),(wrap64 (x9_2 + 1)),(by first | rfl | (simp; done) | (simp [*]; done) | (simp [wrap64]; done)),H',⟨by have := HJ3.out; have := HK2.out; omega⟩,⟨mvR HO_8.out⟩,⟨mvb BK736.out⟩,⟨mvh HB.out⟩⟩
      ·rw [if_neg c26] at H
       have c26b0 : decide (x9_2 < (x8_2.length : Int)) = false := decide_eq_false c26
       clear c26
       by_cases c34 : 0 ≤ (x8_2.length : Int)
       rotate_left
       ·rw [if_neg c34] at H
        exact absurd H (by simp)
       rw [if_pos c34] at H
       have c34b0 := eq_true c34
       have c34b1 : decide (0 ≤ (x8_2.length : Int)) = true := decide_eq_true c34
       clear c34
       by_cases c35 : ((x8_2.length : Int) : Int).toNat ≤ 281474976710656
       rotate_left
       ·rw [if_neg c35] at H
        exact absurd H (by simp)
       rw [if_pos c35] at H
       have c35b0 := eq_true c35
       have c35b1 : decide (((x8_2.length : Int) : Int).toNat ≤ 281474976710656) = true := decide_eq_true c35
       clear c35
       obtain ⟨y745,hy745⟩ : ∃ y_ : List Bool,y_ = (List.replicate ((x8_2.length : Int) : Int).toNat false) := ⟨_,rfl⟩
       replace H : (l4_RH.l1 k2 l2 x8_2 ([] : List Int) y745 0 0 b0 b1 b2 b3) = some r := by rw [hy745]; exact H
       have Ny745 := Aside0.mk hy745
       clear hy745
       have H' := Aside0.mk H
       clear H
       obtain ⟨Ao36,co36,eo36⟩ := Kd.R_slice HO_8.out
       subst eo36
       go_wp2_with (first | ((with_reducible refine gate_dst (N := 66) rfl ?_); (try (refine gate_guard (by rfl) ?_; dsimp only)); refine Kd.R_make Kd.bool _ 4 rfl (N := 66) rfl 54 _ _ rfl (x8_2.length : Int) rfl rfl Try.underlying54 (.bool false) 1 info4 rfl (by decide) (by omega) false (ok := fun _ => True) (okp := fun _ => True) rfl (fun _ hk => hk) trivial (of_decide_eq_true (by first | (with_reducible assumption) | assumption)) (Nat.le_trans (Nat.mul_le_mul_right _ (of_decide_eq_true (by first | (with_reducible assumption) | assumption) : (x8_2.length : Int).toNat ≤ 281474976710656)) (by omega)) (Below.refl _ _) (Nat.le_refl _) ?_; intro v746 w37 ho38 hb hg_ hnew_; clear hg_ hnew_; (first | rw [← Ny745.out] at ho38 | (simp only [Int.reduceToNat] at ho38; rw [← Ny745.out] at ho38)); have n0_ := aK (Kd.R_below (mvR HO_8.out) hb); have n1_ := aK (Kd.R_lower ho38 (below_size (mvh HB.out))); have n2_ := aK (kb BK736.out hb); have n3_ := aK (below_step (mvh HB.out) hb); clear HO_8 BK736 HB; have HO_8 := n0_; have HO747 := n1_; have BK736 := n2_; have HB := n3_; clear n0_ n1_ n2_ n3_; clear hb ho38))
       go_loopg [10,12,13] k2 (fun kq v10 v12 v13 w' => ∃ (x10_3 : List Int) (x11_3 : List Bool) (x12_3 : Int) (x13_3 : Int),v12 = .int .i64 x12_3 ∧ v13 = .int .i64 x13_3 ∧ Aside0 (l4_RH.l1 kq l2 x8_2 x10_3 x11_3 x12_3 x13_3 b0 b1 b2 b3 = some r) ∧ Aside0 (kq ≤ k2) ∧ Aside0 (Kd.R (Kd.int .u8) 5 w' w.heap.size (fun _ => True) (.slice Ao36 x8_2.length co36) x8_2) ∧ Aside0 (Kd.R (Kd.int .i64) 3 w' w.heap.size (fun _ => True) v10 x10_3) ∧ Aside0 (Kd.R Kd.bool 4 w' w.heap.size (fun _ => True) v746 x11_3) ∧ Aside0 (w'.heap[gb736]? = some (.cells #[.int .i64 b0,.int .u64 b1,.int .i64 b2,.int .i64 b3] 26 (0,0))) ∧ Aside0 (Below w.heap.size w w'))
       case atStart => exact ⟨(([] : List Int)),(y745),(0),(0),(by first | rfl | (simp; done) | (simp [*]; done) | (simp [wrap64]; done)),(by first | rfl | (simp; done) | (simp [*]; done) | (simp [wrap64]; done)),H',⟨Nat.le_refl _⟩,⟨mvR HO_8.out⟩,⟨by first | exact Kd.R_nil _ _ _ _ _ | exact Kd.N_nil _ _ _ _ _ | exact Kd.V_nil _ _ _ _ _ | exact Kd.Q_nil _ _ _ _ _ | exact Kd.S_nil _ _ _ _ _⟩,⟨mvR HO747.out⟩,⟨mvb BK736.out⟩,⟨mvh HB.out⟩⟩
       case round =>
        clear H'
        (try clear c1); (try clear c2); (try clear p2); (try clear c3); (try clear p3); (try clear q3); (try clear hx3); (try clear hf3); (try clear p6); (try clear c7); (try clear c7b0); (try clear c7b1); (try clear p7); (try clear q7); (try clear hx7); (try clear c8); (try clear c14); (try clear c16)
        (try clear c18); (try clear c18b0); (try clear c18b1); (try clear c21); (try clear c21b0); (try clear c21b1); (try clear c22); (try clear c22b0); (try clear c22b1); (try clear c26); (try clear c26b0); (try clear c27); (try clear c27b0); (try clear c28); (try clear c28b0); (try clear c29)
        (try clear c29b0); (try clear c29b1); (try clear p30); (try clear q30); (try clear hx30); (try clear hf30); (try clear c34); (try clear c34b0); (try clear c34b1); (try clear c35); (try clear c35b0); (try clear c35b1); (try clear hcz12_0); (try clear hcz12_1); (try clear hcz12_2); (try clear hcz12_3)
        (try clear hcz23_0); (try clear hcz23_1); (try clear hcz23_2); (try clear hcz23_3); (try clear hcz9_0); (try clear hcz9_1); (try clear hcz9_2); (try clear hcz9_3); (try clear hfz12_0); (try clear hfz12_1); (try clear hfz12_2); (try clear hfz12_3); (try clear hfz23_0); (try clear hfz23_1)
        (try clear hfz23_2); (try clear hfz23_3); (try clear hfz9_0); (try clear hfz9_1); (try clear hfz9_2); (try clear hfz9_3); (try clear hx30_0); (try clear hx743_0); (try clear p2); (try clear p30); (try clear p6); (try clear p743); (try clear q30); (try clear q743)
        obtain ⟨x10_3,x11_3,x12_3,x13_3,rfl,rfl,HA,HK3,HO_8,HO_10,HO_11,BK736,HB⟩ := hrel
        cases gk with
        | zero => exact absurd HA.out (by simp [l4_RH.l1])
        | succ k3 =>
         have H := HA.out
         clear HA
         simp only [l4_RH.l1] at H
         have HC39 := Aside0.mk H
         clear H
         go_upto_region 13 with (fail)
         go_cut [75] (fun v75 wc => ∃ (kq : Nat) (x75_38 : Bool),v75 = .bool x75_38 ∧ Aside0 (l4_RH.j3 kq l2 x8_2 x10_3 x11_3 x12_3 x13_3 x75_38 b0 b1 b2 b3 = some r) ∧ Aside0 (kq ≤ k3) ∧ Aside0 (Kd.R (Kd.int .u8) 5 wc w.heap.size (fun _ => True) (.slice Ao36 x8_2.length co36) x8_2) ∧ Aside0 (Kd.R (Kd.int .i64) 3 wc w.heap.size (fun _ => True) u10 x10_3) ∧ Aside0 (Kd.R Kd.bool 4 wc w.heap.size (fun _ => True) v746 x11_3) ∧ Aside0 (wc.heap[gb736]? = some (.cells #[.int .i64 b0,.int .u64 b1,.int .i64 b2,.int .i64 b3] 26 (0,0))) ∧ Aside0 (Below w.heap.size w wc))
         case first =>
          have H := HC39.out
          clear HC39
          by_cases c40 : x13_3 < (l2.length : Int)
          ·rw [if_pos c40] at H
           have c40b0 : decide (x13_3 < (l2.length : Int)) = true := decide_eq_true c40
           clear c40
           (first | rw [c40b0] | (simp only [i64_w,i32_w]; rw [c40b0]) | rw [c40b1] | skip)
           have H' := Aside0.mk H
           clear H
           go_wp2
           go_meet
           case rel => exact ⟨_,(decide ((x8_2.length : Int) > 0)),(by first | rfl | (simp; done) | (simp [*]; done) | (simp [wrap64]; done)),H',⟨by have := HJ3.out; have := HK2.out; have := HK3.out; first | omega | exact Nat.le_refl _⟩,⟨mvR HO_8.out⟩,⟨mvR HO_10.out⟩,⟨mvR HO_11.out⟩,⟨mvb BK736.out⟩,⟨mvh HB.out⟩⟩
          ·rw [if_neg c40] at H
           have c40b0 : decide (x13_3 < (l2.length : Int)) = false := decide_eq_false c40
           clear c40
           (first | rw [c40b0] | (simp only [i64_w,i32_w]; rw [c40b0]) | rw [c40b1] | skip)
           have H' := Aside0.mk H
           clear H
           go_wp2
           go_meet
           case rel => exact ⟨_,(false),(by first | rfl | (simp; done) | (simp [*]; done) | (simp [wrap64]; done)),H',⟨by have := HJ3.out; have := HK2.out; have := HK3.out; first | omega | exact Nat.le_refl _⟩,⟨mvR HO_8.out⟩,⟨mvR HO_10.out⟩,⟨mvR HO_11.out⟩,⟨mvb BK736.out⟩,⟨mvh HB.out⟩⟩
         case rest =>
          clear HC39
          (try clear c1); (try clear c2); (try clear p2); (try clear c3); (try clear p3); (try clear q3); (try clear hx3); (try clear hf3); (try clear c4); (try clear p6); (try clear c7); (try clear c7b0); (try clear c7b1); (try clear p7); (try clear q7); (try clear hx7); (try clear c8); (try clear c14)
          (try clear c16); (try clear c18); (try clear c18b0); (try clear c18b1); (try clear c21); (try clear c21b0); (try clear c21b1); (try clear c22); (try clear c22b0); (try clear c22b1); (try clear c26); (try clear c26b0); (try clear c27); (try clear c27b0); (try clear c28); (try clear c28b0)
          (try clear c29); (try clear c29b0); (try clear c29b1); (try clear p30); (try clear q30); (try clear hx30); (try clear hf30); (try clear c34); (try clear c34b0); (try clear c34b1); (try clear c35); (try clear c35b0); (try clear c35b1); (try clear c40); (try clear c40b0); (try clear c40b1)
          (try clear hcz12_0); (try clear hcz12_1); (try clear hcz12_2); (try clear hcz12_3); (try clear hcz23_0); (try clear hcz23_1); (try clear hcz23_2); (try clear hcz23_3); (try clear hcz9_0); (try clear hcz9_1); (try clear hcz9_2); (try clear hcz9_3); (try clear hfz12_0); (try clear hfz12_1)
          (try clear hfz12_2); (try clear hfz12_3); (try clear hfz23_0); (try clear hfz23_1); (try clear hfz23_2); (try clear hfz23_3); (try clear hfz9_0); (try clear hfz9_1); (try clear hfz9_2); (try clear hfz9_3); (try clear hx30_0); (try clear hx743_0); (try clear p2); (try clear p3); (try clear p30)
          (try clear p6); (try clear p7); (try clear p743); (try clear q3); (try clear q30); (try clear q7); (try clear q743)
          obtain ⟨kq,x75_38,rfl,HA,HJ38,HO_8,HO_10,HO_11,BK736,HB⟩ := hcut
          cases kq with
          | zero => exact absurd HA.out (by simp [l4_RH.j3])
          | succ kj38 =>
           have H := HA.out
           clear HA
           simp only [l4_RH.j3] at H
           by_cases c41 : x75_38 = true
           ·subst c41
            have H1 : (if 0 ≤ x13_3 then (if x13_3 < (l2.length : Int) then (if (x8_2.length : Int) = 0 then (none) else (if x10_3.length < 17592186044416 then ((some (x10_3 ++ [Int.tmod (wrap64 ((Int.tmod (rd l2 x13_3) (x8_2.length : Int)) + (x8_2.length : Int))) (x8_2.length : Int)] : List Int)).bind fun y749 => (if 0 ≤ (Int.tmod (wrap64 ((Int.tmod (rd l2 x13_3) (x8_2.length : Int)) + (x8_2.length : Int))) (x8_2.length : Int)) then (if (Int.tmod (wrap64 ((Int.tmod (rd l2 x13_3) (x8_2.length : Int)) + (x8_2.length : Int))) (x8_2.length : Int)) < (x11_3.length : Int) then (if (rdOf false x11_3 (Int.tmod (wrap64 ((Int.tmod (rd l2 x13_3) (x8_2.length : Int)) + (x8_2.length : Int))) (x8_2.length : Int)) = true) then (l4_RH.l1 kj38 l2 x8_2 y749 (x11_3.set ((Int.tmod (wrap64 ((Int.tmod (rd l2 x13_3) (x8_2.length : Int)) + (x8_2.length : Int))) (x8_2.length : Int)) : Int).toNat true) x12_3 (wrap64 (x13_3 + 1)) b0 b1 b2 b3) else (l4_RH.l1 kj38 l2 x8_2 y749 (x11_3.set ((Int.tmod (wrap64 ((Int.tmod (rd l2 x13_3) (x8_2.length : Int)) + (x8_2.length : Int))) (x8_2.length : Int)) : Int).toNat true) (wrap64 (x12_3 + 1)) (wrap64 (x13_3 + 1)) b0 b1 b2 b3)) else (none)) else (none))) else (none))) else (none)) else (none)) = some r := by rw [if_pos rfl] at H; exact H
            clear H
            have H := H1
            clear H1
            by_cases c42 : 0 ≤ x13_3
            rotate_left
            ·rw [if_neg c42] at H
             exact absurd H (by simp)
            rw [if_pos c42] at H
            have c42b0 : decide (0 ≤ x13_3) = true := decide_eq_true c42
            clear c42
            by_cases c43 : x13_3 < (l2.length : Int)
            rotate_left
            ·rw [if_neg c43] at H
             exact absurd H (by simp)
            rw [if_pos c43] at H
            have c43b0 : decide (x13_3 < (l2.length : Int)) = true := decide_eq_true c43
            clear c43
            by_cases c44 : (x8_2.length : Int) = 0
            ·rw [if_pos c44] at H
             exact absurd H (by simp)
            ·rw [if_neg c44] at H
             have c44b0 : ((x8_2.length : Int) == 0) = false := beq_eq_false_iff_ne.mpr c44
             have c44b1 : ((x8_2.length : Int) != 0) = true := bne_iff_ne.mpr c44
             have c44b2 : ¬ (x8_2 = []) := fun h_ => c44 (by rw [h_]; rfl)
             by_cases c45 : x10_3.length < 17592186044416
             rotate_left
             ·rw [if_neg c45] at H
              exact absurd H (by simp)
             rw [if_pos c45] at H
             have LMc45 := Aside0.mk c45
             clear c45
             obtain ⟨y749,hy749⟩ : ∃ y_ : List Int,y_ = (x10_3 ++ [Int.tmod (wrap64 ((Int.tmod (rd l2 x13_3) (x8_2.length : Int)) + (x8_2.length : Int))) (x8_2.length : Int)]) := ⟨_,rfl⟩
             replace H : (if 0 ≤ (Int.tmod (wrap64 ((Int.tmod (rd l2 x13_3) (x8_2.length : Int)) + (x8_2.length : Int))) (x8_2.length : Int)) then (if (Int.tmod (wrap64 ((Int.tmod (rd l2 x13_3) (x8_2.length : Int)) + (x8_2.length : Int))) (x8_2.length : Int)) < (x11_3.length : Int) then (if (rdOf false x11_3 (Int.tmod (wrap64 ((Int.tmod (rd l2 x13_3) (x8_2.length : Int)) + (x8_2.length : Int))) (x8_2.length : Int)) = true) then (l4_RH.l1 kj38 l2 x8_2 y749 (x11_3.set ((Int.tmod (wrap64 ((Int.tmod (rd l2 x13_3) (x8_2.length : Int)) + (x8_2.length : Int))) (x8_2.length : Int)) : Int).toNat true) x12_3 (wrap64 (x13_3 + 1)) b0 b1 b2 b3) else (l4_RH.l1 kj38 l2 x8_2 y749 (x11_3.set ((Int.tmod (wrap64 ((Int.tmod (rd l2 x13_3) (x8_2.length : Int)) + (x8_2.length : Int))) (x8_2.length : Int)) : Int).toNat true) (wrap64 (x12_3 + 1)) (wrap64 (x13_3 + 1)) b0 b1 b2 b3)) else (none)) else (none)) = some r := by rw [hy749]; exact H
             have Ny749 := Aside0.mk hy749
             clear hy749
             obtain ⟨ji46,hji46⟩ : ∃ j_ : Int,(Int.tmod (wrap64 ((Int.tmod (rd l2 x13_3) (x8_2.length : Int)) + (x8_2.length : Int))) (x8_2.length : Int)) = j_ := ⟨_,rfl⟩
             first | rw [hji46] at H | simp only [hji46] at H
             (try rw [hji46] at Ny749)
             by_cases c47 : 0 ≤ (ji46)
             rotate_left
             ·rw [if_neg c47] at H
              exact absurd H (by simp)
             rw [if_pos c47] at H
             have c47b0 : decide (0 ≤ (ji46)) = true := decide_eq_true c47
             clear c47
             by_cases c48 : (ji46) < (x11_3.length : Int)
             rotate_left
             ·rw [if_neg c48] at H
              exact absurd H (by simp)
             rw [if_pos c48] at H
             have c48b0 : decide ((ji46) < (x11_3.length : Int)) = true := decide_eq_true c48
             clear c48
             obtain ⟨bq49,hbq49⟩ : ∃ b_ : Bool,b_ = (rdOf false x11_3 (ji46)) := ⟨_,rfl⟩
             replace H : (if (bq49 = true) then (l4_RH.l1 kj38 l2 x8_2 y749 (x11_3.set ((ji46) : Int).toNat true) x12_3 (wrap64 (x13_3 + 1)) b0 b1 b2 b3) else (l4_RH.l1 kj38 l2 x8_2 y749 (x11_3.set ((ji46) : Int).toNat true) (wrap64 (x12_3 + 1)) (wrap64 (x13_3 + 1)) b0 b1 b2 b3)) = some r := by rw [← hbq49] at H; exact H
             have Nbq49 := Aside0.mk hbq49
             clear hbq49
             by_cases c50 : (bq49 = true)
             ·subst c50
              have H1 : (l4_RH.l1 kj38 l2 x8_2 y749 (x11_3.set ((ji46) : Int).toNat true) x12_3 (wrap64 (x13_3 + 1)) b0 b1 b2 b3) = some r := by rw [if_pos rfl] at H; exact H
              clear H
              have H := H1
              clear H1
              obtain ⟨y753,hy753⟩ : ∃ y_ : List Bool,y_ = (x11_3.set ((ji46) : Int).toNat true) := ⟨_,rfl⟩
              replace H : (l4_RH.l1 kj38 l2 x8_2 y749 y753 x12_3 (wrap64 (x13_3 + 1)) b0 b1 b2 b3) = some r := by rw [hy753]; exact H
              have Ny753 := Aside0.mk hy753
              clear hy753
              have H' := Aside0.mk H
              clear H
              have p748 : 0 ≤ (x13_3 : Int) := of_decide_eq_true (by first | (with_reducible assumption) | assumption)
              have q748 : x13_3 < (l2.length : Int) := of_decide_eq_true (by first | (with_reducible assumption) | assumption)
              obtain ⟨ad748,e748,hx748_0⟩ := Kd.at_int HR2.out x13_3 p748 q748
              cases e748
              replace hx748_0 := (HB.out.cell (World.block_lt_of_cell? w _ hx748_0)).trans hx748_0
              replace p748 := eq_true p748
              replace q748 := eq_true q748
              go_wp2_with (first | ((with_reducible refine gate_builtin (b := .append) (xs := #[.tmp 91,.tmp 93]) rfl ?_); (try (refine gate_guard (by rfl) ?_; dsimp only)); at_builtin; refine Kd.R_append (Kd.int .i64) (w0 := w) w.heap.size rfl (.tmp 91) (.tmp 93) 53 3 (.int .i64 0) 8 rfl Try.underlying53 info3 rfl (by decide) (by omega) u10 x10_3 ji46 [.int .i64 ji46] (fun _ => True) (fun _ => False) rfl rfl ?aP (fun _ hk => hk.elim) ?aF ?aO ?aB ?aS ?aL ?_; (case aP => exact rfl); (case aB => exact (mvh HB.out)); (case aF => exact (fun _ _ => trivial)); (case aO => exact (mvR HO_10.out)); (case aS => exact (below_size (mvh HB.out))); (case aL => have := LMc45.out; (try simp only [hji17] at this); (try simp only [hji19] at this); (try simp only [hji20] at this); (try simp only [hji46] at this); (try clear hji17w); (try clear hji17); (try clear hji19w); (try clear hji19); (try clear hji20w); (try clear hji20); (try clear hji46w); (try clear hji46); omega); intro v750 w52 ho hb hg hat; rw [← Ny749.out] at ho; have n0_ := aK (Kd.R_over' (mvR HO_8.out) (Kd.R_typed (mvR HO_10.out)) (by decide) hg); have n1_ := aK (Kd.R_over' (mvR HO_11.out) (Kd.R_typed (mvR HO_10.out)) (by decide) hg); have n2_ := aK (blk_grown (g := gb736) (o := .cells #[.int .i64 b0,.int .u64 b1,.int .i64 b2,.int .i64 b3] 26 (0,0)) (mvb BK736.out) hg (Kd.R_ne HO_10.out BK736.out (by decide))); have n3_ := aK (hb); have n4_ := aK (ho); clear HO_8 HO_11 BK736 HB HO_10; have HO_8 := n0_; have HO_11 := n1_; have BK736 := n2_; have HB := n3_; have HO751 := n4_; clear n0_ n1_ n2_ n3_ n4_; clear ho hb hg hat; obtain ⟨Ao53,co53,eo53⟩ := Kd.R_slice HO_11.out; subst eo53; have p752 : 0 ≤ ((ji46) : Int) := of_decide_eq_true (by first | (with_reducible assumption) | assumption); have q752 : (ji46) < (x11_3.length : Int) := of_decide_eq_true (by first | (with_reducible assumption) | assumption); obtain ⟨ad752,e752,hx752_0⟩ := Kd.at_bool (Kd.R_reads' HO_11.out).2.2 (ji46) p752 q752; (try rw [← Nbq49.out] at hx752_0); cases e752; replace p752 := eq_true p752; replace q752 := eq_true q752; have p51 : 0 ≤ ((ji46) : Int) := of_decide_eq_true (by first | (with_reducible assumption) | assumption); have q51 : ((ji46) : Int) < ((x11_3.length : Int) : Int) := of_decide_eq_true (by first | (with_reducible assumption) | assumption); obtain ⟨go51,co51,eo51,gb51,gl51,cl51,HG51⟩ := Kd.R_form HO_11.out (by omega); (first | cases eo51 | (injection eo51 with ea_ en_ ec_; (first | subst ea_ | (injection ea_ with ea_; subst ea_)); subst ec_; clear en_)); have GB51 := Aside0.mk gb51; have GG51 := Aside0.mk HG51; clear gb51 gl51 HG51; (first | simp only [add_plain] at hx752_0 | skip); obtain ⟨hx51_0,hf51_0⟩ := Kd.R_celln false HO_11.out ((ji46) : Int) p51 q51; replace p51 := eq_true p51; replace q51 := eq_true q51; obtain ⟨hy54_,hz54_⟩ := Kd.R_celln false HO_11.out ((ji46) : Int) (of_decide_eq_true (by first | (with_reducible assumption) | assumption)) (of_decide_eq_true (by first | (with_reducible assumption) | assumption)); have HP54 := Kd.R_putg HO_11.out ((ji46) : Int) true) | ((with_reducible refine gate_store (t := 4) (p := 104) rfl ?_); refine store_event (t := 4) (p := 104) (v := ?vo_w55) (w1 := (w52.setCell ⟨go51,((ji46) : Int).toNat,none⟩ (.bool true))) ?hg ?ho ?hn ?hr ?_; (case ho => rfl); (case hg => rfl); (case hn => rfl); (case hr => first | (go_simp; done) | (go_simp; rfl)); intro w55 hw; have hg : w52.grownBy w55 (some go51) := (by rw [hw]; exact HP54.2); have hp_ : Kd.R Kd.bool 4 w55 w.heap.size (fun _ => True) (.slice (some ⟨go51,0,none⟩) x11_3.length co53) y753 := (by rw [hw,Ny753.out]; exact HP54.1); clear HP54; have n0_ := aK (Kd.R_over' (v := (.slice (some ⟨go51,0,none⟩) x11_3.length co53)) (mvR HO_8.out) (Kd.R_typed HO_11.out) (by decide) hg); have n1_ := aK (hp_); have n2_ := aK (blk_grown (g := gb736) (o := .cells #[.int .i64 b0,.int .u64 b1,.int .i64 b2,.int .i64 b3] 26 (0,0)) (mvb BK736.out) hg (Kd.R_ne HO_11.out BK736.out (by decide))); have n3_ := aK (Kd.R_over' (v := (.slice (some ⟨go51,0,none⟩) x11_3.length co53)) (mvR HO751.out) (Kd.R_typed HO_11.out) (by decide) hg); have n4_ := aK ((by rw [hw]; exact below_set (HB.out) GB51.out : Below w.heap.size w w55)); clear HO_8 HO_11 BK736 HO751 HB; have HO_8 := n0_; have HO_11 := n1_; have BK736 := n2_; have HO751 := n3_; have HB := n4_; clear n0_ n1_ n2_ n3_ n4_; clear hg hw hp_))
              go_roundg kj38
              case measure => have := HJ3.out; have := HK2.out; have := HK3.out; have := HJ38.out; omega
              case rel => exact ⟨(y749),(y753),(x12_3),(wrap64 (x13_3 + 1)),(by first | rfl | (simp; done) | (simp [*]; done) | (simp [wrap64]; done)),(by first | rfl | (simp; done) | (simp [*]; done) | (simp [wrap64]; done)),H',⟨by have := HJ3.out; have := HK2.out; have := HK3.out; have := HJ38.out; omega⟩,⟨mvR HO_8.out⟩,⟨mvR HO751.out⟩,⟨mvR HO_11.out⟩,⟨mvb BK736.out⟩,⟨mvh HB.out⟩⟩
             ·replace c50 := Bool.eq_false_iff.mpr c50
              subst c50
              have H1 : (l4_RH.l1 kj38 l2 x8_2 y749 (x11_3.set ((ji46) : Int).toNat true) (wrap64 (x12_3 + 1)) (wrap64 (x13_3 + 1)) b0 b1 b2 b3) = some r := by rw [if_neg (show ¬ (false = true) by decide)] at H; exact H
              clear H
              have H := H1
              clear H1
              obtain ⟨y754,hy754⟩ : ∃ y_ : List Bool,y_ = (x11_3.set ((ji46) : Int).toNat true) := ⟨_,rfl⟩
              replace H : (l4_RH.l1 kj38 l2 x8_2 y749 y754 (wrap64 (x12_3 + 1)) (wrap64 (x13_3 + 1)) b0 b1 b2 b3) = some r := by rw [hy754]; exact H
              have Ny754 := Aside0.mk hy754
              clear hy754
              have H' := Aside0.mk H
              clear H
              have p748 : 0 ≤ (x13_3 : Int) := of_decide_eq_true (by first | (with_reducible assumption) | assumption)
              have q748 : x13_3 < (l2.length : Int) := of_decide_eq_true (by first | (with_reducible assumption) | assumption)
              obtain ⟨ad748,e748,hx748_0⟩ := Kd.at_int HR2.out x13_3 p748 q748
              cases e748
              replace hx748_0 := (HB.out.cell (World.block_lt_of_cell? w _ hx748_0)).trans hx748_0
              replace p748 := eq_true p748
              replace q748 := eq_true q748
              go_wp2_with (first | ((with_reducible refine gate_builtin (b := .append) (xs := #[.tmp 91,.tmp 93]) rfl ?_); (try (refine gate_guard (by rfl) ?_; dsimp only)); at_builtin; refine Kd.R_append (Kd.int .i64) (w0 := w) w.heap.size rfl (.tmp 91) (.tmp 93) 53 3 (.int .i64 0) 8 rfl Try.underlying53 info3 rfl (by decide) (by omega) u10 x10_3 ji46 [.int .i64 ji46] (fun _ => True) (fun _ => False) rfl rfl ?aP (fun _ hk => hk.elim) ?aF ?aO ?aB ?aS ?aL ?_; (case aP => exact rfl); (case aB => exact (mvh HB.out)); (case aF => exact (fun _ _ => trivial)); (case aO => exact (mvR HO_10.out)); (case aS => exact (below_size (mvh HB.out))); (case aL => have := LMc45.out; (try simp only [hji17] at this); (try simp only [hji19] at this); (try simp only [hji20] at this); (try simp only [hji46] at this); (try clear hji17w); (try clear hji17); (try clear hji19w); (try clear hji19); (try clear hji20w); (try clear hji20); (try clear hji46w); (try clear hji46); omega); intro v750 w57 ho hb hg hat; rw [← Ny749.out] at ho; have n0_ := aK (Kd.R_over' (mvR HO_8.out) (Kd.R_typed (mvR HO_10.out)) (by decide) hg); have n1_ := aK (Kd.R_over' (mvR HO_11.out) (Kd.R_typed (mvR HO_10.out)) (by decide) hg); have n2_ := aK (blk_grown (g := gb736) (o := .cells #[.int .i64 b0,.int .u64 b1,.int .i64 b2,.int .i64 b3] 26 (0,0)) (mvb BK736.out) hg (Kd.R_ne HO_10.out BK736.out (by decide))); have n3_ := aK (hb); have n4_ := aK (ho); clear HO_8 HO_11 BK736 HB HO_10; have HO_8 := n0_; have HO_11 := n1_; have BK736 := n2_; have HB := n3_; have HO751 := n4_; clear n0_ n1_ n2_ n3_ n4_; clear ho hb hg hat; obtain ⟨Ao58,co58,eo58⟩ := Kd.R_slice HO_11.out; subst eo58; have p752 : 0 ≤ ((ji46) : Int) := of_decide_eq_true (by first | (with_reducible assumption) | assumption); have q752 : (ji46) < (x11_3.length : Int) := of_decide_eq_true (by first | (with_reducible assumption) | assumption); obtain ⟨ad752,e752,hx752_0⟩ := Kd.at_bool (Kd.R_reads' HO_11.out).2.2 (ji46) p752 q752; (try rw [← Nbq49.out] at hx752_0); cases e752; replace p752 := eq_true p752; replace q752 := eq_true q752; have p56 : 0 ≤ ((ji46) : Int) := of_decide_eq_true (by first | (with_reducible assumption) | assumption); have q56 : ((ji46) : Int) < ((x11_3.length : Int) : Int) := of_decide_eq_true (by first | (with_reducible assumption) | assumption); obtain ⟨go56,co56,eo56,gb56,gl56,cl56,HG56⟩ := Kd.R_form HO_11.out (by omega); (first | cases eo56 | (injection eo56 with ea_ en_ ec_; (first | subst ea_ | (injection ea_ with ea_; subst ea_)); subst ec_; clear en_)); have GB56 := Aside0.mk gb56; have GG56 := Aside0.mk HG56; clear gb56 gl56 HG56; (first | simp only [add_plain] at hx752_0 | skip); obtain ⟨hx56_0,hf56_0⟩ := Kd.R_celln false HO_11.out ((ji46) : Int) p56 q56; replace p56 := eq_true p56; replace q56 := eq_true q56; obtain ⟨hy59_,hz59_⟩ := Kd.R_celln false HO_11.out ((ji46) : Int) (of_decide_eq_true (by first | (with_reducible assumption) | assumption)) (of_decide_eq_true (by first | (with_reducible assumption) | assumption)); have HP59 := Kd.R_putg HO_11.out ((ji46) : Int) true) | ((with_reducible refine gate_store (t := 4) (p := 104) rfl ?_); refine store_event (t := 4) (p := 104) (v := ?vo_w60) (w1 := (w57.setCell ⟨go56,((ji46) : Int).toNat,none⟩ (.bool true))) ?hg ?ho ?hn ?hr ?_; (case ho => rfl); (case hg => rfl); (case hn => rfl); (case hr => first | (go_simp; done) | (go_simp; rfl)); intro w60 hw; have hg : w57.grownBy w60 (some go56) := (by rw [hw]; exact HP59.2); have hp_ : Kd.R Kd.bool 4 w60 w.heap.size (fun _ => True) (.slice (some ⟨go56,0,none⟩) x11_3.length co58) y754 := (by rw [hw,Ny754.out]; exact HP59.1); clear HP59; have n0_ := aK (Kd.R_over' (v := (.slice (some ⟨go56,0,none⟩) x11_3.length co58)) (mvR HO_8.out) (Kd.R_typed HO_11.out) (by decide) hg); have n1_ := aK (hp_); have n2_ := aK (blk_grown (g := gb736) (o := .cells #[.int .i64 b0,.int .u64 b1,.int .i64 b2,.int .i64 b3] 26 (0,0)) (mvb BK736.out) hg (Kd.R_ne HO_11.out BK736.out (by decide))); have n3_ := aK (Kd.R_over' (v := (.slice (some ⟨go56,0,none⟩) x11_3.length co58)) (mvR HO751.out) (Kd.R_typed HO_11.out) (by decide) hg); have n4_ := aK ((by rw [hw]; exact below_set (HB.out) GB56.out : Below w.heap.size w w60)); clear HO_8 HO_11 BK736 HO751 HB; have HO_8 := n0_; have HO_11 := n1_; have BK736 := n2_; have HO751 := n3_; have HB := n4_; clear n0_ n1_ n2_ n3_ n4_; clear hg hw hp_))
              go_roundg kj38
              case measure => have := HJ3.out; have := HK2.out; have := HK3.out; have := HJ38.out; omega
              case rel => exact ⟨(y749),(y754),(wrap64 (x12_3 + 1)),(wrap64 (x13_3 + 1)),(by first | rfl | (simp; done) | (simp [*]; done) | (simp [wrap64]; done)),(by first | rfl | (simp; done) | (simp [*]; done) | (simp [wrap64]; done)),H',⟨by have := HJ3.out; have := HK2.out; have := HK3.out; have := HJ38.out; omega⟩,⟨mvR HO_8.out⟩,⟨mvR HO751.out⟩,⟨mvR HO_11.out⟩,⟨mvb BK736.out⟩,⟨mvh HB.out⟩⟩
           ·replace c41 := Bool.eq_false_iff.mpr c41
            subst c41
            have H1 : ((reedsol_Decode.f kj38 b0 b1 b2 b3 x8_2 x10_3).bind fun bt755 => ((l4_num.f bt755.2.2).bind fun t760 => (if t760 = 0 then ((reedsol_Encode.f kj38 b0 b1 b2 b3 bt755.1).bind fun bt763 => ((reedsol_Member.f kj38 b0 b1 b2 b3 bt763.1).bind fun bt767 => ((l4_num.f bt763.2).bind fun t769 => ((l4_num.f bt767.2).bind fun t770 => (if (wrap64 (t769 + t770)) = 0 then (if bt767.1 = true then (l4_RH.j4 kj38 x8_2 x11_3 x12_3 bt755.1 bt755.2.1 bt763.1 ((bt763.1.length : Int) != (x8_2.length : Int)) b0 b1 b2 b3) else (l4_RH.j4 kj38 x8_2 x11_3 x12_3 bt755.1 bt755.2.1 bt763.1 true b0 b1 b2 b3)) else (l4_RH.j4 kj38 x8_2 x11_3 x12_3 bt755.1 bt755.2.1 bt763.1 true b0 b1 b2 b3)))))) else (if (bt755.1.length : Int) = 0 then (if bt755.2.1 = 0 then ((l4_num.f bt755.2.2).bind fun t761 => (if ((t761 == 331) == (decide ((x8_2.length : Int) ≥ b3))) = true then ((l4_num.f bt755.2.2).bind fun t762 => (some ((t762 == 5) == (decide ((x8_2.length : Int) < b3))))) else (some false))) else (some false)) else (some false))))) = some r := by rw [if_neg (show ¬ (false = true) by decide)] at H; exact H
            clear H
            have H := H1
            clear H1
            replace H := Option.bind_eq_some_iff.mp H
            obtain ⟨⟨t755,t758,t759⟩,A610,H⟩ := H
            try dsimp only at H
            have A61 := Aside0.mk A610
            clear A610
            replace H := Option.bind_eq_some_iff.mp H
            obtain ⟨t760,A620,H⟩ := H
            try dsimp only at H
            have A62 := Aside0.mk A620
            clear A620
            by_cases c63 : t760 = 0
            rotate_left
            ·rw [if_neg c63] at H
             have c63b0 : (t760 == 0) = false := beq_eq_false_iff_ne.mpr c63
             have c63b1 : (t760 != 0) = true := bne_iff_ne.mpr c63
             by_cases c117 : (t755.length : Int) = 0
             rotate_left
             ·rw [if_neg c117] at H
              exact l4_RH.no_false HR9_.out H
             rw [if_pos c117] at H
             have c117b0 : ((t755.length : Int) == 0) = true := beq_iff_eq.mpr c117
             have c117b1 : ((t755.length : Int) != 0) = false := bne_eq_false_iff_eq.mpr c117
             clear c117
             by_cases c118 : t758 = 0
             rotate_left
             ·rw [if_neg c118] at H
              exact l4_RH.no_false HR9_.out H
             rw [if_pos c118] at H
             have c118b0 : (t758 == 0) = true := beq_iff_eq.mpr c118
             have c118b1 : (t758 != 0) = false := bne_eq_false_iff_eq.mpr c118
             clear c118
             replace H := Option.bind_eq_some_iff.mp H
             obtain ⟨t761,A1190,H⟩ := H
             try dsimp only at H
             have A119 := Aside0.mk A1190
             clear A1190
             by_cases c120 : ((t761 == 331) == (decide ((x8_2.length : Int) ≥ b3))) = true
             rotate_left
             ·rw [if_neg c120] at H
              exact l4_RH.no_false HR9_.out H
             rw [if_pos c120] at H
             have c120b0 : ((t761 == 331) == (decide ((x8_2.length : Int) ≥ b3))) = true := c120
             (try (have c120b1 : decide ((t761 == 331) = (decide ((x8_2.length : Int) ≥ b3))) = true := by simpa using c120))
             (try (have c120b2 : ((t761 == 331) == (decide ((x8_2.length : Int) ≥ b3))) = true := by simpa using c120))
             clear c120
             replace H := Option.bind_eq_some_iff.mp H
             obtain ⟨t762,A1210,H⟩ := H
             try dsimp only at H
             have A121 := Aside0.mk A1210
             clear A1210
             obtain rfl := Option.some.inj H
             obtain ⟨hcz122_0,hcz122_1,hcz122_2,hcz122_3,hfz122_0,hfz122_1,hfz122_2,hfz122_3⟩ := cf4 BK736.out
             obtain ⟨Ao123,co123,eo123⟩ := Kd.R_slice HO_10.out
             subst eo123
             try go_wp2_with (first | (go_at_call 25; (with_reducible refine (reedsol_Decode.calls kj38 b0 b1 b2 b3 _ _ x8_2 _ _ x10_3 t755 t758 t759 _ ?side1 ?side2 ?side3 ?side4 A61.out).mono ?_); (case side1 => exact mvC (Kd.R_reads' HO_8.out).2.2); (case side2 => exact (Kd.R_reads' HO_8.out).2.1); (case side3 => exact mvC (Kd.R_reads' HO_10.out).2.2); (case side4 => exact (Kd.R_reads' HO_10.out).2.1); rintro e w124 ⟨v756,rfl,ho0,hb⟩; have n0_ := aK (Kd.R_below (mvR HO_8.out) hb); have n1_ := aK (Kd.R_below (mvR HO_10.out) hb); have n2_ := aK (Kd.R_below (mvR HO_11.out) hb); have n3_ := aK (Kd.V_lower (Kd.V_mono (ok' := fun k_ => some k_ ≠ (.slice Ao36 x8_2.length co36 : Value).ownBlock ∧ some k_ ≠ (.slice Ao123 x10_3.length co123 : Value).ownBlock ∧ some k_ ≠ (v746 : Value).ownBlock ∧ k_ ≠ gb736) ho0 (fun k_ hk_ => ⟨(Kd.fresh' (Kd.R_lt (mvR HO_8.out)) k_ hk_),(Kd.fresh' (Kd.R_lt (mvR HO_10.out)) k_ hk_),(Kd.fresh' (Kd.R_lt (mvR HO_11.out)) k_ hk_),(Kd.freshB (g := gb736) (o := .cells #[.int .i64 b0,.int .u64 b1,.int .i64 b2,.int .i64 b3] 26 (0,0)) (mvb BK736.out) k_ hk_)⟩)) (below_size (mvh HB.out))); have n4_ := aK (kb BK736.out hb); have n5_ := aK (below_step (mvh HB.out) hb); clear HO_8 HO_10 HO_11 BK736 HB; have HO_8 := n0_; have HO_10 := n1_; have HO_11 := n2_; have HO757 := n3_; have BK736 := n4_; have HB := n5_; clear n0_ n1_ n2_ n3_ n4_ n5_; (try clear hb); (try clear ho0)) | (go_at_call 14; (with_reducible refine (l4_num.calls t759 t760 _ A62.out).mono ?_); rintro e w' ⟨rfl,⟨nd,rfl⟩⟩))
             (try (rw [drewN_self w124]; generalize hq_ : World.drewN w124 _ = w124; have n0_ : Aside0 (Kd.V (Kd.int .u8) 5 w124 w.heap.size (fun k_ => some k_ ≠ (.slice Ao123 x10_3.length co123 : Value).ownBlock ∧ some k_ ≠ (v746 : Value).ownBlock ∧ some k_ ≠ (.slice Ao36 x8_2.length co36 : Value).ownBlock ∧ k_ ≠ gb736) v756 t755) := ⟨by rw [← hq_]; exact (by (with_reducible repeat (first | apply Kd.V_alloc | apply Kd.V_drewN | apply Kd.V_drew)); exact Kd.V_mono HO757.out (fun _ hk => ⟨hk.2.1,⟨hk.2.2.1,⟨hk.1,hk.2.2.2⟩⟩⟩))⟩; have n1_ : Aside0 (Kd.R (Kd.int .i64) 3 w124 w.heap.size (fun _ => True) (.slice Ao123 x10_3.length co123) x10_3) := ⟨by rw [← hq_]; exact (mvR HO_10.out)⟩; have n2_ : Aside0 (Kd.R Kd.bool 4 w124 w.heap.size (fun _ => True) v746 x11_3) := ⟨by rw [← hq_]; exact (mvR HO_11.out)⟩; have n3_ : Aside0 (Kd.R (Kd.int .u8) 5 w124 w.heap.size (fun _ => True) (.slice Ao36 x8_2.length co36) x8_2) := ⟨by rw [← hq_]; exact (mvR HO_8.out)⟩; have n4_ : Aside0 (w124.heap[gb736]? = some (.cells #[.int .i64 b0,.int .u64 b1,.int .i64 b2,.int .i64 b3] 26 (0,0))) := ⟨by rw [← hq_]; exact (mvb BK736.out)⟩; have n5_ : Aside0 (Below w.heap.size w w124) := ⟨by rw [← hq_]; exact (mvh HB.out)⟩; clear HO757 HO_10 HO_11 HO_8 BK736 HB hq_; have HO757 := n0_; have HO_10 := n1_; have HO_11 := n2_; have HO_8 := n3_; have BK736 := n4_; have HB := n5_; clear n0_ n1_ n2_ n3_ n4_ n5_))
             have n0_ := aK (Kd.R_drew HO_8.out)
             have n1_ := aK (Kd.R_drew HO_10.out)
             have n2_ := aK (Kd.R_drew HO_11.out)
             have n3_ := aK (Kd.V_drew HO757.out)
             have n4_ := aK (blk_drew BK736.out)
             have n5_ := aK (below_drew1 HB.out)
             clear HO_8 HO_10 HO_11 HO757 BK736 HB
             have HO_8 := n0_
             have HO_10 := n1_
             have HO_11 := n2_
             have HO757 := n3_
             have BK736 := n4_
             have HB := n5_
             clear n0_ n1_ n2_ n3_ n4_ n5_
             obtain ⟨Ao126,co126,eo126⟩ := Kd.V_slice HO757.out
             (first | subst eo126 | (injection eo126 with f1_ f2_ f3_; have f4_ := f1_.symm; have f5_ := f3_.symm; clear f1_ f2_ f3_; subst f4_; subst f5_))
             refine start_ (n := 30) (S := fun w' => w'.cell? ⟨gb736,0,none⟩ = some (.int .i64 b0) ∧ w'.cell? ⟨gb736,1,none⟩ = some (.int .u64 b1) ∧ w'.cell? ⟨gb736,2,none⟩ = some (.int .i64 b2) ∧ w'.cell? ⟨gb736,3,none⟩ = some (.int .i64 b3)) (ds := []) #[false,false,false,false,false,false,false,false,false,false,false,false,false,false,false,false,false,false,false,false,false,false,false,false,false,false,false,false,false,false] (by kernel_rfl) rfl rfl ⟨(blk_cell BK736.out 0).trans rfl,(blk_cell BK736.out 1).trans rfl,(blk_cell BK736.out 2).trans rfl,(blk_cell BK736.out 3).trans rfl⟩ (fun hHeld => ?_); refine with_tabW l4_RH.tab22 l4_RH.bits22 (fun HT_ HW_ => ?_)
             generalize w124.drew = w125 at HO_8 HO_10 HO_11 HO757 BK736 HB hHeld ⊢
             refine pure_ (i := 0) (N := some 116) (v := ?_) (a' := ?_) #[true,false,false,false,false,false,false,false,false,false,false,false,false,false,false,false,false,false,false,false,false,false,false,false,false,false,false,false,false,false] rfl rfl (any_of HT_.out (by kernel_rfl)) (fun _ _ _ h => h) (Or.inl ⟨by rfl,?_⟩) ?_ ?_
             rotate_left
             ·intro w'
              go_simp
              with_reducible rfl
             rotate_left
             ·simp only [Act.put,List.setIfInBounds_toArray,List.set_cons_zero,List.set_cons_succ,i64_w,i32_w]
              rfl
             refine pure_ (i := 1) (N := some 117) (v := ?_) (a' := ?_) #[true,true,false,false,false,false,false,false,false,false,false,false,false,false,false,false,false,false,false,false,false,false,false,false,false,false,false,false,false,false] rfl rfl (any_of HT_.out (by kernel_rfl)) (fun _ _ _ h => h) (Or.inl ⟨by rfl,?_⟩) ?_ ?_
             rotate_left
             ·intro w'
              go_simp
              with_reducible rfl
             rotate_left
             ·simp only [Act.put,List.setIfInBounds_toArray,List.set_cons_zero,List.set_cons_succ,i64_w,i32_w]
              rfl
             refine pure_ (i := 2) (N := some 118) (v := ?_) (a' := ?_) #[true,true,true,false,false,false,false,false,false,false,false,false,false,false,false,false,false,false,false,false,false,false,false,false,false,false,false,false,false,false] rfl rfl (any_of HT_.out (by kernel_rfl)) (fun _ _ _ h => h) (Or.inl ⟨by rfl,?_⟩) ?_ ?_
             rotate_left
             ·intro w'
              go_simp
              with_reducible rfl
             rotate_left
             ·simp only [Act.put,List.setIfInBounds_toArray,List.set_cons_zero,List.set_cons_succ,i64_w,i32_w]
              rfl
             refine pure_ (i := 3) (N := some 119) (v := ?_) (a' := ?_) #[true,true,true,true,false,false,false,false,false,false,false,false,false,false,false,false,false,false,false,false,false,false,false,false,false,false,false,false,false,false] rfl rfl (any_of HT_.out (by kernel_rfl)) (fun _ _ _ h => h) (Or.inl ⟨by rfl,?_⟩) ?_ ?_
             rotate_left
             ·intro w'
              go_simp
              with_reducible rfl
             rotate_left
             ·simp only [Act.put,List.setIfInBounds_toArray,List.set_cons_zero,List.set_cons_succ,i64_w,i32_w]
              rfl
             refine pure_ (i := 4) (N := some 120) (v := ?_) (a' := ?_) #[true,true,true,true,true,false,false,false,false,false,false,false,false,false,false,false,false,false,false,false,false,false,false,false,false,false,false,false,false,false] rfl rfl (any_of HT_.out (by kernel_rfl)) (fun _ _ _ h => h) (Or.inl ⟨by rfl,?_⟩) ?_ ?_
             rotate_left
             ·intro w'
              go_simp
              with_reducible rfl
             rotate_left
             ·simp only [Act.put,List.setIfInBounds_toArray,List.set_cons_zero,List.set_cons_succ,i64_w,i32_w]
              rfl
             refine pure_ (i := 5) (N := some 121) (v := ?_) (a' := ?_) #[true,true,true,true,true,true,false,false,false,false,false,false,false,false,false,false,false,false,false,false,false,false,false,false,false,false,false,false,false,false] rfl rfl (any_of HT_.out (by kernel_rfl)) (fun _ _ _ h => h) (Or.inl ⟨by rfl,?_⟩) ?_ ?_
             rotate_left
             ·intro w'
              go_simp
              with_reducible rfl
             rotate_left
             ·simp only [Act.put,List.setIfInBounds_toArray,List.set_cons_zero,List.set_cons_succ,i64_w,i32_w]
              rfl
             refine pure_ (i := 6) (N := some 122) (v := ?_) (a' := ?_) #[true,true,true,true,true,true,true,false,false,false,false,false,false,false,false,false,false,false,false,false,false,false,false,false,false,false,false,false,false,false] rfl rfl (any_of HT_.out (by kernel_rfl)) (fun _ _ _ h => h) (Or.inl ⟨by rfl,?_⟩) ?_ ?_
             rotate_left
             ·intro w'
              go_simp
              with_reducible rfl
             rotate_left
             ·simp only [Act.put,List.setIfInBounds_toArray,List.set_cons_zero,List.set_cons_succ,i64_w,i32_w]
              rfl
             refine pure_ (i := 7) (N := some 123) (v := ?_) (a' := ?_) #[true,true,true,true,true,true,true,true,false,false,false,false,false,false,false,false,false,false,false,false,false,false,false,false,false,false,false,false,false,false] rfl rfl (any_of HT_.out (by kernel_rfl)) (fun _ _ _ h => h) (Or.inl ⟨by rfl,?_⟩) ?_ ?_
             rotate_left
             ·intro w'
              go_simp
              with_reducible rfl
             rotate_left
             ·simp only [Act.put,List.setIfInBounds_toArray,List.set_cons_zero,List.set_cons_succ,i64_w,i32_w]
              rfl
             refine pure_ (i := 8) (N := some 124) (v := ?_) (a' := ?_) #[true,true,true,true,true,true,true,true,true,false,false,false,false,false,false,false,false,false,false,false,false,false,false,false,false,false,false,false,false,false] rfl rfl (any_of HT_.out (by kernel_rfl)) (fun _ _ _ h => h) (Or.inl ⟨by rfl,?_⟩) ?_ ?_
             rotate_left
             ·intro w'
              go_simp
              with_reducible rfl
             rotate_left
             ·simp only [Act.put,List.setIfInBounds_toArray,List.set_cons_zero,List.set_cons_succ,i64_w,i32_w]
              rfl
             refine pure_ (i := 11) (N := some 127) (v := ?_) (a' := ?_) #[true,true,true,true,true,true,true,true,true,false,false,true,false,false,false,false,false,false,false,false,false,false,false,false,false,false,false,false,false,false] rfl rfl (any_of HT_.out (by kernel_rfl)) (fun _ _ _ h => h) (Or.inl ⟨by rfl,?_⟩) ?_ ?_
             rotate_left
             ·intro w'
              go_simp
              with_reducible rfl
             rotate_left
             ·simp only [Act.put,List.setIfInBounds_toArray,List.set_cons_zero,List.set_cons_succ,i64_w,i32_w]
              rfl
             refine pure_ (i := 12) (N := some 128) (v := ?_) (a' := ?_) #[true,true,true,true,true,true,true,true,true,false,false,true,true,false,false,false,false,false,false,false,false,false,false,false,false,false,false,false,false,false] rfl rfl (any_of HT_.out (by kernel_rfl)) (fun _ _ _ h => h) (Or.inl ⟨by rfl,?_⟩) ?_ ?_
             rotate_left
             ·intro w'
              go_simp
              with_reducible rfl
             rotate_left
             ·simp only [Act.put,List.setIfInBounds_toArray,List.set_cons_zero,List.set_cons_succ,i64_w,i32_w]
              rfl
             refine pure_ (i := 13) (N := some 129) (v := ?_) (a' := ?_) #[true,true,true,true,true,true,true,true,true,false,false,true,true,true,false,false,false,false,false,false,false,false,false,false,false,false,false,false,false,false] rfl rfl (any_of HT_.out (by kernel_rfl)) (fun _ _ _ h => h) (Or.inl ⟨by rfl,?_⟩) ?_ ?_
             rotate_left
             ·intro w'
              go_simp
              with_reducible rfl
             rotate_left
             ·simp only [Act.put,List.setIfInBounds_toArray,List.set_cons_zero,List.set_cons_succ,i64_w,i32_w]
              rfl
             refine take_ (i := 14) (N := some 130) (v := ?_) (a' := ?_) #[true,true,true,true,true,true,true,true,true,false,false,true,true,true,true,false,false,false,false,false,false,false,false,false,false,false,false,false,false,false] rfl rfl (take_ofW HT_.out HW_.out (by kernel_rfl)) (fun _ _ _ h => h) (Or.inl ⟨by rfl,?_⟩) hHeld ?_ ?_
             rotate_left
             ·rintro w' ⟨s0,s1,s2,s3⟩
              go_simp
              with_reducible rfl
             rotate_left
             ·simp only [Act.put,List.setIfInBounds_toArray,List.set_cons_zero,List.set_cons_succ,i64_w,i32_w]
              rfl
             refine pure_ (i := 15) (N := some 131) (v := ?_) (a' := ?_) #[true,true,true,true,true,true,true,true,true,false,false,true,true,true,true,true,false,false,false,false,false,false,false,false,false,false,false,false,false,false] rfl rfl (any_of HT_.out (by kernel_rfl)) (fun _ _ _ h => h) (Or.inl ⟨by rfl,?_⟩) ?_ ?_
             rotate_left
             ·intro w'
              go_simp
              with_reducible rfl
             rotate_left
             ·simp only [Act.put,List.setIfInBounds_toArray,List.set_cons_zero,List.set_cons_succ,i64_w,i32_w]
              rfl
             refine one_ (i := 9) (N := some 125) #[true,true,true,true,true,true,true,true,true,true,false,true,true,true,true,true,false,false,false,false,false,false,false,false,false,false,false,false,false,false] rfl rfl (one_of HT_.out (by kernel_rfl)) (by decide) (fun K hK => ?_)
             refine goes_ Try.func14 (by kernel_rfl) rfl #[.int .i64 t759] (by rfl) rfl rfl (by (try simp only [List.map_toArray,List.map_cons,List.map_nil]) <;> rfl) ?_
             with_reducible refine (l4_num.calls t759 t761 _ A119.out).mono ?_
             rintro e w' ⟨rfl,⟨nd,rfl⟩⟩
             refine ⟨_,rfl,?_⟩
             refine hK.out _ _ ⟨(blk_cell BK736.out 0).trans rfl,(blk_cell BK736.out 1).trans rfl,(blk_cell BK736.out 2).trans rfl,(blk_cell BK736.out 3).trans rfl⟩ (fun hHeld => ?_)
             clear hK K
             refine norm_ (a' := ?_) ?_ ?_
             rotate_left
             ·show Act.put _ (some 125) _ = _
              simp only [Act.put,List.setIfInBounds_toArray,List.set_cons_zero,List.set_cons_succ,i64_w,i32_w]
              rfl
             refine pure_ (i := 10) (N := some 126) (v := ?_) (a' := ?_) #[true,true,true,true,true,true,true,true,true,true,true,true,true,true,true,true,false,false,false,false,false,false,false,false,false,false,false,false,false,false] rfl rfl (any_of HT_.out (by kernel_rfl)) (fun _ _ _ h => h) (Or.inl ⟨by rfl,?_⟩) ?_ ?_
             rotate_left
             ·intro w'
              go_simp
              with_reducible rfl
             rotate_left
             ·simp only [Act.put,List.setIfInBounds_toArray,List.set_cons_zero,List.set_cons_succ,i64_w,i32_w]
              rfl
             refine pure_ (i := 16) (N := some 132) (v := ?_) (a' := ?_) #[true,true,true,true,true,true,true,true,true,true,true,true,true,true,true,true,true,false,false,false,false,false,false,false,false,false,false,false,false,false] rfl rfl (any_of HT_.out (by kernel_rfl)) (fun _ _ _ h => h) (Or.inl ⟨by rfl,?_⟩) ?_ ?_
             rotate_left
             ·intro w'
              go_simp
              with_reducible rfl
             rotate_left
             ·simp only [Act.put,List.setIfInBounds_toArray,List.set_cons_zero,List.set_cons_succ,i64_w,i32_w]
              rfl
             refine pure_ (i := 17) (N := some 133) (v := ?_) (a' := ?_) #[true,true,true,true,true,true,true,true,true,true,true,true,true,true,true,true,true,true,false,false,false,false,false,false,false,false,false,false,false,false] rfl rfl (any_of HT_.out (by kernel_rfl)) (fun _ _ _ h => h) (Or.inl ⟨by rfl,?_⟩) ?_ ?_
             rotate_left
             ·intro w'
              go_simp
              with_reducible rfl
             rotate_left
             ·simp only [Act.put,List.setIfInBounds_toArray,List.set_cons_zero,List.set_cons_succ,i64_w,i32_w]
              rfl
             refine pure_ (i := 18) (N := some 134) (v := ?_) (a' := ?_) #[true,true,true,true,true,true,true,true,true,true,true,true,true,true,true,true,true,true,true,false,false,false,false,false,false,false,false,false,false,false] rfl rfl (any_of HT_.out (by kernel_rfl)) (fun _ _ _ h => h) (Or.inl ⟨by rfl,?_⟩) ?_ ?_
             rotate_left
             ·intro w'
              go_simp
              with_reducible rfl
             rotate_left
             ·simp only [Act.put,List.setIfInBounds_toArray,List.set_cons_zero,List.set_cons_succ,i64_w,i32_w]
              rfl
             refine pure_ (i := 19) (N := some 135) (v := ?_) (a' := ?_) #[true,true,true,true,true,true,true,true,true,true,true,true,true,true,true,true,true,true,true,true,false,false,false,false,false,false,false,false,false,false] rfl rfl (any_of HT_.out (by kernel_rfl)) (fun _ _ _ h => h) (Or.inl ⟨by rfl,?_⟩) ?_ ?_
             rotate_left
             ·intro w'
              go_simp
              with_reducible rfl
             rotate_left
             ·simp only [Act.put,List.setIfInBounds_toArray,List.set_cons_zero,List.set_cons_succ,i64_w,i32_w]
              rfl
             refine pure_ (i := 22) (N := some 138) (v := ?_) (a' := ?_) #[true,true,true,true,true,true,true,true,true,true,true,true,true,true,true,true,true,true,true,true,false,false,true,false,false,false,false,false,false,false] rfl rfl (any_of HT_.out (by kernel_rfl)) (fun _ _ _ h => h) (Or.inl ⟨by rfl,?_⟩) ?_ ?_
             rotate_left
             ·intro w'
              go_simp
              with_reducible rfl
             rotate_left
             ·simp only [Act.put,List.setIfInBounds_toArray,List.set_cons_zero,List.set_cons_succ,i64_w,i32_w]
              rfl
             refine pure_ (i := 23) (N := some 139) (v := ?_) (a' := ?_) #[true,true,true,true,true,true,true,true,true,true,true,true,true,true,true,true,true,true,true,true,false,false,true,true,false,false,false,false,false,false] rfl rfl (any_of HT_.out (by kernel_rfl)) (fun _ _ _ h => h) (Or.inl ⟨by rfl,?_⟩) ?_ ?_
             rotate_left
             ·intro w'
              go_simp
              with_reducible rfl
             rotate_left
             ·simp only [Act.put,List.setIfInBounds_toArray,List.set_cons_zero,List.set_cons_succ,i64_w,i32_w]
              rfl
             refine pure_ (i := 24) (N := some 140) (v := ?_) (a' := ?_) #[true,true,true,true,true,true,true,true,true,true,true,true,true,true,true,true,true,true,true,true,false,false,true,true,true,false,false,false,false,false] rfl rfl (any_of HT_.out (by kernel_rfl)) (fun _ _ _ h => h) (Or.inl ⟨by rfl,?_⟩) ?_ ?_
             rotate_left
             ·intro w'
              go_simp
              with_reducible rfl
             rotate_left
             ·simp only [Act.put,List.setIfInBounds_toArray,List.set_cons_zero,List.set_cons_succ,i64_w,i32_w]
              rfl
             refine take_ (i := 25) (N := some 141) (v := ?_) (a' := ?_) #[true,true,true,true,true,true,true,true,true,true,true,true,true,true,true,true,true,true,true,true,false,false,true,true,true,true,false,false,false,false] rfl rfl (take_ofW HT_.out HW_.out (by kernel_rfl)) (fun _ _ _ h => h) (Or.inl ⟨by rfl,?_⟩) hHeld ?_ ?_
             rotate_left
             ·rintro w' ⟨s0,s1,s2,s3⟩
              go_simp
              with_reducible rfl
             rotate_left
             ·simp only [Act.put,List.setIfInBounds_toArray,List.set_cons_zero,List.set_cons_succ,i64_w,i32_w]
              rfl
             refine pure_ (i := 26) (N := some 142) (v := ?_) (a' := ?_) #[true,true,true,true,true,true,true,true,true,true,true,true,true,true,true,true,true,true,true,true,false,false,true,true,true,true,true,false,false,false] rfl rfl (any_of HT_.out (by kernel_rfl)) (fun _ _ _ h => h) (Or.inl ⟨by rfl,?_⟩) ?_ ?_
             rotate_left
             ·intro w'
              go_simp
              with_reducible rfl
             rotate_left
             ·simp only [Act.put,List.setIfInBounds_toArray,List.set_cons_zero,List.set_cons_succ,i64_w,i32_w]
              rfl
             refine one_ (i := 20) (N := some 136) #[true,true,true,true,true,true,true,true,true,true,true,true,true,true,true,true,true,true,true,true,true,false,true,true,true,true,true,false,false,false] rfl rfl (one_of HT_.out (by kernel_rfl)) (by decide) (fun K hK => ?_)
             refine goes_ Try.func14 (by kernel_rfl) rfl #[.int .i64 t759] (by rfl) rfl rfl (by (try simp only [List.map_toArray,List.map_cons,List.map_nil]) <;> rfl) ?_
             with_reducible refine (l4_num.calls t759 t762 _ A121.out).mono ?_
             rintro e w' ⟨rfl,⟨nd,rfl⟩⟩
             refine ⟨_,rfl,?_⟩
             refine hK.out _ _ ⟨(blk_cell BK736.out 0).trans rfl,(blk_cell BK736.out 1).trans rfl,(blk_cell BK736.out 2).trans rfl,(blk_cell BK736.out 3).trans rfl⟩ (fun hHeld => ?_)
             clear hK K
             refine norm_ (a' := ?_) ?_ ?_
             rotate_left
             ·show Act.put _ (some 136) _ = _
              simp only [Act.put,List.setIfInBounds_toArray,List.set_cons_zero,List.set_cons_succ,i64_w,i32_w]
              rfl
             refine pure_ (i := 21) (N := some 137) (v := ?_) (a' := ?_) #[true,true,true,true,true,true,true,true,true,true,true,true,true,true,true,true,true,true,true,true,true,true,true,true,true,true,true,false,false,false] rfl rfl (any_of HT_.out (by kernel_rfl)) (fun _ _ _ h => h) (Or.inl ⟨by rfl,?_⟩) ?_ ?_
             rotate_left
             ·intro w'
              go_simp
              with_reducible rfl
             rotate_left
             ·simp only [Act.put,List.setIfInBounds_toArray,List.set_cons_zero,List.set_cons_succ,i64_w,i32_w]
              rfl
             refine pure_ (i := 27) (N := some 143) (v := ?_) (a' := ?_) #[true,true,true,true,true,true,true,true,true,true,true,true,true,true,true,true,true,true,true,true,true,true,true,true,true,true,true,true,false,false] rfl rfl (any_of HT_.out (by kernel_rfl)) (fun _ _ _ h => h) (Or.inl ⟨by rfl,?_⟩) ?_ ?_
             rotate_left
             ·intro w'
              go_simp
              with_reducible rfl
             rotate_left
             ·simp only [Act.put,List.setIfInBounds_toArray,List.set_cons_zero,List.set_cons_succ,i64_w,i32_w]
              rfl
             refine pure_ (i := 28) (N := some 144) (v := ?_) (a' := ?_) #[true,true,true,true,true,true,true,true,true,true,true,true,true,true,true,true,true,true,true,true,true,true,true,true,true,true,true,true,true,false] rfl rfl (any_of HT_.out (by kernel_rfl)) (fun _ _ _ h => h) (Or.inl ⟨by rfl,?_⟩) ?_ ?_
             rotate_left
             ·intro w'
              go_simp
              with_reducible rfl
             rotate_left
             ·simp only [Act.put,List.setIfInBounds_toArray,List.set_cons_zero,List.set_cons_succ,i64_w,i32_w]
              rfl
             refine pure_ (i := 29) (N := some 6) (v := ?_) (a' := ?_) #[true,true,true,true,true,true,true,true,true,true,true,true,true,true,true,true,true,true,true,true,true,true,true,true,true,true,true,true,true,true] rfl rfl (any_of HT_.out (by kernel_rfl)) (fun _ _ _ h => h) (Or.inl ⟨by rfl,?_⟩) ?_ ?_
             rotate_left
             ·intro w'
              go_simp
              with_reducible rfl
             rotate_left
             ·simp only [Act.put,List.setIfInBounds_toArray,List.set_cons_zero,List.set_cons_succ,i64_w,i32_w]
              rfl
             refine done_ (done_of HT_.out (by kernel_rfl)) ?_
             try go_wp2
             go_ret
             exact ⟨by first | rfl | (simp [errW_none,errW_some] <;> rfl) | (simp only [← hji17,← hji19,← hji20]; first | rfl | (simp [errW_none,errW_some] <;> rfl)) | (simp [*,errW_none,errW_some] <;> rfl),mvh HB.out⟩
            rw [if_pos c63] at H
            have c63b0 : (t760 == 0) = true := beq_iff_eq.mpr c63
            have c63b1 : (t760 != 0) = false := bne_eq_false_iff_eq.mpr c63
            clear c63
            replace H := Option.bind_eq_some_iff.mp H
            obtain ⟨⟨t763,t766⟩,A640,H⟩ := H
            try dsimp only at H
            have A64 := Aside0.mk A640
            clear A640
            replace H := Option.bind_eq_some_iff.mp H
            obtain ⟨⟨t767,t768⟩,A650,H⟩ := H
            try dsimp only at H
            have A65 := Aside0.mk A650
            clear A650
            have HC66 := Aside0.mk H
            clear H
            obtain ⟨hcz67_0,hcz67_1,hcz67_2,hcz67_3,hfz67_0,hfz67_1,hfz67_2,hfz67_3⟩ := cf4 BK736.out
            obtain ⟨Ao68,co68,eo68⟩ := Kd.R_slice HO_10.out
            subst eo68
            go_upto_region 25 with (first | (go_at_call 25; (with_reducible refine (reedsol_Decode.calls kj38 b0 b1 b2 b3 _ _ x8_2 _ _ x10_3 t755 t758 t759 _ ?side1 ?side2 ?side3 ?side4 A61.out).mono ?_); (case side1 => exact mvC (Kd.R_reads' HO_8.out).2.2); (case side2 => exact (Kd.R_reads' HO_8.out).2.1); (case side3 => exact mvC (Kd.R_reads' HO_10.out).2.2); (case side4 => exact (Kd.R_reads' HO_10.out).2.1); rintro e w69 ⟨v756,rfl,ho0,hb⟩; have n0_ := aK (Kd.R_below (mvR HO_8.out) hb); have n1_ := aK (Kd.R_below (mvR HO_10.out) hb); have n2_ := aK (Kd.R_below (mvR HO_11.out) hb); have n3_ := aK (Kd.V_lower (Kd.V_mono (ok' := fun k_ => some k_ ≠ (.slice Ao36 x8_2.length co36 : Value).ownBlock ∧ some k_ ≠ (.slice Ao68 x10_3.length co68 : Value).ownBlock ∧ some k_ ≠ (v746 : Value).ownBlock ∧ k_ ≠ gb736) ho0 (fun k_ hk_ => ⟨(Kd.fresh' (Kd.R_lt (mvR HO_8.out)) k_ hk_),(Kd.fresh' (Kd.R_lt (mvR HO_10.out)) k_ hk_),(Kd.fresh' (Kd.R_lt (mvR HO_11.out)) k_ hk_),(Kd.freshB (g := gb736) (o := .cells #[.int .i64 b0,.int .u64 b1,.int .i64 b2,.int .i64 b3] 26 (0,0)) (mvb BK736.out) k_ hk_)⟩)) (below_size (mvh HB.out))); have n4_ := aK (kb BK736.out hb); have n5_ := aK (below_step (mvh HB.out) hb); clear HO_8 HO_10 HO_11 BK736 HB; have HO_8 := n0_; have HO_10 := n1_; have HO_11 := n2_; have HO757 := n3_; have BK736 := n4_; have HB := n5_; clear n0_ n1_ n2_ n3_ n4_ n5_; (try clear hb); (try clear ho0)) | (go_at_call 14; (with_reducible refine (l4_num.calls t759 t760 _ A62.out).mono ?_); rintro e w' ⟨rfl,⟨nd,rfl⟩⟩; obtain ⟨hcz70_0,hcz70_1,hcz70_2,hcz70_3,hfz70_0,hfz70_1,hfz70_2,hfz70_3⟩ := cf4 BK736.out; obtain ⟨Ao71,co71,eo71⟩ := Kd.V_slice HO757.out; subst eo71) | (go_at_call 18; (with_reducible refine (reedsol_Encode.calls kj38 b0 b1 b2 b3 _ _ t755 t763 t766 _ ?side1 ?side2 A64.out).mono ?_); (case side1 => exact mvC (Kd.V_reads' HO757.out).2.2); (case side2 => exact (Kd.V_reads' HO757.out).2.1); rintro e w72 ⟨v764,rfl,ho0,hb⟩; have n0_ := aK (Kd.R_elder' (mvR HO_8.out) (Kd.R_base ho0) hb); have n1_ := aK (Kd.R_below (mvR HO_10.out) hb); have n2_ := aK (Kd.R_below (mvR HO_11.out) hb); have n3_ := aK (Kd.V_elder' (by (with_reducible repeat (first | apply Kd.V_alloc | apply Kd.V_drewN | apply Kd.V_drew)); exact HO757.out) (Kd.R_base ho0) hb); have n4_ := aK (Kd.R_lower (Kd.R_new' ho0 (Kd.R_lt (mvR HO_8.out))) (below_size (mvh HB.out))); have n5_ := aK (kb BK736.out hb); have n6_ := aK (below_step (mvh HB.out) hb); clear HO_8 HO_10 HO_11 HO757 BK736 HB; have HO_8 := n0_; have HO_10 := n1_; have HO_11 := n2_; have HO757 := n3_; have HO765 := n4_; have BK736 := n5_; have HB := n6_; clear n0_ n1_ n2_ n3_ n4_ n5_ n6_; (try clear hb); (try clear ho0); obtain ⟨hcz73_0,hcz73_1,hcz73_2,hcz73_3,hfz73_0,hfz73_1,hfz73_2,hfz73_3⟩ := cf4 BK736.out; obtain ⟨Ao74,co74,eo74⟩ := Kd.R_slice HO765.out; subst eo74) | (go_at_call 11; (with_reducible refine (reedsol_Member.calls kj38 b0 b1 b2 b3 _ _ t763 t767 t768 _ ?side1 ?side2 A65.out).mono ?_); (case side1 => exact mvC (Kd.R_reads' HO765.out).2.2); (case side2 => exact (Kd.R_reads' HO765.out).2.1); rintro e w75 ⟨rfl,hb⟩; have n0_ := aK (Kd.R_below (mvR HO_8.out) hb); have n1_ := aK (Kd.R_below (mvR HO_10.out) hb); have n2_ := aK (Kd.R_below (mvR HO_11.out) hb); have n3_ := aK (Kd.V_below (by (with_reducible repeat (first | apply Kd.V_alloc | apply Kd.V_drewN | apply Kd.V_drew)); exact HO757.out) hb); have n4_ := aK (Kd.R_below (mvR HO765.out) hb); have n5_ := aK (kb BK736.out hb); have n6_ := aK (below_step (mvh HB.out) hb); clear HO_8 HO_10 HO_11 HO757 HO765 BK736 HB; have HO_8 := n0_; have HO_10 := n1_; have HO_11 := n2_; have HO757 := n3_; have HO765 := n4_; have BK736 := n5_; have HB := n6_; clear n0_ n1_ n2_ n3_ n4_ n5_ n6_; (try clear hb)))
            (try simp only [Act.put,List.setIfInBounds_toArray,List.set_cons_zero,List.set_cons_succ])
            go_cut [173] (fun v173 wc => ∃ (kq : Nat) (x173_65 : Bool),v173 = .bool x173_65 ∧ Aside0 (l4_RH.j4 kq x8_2 x11_3 x12_3 t755 t758 t763 x173_65 b0 b1 b2 b3 = some r) ∧ Aside0 (kq ≤ kj38) ∧ Aside0 (Kd.R (Kd.int .u8) 5 wc w.heap.size (fun k_ => some k_ ≠ ((.slice Ao74 t763.length co74) : Value).ownBlock) (.slice Ao36 x8_2.length co36) x8_2) ∧ Aside0 (Kd.R Kd.bool 4 wc w.heap.size (fun _ => True) v746 x11_3) ∧ Aside0 (Kd.V (Kd.int .u8) 5 wc w.heap.size (fun k_ => some k_ ≠ ((.slice Ao36 x8_2.length co36) : Value).ownBlock ∧ some k_ ≠ (v746 : Value).ownBlock ∧ some k_ ≠ ((.slice Ao74 t763.length co74) : Value).ownBlock ∧ k_ ≠ gb736) (.slice Ao71 t755.length co71) t755) ∧ Aside0 (Kd.R (Kd.int .u8) 5 wc w.heap.size (fun k_ => some k_ ≠ ((.slice Ao36 x8_2.length co36) : Value).ownBlock) (.slice Ao74 t763.length co74) t763) ∧ Aside0 (wc.heap[gb736]? = some (.cells #[.int .i64 b0,.int .u64 b1,.int .i64 b2,.int .i64 b3] 26 (0,0))) ∧ Aside0 (Below w.heap.size w wc))
            case first =>
             have H := HC66.out
             clear HC66
             replace H := Option.bind_eq_some_iff.mp H
             obtain ⟨t769,A760,H⟩ := H
             try dsimp only at H
             have A76 := Aside0.mk A760
             clear A760
             replace H := Option.bind_eq_some_iff.mp H
             obtain ⟨t770,A770,H⟩ := H
             try dsimp only at H
             have A77 := Aside0.mk A770
             clear A770
             by_cases c78 : (wrap64 (t769 + t770)) = 0
             rotate_left
             ·rw [if_neg c78] at H
              exact l4_RH.no_j4 HR9_.out H
             rw [if_pos c78] at H
             have c78b0 : ((wrap64 (t769 + t770)) == 0) = true := beq_iff_eq.mpr c78
             have c78b1 : ((wrap64 (t769 + t770)) != 0) = false := bne_eq_false_iff_eq.mpr c78
             clear c78
             (first | rw [c78b0] | (simp only [i64_w,i32_w]; rw [c78b0]) | rw [c78b1] | skip)
             by_cases c79 : t767 = true
             rotate_left
             ·replace c79 := Bool.eq_false_iff.mpr c79
              exact l4_RH.no_j4 HR9_.out ((if_neg (c := t767 = true) (by rw [c79]; exact Bool.false_ne_true)).symm.trans H)
             subst c79
             have H1 : (l4_RH.j4 kj38 x8_2 x11_3 x12_3 t755 t758 t763 ((t763.length : Int) != (x8_2.length : Int)) b0 b1 b2 b3) = some r := by rw [if_pos rfl] at H; exact H
             clear H
             have H := H1
             clear H1
             have H' := Aside0.mk H
             clear H
             go_wp2_with (first | (go_at_call 14; (with_reducible refine (l4_num.calls t766 t769 _ A76.out).mono ?_); rintro e w' ⟨rfl,⟨nd,rfl⟩⟩) | (go_at_call 14; (with_reducible refine (l4_num.calls t768 t770 _ A77.out).mono ?_); rintro e w' ⟨rfl,⟨nd,rfl⟩⟩))
             go_meet
             case rel => exact ⟨_,(((t763.length : Int) != (x8_2.length : Int))),(by first | rfl | (simp; done) | (simp [*]; done) | (simp [wrap64]; done)),H',⟨by have := HJ3.out; have := HK2.out; have := HK3.out; have := HJ38.out; first | omega | exact Nat.le_refl _⟩,⟨by (with_reducible repeat (first | apply Kd.R_alloc | apply Kd.R_drewN | apply Kd.R_drew)); exact Kd.R_mono HO_8.out (fun _ hk => hk.2)⟩,⟨mvR HO_11.out⟩,⟨by (with_reducible repeat (first | apply Kd.V_alloc | apply Kd.V_drewN | apply Kd.V_drew)); exact Kd.V_mono HO757.out (fun _ hk => ⟨hk.1.1,⟨hk.1.2.2.1,⟨hk.2,hk.1.2.2.2⟩⟩⟩)⟩,⟨by (with_reducible repeat (first | apply Kd.R_alloc | apply Kd.R_drewN | apply Kd.R_drew)); exact Kd.R_mono HO765.out (fun _ hk => hk.2)⟩,⟨mvb BK736.out⟩,⟨mvh HB.out⟩⟩
            case rest =>
             clear HC66
             (try clear c1); (try clear c2); (try clear p2); (try clear c3); (try clear p3); (try clear q3); (try clear hx3); (try clear hf3); (try clear c4); (try clear q4); (try clear c5); (try clear p5); (try clear q5); (try clear hx5); (try clear hf5); (try clear c6); (try clear p6); (try clear c7)
             (try clear c7b0); (try clear c7b1); (try clear p7); (try clear q7); (try clear hx7); (try clear c8); (try clear c11); (try clear c14); (try clear c16); (try clear c18); (try clear c18b0); (try clear c18b1); (try clear c21); (try clear c21b0); (try clear c21b1); (try clear c22); (try clear c22b0)
             (try clear c22b1); (try clear c25); (try clear c26); (try clear c26b0); (try clear c27); (try clear c27b0); (try clear c28); (try clear c28b0); (try clear c29); (try clear c29b0); (try clear c29b1); (try clear p30); (try clear q30); (try clear hx30); (try clear hf30); (try clear c34)
             (try clear c34b0); (try clear c34b1); (try clear c35); (try clear c35b0); (try clear c35b1); (try clear c40); (try clear c40b0); (try clear c40b1); (try clear c41); (try clear c42); (try clear c42b0); (try clear c43); (try clear c43b0); (try clear c44); (try clear c44b0); (try clear c44b1)
             (try clear c44b2); (try clear c45); (try clear c47); (try clear c47b0); (try clear c48); (try clear c48b0); (try clear q49); (try clear c50); (try clear p51); (try clear q51); (try clear hx51); (try clear hf51); (try clear p56); (try clear q56); (try clear hx56); (try clear hf56); (try clear c63)
             (try clear c63b0); (try clear c63b1); (try clear p64); (try clear p74); (try clear q74); (try clear hx74); (try clear p75); (try clear q75); (try clear hx75); (try clear c78); (try clear c78b0); (try clear c78b1); (try clear c79); (try clear hcz12_0); (try clear hcz12_1); (try clear hcz12_2)
             (try clear hcz12_3); (try clear hcz23_0); (try clear hcz23_1); (try clear hcz23_2); (try clear hcz23_3); (try clear hcz67_0); (try clear hcz67_1); (try clear hcz67_2); (try clear hcz67_3); (try clear hcz70_0); (try clear hcz70_1); (try clear hcz70_2); (try clear hcz70_3); (try clear hcz73_0)
             (try clear hcz73_1); (try clear hcz73_2); (try clear hcz73_3); (try clear hcz9_0); (try clear hcz9_1); (try clear hcz9_2); (try clear hcz9_3); (try clear hfz12_0); (try clear hfz12_1); (try clear hfz12_2); (try clear hfz12_3); (try clear hfz23_0); (try clear hfz23_1); (try clear hfz23_2)
             (try clear hfz23_3); (try clear hfz67_0); (try clear hfz67_1); (try clear hfz67_2); (try clear hfz67_3); (try clear hfz70_0); (try clear hfz70_1); (try clear hfz70_2); (try clear hfz70_3); (try clear hfz73_0); (try clear hfz73_1); (try clear hfz73_2); (try clear hfz73_3); (try clear hfz9_0)
             (try clear hfz9_1); (try clear hfz9_2); (try clear hfz9_3); (try clear hx30_0); (try clear hx51_0); (try clear hx56_0); (try clear hx743_0); (try clear hx748_0); (try clear hx752_0); (try clear p2); (try clear p3); (try clear p30); (try clear p51); (try clear p56); (try clear p6); (try clear p7)
             (try clear p743); (try clear p748); (try clear p752); (try clear q3); (try clear q30); (try clear q51); (try clear q56); (try clear q7); (try clear q743); (try clear q748); (try clear q752)
             obtain ⟨kq,x173_65,rfl,HA,HJ65,HO_8,HO_11,HO_15,HO_18,BK736,HB⟩ := hcut
             cases kq with
             | zero => exact absurd HA.out (by simp [l4_RH.j4])
             | succ kj65 =>
              have H := HA.out
              clear HA
              simp only [l4_RH.j4] at H
              by_cases c80 : x173_65 = true
              ·subst c80
               exact l4_RH.no_false HR9_.out H
              ·replace c80 := Bool.eq_false_iff.mpr c80
               subst c80
               have H1 : (l4_RH.l2 kj65 x8_2 x11_3 x12_3 t755 t758 t763 0 0 0 b0 b1 b2 b3) = some r := by rw [if_neg (show ¬ (false = true) by decide)] at H; exact H
               clear H
               have H := H1
               clear H1
               have H' := Aside0.mk H
               clear H
               go_wp2
               go_loopg [22,23,24] kj65 (fun kq v22 v23 v24 w' => ∃ (x22_6 : Int) (x23_6 : Int) (x24_6 : Int),v22 = .int .i64 x22_6 ∧ v23 = .int .i64 x23_6 ∧ v24 = .int .i64 x24_6 ∧ Aside0 (l4_RH.l2 kq x8_2 x11_3 x12_3 t755 t758 t763 x22_6 x23_6 x24_6 b0 b1 b2 b3 = some r) ∧ Aside0 (kq ≤ kj65) ∧ Aside0 (Kd.R (Kd.int .u8) 5 w' w.heap.size (fun k_ => some k_ ≠ ((.slice Ao74 t763.length co74) : Value).ownBlock) (.slice Ao36 x8_2.length co36) x8_2) ∧ Aside0 (Kd.R Kd.bool 4 w' w.heap.size (fun _ => True) v746 x11_3) ∧ Aside0 (Kd.V (Kd.int .u8) 5 w' w.heap.size (fun k_ => some k_ ≠ ((.slice Ao36 x8_2.length co36) : Value).ownBlock ∧ some k_ ≠ (v746 : Value).ownBlock ∧ some k_ ≠ ((.slice Ao74 t763.length co74) : Value).ownBlock ∧ k_ ≠ gb736) (.slice Ao71 t755.length co71) t755) ∧ Aside0 (Kd.R (Kd.int .u8) 5 w' w.heap.size (fun k_ => some k_ ≠ ((.slice Ao36 x8_2.length co36) : Value).ownBlock) (.slice Ao74 t763.length co74) t763) ∧ Aside0 (w'.heap[gb736]? = some (.cells #[.int .i64 b0,.int .u64 b1,.int .i64 b2,.int .i64 b3] 26 (0,0))) ∧ Aside0 (Below w.heap.size w w'))
               case atStart => exact ⟨(0),(0),(0),(by first | rfl | (simp; done) | (simp [*]; done) | (simp [wrap64]; done)),(by first | rfl | (simp; done) | (simp [*]; done) | (simp [wrap64]; done)),(by first | rfl | (simp; done) | (simp [*]; done) | (simp [wrap64]; done)),H',⟨Nat.le_refl _⟩,⟨mvR HO_8.out⟩,⟨mvR HO_11.out⟩,⟨by (with_reducible repeat (first | apply Kd.V_alloc | apply Kd.V_drewN | apply Kd.V_drew)); exact HO_15.out⟩,⟨mvR HO_18.out⟩,⟨mvb BK736.out⟩,⟨mvh HB.out⟩⟩
               case round =>
                clear H'
                (try clear c1); (try clear c2); (try clear p2); (try clear c3); (try clear p3); (try clear q3); (try clear hx3); (try clear hf3); (try clear c4); (try clear q4); (try clear c5); (try clear p5); (try clear q5); (try clear hx5); (try clear hf5); (try clear c6); (try clear p6); (try clear c7)
                (try clear c7b0); (try clear c7b1); (try clear p7); (try clear q7); (try clear hx7); (try clear c8); (try clear c11); (try clear c14); (try clear c16); (try clear c18); (try clear c18b0); (try clear c18b1); (try clear c21); (try clear c21b0); (try clear c21b1); (try clear c22); (try clear c22b0)
                (try clear c22b1); (try clear c25); (try clear c26); (try clear c26b0); (try clear c27); (try clear c27b0); (try clear c28); (try clear c28b0); (try clear c29); (try clear c29b0); (try clear c29b1); (try clear p30); (try clear q30); (try clear hx30); (try clear hf30); (try clear c34)
                (try clear c34b0); (try clear c34b1); (try clear c35); (try clear c35b0); (try clear c35b1); (try clear c40); (try clear c40b0); (try clear c40b1); (try clear c41); (try clear c42); (try clear c42b0); (try clear c43); (try clear c43b0); (try clear c44); (try clear c44b0); (try clear c44b1)
                (try clear c44b2); (try clear c45); (try clear c47); (try clear c47b0); (try clear c48); (try clear c48b0); (try clear q49); (try clear c50); (try clear p51); (try clear q51); (try clear hx51); (try clear hf51); (try clear p56); (try clear q56); (try clear hx56); (try clear hf56)
                (try clear c63); (try clear c63b0); (try clear c63b1); (try clear p64); (try clear p74); (try clear q74); (try clear hx74); (try clear p75); (try clear q75); (try clear hx75); (try clear c78); (try clear c78b0); (try clear c78b1); (try clear c79); (try clear c80); (try clear hcz12_0)
                (try clear hcz12_1); (try clear hcz12_2); (try clear hcz12_3); (try clear hcz23_0); (try clear hcz23_1); (try clear hcz23_2); (try clear hcz23_3); (try clear hcz67_0); (try clear hcz67_1); (try clear hcz67_2); (try clear hcz67_3); (try clear hcz70_0); (try clear hcz70_1); (try clear hcz70_2)
                (try clear hcz70_3); (try clear hcz73_0); (try clear hcz73_1); (try clear hcz73_2); (try clear hcz73_3); (try clear hcz9_0); (try clear hcz9_1); (try clear hcz9_2); (try clear hcz9_3); (try clear hfz12_0); (try clear hfz12_1); (try clear hfz12_2); (try clear hfz12_3); (try clear hfz23_0)
                (try clear hfz23_1); (try clear hfz23_2); (try clear hfz23_3); (try clear hfz67_0); (try clear hfz67_1); (try clear hfz67_2); (try clear hfz67_3); (try clear hfz70_0); (try clear hfz70_1); (try clear hfz70_2); (try clear hfz70_3); (try clear hfz73_0); (try clear hfz73_1); (try clear hfz73_2)
                (try clear hfz73_3); (try clear hfz9_0); (try clear hfz9_1); (try clear hfz9_2); (try clear hfz9_3); (try clear hx30_0); (try clear hx51_0); (try clear hx56_0); (try clear hx743_0); (try clear hx748_0); (try clear hx752_0); (try clear p2); (try clear p3); (try clear p30); (try clear p5)
                (try clear p51); (try clear p56); (try clear p6); (try clear p64); (try clear p7); (try clear p74); (try clear p743); (try clear p748); (try clear p75); (try clear p752); (try clear q3); (try clear q30); (try clear q4); (try clear q49); (try clear q5); (try clear q51); (try clear q56)
                (try clear q7); (try clear q74); (try clear q743); (try clear q748); (try clear q75); (try clear q752)
                obtain ⟨x22_6,x23_6,x24_6,rfl,rfl,rfl,HA,HK6,HO_8,HO_11,HO_15,HO_18,BK736,HB⟩ := hrel
                cases gk with
                | zero => exact absurd HA.out (by simp [l4_RH.l2])
                | succ k6 =>
                 have H := HA.out
                 clear HA
                 simp only [l4_RH.l2] at H
                 by_cases c81 : x24_6 < (t763.length : Int)
                 rotate_left
                 ·rw [if_neg c81] at H
                  have c81b0 : decide (x24_6 < (t763.length : Int)) = false := decide_eq_false c81
                  clear c81
                  replace H := Option.bind_eq_some_iff.mp H
                  obtain ⟨⟨t771,t774,t775⟩,A930,H⟩ := H
                  try dsimp only at H
                  have A93 := Aside0.mk A930
                  clear A930
                  by_cases c94 : x22_6 = t758
                  rotate_left
                  ·rw [if_neg c94] at H
                   exact l4_RH.no_false HR9_.out H
                  rw [if_pos c94] at H
                  have c94b0 : (x22_6 == t758) = true := beq_iff_eq.mpr c94
                  have c94b1 : (x22_6 != t758) = false := bne_eq_false_iff_eq.mpr c94
                  clear c94
                  by_cases c95 : (wrap64 ((wrap64 (2 * x23_6)) + x12_3)) ≤ b3
                  rotate_left
                  ·rw [if_neg c95] at H
                   exact l4_RH.no_false HR9_.out H
                  rw [if_pos c95] at H
                  have c95b0 : decide ((wrap64 ((wrap64 (2 * x23_6)) + x12_3)) ≤ b3) = true := decide_eq_true c95
                  clear c95
                  replace H := Option.bind_eq_some_iff.mp H
                  obtain ⟨t776,A960,H⟩ := H
                  try dsimp only at H
                  have A96 := Aside0.mk A960
                  clear A960
                  by_cases c97 : t776 = 0
                  rotate_left
                  ·rw [if_neg c97] at H
                   exact l4_RH.no_false HR9_.out H
                  rw [if_pos c97] at H
                  have c97b0 : (t776 == 0) = true := beq_iff_eq.mpr c97
                  have c97b1 : (t776 != 0) = false := bne_eq_false_iff_eq.mpr c97
                  clear c97
                  by_cases c98 : t774 = 0
                  rotate_left
                  ·rw [if_neg c98] at H
                   exact l4_RH.no_false HR9_.out H
                  rw [if_pos c98] at H
                  have c98b0 : (t774 == 0) = true := beq_iff_eq.mpr c98
                  have c98b1 : (t774 != 0) = false := bne_eq_false_iff_eq.mpr c98
                  clear c98
                  obtain rfl := Option.some.inj H
                  obtain ⟨hcz99_0,hcz99_1,hcz99_2,hcz99_3,hfz99_0,hfz99_1,hfz99_2,hfz99_3⟩ := cf4 BK736.out
                  go_wp2_with (first | (go_at_call 25; (refine (reedsol_Decode.calls k6 b0 b1 b2 b3 _ _ t763 _ _ ([] : List Int) t771 t774 t775 _ ?side1 ?side2 ?side3 ?side4 A93.out).mono ?_); (case side1 => exact mvC (Kd.R_reads' HO_18.out).2.2); (case side2 => exact (Kd.R_reads' HO_18.out).2.1); (case side3 => exact Kd.C_nil _ _); (case side4 => exact Nat.le_refl _); rintro e w100 ⟨v772,rfl,ho0,hb⟩; have n0_ := aK (Kd.R_below (mvR HO_8.out) hb); have n1_ := aK (Kd.R_below (mvR HO_11.out) hb); have n2_ := aK (Kd.V_below (by (with_reducible repeat (first | apply Kd.V_alloc | apply Kd.V_drewN | apply Kd.V_drew)); exact HO_15.out) hb); have n3_ := aK (Kd.R_below (mvR HO_18.out) hb); have n4_ := aK (Kd.V_lower (Kd.V_mono (ok' := fun k_ => some k_ ≠ (.slice Ao36 x8_2.length co36 : Value).ownBlock ∧ some k_ ≠ (v746 : Value).ownBlock ∧ some k_ ≠ (.slice Ao74 t763.length co74 : Value).ownBlock ∧ k_ ≠ gb736) ho0 (fun k_ hk_ => ⟨(Kd.fresh' (Kd.R_lt (mvR HO_8.out)) k_ hk_),(Kd.fresh' (Kd.R_lt (mvR HO_11.out)) k_ hk_),(Kd.fresh' (Kd.R_lt (mvR HO_18.out)) k_ hk_),(Kd.freshB (g := gb736) (o := .cells #[.int .i64 b0,.int .u64 b1,.int .i64 b2,.int .i64 b3] 26 (0,0)) (mvb BK736.out) k_ hk_)⟩)) (below_size (mvh HB.out))); have n5_ := aK (kb BK736.out hb); have n6_ := aK (below_step (mvh HB.out) hb); clear HO_8 HO_11 HO_15 HO_18 BK736 HB; have HO_8 := n0_; have HO_11 := n1_; have HO_15 := n2_; have HO_18 := n3_; have HO773 := n4_; have BK736 := n5_; have HB := n6_; clear n0_ n1_ n2_ n3_ n4_ n5_ n6_; (try clear hb); (try clear ho0); obtain ⟨hcz101_0,hcz101_1,hcz101_2,hcz101_3,hfz101_0,hfz101_1,hfz101_2,hfz101_3⟩ := cf4 BK736.out) | (go_at_call 14; (with_reducible refine (l4_num.calls t775 t776 _ A96.out).mono ?_); rintro e w' ⟨rfl,⟨nd,rfl⟩⟩; have hcv102 := V_string (P := Try.prog) Try.underlying27 Try.underlying5 Try.underlying9 HO773.out; have hcv103 := fun n_ => V_string (P := Try.prog) Try.underlying27 Try.underlying5 Try.underlying9 (Kd.V_drewN HO773.out n_); have hcv104 := V_string (P := Try.prog) Try.underlying27 Try.underlying5 Try.underlying9 HO_15.out; have hcv105 := fun n_ => V_string (P := Try.prog) Try.underlying27 Try.underlying5 Try.underlying9 (Kd.V_drewN HO_15.out n_)))
                  go_ret
                  exact ⟨by first | rfl | (simp [errW_none,errW_some] <;> rfl) | (simp only [← hji17,← hji19,← hji20]; first | rfl | (simp [errW_none,errW_some] <;> rfl)) | (simp [*,errW_none,errW_some] <;> rfl),mvh HB.out⟩
                 rw [if_pos c81] at H
                 have c81b0 : decide (x24_6 < (t763.length : Int)) = true := decide_eq_true c81
                 clear c81
                 by_cases c82 : 0 ≤ x24_6
                 rotate_left
                 ·rw [if_neg c82] at H
                  exact absurd H (by simp)
                 rw [if_pos c82] at H
                 have c82b0 : decide (0 ≤ x24_6) = true := decide_eq_true c82
                 clear c82
                 by_cases c83 : x24_6 < (x8_2.length : Int)
                 rotate_left
                 ·rw [if_neg c83] at H
                  exact absurd H (by simp)
                 rw [if_pos c83] at H
                 have c83b0 : decide (x24_6 < (x8_2.length : Int)) = true := decide_eq_true c83
                 clear c83
                 by_cases c84 : (rd t763 x24_6) = (rd x8_2 x24_6)
                 ·rw [if_pos c84] at H
                  have c84b0 : ((rd t763 x24_6) == (rd x8_2 x24_6)) = true := beq_iff_eq.mpr c84
                  have c84b1 : ((rd t763 x24_6) != (rd x8_2 x24_6)) = false := bne_eq_false_iff_eq.mpr c84
                  clear c84
                  have H' := Aside0.mk H
                  clear H
                  try go_wp2
                  have n0_ := aK (Kd.R_drew HO_8.out)
                  have n1_ := aK (Kd.R_drew HO_11.out)
                  have n2_ := aK (Kd.V_drew HO_15.out)
                  have n3_ := aK (Kd.R_drew HO_18.out)
                  have n4_ := aK (blk_drew BK736.out)
                  have n5_ := aK (below_drew1 HB.out)
                  clear HO_8 HO_11 HO_15 HO_18 BK736 HB
                  have HO_8 := n0_
                  have HO_11 := n1_
                  have HO_15 := n2_
                  have HO_18 := n3_
                  have BK736 := n4_
                  have HB := n5_
                  clear n0_ n1_ n2_ n3_ n4_ n5_
                  have p777 : 0 ≤ (x24_6 : Int) := of_decide_eq_true (by first | (with_reducible assumption) | assumption)
                  have q777 : x24_6 < (t763.length : Int) := of_decide_eq_true (by first | (with_reducible assumption) | assumption)
                  obtain ⟨ad777,e777,hx777_0⟩ := Kd.at_int (Kd.R_reads' HO_18.out).2.2 x24_6 p777 q777
                  cases e777
                  replace p777 := eq_true p777
                  replace q777 := eq_true q777
                  have p778 : 0 ≤ (x24_6 : Int) := of_decide_eq_true (by first | (with_reducible assumption) | assumption)
                  have q778 : x24_6 < (x8_2.length : Int) := of_decide_eq_true (by first | (with_reducible assumption) | assumption)
                  obtain ⟨ad778,e778,hx778_0⟩ := Kd.at_int (Kd.R_reads' HO_8.out).2.2 x24_6 p778 q778
                  cases e778
                  replace p778 := eq_true p778
                  replace q778 := eq_true q778
                  refine start_ (n := 9) (S := fun w' => w'.cell? (ad777.add (x24_6).toNat) = some (.int .u8 (rd t763 x24_6)) ∧ w'.cell? (ad778.add (x24_6).toNat) = some (.int .u8 (rd x8_2 x24_6))) (ds := []) #[false,false,false,false,false,false,false,false,false] (by kernel_rfl) rfl rfl ⟨hx777_0,hx778_0⟩ (fun hHeld => ?_); refine with_tabW l4_RH.tab32 l4_RH.bits32 (fun HT_ HW_ => ?_)
                  generalize wr.drew = w85 at HO_8 HO_11 HO_15 HO_18 BK736 HB hx777_0 hx778_0 hHeld ⊢
                  refine pure_ (i := 0) (N := some 180) (v := ?_) (a' := ?_) #[true,false,false,false,false,false,false,false,false] rfl rfl (any_of HT_.out (by kernel_rfl)) (fun _ _ _ h => h) (Or.inl ⟨by rfl,?_⟩) ?_ ?_
                  rotate_left
                  ·intro w'
                   go_simp
                   with_reducible rfl
                  rotate_left
                  ·simp only [Act.put,List.setIfInBounds_toArray,List.set_cons_zero,List.set_cons_succ,i64_w,i32_w]
                   rfl
                  refine pure_ (i := 1) (N := some 181) (v := ?_) (a' := ?_) #[true,true,false,false,false,false,false,false,false] rfl rfl (any_of HT_.out (by kernel_rfl)) (fun _ _ _ h => h) (Or.inl ⟨by rfl,?_⟩) ?_ ?_
                  rotate_left
                  ·intro w'
                   go_simp
                   with_reducible rfl
                  rotate_left
                  ·simp only [Act.put,List.setIfInBounds_toArray,List.set_cons_zero,List.set_cons_succ,i64_w,i32_w]
                   rfl
                  refine pure_ (i := 2) (N := some 182) (v := ?_) (a' := ?_) #[true,true,true,false,false,false,false,false,false] rfl rfl (any_of HT_.out (by kernel_rfl)) (fun _ _ _ h => h) (Or.inl ⟨by rfl,?_⟩) ?_ ?_
                  rotate_left
                  ·intro w'
                   go_simp
                   with_reducible rfl
                  rotate_left
                  ·simp only [Act.put,List.setIfInBounds_toArray,List.set_cons_zero,List.set_cons_succ,i64_w,i32_w]
                   rfl
                  refine pure_ (i := 4) (N := some 184) (v := ?_) (a' := ?_) #[true,true,true,false,true,false,false,false,false] rfl rfl (any_of HT_.out (by kernel_rfl)) (fun _ _ _ h => h) (Or.inl ⟨by rfl,?_⟩) ?_ ?_
                  rotate_left
                  ·intro w'
                   go_simp
                   with_reducible rfl
                  rotate_left
                  ·simp only [Act.put,List.setIfInBounds_toArray,List.set_cons_zero,List.set_cons_succ,i64_w,i32_w]
                   rfl
                  refine pure_ (i := 5) (N := some 185) (v := ?_) (a' := ?_) #[true,true,true,false,true,true,false,false,false] rfl rfl (any_of HT_.out (by kernel_rfl)) (fun _ _ _ h => h) (Or.inl ⟨by rfl,?_⟩) ?_ ?_
                  rotate_left
                  ·intro w'
                   go_simp
                   with_reducible rfl
                  rotate_left
                  ·simp only [Act.put,List.setIfInBounds_toArray,List.set_cons_zero,List.set_cons_succ,i64_w,i32_w]
                   rfl
                  refine pure_ (i := 6) (N := some 186) (v := ?_) (a' := ?_) #[true,true,true,false,true,true,true,false,false] rfl rfl (any_of HT_.out (by kernel_rfl)) (fun _ _ _ h => h) (Or.inl ⟨by rfl,?_⟩) ?_ ?_
                  rotate_left
                  ·intro w'
                   go_simp
                   with_reducible rfl
                  rotate_left
                  ·simp only [Act.put,List.setIfInBounds_toArray,List.set_cons_zero,List.set_cons_succ,i64_w,i32_w]
                   rfl
                  refine take_ (i := 3) (N := some 183) (v := ?_) (a' := ?_) #[true,true,true,true,true,true,true,false,false] rfl rfl (take_ofW HT_.out HW_.out (by kernel_rfl)) (fun _ _ _ h => h) (Or.inl ⟨by rfl,?_⟩) hHeld ?_ ?_
                  rotate_left
                  ·rintro w' ⟨s0,s1⟩
                   go_simp
                   with_reducible rfl
                  rotate_left
                  ·simp only [Act.put,List.setIfInBounds_toArray,List.set_cons_zero,List.set_cons_succ,i64_w,i32_w]
                   rfl
                  refine take_ (i := 7) (N := some 187) (v := ?_) (a' := ?_) #[true,true,true,true,true,true,true,true,false] rfl rfl (take_ofW HT_.out HW_.out (by kernel_rfl)) (fun _ _ _ h => h) (Or.inl ⟨by rfl,?_⟩) hHeld ?_ ?_
                  rotate_left
                  ·rintro w' ⟨s0,s1⟩
                   go_simp
                   with_reducible rfl
                  rotate_left
                  ·simp only [Act.put,List.setIfInBounds_toArray,List.set_cons_zero,List.set_cons_succ,i64_w,i32_w]
                   rfl
                  refine pure_ (i := 8) (N := some 188) (v := ?_) (a' := ?_) #[true,true,true,true,true,true,true,true,true] rfl rfl (any_of HT_.out (by kernel_rfl)) (fun _ _ _ h => h) (Or.inl ⟨by rfl,?_⟩) ?_ ?_
                  rotate_left
                  ·intro w'
                   go_simp
                   with_reducible rfl
                  rotate_left
                  ·simp only [Act.put,List.setIfInBounds_toArray,List.set_cons_zero,List.set_cons_succ,i64_w,i32_w]
                   rfl
                  refine done_ (done_of HT_.out (by kernel_rfl)) ?_
                  try go_wp2
                  go_roundg k6
                  case measure => have := HJ3.out; have := HK2.out; have := HK3.out; have := HJ38.out; have := HJ65.out; have := HK6.out; omega
                  case rel => exact ⟨(x22_6),(x23_6),(wrap64 (x24_6 + 1)),(by first | rfl | (simp; done) | (simp [*]; done) | (simp [wrap64]; done)),(by first | rfl | (simp; done) | (simp [*]; done) | (simp [wrap64]; done)),(by first | rfl | (simp; done) | (simp [*]; done) | (simp [wrap64]; done)),H',⟨by have := HJ3.out; have := HK2.out; have := HK3.out; have := HJ38.out; have := HJ65.out; have := HK6.out; omega⟩,⟨mvR HO_8.out⟩,⟨mvR HO_11.out⟩,⟨by (with_reducible repeat (first | apply Kd.V_alloc | apply Kd.V_drewN | apply Kd.V_drew)); exact HO_15.out⟩,⟨mvR HO_18.out⟩,⟨mvb BK736.out⟩,⟨mvh HB.out⟩⟩
                 ·rw [if_neg c84] at H
                  have c84b0 : ((rd t763 x24_6) == (rd x8_2 x24_6)) = false := beq_eq_false_iff_ne.mpr c84
                  have c84b1 : ((rd t763 x24_6) != (rd x8_2 x24_6)) = true := bne_iff_ne.mpr c84
                  by_cases c86 : x24_6 < (x11_3.length : Int)
                  rotate_left
                  ·rw [if_neg c86] at H
                   exact absurd H (by simp)
                  rw [if_pos c86] at H
                  have c86b0 : decide (x24_6 < (x11_3.length : Int)) = true := decide_eq_true c86
                  clear c86
                  obtain ⟨bq87,hbq87⟩ : ∃ b_ : Bool,b_ = (rdOf false x11_3 x24_6) := ⟨_,rfl⟩
                  replace H : (if bq87 = true then (l4_RH.l2 k6 x8_2 x11_3 x12_3 t755 t758 t763 (wrap64 (x22_6 + 1)) x23_6 (wrap64 (x24_6 + 1)) b0 b1 b2 b3) else (l4_RH.l2 k6 x8_2 x11_3 x12_3 t755 t758 t763 (wrap64 (x22_6 + 1)) (wrap64 (x23_6 + 1)) (wrap64 (x24_6 + 1)) b0 b1 b2 b3)) = some r := by rw [← hbq87] at H; exact H
                  have Nbq87 := Aside0.mk hbq87
                  clear hbq87
                  by_cases c88 : bq87 = true
                  ·subst c88
                   have H1 : (l4_RH.l2 k6 x8_2 x11_3 x12_3 t755 t758 t763 (wrap64 (x22_6 + 1)) x23_6 (wrap64 (x24_6 + 1)) b0 b1 b2 b3) = some r := by rw [if_pos rfl] at H; exact H
                   clear H
                   have H := H1
                   clear H1
                   have H' := Aside0.mk H
                   clear H
                   try go_wp2
                   have n0_ := aK (Kd.R_drew HO_8.out)
                   have n1_ := aK (Kd.R_drew HO_11.out)
                   have n2_ := aK (Kd.V_drew HO_15.out)
                   have n3_ := aK (Kd.R_drew HO_18.out)
                   have n4_ := aK (blk_drew BK736.out)
                   have n5_ := aK (below_drew1 HB.out)
                   clear HO_8 HO_11 HO_15 HO_18 BK736 HB
                   have HO_8 := n0_
                   have HO_11 := n1_
                   have HO_15 := n2_
                   have HO_18 := n3_
                   have BK736 := n4_
                   have HB := n5_
                   clear n0_ n1_ n2_ n3_ n4_ n5_
                   have p777 : 0 ≤ (x24_6 : Int) := of_decide_eq_true (by first | (with_reducible assumption) | assumption)
                   have q777 : x24_6 < (t763.length : Int) := of_decide_eq_true (by first | (with_reducible assumption) | assumption)
                   obtain ⟨ad777,e777,hx777_0⟩ := Kd.at_int (Kd.R_reads' HO_18.out).2.2 x24_6 p777 q777
                   cases e777
                   replace p777 := eq_true p777
                   replace q777 := eq_true q777
                   have p778 : 0 ≤ (x24_6 : Int) := of_decide_eq_true (by first | (with_reducible assumption) | assumption)
                   have q778 : x24_6 < (x8_2.length : Int) := of_decide_eq_true (by first | (with_reducible assumption) | assumption)
                   obtain ⟨ad778,e778,hx778_0⟩ := Kd.at_int (Kd.R_reads' HO_8.out).2.2 x24_6 p778 q778
                   cases e778
                   replace p778 := eq_true p778
                   replace q778 := eq_true q778
                   refine start_ (n := 9) (S := fun w' => w'.cell? (ad777.add (x24_6).toNat) = some (.int .u8 (rd t763 x24_6)) ∧ w'.cell? (ad778.add (x24_6).toNat) = some (.int .u8 (rd x8_2 x24_6))) (ds := []) #[false,false,false,false,false,false,false,false,false] (by kernel_rfl) rfl rfl ⟨hx777_0,hx778_0⟩ (fun hHeld => ?_); refine with_tabW l4_RH.tab32 l4_RH.bits32 (fun HT_ HW_ => ?_)
                   generalize wr.drew = w89 at HO_8 HO_11 HO_15 HO_18 BK736 HB hx777_0 hx778_0 hHeld ⊢
                   refine pure_ (i := 0) (N := some 180) (v := ?_) (a' := ?_) #[true,false,false,false,false,false,false,false,false] rfl rfl (any_of HT_.out (by kernel_rfl)) (fun _ _ _ h => h) (Or.inl ⟨by rfl,?_⟩) ?_ ?_
                   rotate_left
                   ·intro w'
                    go_simp
                    with_reducible rfl
                   rotate_left
                   ·simp only [Act.put,List.setIfInBounds_toArray,List.set_cons_zero,List.set_cons_succ,i64_w,i32_w]
                    rfl
                   refine pure_ (i := 1) (N := some 181) (v := ?_) (a' := ?_) #[true,true,false,false,false,false,false,false,false] rfl rfl (any_of HT_.out (by kernel_rfl)) (fun _ _ _ h => h) (Or.inl ⟨by rfl,?_⟩) ?_ ?_
                   rotate_left
                   ·intro w'
                    go_simp
                    with_reducible rfl
                   rotate_left
                   ·simp only [Act.put,List.setIfInBounds_toArray,List.set_cons_zero,List.set_cons_succ,i64_w,i32_w]
                    rfl
                   refine pure_ (i := 2) (N := some 182) (v := ?_) (a' := ?_) #[true,true,true,false,false,false,false,false,false] rfl rfl (any_of HT_.out (by kernel_rfl)) (fun _ _ _ h => h) (Or.inl ⟨by rfl,?_⟩) ?_ ?_
                   rotate_left
                   ·intro w'
                    go_simp
                    with_reducible rfl
                   rotate_left
                   ·simp only [Act.put,List.setIfInBounds_toArray,List.set_cons_zero,List.set_cons_succ,i64_w,i32_w]
                    rfl
                   refine pure_ (i := 4) (N := some 184) (v := ?_) (a' := ?_) #[true,true,true,false,true,false,false,false,false] rfl rfl (any_of HT_.out (by kernel_rfl)) (fun _ _ _ h => h) (Or.inl ⟨by rfl,?_⟩) ?_ ?_
                   rotate_left
                   ·intro w'
                    go_simp
                    with_reducible rfl
                   rotate_left
                   ·simp only [Act.put,List.setIfInBounds_toArray,List.set_cons_zero,List.set_cons_succ,i64_w,i32_w]
                    rfl
                   refine pure_ (i := 5) (N := some 185) (v := ?_) (a' := ?_) #[true,true,true,false,true,true,false,false,false] rfl rfl (any_of HT_.out (by kernel_rfl)) (fun _ _ _ h => h) (Or.inl ⟨by rfl,?_⟩) ?_ ?_
                   rotate_left
                   ·intro w'
                    go_simp
                    with_reducible rfl
                   rotate_left
                   ·simp only [Act.put,List.setIfInBounds_toArray,List.set_cons_zero,List.set_cons_succ,i64_w,i32_w]
                    rfl
                   refine pure_ (i := 6) (N := some 186) (v := ?_) (a' := ?_) #[true,true,true,false,true,true,true,false,false] rfl rfl (any_of HT_.out (by kernel_rfl)) (fun _ _ _ h => h) (Or.inl ⟨by rfl,?_⟩) ?_ ?_
                   rotate_left
                   ·intro w'
                    go_simp
                    with_reducible rfl
                   rotate_left
                   ·simp only [Act.put,List.setIfInBounds_toArray,List.set_cons_zero,List.set_cons_succ,i64_w,i32_w]
                    rfl
                   refine take_ (i := 3) (N := some 183) (v := ?_) (a' := ?_) #[true,true,true,true,true,true,true,false,false] rfl rfl (take_ofW HT_.out HW_.out (by kernel_rfl)) (fun _ _ _ h => h) (Or.inl ⟨by rfl,?_⟩) hHeld ?_ ?_
                   rotate_left
                   ·rintro w' ⟨s0,s1⟩
                    go_simp
                    with_reducible rfl
                   rotate_left
                   ·simp only [Act.put,List.setIfInBounds_toArray,List.set_cons_zero,List.set_cons_succ,i64_w,i32_w]
                    rfl
                   refine take_ (i := 7) (N := some 187) (v := ?_) (a' := ?_) #[true,true,true,true,true,true,true,true,false] rfl rfl (take_ofW HT_.out HW_.out (by kernel_rfl)) (fun _ _ _ h => h) (Or.inl ⟨by rfl,?_⟩) hHeld ?_ ?_
                   rotate_left
                   ·rintro w' ⟨s0,s1⟩
                    go_simp
                    with_reducible rfl
                   rotate_left
                   ·simp only [Act.put,List.setIfInBounds_toArray,List.set_cons_zero,List.set_cons_succ,i64_w,i32_w]
                    rfl
                   refine pure_ (i := 8) (N := some 188) (v := ?_) (a' := ?_) #[true,true,true,true,true,true,true,true,true] rfl rfl (any_of HT_.out (by kernel_rfl)) (fun _ _ _ h => h) (Or.inl ⟨by rfl,?_⟩) ?_ ?_
                   rotate_left
                   ·intro w'
                    go_simp
                    with_reducible rfl
                   rotate_left
                   ·simp only [Act.put,List.setIfInBounds_toArray,List.set_cons_zero,List.set_cons_succ,i64_w,i32_w]
                    rfl
                   refine done_ (done_of HT_.out (by kernel_rfl)) ?_
                   obtain ⟨Ao90,co90,eo90⟩ := Kd.R_slice HO_11.out
                   subst eo90
                   have p779 : 0 ≤ (x24_6 : Int) := of_decide_eq_true (by first | (with_reducible assumption) | assumption)
                   have q779 : x24_6 < (x11_3.length : Int) := of_decide_eq_true (by first | (with_reducible assumption) | assumption)
                   obtain ⟨ad779,e779,hx779_0⟩ := Kd.at_bool (Kd.R_reads' HO_11.out).2.2 x24_6 p779 q779
                   (try rw [← Nbq87.out] at hx779_0)
                   cases e779
                   replace p779 := eq_true p779
                   replace q779 := eq_true q779
                   try go_wp2
                   go_roundg k6
                   case measure => have := HJ3.out; have := HK2.out; have := HK3.out; have := HJ38.out; have := HJ65.out; have := HK6.out; omega
                   case rel => exact ⟨(wrap64 (x22_6 + 1)),(x23_6),(wrap64 (x24_6 + 1)),(by first | rfl | (simp; done) | (simp [*]; done) | (simp [wrap64]; done)),(by first | rfl | (simp; done) | (simp [*]; done) | (simp [wrap64]; done)),(by first | rfl | (simp; done) | (simp [*]; done) | (simp [wrap64]; done)),H',⟨by have := HJ3.out; have := HK2.out; have := HK3.out; have := HJ38.out; have := HJ65.out; have := HK6.out; omega⟩,⟨mvR HO_8.out⟩,⟨mvR HO_11.out⟩,⟨by (with_reducible repeat (first | apply Kd.V_alloc | apply Kd.V_drewN | apply Kd.V_drew)); exact HO_15.out⟩,⟨mvR HO_18.out⟩,⟨mvb BK736.out⟩,⟨mvh HB.out⟩⟩
                  ·replace c88 := Bool.eq_false_iff.mpr c88
                   subst c88
                   have H1 : (l4_RH.l2 k6 x8_2 x11_3 x12_3 t755 t758 t763 (wrap64 (x22_6 + 1)) (wrap64 (x23_6 + 1)) (wrap64 (x24_6 + 1)) b0 b1 b2 b3) = some r := by rw [if_neg (show ¬ (false = true) by decide)] at H; exact H
                   clear H
                   have H := H1
                   clear H1
                   have H' := Aside0.mk H
                   clear H
                   try go_wp2
                   have n0_ := aK (Kd.R_drew HO_8.out)
                   have n1_ := aK (Kd.R_drew HO_11.out)
                   have n2_ := aK (Kd.V_drew HO_15.out)
                   have n3_ := aK (Kd.R_drew HO_18.out)
                   have n4_ := aK (blk_drew BK736.out)
                   have n5_ := aK (below_drew1 HB.out)
                   clear HO_8 HO_11 HO_15 HO_18 BK736 HB
                   have HO_8 := n0_
                   have HO_11 := n1_
                   have HO_15 := n2_
                   have HO_18 := n3_
                   have BK736 := n4_
                   have HB := n5_
                   clear n0_ n1_ n2_ n3_ n4_ n5_
                   have p777 : 0 ≤ (x24_6 : Int) := of_decide_eq_true (by first | (with_reducible assumption) | assumption)
                   have q777 : x24_6 < (t763.length : Int) := of_decide_eq_true (by first | (with_reducible assumption) | assumption)
                   obtain ⟨ad777,e777,hx777_0⟩ := Kd.at_int (Kd.R_reads' HO_18.out).2.2 x24_6 p777 q777
                   cases e777
                   replace p777 := eq_true p777
                   replace q777 := eq_true q777
                   have p778 : 0 ≤ (x24_6 : Int) := of_decide_eq_true (by first | (with_reducible assumption) | assumption)
                   have q778 : x24_6 < (x8_2.length : Int) := of_decide_eq_true (by first | (with_reducible assumption) | assumption)
                   obtain ⟨ad778,e778,hx778_0⟩ := Kd.at_int (Kd.R_reads' HO_8.out).2.2 x24_6 p778 q778
                   cases e778
                   replace p778 := eq_true p778
                   replace q778 := eq_true q778
                   refine start_ (n := 9) (S := fun w' => w'.cell? (ad777.add (x24_6).toNat) = some (.int .u8 (rd t763 x24_6)) ∧ w'.cell? (ad778.add (x24_6).toNat) = some (.int .u8 (rd x8_2 x24_6))) (ds := []) #[false,false,false,false,false,false,false,false,false] (by kernel_rfl) rfl rfl ⟨hx777_0,hx778_0⟩ (fun hHeld => ?_); refine with_tabW l4_RH.tab32 l4_RH.bits32 (fun HT_ HW_ => ?_)
                   generalize wr.drew = w91 at HO_8 HO_11 HO_15 HO_18 BK736 HB hx777_0 hx778_0 hHeld ⊢
                   refine pure_ (i := 0) (N := some 180) (v := ?_) (a' := ?_) #[true,false,false,false,false,false,false,false,false] rfl rfl (any_of HT_.out (by kernel_rfl)) (fun _ _ _ h => h) (Or.inl ⟨by rfl,?_⟩) ?_ ?_
                   rotate_left
                   ·intro w'
                    go_simp
                    with_reducible rfl
                   rotate_left
                   ·simp only [Act.put,List.setIfInBounds_toArray,List.set_cons_zero,List.set_cons_succ,i64_w,i32_w]
                    rfl
                   refine pure_ (i := 1) (N := some 181) (v := ?_) (a' := ?_) #[true,true,false,false,false,false,false,false,false] rfl rfl (any_of HT_.out (by kernel_rfl)) (fun _ _ _ h => h) (Or.inl ⟨by rfl,?_⟩) ?_ ?_
                   rotate_left
                   ·intro w'
                    go_simp
                    with_reducible rfl
                   rotate_left
                   ·simp only [Act.put,List.setIfInBounds_toArray,List.set_cons_zero,List.set_cons_succ,i64_w,i32_w]
                    rfl
                   refine pure_ (i := 2) (N := some 182) (v := ?_) (a' := ?_) #[true,true,true,false,false,false,false,false,false] rfl rfl (any_of HT_.out (by kernel_rfl)) (fun _ _ _ h => h) (Or.inl ⟨by rfl,?_⟩) ?_ ?_
                   rotate_left
                   ·intro w'
                    go_simp
                    with_reducible rfl
                   rotate_left
                   ·simp only [Act.put,List.setIfInBounds_toArray,List.set_cons_zero,List.set_cons_succ,i64_w,i32_w]
                    rfl
                   refine pure_ (i := 4) (N := some 184) (v := ?_) (a' := ?_) #[true,true,true,false,true,false,false,false,false] rfl rfl (any_of HT_.out (by kernel_rfl)) (fun _ _ _ h => h) (Or.inl ⟨by rfl,?_⟩) ?_ ?_
                   rotate_left
                   ·intro w'
                    go_simp
                    with_reducible rfl
                   rotate_left
                   ·simp only [Act.put,List.setIfInBounds_toArray,List.set_cons_zero,List.set_cons_succ,i64_w,i32_w]
                    rfl
                   refine pure_ (i := 5) (N := some 185) (v := ?_) (a' := ?_) #[true,true,true,false,true,true,false,false,false] rfl rfl (any_of HT_.out (by kernel_rfl)) (fun _ _ _ h => h) (Or.inl ⟨by rfl,?_⟩) ?_ ?_
                   rotate_left
                   ·intro w'
                    go_simp
                    with_reducible rfl
                   rotate_left
                   ·simp only [Act.put,List.setIfInBounds_toArray,List.set_cons_zero,List.set_cons_succ,i64_w,i32_w]
                    rfl
                   refine pure_ (i := 6) (N := some 186) (v := ?_) (a' := ?_) #[true,true,true,false,true,true,true,false,false] rfl rfl (any_of HT_.out (by kernel_rfl)) (fun _ _ _ h => h) (Or.inl ⟨by rfl,?_⟩) ?_ ?_
                   rotate_left
                   ·intro w'
                    go_simp
                    with_reducible rfl
                   rotate_left
                   ·simp only [Act.put,List.setIfInBounds_toArray,List.set_cons_zero,List.set_cons_succ,i64_w,i32_w]
                    rfl
                   refine take_ (i := 3) (N := some 183) (v := ?_) (a' := ?_) #[true,true,true,true,true,true,true,false,false] rfl rfl (take_ofW HT_.out HW_.out (by kernel_rfl)) (fun _ _ _ h => h) (Or.inl ⟨by rfl,?_⟩) hHeld ?_ ?_
                   rotate_left
                   ·rintro w' ⟨s0,s1⟩
                    go_simp
                    with_reducible rfl
                   rotate_left
                   ·simp only [Act.put,List.setIfInBounds_toArray,List.set_cons_zero,List.set_cons_succ,i64_w,i32_w]
                    rfl
                   refine take_ (i := 7) (N := some 187) (v := ?_) (a' := ?_) #[true,true,true,true,true,true,true,true,false] rfl rfl (take_ofW HT_.out HW_.out (by kernel_rfl)) (fun _ _ _ h => h) (Or.inl ⟨by rfl,?_⟩) hHeld ?_ ?_
                   rotate_left
                   ·rintro w' ⟨s0,s1⟩
                    go_simp
                    with_reducible rfl
                   rotate_left
                   ·simp only [Act.put,List.setIfInBounds_toArray,List.set_cons_zero,List.set_cons_succ,i64_w,i32_w]
                    rfl
                   refine pure_ (i := 8) (N := some 188) (v := ?_) (a' := ?_) #[true,true,true,true,true,true,true,true,true] rfl rfl (any_of HT_.out (by kernel_rfl)) (fun _ _ _ h => h) (Or.inl ⟨by rfl,?_⟩) ?_ ?_
                   rotate_left
                   ·intro w'
                    go_simp
                    with_reducible rfl
                   rotate_left
                   ·simp only [Act.put,List.setIfInBounds_toArray,List.set_cons_zero,List.set_cons_succ,i64_w,i32_w]
                    rfl
                   refine done_ (done_of HT_.out (by kernel_rfl)) ?_
                   obtain ⟨Ao92,co92,eo92⟩ := Kd.R_slice HO_11.out
                   subst eo92
                   have p779 : 0 ≤ (x24_6 : Int) := of_decide_eq_true (by first | (with_reducible assumption) | assumption)
                   have q779 : x24_6 < (x11_3.length : Int) := of_decide_eq_true (by first | (with_reducible assumption) | assumption)
                   obtain ⟨ad779,e779,hx779_0⟩ := Kd.at_bool (Kd.R_reads' HO_11.out).2.2 x24_6 p779 q779
                   (try rw [← Nbq87.out] at hx779_0)
                   cases e779
                   replace p779 := eq_true p779
                   replace q779 := eq_true q779
                   try go_wp2
                   go_roundg k6
                   case measure => have := HJ3.out; have := HK2.out; have := HK3.out; have := HJ38.out; have := HJ65.out; have := HK6.out; omega
                   case rel => exact ⟨(wrap64 (x22_6 + 1)),(wrap64 (x23_6 + 1)),(wrap64 (x24_6 + 1)),(by first | rfl | (simp; done) | (simp [*]; done) | (simp [wrap64]; done)),(by first | rfl | (simp; done) | (simp [*]; done) | (simp [wrap64]; done)),(by first | rfl | (simp; done) | (simp [*]; done) | (simp [wrap64]; done)),H',⟨by have := HJ3.out; have := HK2.out; have := HK3.out; have := HJ38.out; have := HJ65.out; have := HK6.out; omega⟩,⟨mvR HO_8.out⟩,⟨mvR HO_11.out⟩,⟨by (with_reducible repeat (first | apply Kd.V_alloc | apply Kd.V_drewN | apply Kd.V_drew)); exact HO_15.out⟩,⟨mvR HO_18.out⟩,⟨mvb BK736.out⟩,⟨mvh HB.out⟩⟩
def l4_RH.Pure : Prop := ∀ (b0 : Int) (b1 : Int) (b2 : Int) (b3 : Int) (l1 : List Int) (l2 : List Int),(Lit.int .i64 b0).wf = true → (Lit.int .u64 b1).wf = true → (Lit.int .i64 b2).wf = true → (Lit.int .i64 b3).wf = true → l1.length ≤ maxLen → l1.length * 1 ≤ 140737488351232 → (∀ x ∈ l1,(Lit.int .u8 x).wf = true) → l2.length ≤ maxLen → l2.length * 8 ≤ 140737488351232 → (∀ x ∈ l2,(Lit.int .i64 x).wf = true) → ∃ k,l4_RH.f k b0 b1 b2 b3 l1 l2 = some true
theorem l4_RH.walk (P : l4_RH.Pure) (b0 : Int) (b1 : Int) (b2 : Int) (b3 : Int) (a1 : Option Addr) (len1 cap1 : Nat) (z1 : List Int) (a2 : Option Addr) (len2 cap2 : Nat) (z2 : List Int) (w : World) (w0_0 : (Lit.int .i64 b0).wf = true) (w0_1 : (Lit.int .u64 b1).wf = true) (w0_2 : (Lit.int .i64 b2).wf = true) (w0_3 : (Lit.int .i64 b3).wf = true) (w1 : (a1 = none ∧ len1 = 0 ∧ cap1 = 0 ∧ z1 = []) ∨ ∃ x,a1 = some x ∧ len1 ≤ cap1 ∧ cap1 ≤ maxLen ∧ z1.length = cap1 ∧ (∀ i,i < z1.length → w.cell? (x.add i) = some (.int .u8 (z1.getD i 0))) ∧ ∀ n ∈ z1,(Lit.int .u8 n).wf = true) (y1 : len1 * 1 ≤ 140737488351232) (w2 : (a2 = none ∧ len2 = 0 ∧ cap2 = 0 ∧ z2 = []) ∨ ∃ x,a2 = some x ∧ len2 ≤ cap2 ∧ cap2 ≤ maxLen ∧ z2.length = cap2 ∧ (∀ i,i < z2.length → w.cell? (x.add i) = some (.int .i64 (z2.getD i 0))) ∧ ∀ n ∈ z2,(Lit.int .i64 n).wf = true) (y2 : len2 * 8 ≤ 140737488351232) :
  Calls Try.prog 8 #[.agg #[.int .i64 b0,.int .u64 b1,.int .i64 b2,.int .i64 b3],.slice a1 len1 cap1,.slice a2 len2 cap2] w fun e w' => e = .returned (.bool true) ∧ Below w.heap.size w w' := by
 obtain ⟨l1,rfl,hr1,hm1,hw1,hc1⟩ := ReadsInt.ofRowC w1
 obtain ⟨l2,rfl,hr2,hm2,hw2,hc2⟩ := ReadsInt.ofRowC w2
 obtain ⟨k,h⟩ := P b0 b1 b2 b3 l1 l2 w0_0 w0_1 w0_2 w0_3 hm1 y1 hw1 hm2 y2 hw2
 refine (l4_RH.calls k b0 b1 b2 b3 _ _ l1 _ _ l2 true rfl w (Kd.C_of_reads (d := (0 : Int)) (h1 := fun _ => rfl) hr1) hc1 (Kd.C_of_reads (d := (0 : Int)) (h1 := fun _ => rfl) hr2) hc2 h).mono ?_
 rintro e w' ⟨rfl,hd⟩
 exact ⟨rfl,hd⟩


end Go.Proofs.Ytdhnjnkjhfomiaa.P

