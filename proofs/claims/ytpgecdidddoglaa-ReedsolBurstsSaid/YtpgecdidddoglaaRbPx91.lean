import Derived.Test.YtpgecdidddoglaaRbQAux
import Derived.Test.YtpgecdidddoglaaRbPx0
import Derived.Test.YtpgecdidddoglaaRbPx3
import Derived.Test.YtpgecdidddoglaaRbPx9
import Derived.Test.YtpgecdidddoglaaRbPx16
import Derived.Test.YtpgecdidddoglaaRbPx60
import Derived.Test.YtpgecdidddoglaaRbPx19
import Derived.Test.YtpgecdidddoglaaRbPx20
-- written by mk.sh, a program of this session, over the kit's print
namespace Go.Proofs.Ytpgecdidddoglaa.P
open Go.RowKit Go.Proofs.YtpgecdidddoglaaW.PrintWords Go.Proofs.YtpgecdidddoglaaW.PrintLast Go.Proofs.YtpgecdidddoglaaW.PrintMore
attribute [local go_sem] max2_int min2_int max_two min_two max_three min_three max_four min_four   -- for this text's walks alone
set_option linter.unusedVariables false
set_option linter.unusedSimpArgs false

mutual
def l4_ReedsolBursts.j0 : Nat → List Int → Int → Int → List Int → Bool → Bool → Int → Int → Int → Int → Option (Bool)
 | 0,_,_,_,_,_,_,_,_,_,_ => none
 | k + 1,x1,x2,x3,x4,x5,x32,x536000,x536001,x536002,x536003 => if x32 = true then ((l4_knows.f k).bind fun t538 => (some t538)) else (if 0 ≤ (IntKind.u64.wrap (x536000)) then (if (wrap64 (1 + (Int.tmod (wrap64 ((Int.tmod x2 8) + 8)) 8))) = 0 then (none) else (if 0 ≤ (wrap64 ((mn (wrap64 ((x1.length : Int) / (wrap64 (1 + (Int.tmod (wrap64 ((Int.tmod x2 8) + 8)) 8))))) (wrap64 ((wrap64 ((shl .i64 1 (IntKind.u64.wrap (x536000))) - 1)) - x536003))) * (wrap64 (1 + (Int.tmod (wrap64 ((Int.tmod x2 8) + 8)) 8))))) then (if (wrap64 ((mn (wrap64 ((x1.length : Int) / (wrap64 (1 + (Int.tmod (wrap64 ((Int.tmod x2 8) + 8)) 8))))) (wrap64 ((wrap64 ((shl .i64 1 (IntKind.u64.wrap (x536000))) - 1)) - x536003))) * (wrap64 (1 + (Int.tmod (wrap64 ((Int.tmod x2 8) + 8)) 8)))) : Int).toNat ≤ 281474976710656 then (l4_ReedsolBursts.l0 k x1 (wrap64 (1 + (Int.tmod (wrap64 ((Int.tmod x2 8) + 8)) 8))) x3 x4 x5 (shl .i64 1 (IntKind.u64.wrap (x536000))) (mn (wrap64 ((x1.length : Int) / (wrap64 (1 + (Int.tmod (wrap64 ((Int.tmod x2 8) + 8)) 8))))) (wrap64 ((wrap64 ((shl .i64 1 (IntKind.u64.wrap (x536000))) - 1)) - x536003))) (List.replicate (wrap64 ((mn (wrap64 ((x1.length : Int) / (wrap64 (1 + (Int.tmod (wrap64 ((Int.tmod x2 8) + 8)) 8))))) (wrap64 ((wrap64 ((shl .i64 1 (IntKind.u64.wrap (x536000))) - 1)) - x536003))) * (wrap64 (1 + (Int.tmod (wrap64 ((Int.tmod x2 8) + 8)) 8)))) : Int).toNat 0) 0 x536000 x536001 x536002 x536003) else (none)) else (none))) else (none))
def l4_ReedsolBursts.l0 : Nat → List Int → Int → Int → List Int → Bool → Int → Int → List Int → Int → Int → Int → Int → Int → Option (Bool)
 | 0,_,_,_,_,_,_,_,_,_,_,_,_,_ => none
 | k + 1,x1,x2,x3,x4,x5,x13,x14,x15,x16,x536000,x536001,x536002,x536003 => if x16 < (x15.length : Int) then (if 0 ≤ x16 then (if x16 < (x1.length : Int) then (if x13 = 0 then (none) else (l4_ReedsolBursts.l0 k x1 x2 x3 x4 x5 x13 x14 (x15.set (x16 : Int).toNat ((Int.tmod (wrap64 (rd x1 x16)) x13) % 256)) (wrap64 (x16 + 1)) x536000 x536001 x536002 x536003)) else (none)) else (none)) else ((reedsol_Stripe.f k x536000 x536001 x536002 x536003 x15 x2).bind fun bt544 => ((l4_num.f bt544.2).bind fun t548 => (if t548 = 0 then (l4_ReedsolBursts.j2 k x2 x3 x4 x5 x13 x15 bt544.1 ((bt544.1.length : Int) != (wrap64 ((wrap64 (x14 + x536003)) * x2))) x536000 x536001 x536002 x536003) else (l4_ReedsolBursts.j2 k x2 x3 x4 x5 x13 x15 bt544.1 true x536000 x536001 x536002 x536003))))
def l4_ReedsolBursts.j2 : Nat → Int → Int → List Int → Bool → Int → List Int → List Int → Bool → Int → Int → Int → Int → Option (Bool)
 | 0,_,_,_,_,_,_,_,_,_,_,_,_ => none
 | k + 1,x2,x3,x4,x5,x13,x15,x17,x95,x536000,x536001,x536002,x536003 => if x95 = true then (some false) else (if x5 = true then (l4_ReedsolBursts.j3 k x2 x3 x4 x5 x13 x15 x17 (wrap64 (x536003 * x2)) x536000 x536001 x536002 x536003) else (l4_ReedsolBursts.j3 k x2 x3 x4 x5 x13 x15 x17 (wrap64 ((wrap64 (Int.tdiv x536003 2)) * x2)) x536000 x536001 x536002 x536003))
def l4_ReedsolBursts.j3 : Nat → Int → Int → List Int → Bool → Int → List Int → List Int → Int → Int → Int → Int → Int → Option (Bool)
 | 0,_,_,_,_,_,_,_,_,_,_,_,_ => none
 | k + 1,x2,x3,x4,x5,x13,x15,x17,x19,x536000,x536001,x536002,x536003 => if (x17.length : Int) = 0 then (none) else ((some (([] : List Int) : List Int)).bind fun y549 => (if y549.length + x17.length < 140737488355328 then (l4_ReedsolBursts.l1 k x2 (Int.tmod (wrap64 ((Int.tmod x3 (x17.length : Int)) + (x17.length : Int))) (x17.length : Int)) x4 x5 x13 x15 x17 x19 (y549 ++ x17) ([] : List Int) 0 x536000 x536001 x536002 x536003) else (none)))
def l4_ReedsolBursts.l1 : Nat → Int → Int → List Int → Bool → Int → List Int → List Int → Int → List Int → List Int → Int → Int → Int → Int → Int → Option (Bool)
 | 0,_,_,_,_,_,_,_,_,_,_,_,_,_,_,_ => none
 | k + 1,x2,x3,x4,x5,x13,x15,x17,x19,x20,x21,x22,x536000,x536001,x536002,x536003 => if x22 < x19 then (l4_ReedsolBursts.j5 k x2 x3 x4 x5 x13 x15 x17 x19 x20 x21 x22 (decide ((wrap64 (x3 + x22)) < (x17.length : Int))) x536000 x536001 x536002 x536003) else (l4_ReedsolBursts.j5 k x2 x3 x4 x5 x13 x15 x17 x19 x20 x21 x22 false x536000 x536001 x536002 x536003)
def l4_ReedsolBursts.j5 : Nat → Int → Int → List Int → Bool → Int → List Int → List Int → Int → List Int → List Int → Int → Bool → Int → Int → Int → Int → Option (Bool)
 | 0,_,_,_,_,_,_,_,_,_,_,_,_,_,_,_,_ => none
 | k + 1,x2,x3,x4,x5,x13,x15,x17,x19,x20,x21,x22,x129,x536000,x536001,x536002,x536003 => if x129 = true then (if x22 < (x4.length : Int) then (if 0 ≤ (wrap64 (x3 + x22)) then (if (wrap64 (x3 + x22)) < (x20.length : Int) then (if 0 ≤ x22 then (if x13 = 0 then (none) else ((some (x20.set ((wrap64 (x3 + x22)) : Int).toNat ((Int.tmod (Go.bits .xor .i64 (wrap64 (rd x20 (wrap64 (x3 + x22)))) (wrap64 (rd x4 x22))) x13) % 256) : List Int)).bind fun y563 => (if x5 = true then (if x21.length < 17592186044416 then (l4_ReedsolBursts.l1 k x2 x3 x4 x5 x13 x15 x17 x19 y563 (x21 ++ [wrap64 (x3 + x22)]) (wrap64 (x22 + 1)) x536000 x536001 x536002 x536003) else (none)) else (l4_ReedsolBursts.l1 k x2 x3 x4 x5 x13 x15 x17 x19 y563 x21 (wrap64 (x22 + 1)) x536000 x536001 x536002 x536003)))) else (none)) else (none)) else (none)) else (if x5 = true then (if x21.length < 17592186044416 then (l4_ReedsolBursts.l1 k x2 x3 x4 x5 x13 x15 x17 x19 x20 (x21 ++ [wrap64 (x3 + x22)]) (wrap64 (x22 + 1)) x536000 x536001 x536002 x536003) else (none)) else (l4_ReedsolBursts.l1 k x2 x3 x4 x5 x13 x15 x17 x19 x20 x21 (wrap64 (x22 + 1)) x536000 x536001 x536002 x536003))) else ((reedsol_Unstripe.f k x536000 x536001 x536002 x536003 x20 x2 x21).bind fun bt555 => ((l4_num.f bt555.2.2).bind fun t560 => (if t560 = 0 then (if bt555.2.1 = 0 then (some ((strOfNums bt555.1).toList == (strOfNums x15).toList)) else (some false)) else (some false))))
end
def l4_ReedsolBursts.f (k : Nat) (a0_0 : Int) (a0_1 : Int) (a0_2 : Int) (a0_3 : Int) (l1 : List Int) (a2 : Int) (a3 : Int) (l4 : List Int) (a5 : Bool) : Option (Bool) := (r4_Check.f k a0_0 a0_1 a0_2 a0_3).bind fun t536 => (if t536 = 0 then ((l4_knows.f k).bind fun t537 => (l4_ReedsolBursts.j0 k l1 a2 a3 l4 a5 (!t537) a0_0 a0_1 a0_2 a0_3)) else (l4_ReedsolBursts.j0 k l1 a2 a3 l4 a5 true a0_0 a0_1 a0_2 a0_3))
theorem l4_ReedsolBursts.mono_l : ∀ k,(∀ y0 y1 y2 y3 y4 y5 y6 y7 y8 y9,LeO (l4_ReedsolBursts.j0 k y0 y1 y2 y3 y4 y5 y6 y7 y8 y9) (l4_ReedsolBursts.j0 (k + 1) y0 y1 y2 y3 y4 y5 y6 y7 y8 y9)) ∧ (∀ y0 y1 y2 y3 y4 y5 y6 y7 y8 y9 y10 y11 y12,LeO (l4_ReedsolBursts.l0 k y0 y1 y2 y3 y4 y5 y6 y7 y8 y9 y10 y11 y12) (l4_ReedsolBursts.l0 (k + 1) y0 y1 y2 y3 y4 y5 y6 y7 y8 y9 y10 y11 y12)) ∧ (∀ y0 y1 y2 y3 y4 y5 y6 y7 y8 y9 y10 y11,LeO (l4_ReedsolBursts.j2 k y0 y1 y2 y3 y4 y5 y6 y7 y8 y9 y10 y11) (l4_ReedsolBursts.j2 (k + 1) y0 y1 y2 y3 y4 y5 y6 y7 y8 y9 y10 y11)) ∧ (∀ y0 y1 y2 y3 y4 y5 y6 y7 y8 y9 y10 y11,LeO (l4_ReedsolBursts.j3 k y0 y1 y2 y3 y4 y5 y6 y7 y8 y9 y10 y11) (l4_ReedsolBursts.j3 (k + 1) y0 y1 y2 y3 y4 y5 y6 y7 y8 y9 y10 y11)) ∧ (∀ y0 y1 y2 y3 y4 y5 y6 y7 y8 y9 y10 y11 y12 y13 y14,LeO (l4_ReedsolBursts.l1 k y0 y1 y2 y3 y4 y5 y6 y7 y8 y9 y10 y11 y12 y13 y14) (l4_ReedsolBursts.l1 (k + 1) y0 y1 y2 y3 y4 y5 y6 y7 y8 y9 y10 y11 y12 y13 y14)) ∧ (∀ y0 y1 y2 y3 y4 y5 y6 y7 y8 y9 y10 y11 y12 y13 y14 y15,LeO (l4_ReedsolBursts.j5 k y0 y1 y2 y3 y4 y5 y6 y7 y8 y9 y10 y11 y12 y13 y14 y15) (l4_ReedsolBursts.j5 (k + 1) y0 y1 y2 y3 y4 y5 y6 y7 y8 y9 y10 y11 y12 y13 y14 y15))
 | 0 => ⟨fun _ _ _ _ _ _ _ _ _ _ r h => by simp [l4_ReedsolBursts.j0] at h,fun _ _ _ _ _ _ _ _ _ _ _ _ _ r h => by simp [l4_ReedsolBursts.l0] at h,fun _ _ _ _ _ _ _ _ _ _ _ _ r h => by simp [l4_ReedsolBursts.j2] at h,fun _ _ _ _ _ _ _ _ _ _ _ _ r h => by simp [l4_ReedsolBursts.j3] at h,fun _ _ _ _ _ _ _ _ _ _ _ _ _ _ _ r h => by simp [l4_ReedsolBursts.l1] at h,fun _ _ _ _ _ _ _ _ _ _ _ _ _ _ _ _ r h => by simp [l4_ReedsolBursts.j5] at h⟩
 | k + 1 => by
  obtain ⟨ih0,ih1,ih2,ih3,ih4,ih5⟩ := l4_ReedsolBursts.mono_l k
  refine ⟨?_,?_,?_,?_,?_,?_⟩
  ·intro y0 y1 y2 y3 y4 y5 y6 y7 y8 y9
   unfold l4_ReedsolBursts.j0
   repeat' with_reducible first
   | exact ih0 _ _ _ _ _ _ _ _ _ _
   | exact ih1 _ _ _ _ _ _ _ _ _ _ _ _ _
   | exact ih2 _ _ _ _ _ _ _ _ _ _ _ _
   | exact ih3 _ _ _ _ _ _ _ _ _ _ _ _
   | exact ih4 _ _ _ _ _ _ _ _ _ _ _ _ _ _ _
   | exact ih5 _ _ _ _ _ _ _ _ _ _ _ _ _ _ _ _
   | exact l4_knows.mono _
   | exact r4_Check.mono _ _ _ _ _
   | exact reedsol_Stripe.mono _ _ _ _ _ _ _
   | exact reedsol_Unstripe.mono _ _ _ _ _ _ _ _
   | exact LeO.refl _
   | exact LeO.none _
   | refine LeO.ite ?_ ?_
   | refine LeO.bind ?_ (fun _ => ?_)
  ·intro y0 y1 y2 y3 y4 y5 y6 y7 y8 y9 y10 y11 y12
   unfold l4_ReedsolBursts.l0
   repeat' with_reducible first
   | exact ih0 _ _ _ _ _ _ _ _ _ _
   | exact ih1 _ _ _ _ _ _ _ _ _ _ _ _ _
   | exact ih2 _ _ _ _ _ _ _ _ _ _ _ _
   | exact ih3 _ _ _ _ _ _ _ _ _ _ _ _
   | exact ih4 _ _ _ _ _ _ _ _ _ _ _ _ _ _ _
   | exact ih5 _ _ _ _ _ _ _ _ _ _ _ _ _ _ _ _
   | exact l4_knows.mono _
   | exact r4_Check.mono _ _ _ _ _
   | exact reedsol_Stripe.mono _ _ _ _ _ _ _
   | exact reedsol_Unstripe.mono _ _ _ _ _ _ _ _
   | exact LeO.refl _
   | exact LeO.none _
   | refine LeO.ite ?_ ?_
   | refine LeO.bind ?_ (fun _ => ?_)
  ·intro y0 y1 y2 y3 y4 y5 y6 y7 y8 y9 y10 y11
   unfold l4_ReedsolBursts.j2
   repeat' with_reducible first
   | exact ih0 _ _ _ _ _ _ _ _ _ _
   | exact ih1 _ _ _ _ _ _ _ _ _ _ _ _ _
   | exact ih2 _ _ _ _ _ _ _ _ _ _ _ _
   | exact ih3 _ _ _ _ _ _ _ _ _ _ _ _
   | exact ih4 _ _ _ _ _ _ _ _ _ _ _ _ _ _ _
   | exact ih5 _ _ _ _ _ _ _ _ _ _ _ _ _ _ _ _
   | exact l4_knows.mono _
   | exact r4_Check.mono _ _ _ _ _
   | exact reedsol_Stripe.mono _ _ _ _ _ _ _
   | exact reedsol_Unstripe.mono _ _ _ _ _ _ _ _
   | exact LeO.refl _
   | exact LeO.none _
   | refine LeO.ite ?_ ?_
   | refine LeO.bind ?_ (fun _ => ?_)
  ·intro y0 y1 y2 y3 y4 y5 y6 y7 y8 y9 y10 y11
   unfold l4_ReedsolBursts.j3
   repeat' with_reducible first
   | exact ih0 _ _ _ _ _ _ _ _ _ _
   | exact ih1 _ _ _ _ _ _ _ _ _ _ _ _ _
   | exact ih2 _ _ _ _ _ _ _ _ _ _ _ _
   | exact ih3 _ _ _ _ _ _ _ _ _ _ _ _
   | exact ih4 _ _ _ _ _ _ _ _ _ _ _ _ _ _ _
   | exact ih5 _ _ _ _ _ _ _ _ _ _ _ _ _ _ _ _
   | exact l4_knows.mono _
   | exact r4_Check.mono _ _ _ _ _
   | exact reedsol_Stripe.mono _ _ _ _ _ _ _
   | exact reedsol_Unstripe.mono _ _ _ _ _ _ _ _
   | exact LeO.refl _
   | exact LeO.none _
   | refine LeO.ite ?_ ?_
   | refine LeO.bind ?_ (fun _ => ?_)
  ·intro y0 y1 y2 y3 y4 y5 y6 y7 y8 y9 y10 y11 y12 y13 y14
   unfold l4_ReedsolBursts.l1
   repeat' with_reducible first
   | exact ih0 _ _ _ _ _ _ _ _ _ _
   | exact ih1 _ _ _ _ _ _ _ _ _ _ _ _ _
   | exact ih2 _ _ _ _ _ _ _ _ _ _ _ _
   | exact ih3 _ _ _ _ _ _ _ _ _ _ _ _
   | exact ih4 _ _ _ _ _ _ _ _ _ _ _ _ _ _ _
   | exact ih5 _ _ _ _ _ _ _ _ _ _ _ _ _ _ _ _
   | exact l4_knows.mono _
   | exact r4_Check.mono _ _ _ _ _
   | exact reedsol_Stripe.mono _ _ _ _ _ _ _
   | exact reedsol_Unstripe.mono _ _ _ _ _ _ _ _
   | exact LeO.refl _
   | exact LeO.none _
   | refine LeO.ite ?_ ?_
   | refine LeO.bind ?_ (fun _ => ?_)
  ·intro y0 y1 y2 y3 y4 y5 y6 y7 y8 y9 y10 y11 y12 y13 y14 y15
   unfold l4_ReedsolBursts.j5
   repeat' with_reducible first
   | exact ih0 _ _ _ _ _ _ _ _ _ _
   | exact ih1 _ _ _ _ _ _ _ _ _ _ _ _ _
   | exact ih2 _ _ _ _ _ _ _ _ _ _ _ _
   | exact ih3 _ _ _ _ _ _ _ _ _ _ _ _
   | exact ih4 _ _ _ _ _ _ _ _ _ _ _ _ _ _ _
   | exact ih5 _ _ _ _ _ _ _ _ _ _ _ _ _ _ _ _
   | exact l4_knows.mono _
   | exact r4_Check.mono _ _ _ _ _
   | exact reedsol_Stripe.mono _ _ _ _ _ _ _
   | exact reedsol_Unstripe.mono _ _ _ _ _ _ _ _
   | exact LeO.refl _
   | exact LeO.none _
   | refine LeO.ite ?_ ?_
   | refine LeO.bind ?_ (fun _ => ?_)
theorem l4_ReedsolBursts.mono : ∀ a0 a1 a2 a3 a4 a5 a6 a7 a8 k,LeO (l4_ReedsolBursts.f k a0 a1 a2 a3 a4 a5 a6 a7 a8) (l4_ReedsolBursts.f (k + 1) a0 a1 a2 a3 a4 a5 a6 a7 a8) := by
 intro a0 a1 a2 a3 a4 a5 a6 a7 a8 k
 obtain ⟨ih0,ih1,ih2,ih3,ih4,ih5⟩ := l4_ReedsolBursts.mono_l k
 unfold l4_ReedsolBursts.f
 repeat' with_reducible first
   | exact ih0 _ _ _ _ _ _ _ _ _ _
   | exact ih1 _ _ _ _ _ _ _ _ _ _ _ _ _
   | exact ih2 _ _ _ _ _ _ _ _ _ _ _ _
   | exact ih3 _ _ _ _ _ _ _ _ _ _ _ _
   | exact ih4 _ _ _ _ _ _ _ _ _ _ _ _ _ _ _
   | exact ih5 _ _ _ _ _ _ _ _ _ _ _ _ _ _ _ _
   | exact l4_knows.mono _
   | exact r4_Check.mono _ _ _ _ _
   | exact reedsol_Stripe.mono _ _ _ _ _ _ _
   | exact reedsol_Unstripe.mono _ _ _ _ _ _ _ _
   | exact LeO.refl _
   | exact LeO.none _
   | refine LeO.ite ?_ ?_
   | refine LeO.bind ?_ (fun _ => ?_)
def l4_ReedsolBursts.T5 : Bool × List (List Nat × List Nat) := (true,[([],[]),([0],[0]),([],[]),([1,2],[1,2]),([],[]),([4],[4]),([],[]),([6],[6]),([5,7],[5,7]),([3,8],[3,8]),([9,0,1,2,3,4,5,6,7,8,9],[9])])
def l4_ReedsolBursts.B5 : List Nat := [0,1,0,7,0,16,0,64,240,511,1023]
theorem l4_ReedsolBursts.tab5 : rtab .any (opsOf Try.f4 5) = l4_ReedsolBursts.T5 := by kernel_rfl
theorem l4_ReedsolBursts.bits5 : waitsOk l4_ReedsolBursts.T5.2 l4_ReedsolBursts.B5 = true := by kernel_rfl
def l4_ReedsolBursts.T24 : Bool × List (List Nat × List Nat) := (true,[([],[]),([],[]),([],[]),([1,2],[1,2]),([],[]),([],[]),([],[]),([5,6],[5,6]),([4,7],[4,7]),([8],[8]),([9],[9]),([],[]),([],[]),([11,12],[11,12]),([13],[13]),([14],[14]),([10,15],[10,15]),([],[]),([16,17],[16,17]),([18],[18]),([0,3,0,1,2,3,4,5,6,7,8,9,10,11,12,13,14,15,16,17,18,19],[0,3]),([20,19,0,1,2,3,4,5,6,7,8,9,10,11,12,13,14,15,16,17,18,19],[19,20])])
def l4_ReedsolBursts.B24 : List Nat := [0,0,0,6,0,0,0,96,240,496,1008,0,0,6144,14336,30720,65520,0,262128,524272,1048575,2097151]
theorem l4_ReedsolBursts.tab24 : rtab .any (opsOf Try.f4 24) = l4_ReedsolBursts.T24 := by kernel_rfl
theorem l4_ReedsolBursts.bits24 : waitsOk l4_ReedsolBursts.T24.2 l4_ReedsolBursts.B24 = true := by kernel_rfl
theorem l4_ReedsolBursts.no_false {r : Bool} {G : Prop} (hr : r = true) (h : some false = some r) : G := by
 subst hr
 cases h
theorem l4_ReedsolBursts.no_j2 {k : Nat} {x2 : Int} {x3 : Int} {x4 : List Int} {x5 : Bool} {x13 : Int} {x15 : List Int} {x17 : List Int} {x536000 : Int} {x536001 : Int} {x536002 : Int} {x536003 : Int} {r : Bool} {G : Prop} (hr : r = true) (h : l4_ReedsolBursts.j2 k x2 x3 x4 x5 x13 x15 x17 true x536000 x536001 x536002 x536003 = some r) : G := by
 subst hr
 cases k <;> simp [l4_ReedsolBursts.j2] at h
set_option maxHeartbeats 8000000 in
set_option maxRecDepth 100000 in
theorem l4_ReedsolBursts.calls (k : Nat) (a0_0 : Int) (a0_1 : Int) (a0_2 : Int) (a0_3 : Int) (A1 : Option Addr) (c1 : Nat) (l1 : List Int) (a2 : Int) (a3 : Int) (A4 : Option Addr) (c4 : Nat) (l4 : List Int) (a5 : Bool) (r : Bool) (hr9_ : r = true) (w : World) (hr1 : Kd.C (Kd.int .u8) w A1 l1.length l1) (hc1 : l1.length ≤ c1) (hr4 : Kd.C (Kd.int .u8) w A4 l4.length l4) (hc4 : l4.length ≤ c4) (h : l4_ReedsolBursts.f k a0_0 a0_1 a0_2 a0_3 l1 a2 a3 l4 a5 = some r) :
  Calls Try.prog 4 #[.agg #[.int .i64 a0_0,.int .u64 a0_1,.int .i64 a0_2,.int .i64 a0_3],.slice A1 l1.length c1,.int .i64 a2,.int .i64 a3,.slice A4 l4.length c4,.bool a5] w fun e w' => e = .returned (.bool r) ∧ Below w.heap.size w w' := by
 have HR9_ := Aside0.mk hr9_
 clear hr9_
 have hu26 := Try.underlying26
 have HR1 := Aside0.mk hr1
 have HC1 := Aside0.mk hc1
 clear hr1 hc1
 have HR4 := Aside0.mk hr4
 have HC4 := Aside0.mk hc4
 clear hr4 hc4
 have HB := aK (Below.refl w.heap.size w)
 have H : ((r4_Check.f k a0_0 a0_1 a0_2 a0_3).bind fun t536 => (if t536 = 0 then ((l4_knows.f k).bind fun t537 => (l4_ReedsolBursts.j0 k l1 a2 a3 l4 a5 (!t537) a0_0 a0_1 a0_2 a0_3)) else (l4_ReedsolBursts.j0 k l1 a2 a3 l4 a5 true a0_0 a0_1 a0_2 a0_3))) = some r := h
 clear h
 have HC7 := Aside0.mk H
 clear H
 go_enter Try.func4,Try.ntmps4
 go_upto_region 1 with (first | ((with_reducible refine gate_dst (N := 6) rfl ?_); (try (refine gate_guard (by rfl) ?_; dsimp only)); refine box_event ?hg (N := 6) ?hd (cs := #[.int .i64 a0_0,.int .u64 a0_1,.int .i64 a0_2,.int .i64 a0_3]) (t := 26) ?hr ?_; (case hd => rfl); (case hg => rfl); (case hr => first | (go_simp; done) | (go_simp; rfl)); intro gb535 hg w8 hbox hb; have BK535 := aK (hbox); have GW535 := aK ((by rw [hg]; exact (below_size (mvh HB.out)) : w.heap.size ≤ gb535)); have GE535 := aK ((by rw [hg]; exact (below_size (mvh HB.out)) : w.heap.size ≤ gb535)); replace HB := aK (below_step (mvh HB.out) hb); clear hb hbox hg))
 (try simp only [Act.put,List.setIfInBounds_toArray,List.set_cons_zero,List.set_cons_succ])
 go_cut [32] (fun v32 wc => ∃ (kq : Nat) (x32_6 : Bool),v32 = .bool x32_6 ∧ Aside0 (l4_ReedsolBursts.j0 kq l1 a2 a3 l4 a5 x32_6 a0_0 a0_1 a0_2 a0_3 = some r) ∧ Aside0 (kq ≤ k) ∧ Aside0 (wc.heap[gb535]? = some (.cells #[.int .i64 a0_0,.int .u64 a0_1,.int .i64 a0_2,.int .i64 a0_3] 26 (0,0))) ∧ Aside0 (Below w.heap.size w wc))
 case first =>
  have H := HC7.out
  clear HC7
  replace H := Option.bind_eq_some_iff.mp H
  obtain ⟨t536,A90,H⟩ := H
  try dsimp only at H
  have A9 := Aside0.mk A90
  clear A90
  by_cases c10 : t536 = 0
  rotate_left
  ·rw [if_neg c10] at H
   have c10b0 : (t536 == 0) = false := beq_eq_false_iff_ne.mpr c10
   have c10b1 : (t536 != 0) = true := bne_iff_ne.mpr c10
   (first | rw [c10b0] | (simp only [i64_w,i32_w]; rw [c10b0]) | rw [c10b1] | skip)
   have H' := Aside0.mk H
   clear H
   obtain ⟨hcz15_0,hcz15_1,hcz15_2,hcz15_3,hfz15_0,hfz15_1,hfz15_2,hfz15_3⟩ := cf4 BK535.out
   go_wp2_with (first | (go_at_call 7; (with_reducible refine (r4_Check.calls k a0_0 a0_1 a0_2 a0_3 t536 _ A9.out).mono ?_); rintro e w16 ⟨rfl,hb⟩; replace BK535 := aK (kb BK535.out hb); replace HB := aK (below_step (mvh HB.out) hb); (try clear hb)))
   go_meet
   case rel => exact ⟨_,(true),(by first | rfl | (simp; done) | (simp [*]; done) | (simp [wrap64]; done)),H',⟨by first | omega | exact Nat.le_refl _⟩,⟨mvb BK535.out⟩,⟨mvh HB.out⟩⟩
  rw [if_pos c10] at H
  have c10b0 : (t536 == 0) = true := beq_iff_eq.mpr c10
  have c10b1 : (t536 != 0) = false := bne_eq_false_iff_eq.mpr c10
  clear c10
  (first | rw [c10b0] | (simp only [i64_w,i32_w]; rw [c10b0]) | rw [c10b1] | skip)
  replace H := Option.bind_eq_some_iff.mp H
  obtain ⟨t537,A110,H⟩ := H
  try dsimp only at H
  have A11 := Aside0.mk A110
  clear A110
  have H' := Aside0.mk H
  clear H
  obtain ⟨hcz12_0,hcz12_1,hcz12_2,hcz12_3,hfz12_0,hfz12_1,hfz12_2,hfz12_3⟩ := cf4 BK535.out
  go_wp2_with (first | (go_at_call 7; (with_reducible refine (r4_Check.calls k a0_0 a0_1 a0_2 a0_3 t536 _ A9.out).mono ?_); rintro e w13 ⟨rfl,hb⟩; replace BK535 := aK (kb BK535.out hb); replace HB := aK (below_step (mvh HB.out) hb); (try clear hb)) | (go_at_call 8; (with_reducible refine (l4_knows.calls k  t537 _ A11.out).mono ?_); rintro e w14 ⟨rfl,hb⟩; replace BK535 := aK (kb BK535.out hb); replace HB := aK (below_step (mvh HB.out) hb); (try clear hb)))
  go_meet
  case rel => exact ⟨_,(!t537),(by first | rfl | (simp; done) | (simp [*]; done) | (simp [wrap64]; done)),H',⟨by first | omega | exact Nat.le_refl _⟩,⟨mvb BK535.out⟩,⟨mvh HB.out⟩⟩
 case rest =>
  clear HC7
  (try clear c1); (try clear p2); (try clear c4); (try clear p6); (try clear c7); (try clear c10); (try clear c10b0); (try clear c10b1); (try clear hcz12_0); (try clear hcz12_1); (try clear hcz12_2); (try clear hcz12_3); (try clear hcz15_0); (try clear hcz15_1); (try clear hcz15_2); (try clear hcz15_3)
  (try clear hfz12_0); (try clear hfz12_1); (try clear hfz12_2); (try clear hfz12_3); (try clear hfz15_0); (try clear hfz15_1); (try clear hfz15_2); (try clear hfz15_3)
  obtain ⟨kq,x32_6,rfl,HA,HJ6,BK535,HB⟩ := hcut
  cases kq with
  | zero => exact absurd HA.out (by simp [l4_ReedsolBursts.j0])
  | succ kj6 =>
   have H := HA.out
   clear HA
   simp only [l4_ReedsolBursts.j0] at H
   by_cases c17 : x32_6 = true
   ·subst c17
    have H1 : ((l4_knows.f kj6).bind fun t538 => (some t538)) = some r := by rw [if_pos rfl] at H; exact H
    clear H
    have H := H1
    clear H1
    replace H := Option.bind_eq_some_iff.mp H
    obtain ⟨t538,A180,H⟩ := H
    replace H : (some t538) = some r := H
    have A18 := Aside0.mk A180
    clear A180
    obtain rfl := Option.some.inj H
    go_wp2_with (first | (go_at_call 8; (with_reducible refine (l4_knows.calls kj6  t538 _ A18.out).mono ?_); rintro e w19 ⟨rfl,hb⟩; replace BK535 := aK (kb BK535.out hb); replace HB := aK (below_step (mvh HB.out) hb); (try clear hb)))
    go_ret
    exact ⟨by first | rfl | (simp [errW_none,errW_some] <;> rfl) | (simp [*,errW_none,errW_some] <;> rfl),mvh HB.out⟩
   ·replace c17 := Bool.eq_false_iff.mpr c17
    subst c17
    have H1 : (if 0 ≤ (IntKind.u64.wrap (a0_0)) then (if (wrap64 (1 + (Int.tmod (wrap64 ((Int.tmod a2 8) + 8)) 8))) = 0 then (none) else (if 0 ≤ (wrap64 ((mn (wrap64 ((l1.length : Int) / (wrap64 (1 + (Int.tmod (wrap64 ((Int.tmod a2 8) + 8)) 8))))) (wrap64 ((wrap64 ((shl .i64 1 (IntKind.u64.wrap (a0_0))) - 1)) - a0_3))) * (wrap64 (1 + (Int.tmod (wrap64 ((Int.tmod a2 8) + 8)) 8))))) then (if (wrap64 ((mn (wrap64 ((l1.length : Int) / (wrap64 (1 + (Int.tmod (wrap64 ((Int.tmod a2 8) + 8)) 8))))) (wrap64 ((wrap64 ((shl .i64 1 (IntKind.u64.wrap (a0_0))) - 1)) - a0_3))) * (wrap64 (1 + (Int.tmod (wrap64 ((Int.tmod a2 8) + 8)) 8)))) : Int).toNat ≤ 281474976710656 then (l4_ReedsolBursts.l0 kj6 l1 (wrap64 (1 + (Int.tmod (wrap64 ((Int.tmod a2 8) + 8)) 8))) a3 l4 a5 (shl .i64 1 (IntKind.u64.wrap (a0_0))) (mn (wrap64 ((l1.length : Int) / (wrap64 (1 + (Int.tmod (wrap64 ((Int.tmod a2 8) + 8)) 8))))) (wrap64 ((wrap64 ((shl .i64 1 (IntKind.u64.wrap (a0_0))) - 1)) - a0_3))) (List.replicate (wrap64 ((mn (wrap64 ((l1.length : Int) / (wrap64 (1 + (Int.tmod (wrap64 ((Int.tmod a2 8) + 8)) 8))))) (wrap64 ((wrap64 ((shl .i64 1 (IntKind.u64.wrap (a0_0))) - 1)) - a0_3))) * (wrap64 (1 + (Int.tmod (wrap64 ((Int.tmod a2 8) + 8)) 8)))) : Int).toNat 0) 0 a0_0 a0_1 a0_2 a0_3) else (none)) else (none))) else (none)) = some r := by rw [if_neg (show ¬ (false = true) by decide)] at H; exact H
    clear H
    have H := H1
    clear H1
    obtain ⟨ji20,hji20⟩ : ∃ j_ : Int,(IntKind.u64.wrap (a0_0)) = j_ := ⟨_,rfl⟩
    first | rw [hji20] at H | simp only [hji20] at H
    by_cases c21 : 0 ≤ (ji20)
    rotate_left
    ·rw [if_neg c21] at H
     exact absurd H (by simp)

    rw [if_pos c21] at H
    have c21b0 := eq_true c21
    have c21b1 : decide (0 ≤ (ji20)) = true := decide_eq_true c21
    clear c21
    obtain ⟨ji22,hji22⟩ : ∃ j_ : Int,(shl .i64 1 (ji20)) = j_ := ⟨_,rfl⟩
    first | rw [hji22] at H | simp only [hji22] at H
    have hji22_ : (IntKind.i64.wrap (1 * 2 ^ min (ji20).toNat 64)) = ji22 := hji22
    have hji22z : (ji20) ≤ 64 → (IntKind.i64.wrap (1 * 2 ^ (ji20).toNat)) = ji22 := shl_small hji22
    have hji22u : (IntKind.i64.wrap (2 ^ min (ji20).toNat 64)) = ji22 := by have h_ := hji22_; rw [Int.one_mul] at h_; exact h_
    have hji22v : (ji20) ≤ 64 → (IntKind.i64.wrap (2 ^ (ji20).toNat)) = ji22 := fun hle_ => by have h_ := hji22z hle_; rw [Int.one_mul] at h_; exact h_
    have hji22y : (wrap64 (1 * 2 ^ min (ji20).toNat 64)) = ji22 := (i64_w _).symm.trans hji22_
    have hji22x : (ji20) ≤ 64 → (wrap64 (1 * 2 ^ (ji20).toNat)) = ji22 := fun h_ => (i64_w _).symm.trans (hji22z h_)
    by_cases c23 : (wrap64 (1 + (Int.tmod (wrap64 ((Int.tmod a2 8) + 8)) 8))) = 0
    ·rw [if_pos c23] at H
     exact absurd H (by simp)
    ·rw [if_neg c23] at H
     have c23b0 : ((wrap64 (1 + (Int.tmod (wrap64 ((Int.tmod a2 8) + 8)) 8))) == 0) = false := beq_eq_false_iff_ne.mpr c23
     have c23b1 : ((wrap64 (1 + (Int.tmod (wrap64 ((Int.tmod a2 8) + 8)) 8))) != 0) = true := bne_iff_ne.mpr c23
     obtain ⟨ji24,hji24⟩ : ∃ j_ : Int,(mn (wrap64 ((l1.length : Int) / (wrap64 (1 + (Int.tmod (wrap64 ((Int.tmod a2 8) + 8)) 8))))) (wrap64 ((wrap64 ((ji22) - 1)) - a0_3))) = j_ := ⟨_,rfl⟩
     first | rw [hji24] at H | simp only [hji24] at H
     have hji24_ : (if (wrap64 ((wrap64 ((ji22) - 1)) - a0_3)) < (wrap64 ((l1.length : Int) / (wrap64 (1 + (Int.tmod (wrap64 ((Int.tmod a2 8) + 8)) 8))))) then (wrap64 ((wrap64 ((ji22) - 1)) - a0_3)) else (wrap64 ((l1.length : Int) / (wrap64 (1 + (Int.tmod (wrap64 ((Int.tmod a2 8) + 8)) 8)))))) = ji24 := hji24
     obtain ⟨ji25,hji25⟩ : ∃ j_ : Int,(wrap64 ((ji24) * (wrap64 (1 + (Int.tmod (wrap64 ((Int.tmod a2 8) + 8)) 8))))) = j_ := ⟨_,rfl⟩
     first | rw [hji25] at H | simp only [hji25] at H
     have hji25w : (IntKind.i64.wrap ((ji24) * (wrap64 (1 + (Int.tmod (wrap64 ((Int.tmod a2 8) + 8)) 8))))) = ji25 := (i64_w _).trans hji25
     by_cases c26 : 0 ≤ (ji25)
     rotate_left
     ·rw [if_neg c26] at H
      exact absurd H (by simp)
     rw [if_pos c26] at H
     have c26b0 := eq_true c26
     have c26b1 : decide (0 ≤ (ji25)) = true := decide_eq_true c26
     clear c26
     by_cases c27 : (ji25 : Int).toNat ≤ 281474976710656
     rotate_left
     ·rw [if_neg c27] at H
      exact absurd H (by simp)
     rw [if_pos c27] at H
     have c27b0 := eq_true c27
     have c27b1 : decide ((ji25 : Int).toNat ≤ 281474976710656) = true := decide_eq_true c27
     clear c27
     obtain ⟨y539,hy539⟩ : ∃ y_ : List Int,y_ = (List.replicate (ji25 : Int).toNat 0) := ⟨_,rfl⟩
     replace H : (l4_ReedsolBursts.l0 kj6 l1 (wrap64 (1 + (Int.tmod (wrap64 ((Int.tmod a2 8) + 8)) 8))) a3 l4 a5 ji22 ji24 y539 0 a0_0 a0_1 a0_2 a0_3) = some r := by rw [hy539]; exact H
     have Ny539 := Aside0.mk hy539
     clear hy539
     have H' := Aside0.mk H
     clear H
     obtain ⟨hcz28_0,hcz28_1,hcz28_2,hcz28_3,hfz28_0,hfz28_1,hfz28_2,hfz28_3⟩ := cf4 BK535.out
     try go_wp2
     have n0_ := aK (blk_drew BK535.out)
     have n1_ := aK (below_drew1 HB.out)
     clear BK535 HB
     have BK535 := n0_
     have HB := n1_
     clear n0_ n1_
     refine start_ (n := 11) (S := fun w' => w'.cell? ⟨gb535,0,none⟩ = some (.int .i64 a0_0) ∧ w'.cell? ⟨gb535,1,none⟩ = some (.int .u64 a0_1) ∧ w'.cell? ⟨gb535,2,none⟩ = some (.int .i64 a0_2) ∧ w'.cell? ⟨gb535,3,none⟩ = some (.int .i64 a0_3)) (ds := []) (bts 11 0) (by kernel_rfl) rfl rfl ⟨(blk_cell BK535.out 0).trans rfl,(blk_cell BK535.out 1).trans rfl,(blk_cell BK535.out 2).trans rfl,(blk_cell BK535.out 3).trans rfl⟩ (fun hHeld => ?_); refine with_tabW l4_ReedsolBursts.tab5 l4_ReedsolBursts.bits5 (fun HT_ HW_ => ?_)
     generalize wc.drew = w29 at BK535 HB hHeld ⊢
     refine pu_ 0 44 11 1 HT_.out ?_; refine pu_ 1 45 11 3 HT_.out ?_; refine pu_ 2 46 11 7 HT_.out ?_; refine pu_ 3 47 11 15 HT_.out ?_; refine pu_ 4 48 11 31 HT_.out ?_; refine pu_ 5 49 11 63 HT_.out ?_; refine pu_ 6 50 11 127 HT_.out ?_; refine ta_ 7 51 11 255 rfl rfl HT_.out HW_.out hHeld (by rintro w' ⟨s0,s1,s2,s3⟩; go_simp; with_reducible rfl) ?_; refine pu_ 8 52 11 511 HT_.out ?_; refine pu_ 9 53 11 1023 HT_.out ?_; refine pu_ 10 14 11 2047 HT_.out ?_
     refine done_ (done_of HT_.out (by kernel_rfl)) ?_
     try go_wp2_with (first | ((with_reducible refine gate_dst (N := 57) rfl ?_); (try (refine gate_guard (by rfl) ?_; dsimp only)); refine Kd.R_make (Kd.int .u8) _ 5 rfl (N := 57) rfl 27 _ _ rfl ji25 rfl rfl Try.underlying27 (.int .u8 0) 1 info5 rfl (by decide) (by omega) 0 (ok := fun _ => True) (okp := fun _ => True) rfl (fun _ hk => hk) trivial oD (Nat.le_trans (Nat.mul_le_mul_right _ (oD : ji25.toNat ≤ 281474976710656)) (by omega)) (Below.refl _ _) (Nat.le_refl _) ?_; intro v540 w30 ho31 hb hg_ hnew_; clear hg_ hnew_; (first | rw [← Ny539.out] at ho31 | (simp only [Int.reduceToNat] at ho31; rw [← Ny539.out] at ho31)); have HO541 := aK (Kd.R_lower ho31 (below_size (mvh HB.out))); replace BK535 := aK (kb BK535.out hb); replace HB := aK (below_step (mvh HB.out) hb); clear hb ho31))
     go_loopg [16] kj6 (fun kq v16 w' => ∃ (x15_2 : List Int) (x16_2 : Int),v16 = .int .i64 x16_2 ∧ Aside0 (l4_ReedsolBursts.l0 kq l1 (wrap64 (1 + (Int.tmod (wrap64 ((Int.tmod a2 8) + 8)) 8))) a3 l4 a5 ji22 ji24 x15_2 x16_2 a0_0 a0_1 a0_2 a0_3 = some r) ∧ Aside0 (kq ≤ kj6) ∧ Aside0 (Kd.R (Kd.int .u8) 5 w' w.heap.size (fun _ => True) v540 x15_2) ∧ Aside0 (w'.heap[gb535]? = some (.cells #[.int .i64 a0_0,.int .u64 a0_1,.int .i64 a0_2,.int .i64 a0_3] 26 (0,0))) ∧ Aside0 (Below w.heap.size w w'))
     case atStart => exact ⟨(y539),(0),(by first | rfl | (simp; done) | (simp [*]; done) | (simp [wrap64]; done)),H',⟨Nat.le_refl _⟩,⟨mvR HO541.out⟩,⟨mvb BK535.out⟩,⟨mvh HB.out⟩⟩
     case round =>
      (try clear hHeld)
      clear H'
      (try clear c1); (try clear c2); (try clear p2); (try clear c4); (try clear p6); (try clear c7); (try clear c8); (try clear c10); (try clear c10b0); (try clear c10b1); (try clear c17); (try clear c21); (try clear c21b0); (try clear c21b1); (try clear c23); (try clear c23b0); (try clear c23b1)
      (try clear c26); (try clear c26b0); (try clear c26b1); (try clear c27); (try clear c27b0); (try clear c27b1); (try clear hcz12_0); (try clear hcz12_1); (try clear hcz12_2); (try clear hcz12_3); (try clear hcz15_0); (try clear hcz15_1); (try clear hcz15_2); (try clear hcz15_3); (try clear hcz28_0)
      (try clear hcz28_1); (try clear hcz28_2); (try clear hcz28_3); (try clear hfz12_0); (try clear hfz12_1); (try clear hfz12_2); (try clear hfz12_3); (try clear hfz15_0); (try clear hfz15_1); (try clear hfz15_2); (try clear hfz15_3); (try clear hfz28_0); (try clear hfz28_1); (try clear hfz28_2)
      (try clear hfz28_3); (try clear p2); (try clear p6)
      obtain ⟨x15_2,x16_2,rfl,HA,HK2,HO_15,BK535,HB⟩ := hrel
      cases gk with
      | zero => exact absurd HA.out (by simp [l4_ReedsolBursts.l0])
      | succ k2 =>
       have H := HA.out
       clear HA
       simp only [l4_ReedsolBursts.l0] at H
       by_cases c32 : x16_2 < (x15_2.length : Int)
       ·rw [if_pos c32] at H
        have c32b0 : decide (x16_2 < (x15_2.length : Int)) = true := decide_eq_true c32
        clear c32
        by_cases c33 : 0 ≤ x16_2
        rotate_left
        ·rw [if_neg c33] at H
         exact absurd H (by simp)
        rw [if_pos c33] at H
        have c33b0 : decide (0 ≤ x16_2) = true := decide_eq_true c33
        clear c33
        by_cases c34 : x16_2 < (l1.length : Int)
        rotate_left
        ·rw [if_neg c34] at H
         exact absurd H (by simp)
        rw [if_pos c34] at H
        have c34b0 : decide (x16_2 < (l1.length : Int)) = true := decide_eq_true c34
        clear c34
        by_cases c35 : ji22 = 0
        ·rw [if_pos c35] at H
         exact absurd H (by simp)
        ·rw [if_neg c35] at H
         have c35b0 : (ji22 == 0) = false := beq_eq_false_iff_ne.mpr c35
         have c35b1 : (ji22 != 0) = true := bne_iff_ne.mpr c35
         obtain ⟨y543,hy543⟩ : ∃ y_ : List Int,y_ = (x15_2.set (x16_2 : Int).toNat ((Int.tmod (wrap64 (rd l1 x16_2)) ji22) % 256)) := ⟨_,rfl⟩
         replace H : (l4_ReedsolBursts.l0 k2 l1 (wrap64 (1 + (Int.tmod (wrap64 ((Int.tmod a2 8) + 8)) 8))) a3 l4 a5 ji22 ji24 y543 (wrap64 (x16_2 + 1)) a0_0 a0_1 a0_2 a0_3) = some r := by rw [hy543]; exact H
         have Ny543 := Aside0.mk hy543
         clear hy543
         have H' := Aside0.mk H
         clear H
         obtain ⟨Ao37,co37,eo37⟩ := Kd.R_slice HO_15.out
         subst eo37
         have p542 : 0 ≤ (x16_2 : Int) := oD
         have q542 : x16_2 < (l1.length : Int) := oD
         obtain ⟨ad542,e542,hx542_0⟩ := Kd.at_int HR1.out x16_2 p542 q542
         cases e542
         replace hx542_0 := (HB.out.cell (World.block_lt_of_cell? w _ hx542_0)).trans hx542_0
         replace p542 := eq_true p542
         replace q542 := eq_true q542
         have p36 : 0 ≤ (x16_2 : Int) := oD
         have q36 : (x16_2 : Int) < ((x15_2.length : Int) : Int) := oD
         obtain ⟨go36,co36,eo36,gb36,gl36,cl36,HG36⟩ := Kd.R_form HO_15.out (by omega)
         (first | cases eo36 | (injection eo36 with ea_ en_ ec_; (first | subst ea_ | (injection ea_ with ea_; subst ea_)); subst ec_; clear en_))
         have GB36 := Aside0.mk gb36
         have GG36 := Aside0.mk HG36
         clear gb36 gl36 HG36
         obtain ⟨hx36_0,hf36_0⟩ := Kd.R_celln 0 HO_15.out (x16_2 : Int) p36 q36
         replace p36 := eq_true p36
         replace q36 := eq_true q36
         have HP38 := Kd.R_putg HO_15.out (x16_2 : Int) ((Int.tmod (wrap64 (rd l1 x16_2)) ji22) % 256)
         go_wp2_with (first | ((with_reducible refine gate_store (t := 5) (p := 74) rfl ?_); refine store_event (t := 5) (p := 74) (v := ?vo_w39) (w1 := (wr.setCell ⟨go36,(x16_2 : Int).toNat,none⟩ (.int .u8 ((Int.tmod (wrap64 (rd l1 x16_2)) ji22) % 256)))) ?hg ?ho ?hn ?hr ?_; (case ho => rfl); (case hg => rfl); (case hn => rfl); (case hr => first | (go_simp; done) | (go_simp; rfl)); intro w39 hw; have hg : wr.grownBy w39 (some go36) := (by rw [hw]; exact HP38.2); have hp_ : Kd.R (Kd.int .u8) 5 w39 w.heap.size (fun _ => True) (.slice (some ⟨go36,0,none⟩) x15_2.length co37) y543 := (by rw [hw,Ny543.out]; exact HP38.1); clear HP38; replace BK535 := aK (blk_grown (g := gb535) (o := .cells #[.int .i64 a0_0,.int .u64 a0_1,.int .i64 a0_2,.int .i64 a0_3] 26 (0,0)) (mvb BK535.out) hg (Kd.R_ne HO_15.out BK535.out (by decide))); replace HO_15 := aK (hp_); replace HB := aK ((by rw [hw]; exact below_set (HB.out) GB36.out : Below w.heap.size w w39)); clear hg hw hp_))
         go_roundg k2
         case measure => have := HJ6.out; have := HK2.out; omega
         case rel => exact ⟨(y543),(wrap64 (x16_2 + 1)),(by first | rfl | (simp; done) | (simp [*]; done) | (simp [wrap64]; done)),H',⟨by have := HJ6.out; have := HK2.out; omega⟩,⟨mvR HO_15.out⟩,⟨mvb BK535.out⟩,⟨mvh HB.out⟩⟩
       ·rw [if_neg c32] at H
        have c32b0 : decide (x16_2 < (x15_2.length : Int)) = false := decide_eq_false c32
        clear c32
        replace H := Option.bind_eq_some_iff.mp H
        obtain ⟨⟨t544,t547⟩,A400,H⟩ := H
        try dsimp only at H
        have A40 := Aside0.mk A400
        clear A400
        have HC41 := Aside0.mk H
        clear H
        obtain ⟨Ao42,co42,eo42⟩ := Kd.R_slice HO_15.out
        subst eo42
        obtain ⟨hcz43_0,hcz43_1,hcz43_2,hcz43_3,hfz43_0,hfz43_1,hfz43_2,hfz43_3⟩ := cf4 BK535.out
        go_upto_region 12 with (first | (go_at_call 14; (with_reducible refine (reedsol_Stripe.calls k2 a0_0 a0_1 a0_2 a0_3 _ _ x15_2 (wrap64 (1 + (Int.tmod (wrap64 ((Int.tmod a2 8) + 8)) 8))) t544 t547 _ ?side1 ?side2 A40.out).mono ?_); (case side1 => exact mvC (Kd.R_reads' HO_15.out).2.2); (case side2 => exact (Kd.R_reads' HO_15.out).2.1); rintro e w44 ⟨v545,rfl,ho0,hb⟩; have HO546 := aK (Kd.R_lower (Kd.R_new' ho0 (Kd.R_lt (mvR HO_15.out))) (below_size (mvh HB.out))); replace HO_15 := aK (Kd.R_elder' (mvR HO_15.out) (Kd.R_base ho0) hb); replace BK535 := aK (kb BK535.out hb); replace HB := aK (below_step (mvh HB.out) hb); (try clear hb); (try clear ho0)))
        (try simp only [Act.put,List.setIfInBounds_toArray,List.set_cons_zero,List.set_cons_succ])
        go_cut [95] (fun v95 wc => ∃ (kq : Nat) (x95_40 : Bool),v95 = .bool x95_40 ∧ Aside0 (l4_ReedsolBursts.j2 kq (wrap64 (1 + (Int.tmod (wrap64 ((Int.tmod a2 8) + 8)) 8))) a3 l4 a5 ji22 x15_2 t544 x95_40 a0_0 a0_1 a0_2 a0_3 = some r) ∧ Aside0 (kq ≤ k2) ∧ Aside0 (Kd.R (Kd.int .u8) 5 wc w.heap.size (fun k_ => some k_ ≠ (v545 : Value).ownBlock) (.slice Ao42 x15_2.length co42) x15_2) ∧ Aside0 (Kd.R (Kd.int .u8) 5 wc w.heap.size (fun k_ => some k_ ≠ ((.slice Ao42 x15_2.length co42) : Value).ownBlock) v545 t544) ∧ Aside0 (wc.heap[gb535]? = some (.cells #[.int .i64 a0_0,.int .u64 a0_1,.int .i64 a0_2,.int .i64 a0_3] 26 (0,0))) ∧ Aside0 (Below w.heap.size w wc))
        case first =>
         have H := HC41.out
         clear HC41
         replace H := Option.bind_eq_some_iff.mp H
         obtain ⟨t548,A450,H⟩ := H
         try dsimp only at H
         have A45 := Aside0.mk A450
         clear A450
         by_cases c46 : t548 = 0
         rotate_left
         ·rw [if_neg c46] at H
          exact l4_ReedsolBursts.no_j2 HR9_.out H
         rw [if_pos c46] at H
         have c46b0 : (t548 == 0) = true := beq_iff_eq.mpr c46
         have c46b1 : (t548 != 0) = false := bne_eq_false_iff_eq.mpr c46
         clear c46
         (first | rw [c46b0] | (simp only [i64_w,i32_w]; rw [c46b0]) | rw [c46b1] | skip)
         have H' := Aside0.mk H
         clear H
         go_wp2_with (first | (go_at_call 11; (with_reducible refine (l4_num.calls t547 t548 _ A45.out).mono ?_); rintro e w' ⟨rfl,⟨nd,rfl⟩⟩; obtain ⟨Ao47,co47,eo47⟩ := Kd.R_slice HO546.out; subst eo47; obtain ⟨hcz48_0,hcz48_1,hcz48_2,hcz48_3,hfz48_0,hfz48_1,hfz48_2,hfz48_3⟩ := cf4 BK535.out))
         go_meet
         case rel => exact ⟨_,(((t544.length : Int) != (wrap64 ((wrap64 (ji24 + a0_3)) * (wrap64 (1 + (Int.tmod (wrap64 ((Int.tmod a2 8) + 8)) 8))))))),(by first | rfl | (simp; done) | (simp only [← hji24] <;> (first | rfl | simp)) | (simp [*]; done) | (simp [wrap64]; done)),H',⟨by have := HJ6.out; have := HK2.out; first | omega | exact Nat.le_refl _⟩,⟨by (with_reducible repeat (first | apply Kd.R_alloc | apply Kd.R_drewN | apply Kd.R_drew)); exact Kd.R_mono HO_15.out (fun _ hk => hk.2)⟩,⟨by (with_reducible repeat (first | apply Kd.R_alloc | apply Kd.R_drewN | apply Kd.R_drew)); exact Kd.R_mono HO546.out (fun _ hk => hk.2)⟩,⟨mvb BK535.out⟩,⟨mvh HB.out⟩⟩
        case rest =>
         clear HC41
         (try clear c1); (try clear c2); (try clear p2); (try clear c3); (try clear p3); (try clear q3); (try clear hx3); (try clear c4); (try clear p5); (try clear q5); (try clear hx5); (try clear p6); (try clear c7); (try clear c8); (try clear c10); (try clear c10b0); (try clear c10b1); (try clear c11)
         (try clear c14); (try clear c17); (try clear c21); (try clear c21b0); (try clear c21b1); (try clear c23); (try clear c23b0); (try clear c23b1); (try clear c26); (try clear c26b0); (try clear c26b1); (try clear c27); (try clear c27b0); (try clear c27b1); (try clear c32); (try clear c32b0)
         (try clear c33); (try clear c33b0); (try clear c34); (try clear c34b0); (try clear c35); (try clear c35b0); (try clear c35b1); (try clear p36); (try clear q36); (try clear hx36); (try clear hf36); (try clear c46); (try clear c46b0); (try clear c46b1); (try clear hcz12_0); (try clear hcz12_1)
         (try clear hcz12_2); (try clear hcz12_3); (try clear hcz15_0); (try clear hcz15_1); (try clear hcz15_2); (try clear hcz15_3); (try clear hcz28_0); (try clear hcz28_1); (try clear hcz28_2); (try clear hcz28_3); (try clear hcz43_0); (try clear hcz43_1); (try clear hcz43_2); (try clear hcz43_3)
         (try clear hcz48_0); (try clear hcz48_1); (try clear hcz48_2); (try clear hcz48_3); (try clear hfz12_0); (try clear hfz12_1); (try clear hfz12_2); (try clear hfz12_3); (try clear hfz15_0); (try clear hfz15_1); (try clear hfz15_2); (try clear hfz15_3); (try clear hfz28_0); (try clear hfz28_1)
         (try clear hfz28_2); (try clear hfz28_3); (try clear hfz43_0); (try clear hfz43_1); (try clear hfz43_2); (try clear hfz43_3); (try clear hfz48_0); (try clear hfz48_1); (try clear hfz48_2); (try clear hfz48_3); (try clear hx36_0); (try clear hx542_0); (try clear p2); (try clear p36); (try clear p542)
         (try clear p6); (try clear q36); (try clear q542)
         obtain ⟨kq,x95_40,rfl,HA,HJ40,HO_15,HO_17,BK535,HB⟩ := hcut
         cases kq with
         | zero => exact absurd HA.out (by simp [l4_ReedsolBursts.j2])
         | succ kj40 =>
          have H := HA.out
          clear HA
          simp only [l4_ReedsolBursts.j2] at H
          by_cases c49 : x95_40 = true
          ·subst c49
           exact l4_ReedsolBursts.no_false HR9_.out H
          ·replace c49 := Bool.eq_false_iff.mpr c49
           subst c49
           have H1 : (if a5 = true then (l4_ReedsolBursts.j3 kj40 (wrap64 (1 + (Int.tmod (wrap64 ((Int.tmod a2 8) + 8)) 8))) a3 l4 a5 ji22 x15_2 t544 (wrap64 (a0_3 * (wrap64 (1 + (Int.tmod (wrap64 ((Int.tmod a2 8) + 8)) 8))))) a0_0 a0_1 a0_2 a0_3) else (l4_ReedsolBursts.j3 kj40 (wrap64 (1 + (Int.tmod (wrap64 ((Int.tmod a2 8) + 8)) 8))) a3 l4 a5 ji22 x15_2 t544 (wrap64 ((wrap64 (Int.tdiv a0_3 2)) * (wrap64 (1 + (Int.tmod (wrap64 ((Int.tmod a2 8) + 8)) 8))))) a0_0 a0_1 a0_2 a0_3)) = some r := by rw [if_neg (show ¬ (false = true) by decide)] at H; exact H
           clear H
           have H := H1
           clear H1
           have HC50 := Aside0.mk H
           clear H
           obtain ⟨hcz51_0,hcz51_1,hcz51_2,hcz51_3,hfz51_0,hfz51_1,hfz51_2,hfz51_3⟩ := cf4 BK535.out
           go_upto_if 101 with (fail)
           go_cut [19] (fun v19 wc => ∃ (kq : Nat) (x19_49 : Int),v19 = .int .i64 x19_49 ∧ Aside0 (l4_ReedsolBursts.j3 kq (wrap64 (1 + (Int.tmod (wrap64 ((Int.tmod a2 8) + 8)) 8))) a3 l4 a5 ji22 x15_2 t544 x19_49 a0_0 a0_1 a0_2 a0_3 = some r) ∧ Aside0 (kq ≤ kj40) ∧ Aside0 (Kd.R (Kd.int .u8) 5 wc w.heap.size (fun k_ => some k_ ≠ (v545 : Value).ownBlock) (.slice Ao42 x15_2.length co42) x15_2) ∧ Aside0 (Kd.R (Kd.int .u8) 5 wc w.heap.size (fun k_ => some k_ ≠ ((.slice Ao42 x15_2.length co42) : Value).ownBlock) v545 t544) ∧ Aside0 (wc.heap[gb535]? = some (.cells #[.int .i64 a0_0,.int .u64 a0_1,.int .i64 a0_2,.int .i64 a0_3] 26 (0,0))) ∧ Aside0 (Below w.heap.size w wc))
           case first =>
            have H := HC50.out
            clear HC50
            by_cases c52 : a5 = true
            ·subst c52
             have H1 : (l4_ReedsolBursts.j3 kj40 (wrap64 (1 + (Int.tmod (wrap64 ((Int.tmod a2 8) + 8)) 8))) a3 l4 true ji22 x15_2 t544 (wrap64 (a0_3 * (wrap64 (1 + (Int.tmod (wrap64 ((Int.tmod a2 8) + 8)) 8))))) a0_0 a0_1 a0_2 a0_3) = some r := by rw [if_pos rfl] at H; exact H
             clear H
             have H := H1
             clear H1
             have H' := Aside0.mk H
             clear H
             obtain ⟨hcz53_0,hcz53_1,hcz53_2,hcz53_3,hfz53_0,hfz53_1,hfz53_2,hfz53_3⟩ := cf4 BK535.out
             go_wp2
             go_meet
             case rel => exact ⟨_,(wrap64 (a0_3 * (wrap64 (1 + (Int.tmod (wrap64 ((Int.tmod a2 8) + 8)) 8))))),(by first | rfl | (simp; done) | (simp [*]; done) | (simp [wrap64]; done)),H',⟨by have := HJ6.out; have := HK2.out; have := HJ40.out; first | omega | exact Nat.le_refl _⟩,⟨mvR HO_15.out⟩,⟨mvR HO_17.out⟩,⟨mvb BK535.out⟩,⟨mvh HB.out⟩⟩
            ·replace c52 := Bool.eq_false_iff.mpr c52
             subst c52
             have H1 : (l4_ReedsolBursts.j3 kj40 (wrap64 (1 + (Int.tmod (wrap64 ((Int.tmod a2 8) + 8)) 8))) a3 l4 false ji22 x15_2 t544 (wrap64 ((wrap64 (Int.tdiv a0_3 2)) * (wrap64 (1 + (Int.tmod (wrap64 ((Int.tmod a2 8) + 8)) 8))))) a0_0 a0_1 a0_2 a0_3) = some r := by rw [if_neg (show ¬ (false = true) by decide)] at H; exact H
             clear H
             have H := H1
             clear H1
             have H' := Aside0.mk H
             clear H
             go_wp2
             go_meet
             case rel => exact ⟨_,(wrap64 ((wrap64 (Int.tdiv a0_3 2)) * (wrap64 (1 + (Int.tmod (wrap64 ((Int.tmod a2 8) + 8)) 8))))),(by first | rfl | (simp; done) | (simp [*]; done) | (simp [wrap64]; done)),H',⟨by have := HJ6.out; have := HK2.out; have := HJ40.out; first | omega | exact Nat.le_refl _⟩,⟨mvR HO_15.out⟩,⟨mvR HO_17.out⟩,⟨mvb BK535.out⟩,⟨mvh HB.out⟩⟩
           case rest =>
            clear HC50
            (try clear c1); (try clear c2); (try clear p2); (try clear c3); (try clear p3); (try clear q3); (try clear hx3); (try clear c4); (try clear c5); (try clear p5); (try clear q5); (try clear hx5); (try clear p6); (try clear c7); (try clear c8); (try clear c10); (try clear c10b0); (try clear c10b1)
            (try clear c11); (try clear c14); (try clear c17); (try clear c21); (try clear c21b0); (try clear c21b1); (try clear c23); (try clear c23b0); (try clear c23b1); (try clear c26); (try clear c26b0); (try clear c26b1); (try clear c27); (try clear c27b0); (try clear c27b1); (try clear c32)
            (try clear c32b0); (try clear c33); (try clear c33b0); (try clear c34); (try clear c34b0); (try clear c35); (try clear c35b0); (try clear c35b1); (try clear p36); (try clear q36); (try clear hx36); (try clear hf36); (try clear c46); (try clear c46b0); (try clear c46b1); (try clear c49)
            (try clear c52); (try clear hcz12_0); (try clear hcz12_1); (try clear hcz12_2); (try clear hcz12_3); (try clear hcz15_0); (try clear hcz15_1); (try clear hcz15_2); (try clear hcz15_3); (try clear hcz28_0); (try clear hcz28_1); (try clear hcz28_2); (try clear hcz28_3); (try clear hcz43_0)
            (try clear hcz43_1); (try clear hcz43_2); (try clear hcz43_3); (try clear hcz48_0); (try clear hcz48_1); (try clear hcz48_2); (try clear hcz48_3); (try clear hcz51_0); (try clear hcz51_1); (try clear hcz51_2); (try clear hcz51_3); (try clear hcz53_0); (try clear hcz53_1); (try clear hcz53_2)
            (try clear hcz53_3); (try clear hfz12_0); (try clear hfz12_1); (try clear hfz12_2); (try clear hfz12_3); (try clear hfz15_0); (try clear hfz15_1); (try clear hfz15_2); (try clear hfz15_3); (try clear hfz28_0); (try clear hfz28_1); (try clear hfz28_2); (try clear hfz28_3); (try clear hfz43_0)
            (try clear hfz43_1); (try clear hfz43_2); (try clear hfz43_3); (try clear hfz48_0); (try clear hfz48_1); (try clear hfz48_2); (try clear hfz48_3); (try clear hfz51_0); (try clear hfz51_1); (try clear hfz51_2); (try clear hfz51_3); (try clear hfz53_0); (try clear hfz53_1); (try clear hfz53_2)
            (try clear hfz53_3); (try clear hx36_0); (try clear hx542_0); (try clear p2); (try clear p3); (try clear p36); (try clear p5); (try clear p542); (try clear p6); (try clear q3); (try clear q36); (try clear q5); (try clear q542)
            obtain ⟨kq,x19_49,rfl,HA,HJ49,HO_15,HO_17,BK535,HB⟩ := hcut
            cases kq with
            | zero => exact absurd HA.out (by simp [l4_ReedsolBursts.j3])
            | succ kj49 =>
             have H := HA.out
             clear HA
             simp only [l4_ReedsolBursts.j3] at H
             by_cases c54 : (t544.length : Int) = 0
             ·rw [if_pos c54] at H
              exact absurd H (by simp)
             ·rw [if_neg c54] at H
              have c54b0 : ((t544.length : Int) == 0) = false := beq_eq_false_iff_ne.mpr c54
              have c54b1 : ((t544.length : Int) != 0) = true := bne_iff_ne.mpr c54
              have c54b2 : ¬ (t544 = []) := fun h_ => c54 (by rw [h_]; rfl)
              obtain ⟨y549,hy549⟩ : ∃ y_ : List Int,y_ = (([] : List Int)) := ⟨_,rfl⟩
              replace H : (if y549.length + t544.length < 140737488355328 then (l4_ReedsolBursts.l1 kj49 (wrap64 (1 + (Int.tmod (wrap64 ((Int.tmod a2 8) + 8)) 8))) (Int.tmod (wrap64 ((Int.tmod a3 (t544.length : Int)) + (t544.length : Int))) (t544.length : Int)) l4 a5 ji22 x15_2 t544 x19_49 (y549 ++ t544) ([] : List Int) 0 a0_0 a0_1 a0_2 a0_3) else (none)) = some r := by rw [hy549]; exact H
              have Ny549 := Aside0.mk hy549
              clear hy549
              by_cases c55 : y549.length + t544.length < 140737488355328
              rotate_left
              ·rw [if_neg c55] at H
               exact absurd H (by simp)
              rw [if_pos c55] at H
              have LMc55 := Aside0.mk c55
              clear c55
              obtain ⟨y552,hy552⟩ : ∃ y_ : List Int,y_ = (y549 ++ t544) := ⟨_,rfl⟩
              replace H : (l4_ReedsolBursts.l1 kj49 (wrap64 (1 + (Int.tmod (wrap64 ((Int.tmod a2 8) + 8)) 8))) (Int.tmod (wrap64 ((Int.tmod a3 (t544.length : Int)) + (t544.length : Int))) (t544.length : Int)) l4 a5 ji22 x15_2 t544 x19_49 y552 ([] : List Int) 0 a0_0 a0_1 a0_2 a0_3) = some r := by rw [hy552]; exact H
              have Ny552 := Aside0.mk hy552
              clear hy552
              have H' := Aside0.mk H
              clear H
              obtain ⟨Ao56,co56,eo56⟩ := Kd.R_slice HO_17.out
              subst eo56
              go_wp2_with (first | ((with_reducible refine gate_dst (N := 116) rfl ?_); (try (refine gate_guard (by rfl) ?_; dsimp only)); refine Kd.R_lit (Kd.int .u8) _ 5 ?hg (N := 116) ?hd (xs := ([] : List Int)) (inner := []) (ok := fun _ => True) (okp := fun _ => True) ?hr ?hp (fun _ hk => hk) trivial (Below.refl _ _) (Nat.le_refl _) (by simp) ?_; (case hd => rfl); (case hg => rfl); (case hr => first | (go_simp; done) | (go_simp; rfl)); (case hp => exact (Reps.none _ _)); intro v550 w57 ho58 hb hg_ hnew_; clear hg_ hnew_; (first | rw [← Ny549.out] at ho58 | (simp only [Int.reduceToNat] at ho58; rw [← Ny549.out] at ho58)); have HO551 := aK (Kd.R_lower (Kd.R_new' (Kd.R_new' ho58 (Kd.R_lt (mvR HO_15.out))) (Kd.R_lt (mvR HO_17.out))) (below_size (mvh HB.out))); replace HO_15 := aK (Kd.R_elder' (mvR HO_15.out) (Kd.R_base ho58) hb); replace HO_17 := aK (Kd.R_elder' (mvR HO_17.out) (Kd.R_base ho58) hb); replace BK535 := aK (kb BK535.out hb); replace HB := aK (below_step (mvh HB.out) hb); clear hb ho58) | ((with_reducible refine gate_builtin (b := .append) (xs := #[.tmp 116,.tmp 117]) rfl ?_); (try (refine gate_guard (by rfl) ?_; dsimp only)); at_builtin; refine Kd.R_append_rows (Kd.int .u8) (w0 := w) w.heap.size rfl (.tmp 116) (.tmp 117) 27 5 (.int .u8 0) 1 rfl Try.underlying27 info5 rfl (by decide) (by omega) v550 y549 t544 _ _ _ (fun k_ => some k_ ≠ (.slice Ao42 x15_2.length co42 : Value).ownBlock ∧ some k_ ≠ (.slice Ao56 t544.length co56 : Value).ownBlock) (fun _ => False) rfl rfl ?aO ?aR (fun _ _ h => h) (fun _ h => h.elim) ?aF ?aB ?aS ?aL ?_; (case aR => repeat (first | exact (Kd.R_reads' HO_17.out).2.2 | (with_reducible refine Kd.C_alloc ?_ _) | (with_reducible refine Kd.C_drewN ?_ _) | (with_reducible refine Kd.C_drew ?_))); (case aB => exact (mvh HB.out)); (case aF => exact (fun k_ hk => ⟨Kd.fresh' (Kd.R_lt (mvR HO_15.out)) k_ hk,Kd.fresh' (Kd.R_lt (mvR HO_17.out)) k_ hk⟩)); (case aO => exact (by (with_reducible repeat (first | apply Kd.R_alloc | apply Kd.R_drewN | apply Kd.R_drew)); exact Kd.R_mono HO551.out (fun _ hk => ⟨hk.1.2,hk.2⟩))); (case aS => exact (below_size (mvh HB.out))); (case aL => have := LMc55.out; (try simp only [hji20] at this); (try simp only [hji22] at this); (try simp only [hji24] at this); (try simp only [hji25] at this); (try clear hji20w); (try clear hji20); (try clear hji22w); (try clear hji22); (try clear hji24w); (try clear hji24); (try clear hji25w); (try clear hji25); omega); intro v553 w59 ho hb hg hat; rw [← Ny552.out] at ho; replace HO_15 := aK (Kd.R_after (ok := (fun k_ => some k_ ≠ (.slice Ao56 t544.length co56 : Value).ownBlock)) (mvR HO_15.out) hg hat); replace HO_17 := aK (Kd.R_after (ok := (fun k_ => some k_ ≠ (.slice Ao42 x15_2.length co42 : Value).ownBlock)) (mvR HO_17.out) hg hat); replace BK535 := aK (blk_grown (g := gb535) (o := .cells #[.int .i64 a0_0,.int .u64 a0_1,.int .i64 a0_2,.int .i64 a0_3] 26 (0,0)) (mvb BK535.out) hg (Kd.R_ne HO551.out BK535.out (by decide))); replace HB := aK (hb); have HO554 := aK (ho); clear HO551; clear ho hb hg hat))
              go_loopg [21,22] kj49 (fun kq v21 v22 w' => ∃ (x20_5 : List Int) (x21_5 : List Int) (x22_5 : Int),v22 = .int .i64 x22_5 ∧ Aside0 (l4_ReedsolBursts.l1 kq (wrap64 (1 + (Int.tmod (wrap64 ((Int.tmod a2 8) + 8)) 8))) (Int.tmod (wrap64 ((Int.tmod a3 (t544.length : Int)) + (t544.length : Int))) (t544.length : Int)) l4 a5 ji22 x15_2 t544 x19_49 x20_5 x21_5 x22_5 a0_0 a0_1 a0_2 a0_3 = some r) ∧ Aside0 (kq ≤ kj49) ∧ Aside0 (Kd.R (Kd.int .u8) 5 w' w.heap.size (fun k_ => some k_ ≠ ((.slice Ao56 t544.length co56) : Value).ownBlock ∧ some k_ ≠ (v553 : Value).ownBlock) (.slice Ao42 x15_2.length co42) x15_2) ∧ Aside0 (Kd.R (Kd.int .u8) 5 w' w.heap.size (fun k_ => some k_ ≠ ((.slice Ao42 x15_2.length co42) : Value).ownBlock ∧ some k_ ≠ (v553 : Value).ownBlock) (.slice Ao56 t544.length co56) t544) ∧ Aside0 (Kd.R (Kd.int .u8) 5 w' w.heap.size (fun k_ => some k_ ≠ ((.slice Ao42 x15_2.length co42) : Value).ownBlock ∧ some k_ ≠ ((.slice Ao56 t544.length co56) : Value).ownBlock) v553 x20_5) ∧ Aside0 (Kd.R (Kd.int .i64) 3 w' w.heap.size (fun _ => True) v21 x21_5) ∧ Aside0 (w'.heap[gb535]? = some (.cells #[.int .i64 a0_0,.int .u64 a0_1,.int .i64 a0_2,.int .i64 a0_3] 26 (0,0))) ∧ Aside0 (Below w.heap.size w w'))
              case atStart => exact ⟨(y552),(([] : List Int)),(0),(by first | rfl | (simp; done) | (simp [*]; done) | (simp [wrap64]; done)),H',⟨Nat.le_refl _⟩,⟨mvR HO_15.out⟩,⟨mvR HO_17.out⟩,⟨mvR HO554.out⟩,⟨by first | exact Kd.R_nil _ _ _ _ _ | exact Kd.N_nil _ _ _ _ _ | exact Kd.V_nil _ _ _ _ _ | exact Kd.Q_nil _ _ _ _ _ | exact Kd.S_nil _ _ _ _ _⟩,⟨mvb BK535.out⟩,⟨mvh HB.out⟩⟩
              case round =>
               (try clear hHeld)
               clear H'
               (try clear c1); (try clear c2); (try clear p2); (try clear c3); (try clear p3); (try clear q3); (try clear hx3); (try clear c4); (try clear c5); (try clear p5); (try clear q5); (try clear hx5); (try clear p6); (try clear c7); (try clear c8); (try clear c10); (try clear c10b0); (try clear c10b1)
               (try clear c11); (try clear c14); (try clear c17); (try clear c21); (try clear c21b0); (try clear c21b1); (try clear c23); (try clear c23b0); (try clear c23b1); (try clear c26); (try clear c26b0); (try clear c26b1); (try clear c27); (try clear c27b0); (try clear c27b1); (try clear c32)
               (try clear c32b0); (try clear c33); (try clear c33b0); (try clear c34); (try clear c34b0); (try clear c35); (try clear c35b0); (try clear c35b1); (try clear p36); (try clear q36); (try clear hx36); (try clear hf36); (try clear c46); (try clear c46b0); (try clear c46b1); (try clear c49)
               (try clear c52); (try clear c54); (try clear c54b0); (try clear c54b1); (try clear c54b2); (try clear p54); (try clear q54); (try clear hx54); (try clear c55); (try clear hcz12_0); (try clear hcz12_1); (try clear hcz12_2); (try clear hcz12_3); (try clear hcz15_0); (try clear hcz15_1)
               (try clear hcz15_2); (try clear hcz15_3); (try clear hcz28_0); (try clear hcz28_1); (try clear hcz28_2); (try clear hcz28_3); (try clear hcz43_0); (try clear hcz43_1); (try clear hcz43_2); (try clear hcz43_3); (try clear hcz48_0); (try clear hcz48_1); (try clear hcz48_2); (try clear hcz48_3)
               (try clear hcz51_0); (try clear hcz51_1); (try clear hcz51_2); (try clear hcz51_3); (try clear hcz53_0); (try clear hcz53_1); (try clear hcz53_2); (try clear hcz53_3); (try clear hfz12_0); (try clear hfz12_1); (try clear hfz12_2); (try clear hfz12_3); (try clear hfz15_0); (try clear hfz15_1)
               (try clear hfz15_2); (try clear hfz15_3); (try clear hfz28_0); (try clear hfz28_1); (try clear hfz28_2); (try clear hfz28_3); (try clear hfz43_0); (try clear hfz43_1); (try clear hfz43_2); (try clear hfz43_3); (try clear hfz48_0); (try clear hfz48_1); (try clear hfz48_2); (try clear hfz48_3)
               (try clear hfz51_0); (try clear hfz51_1); (try clear hfz51_2); (try clear hfz51_3); (try clear hfz53_0); (try clear hfz53_1); (try clear hfz53_2); (try clear hfz53_3); (try clear hx36_0); (try clear hx542_0); (try clear p2); (try clear p3); (try clear p36); (try clear p5); (try clear p542)
               (try clear p6); (try clear q3); (try clear q36); (try clear q5); (try clear q542)
               obtain ⟨x20_5,x21_5,x22_5,rfl,HA,HK5,HO_15,HO_17,HO_20,HO_21,BK535,HB⟩ := hrel
               cases gk with
               | zero => exact absurd HA.out (by simp [l4_ReedsolBursts.l1])
               | succ k5 =>
                have H := HA.out
                clear HA
                simp only [l4_ReedsolBursts.l1] at H
                have HC60 := Aside0.mk H
                clear H
                go_upto_region 21 with (fail)
                go_cut [129] (fun v129 wc => ∃ (kq : Nat) (x129_59 : Bool),v129 = .bool x129_59 ∧ Aside0 (l4_ReedsolBursts.j5 kq (wrap64 (1 + (Int.tmod (wrap64 ((Int.tmod a2 8) + 8)) 8))) (Int.tmod (wrap64 ((Int.tmod a3 (t544.length : Int)) + (t544.length : Int))) (t544.length : Int)) l4 a5 ji22 x15_2 t544 x19_49 x20_5 x21_5 x22_5 x129_59 a0_0 a0_1 a0_2 a0_3 = some r) ∧ Aside0 (kq ≤ k5) ∧ Aside0 (Kd.R (Kd.int .u8) 5 wc w.heap.size (fun k_ => some k_ ≠ ((.slice Ao56 t544.length co56) : Value).ownBlock ∧ some k_ ≠ (v553 : Value).ownBlock) (.slice Ao42 x15_2.length co42) x15_2) ∧ Aside0 (Kd.R (Kd.int .u8) 5 wc w.heap.size (fun k_ => some k_ ≠ ((.slice Ao42 x15_2.length co42) : Value).ownBlock ∧ some k_ ≠ (v553 : Value).ownBlock) (.slice Ao56 t544.length co56) t544) ∧ Aside0 (Kd.R (Kd.int .u8) 5 wc w.heap.size (fun k_ => some k_ ≠ ((.slice Ao42 x15_2.length co42) : Value).ownBlock ∧ some k_ ≠ ((.slice Ao56 t544.length co56) : Value).ownBlock) v553 x20_5) ∧ Aside0 (Kd.R (Kd.int .i64) 3 wc w.heap.size (fun _ => True) u21 x21_5) ∧ Aside0 (wc.heap[gb535]? = some (.cells #[.int .i64 a0_0,.int .u64 a0_1,.int .i64 a0_2,.int .i64 a0_3] 26 (0,0))) ∧ Aside0 (Below w.heap.size w wc))
                case first =>
                 have H := HC60.out
                 clear HC60
                 by_cases c61 : x22_5 < x19_49
                 ·rw [if_pos c61] at H
                  have c61b0 : decide (x22_5 < x19_49) = true := decide_eq_true c61
                  clear c61
                  (first | rw [c61b0] | (simp only [i64_w,i32_w]; rw [c61b0]) | rw [c61b1] | skip)
                  have H' := Aside0.mk H
                  clear H
                  go_wp2
                  go_meet
                  case rel => exact ⟨_,(decide ((wrap64 ((Int.tmod (wrap64 ((Int.tmod a3 (t544.length : Int)) + (t544.length : Int))) (t544.length : Int)) + x22_5)) < (t544.length : Int))),(by first | rfl | (simp; done) | (simp [*]; done) | (simp [wrap64]; done)),H',⟨by have := HJ6.out; have := HK2.out; have := HJ40.out; have := HJ49.out; have := HK5.out; first | omega | exact Nat.le_refl _⟩,⟨mvR HO_15.out⟩,⟨mvR HO_17.out⟩,⟨mvR HO_20.out⟩,⟨mvR HO_21.out⟩,⟨mvb BK535.out⟩,⟨mvh HB.out⟩⟩
                 ·rw [if_neg c61] at H
                  have c61b0 : decide (x22_5 < x19_49) = false := decide_eq_false c61
                  clear c61
                  (first | rw [c61b0] | (simp only [i64_w,i32_w]; rw [c61b0]) | rw [c61b1] | skip)
                  have H' := Aside0.mk H
                  clear H
                  go_wp2
                  go_meet
                  case rel => exact ⟨_,(false),(by first | rfl | (simp; done) | (simp [*]; done) | (simp [wrap64]; done)),H',⟨by have := HJ6.out; have := HK2.out; have := HJ40.out; have := HJ49.out; have := HK5.out; first | omega | exact Nat.le_refl _⟩,⟨mvR HO_15.out⟩,⟨mvR HO_17.out⟩,⟨mvR HO_20.out⟩,⟨mvR HO_21.out⟩,⟨mvb BK535.out⟩,⟨mvh HB.out⟩⟩
                case rest =>
                 clear HC60
                 (try clear c1); (try clear c2); (try clear p2); (try clear c3); (try clear p3); (try clear q3); (try clear hx3); (try clear c4); (try clear c5); (try clear p5); (try clear q5); (try clear hx5); (try clear c6); (try clear p6); (try clear c7); (try clear c8); (try clear c10); (try clear c10b0)
                 (try clear c10b1); (try clear c11); (try clear c14); (try clear c17); (try clear c21); (try clear c21b0); (try clear c21b1); (try clear c23); (try clear c23b0); (try clear c23b1); (try clear c26); (try clear c26b0); (try clear c26b1); (try clear c27); (try clear c27b0); (try clear c27b1)
                 (try clear c32); (try clear c32b0); (try clear c33); (try clear c33b0); (try clear c34); (try clear c34b0); (try clear c35); (try clear c35b0); (try clear c35b1); (try clear p36); (try clear q36); (try clear hx36); (try clear hf36); (try clear c46); (try clear c46b0); (try clear c46b1)
                 (try clear c49); (try clear c52); (try clear c54); (try clear c54b0); (try clear c54b1); (try clear c54b2); (try clear p54); (try clear q54); (try clear hx54); (try clear c55); (try clear c61); (try clear c61b0); (try clear c61b1); (try clear hcz12_0); (try clear hcz12_1); (try clear hcz12_2)
                 (try clear hcz12_3); (try clear hcz15_0); (try clear hcz15_1); (try clear hcz15_2); (try clear hcz15_3); (try clear hcz28_0); (try clear hcz28_1); (try clear hcz28_2); (try clear hcz28_3); (try clear hcz43_0); (try clear hcz43_1); (try clear hcz43_2); (try clear hcz43_3); (try clear hcz48_0)
                 (try clear hcz48_1); (try clear hcz48_2); (try clear hcz48_3); (try clear hcz51_0); (try clear hcz51_1); (try clear hcz51_2); (try clear hcz51_3); (try clear hcz53_0); (try clear hcz53_1); (try clear hcz53_2); (try clear hcz53_3); (try clear hfz12_0); (try clear hfz12_1); (try clear hfz12_2)
                 (try clear hfz12_3); (try clear hfz15_0); (try clear hfz15_1); (try clear hfz15_2); (try clear hfz15_3); (try clear hfz28_0); (try clear hfz28_1); (try clear hfz28_2); (try clear hfz28_3); (try clear hfz43_0); (try clear hfz43_1); (try clear hfz43_2); (try clear hfz43_3); (try clear hfz48_0)
                 (try clear hfz48_1); (try clear hfz48_2); (try clear hfz48_3); (try clear hfz51_0); (try clear hfz51_1); (try clear hfz51_2); (try clear hfz51_3); (try clear hfz53_0); (try clear hfz53_1); (try clear hfz53_2); (try clear hfz53_3); (try clear hx36_0); (try clear hx542_0); (try clear p2)
                 (try clear p3); (try clear p36); (try clear p5); (try clear p54); (try clear p542); (try clear p6); (try clear q3); (try clear q36); (try clear q5); (try clear q54); (try clear q542)
                 obtain ⟨kq,x129_59,rfl,HA,HJ59,HO_15,HO_17,HO_20,HO_21,BK535,HB⟩ := hcut
                 cases kq with
                 | zero => exact absurd HA.out (by simp [l4_ReedsolBursts.j5])
                 | succ kj59 =>
                  have H := HA.out
                  clear HA
                  simp only [l4_ReedsolBursts.j5] at H
                  by_cases c62 : x129_59 = true
                  rotate_left
                  ·replace c62 := Bool.eq_false_iff.mpr c62
                   subst c62
                   have H1 : ((reedsol_Unstripe.f kj59 a0_0 a0_1 a0_2 a0_3 x20_5 (wrap64 (1 + (Int.tmod (wrap64 ((Int.tmod a2 8) + 8)) 8))) x21_5).bind fun bt555 => ((l4_num.f bt555.2.2).bind fun t560 => (if t560 = 0 then (if bt555.2.1 = 0 then (some ((strOfNums bt555.1).toList == (strOfNums x15_2).toList)) else (some false)) else (some false)))) = some r := by rw [if_neg (show ¬ (false = true) by decide)] at H; exact H
                   clear H
                   have H := H1
                   clear H1
                   replace H := Option.bind_eq_some_iff.mp H
                   obtain ⟨⟨t555,t558,t559⟩,A820,H⟩ := H
                   try dsimp only at H
                   have A82 := Aside0.mk A820
                   clear A820
                   replace H := Option.bind_eq_some_iff.mp H
                   obtain ⟨t560,A830,H⟩ := H
                   try dsimp only at H
                   have A83 := Aside0.mk A830
                   clear A830
                   by_cases c84 : t560 = 0
                   rotate_left
                   ·rw [if_neg c84] at H
                    exact l4_ReedsolBursts.no_false HR9_.out H
                   rw [if_pos c84] at H
                   have c84b0 : (t560 == 0) = true := beq_iff_eq.mpr c84
                   have c84b1 : (t560 != 0) = false := bne_eq_false_iff_eq.mpr c84
                   clear c84
                   by_cases c85 : t558 = 0
                   rotate_left
                   ·rw [if_neg c85] at H
                    exact l4_ReedsolBursts.no_false HR9_.out H
                   rw [if_pos c85] at H
                   have c85b0 : (t558 == 0) = true := beq_iff_eq.mpr c85
                   have c85b1 : (t558 != 0) = false := bne_eq_false_iff_eq.mpr c85
                   clear c85
                   obtain rfl := Option.some.inj H
                   obtain ⟨hcz86_0,hcz86_1,hcz86_2,hcz86_3,hfz86_0,hfz86_1,hfz86_2,hfz86_3⟩ := cf4 BK535.out
                   obtain ⟨Ao87,co87,eo87⟩ := Kd.R_slice HO_20.out
                   subst eo87
                   obtain ⟨Ao88,co88,eo88⟩ := Kd.R_slice HO_21.out
                   subst eo88
                   go_wp2_with (first | (go_at_call 15; (with_reducible refine (reedsol_Unstripe.calls kj59 a0_0 a0_1 a0_2 a0_3 _ _ x20_5 (wrap64 (1 + (Int.tmod (wrap64 ((Int.tmod a2 8) + 8)) 8))) _ _ x21_5 t555 t558 t559 _ ?side1 ?side2 ?side3 ?side4 A82.out).mono ?_); (case side1 => exact mvC (Kd.R_reads' HO_20.out).2.2); (case side2 => exact (Kd.R_reads' HO_20.out).2.1); (case side3 => exact mvC (Kd.R_reads' HO_21.out).2.2); (case side4 => exact (Kd.R_reads' HO_21.out).2.1); rintro e w89 ⟨v556,rfl,ho0,hb⟩; replace HO_21 := aK (Kd.R_below (mvR HO_21.out) hb); have HO557 := aK (Kd.R_lower (Kd.R_new' (Kd.R_new' (Kd.R_new' ho0 (Kd.R_lt (mvR HO_15.out))) (Kd.R_lt (mvR HO_17.out))) (Kd.R_lt (mvR HO_20.out))) (below_size (mvh HB.out))); replace HO_15 := aK (Kd.R_elder' (mvR HO_15.out) (Kd.R_base ho0) hb); replace HO_17 := aK (Kd.R_elder' (mvR HO_17.out) (Kd.R_base ho0) hb); replace HO_20 := aK (Kd.R_elder' (mvR HO_20.out) (Kd.R_base ho0) hb); replace BK535 := aK (kb BK535.out hb); replace HB := aK (below_step (mvh HB.out) hb); (try clear hb); (try clear ho0)) | (go_at_call 11; (with_reducible refine (l4_num.calls t559 t560 _ A83.out).mono ?_); rintro e w' ⟨rfl,⟨nd,rfl⟩⟩; have hcv90 := own_string (P := Try.prog) Try.underlying27 Try.underlying5 Try.underlying9 (Kd.own_of_R HO557.out); have hcv91 := fun n_ => own_string (P := Try.prog) Try.underlying27 Try.underlying5 Try.underlying9 (Kd.own_of_R (Kd.R_drewN HO557.out n_)); have hcv92 := own_string (P := Try.prog) Try.underlying27 Try.underlying5 Try.underlying9 (Kd.own_of_R HO_15.out); have hcv93 := fun n_ => own_string (P := Try.prog) Try.underlying27 Try.underlying5 Try.underlying9 (Kd.own_of_R (Kd.R_drewN HO_15.out n_))))
                   go_ret
                   exact ⟨by first | rfl | (simp [errW_none,errW_some] <;> rfl) | (simp only [← hji20,← hji22,← hji24,← hji25]; first | rfl | (simp [errW_none,errW_some] <;> rfl)) | (simp [*,errW_none,errW_some] <;> rfl),mvh HB.out⟩
                  subst c62
                  have H1 : (if x22_5 < (l4.length : Int) then (if 0 ≤ (wrap64 ((Int.tmod (wrap64 ((Int.tmod a3 (t544.length : Int)) + (t544.length : Int))) (t544.length : Int)) + x22_5)) then (if (wrap64 ((Int.tmod (wrap64 ((Int.tmod a3 (t544.length : Int)) + (t544.length : Int))) (t544.length : Int)) + x22_5)) < (x20_5.length : Int) then (if 0 ≤ x22_5 then (if ji22 = 0 then (none) else ((some (x20_5.set ((wrap64 ((Int.tmod (wrap64 ((Int.tmod a3 (t544.length : Int)) + (t544.length : Int))) (t544.length : Int)) + x22_5)) : Int).toNat ((Int.tmod (Go.bits .xor .i64 (wrap64 (rd x20_5 (wrap64 ((Int.tmod (wrap64 ((Int.tmod a3 (t544.length : Int)) + (t544.length : Int))) (t544.length : Int)) + x22_5)))) (wrap64 (rd l4 x22_5))) ji22) % 256) : List Int)).bind fun y563 => (if a5 = true then (if x21_5.length < 17592186044416 then (l4_ReedsolBursts.l1 kj59 (wrap64 (1 + (Int.tmod (wrap64 ((Int.tmod a2 8) + 8)) 8))) (Int.tmod (wrap64 ((Int.tmod a3 (t544.length : Int)) + (t544.length : Int))) (t544.length : Int)) l4 a5 ji22 x15_2 t544 x19_49 y563 (x21_5 ++ [wrap64 ((Int.tmod (wrap64 ((Int.tmod a3 (t544.length : Int)) + (t544.length : Int))) (t544.length : Int)) + x22_5)]) (wrap64 (x22_5 + 1)) a0_0 a0_1 a0_2 a0_3) else (none)) else (l4_ReedsolBursts.l1 kj59 (wrap64 (1 + (Int.tmod (wrap64 ((Int.tmod a2 8) + 8)) 8))) (Int.tmod (wrap64 ((Int.tmod a3 (t544.length : Int)) + (t544.length : Int))) (t544.length : Int)) l4 a5 ji22 x15_2 t544 x19_49 y563 x21_5 (wrap64 (x22_5 + 1)) a0_0 a0_1 a0_2 a0_3)))) else (none)) else (none)) else (none)) else (if a5 = true then (if x21_5.length < 17592186044416 then (l4_ReedsolBursts.l1 kj59 (wrap64 (1 + (Int.tmod (wrap64 ((Int.tmod a2 8) + 8)) 8))) (Int.tmod (wrap64 ((Int.tmod a3 (t544.length : Int)) + (t544.length : Int))) (t544.length : Int)) l4 a5 ji22 x15_2 t544 x19_49 x20_5 (x21_5 ++ [wrap64 ((Int.tmod (wrap64 ((Int.tmod a3 (t544.length : Int)) + (t544.length : Int))) (t544.length : Int)) + x22_5)]) (wrap64 (x22_5 + 1)) a0_0 a0_1 a0_2 a0_3) else (none)) else (l4_ReedsolBursts.l1 kj59 (wrap64 (1 + (Int.tmod (wrap64 ((Int.tmod a2 8) + 8)) 8))) (Int.tmod (wrap64 ((Int.tmod a3 (t544.length : Int)) + (t544.length : Int))) (t544.length : Int)) l4 a5 ji22 x15_2 t544 x19_49 x20_5 x21_5 (wrap64 (x22_5 + 1)) a0_0 a0_1 a0_2 a0_3))) = some r := by rw [if_pos rfl] at H; exact H
                  clear H
                  have H := H1
                  clear H1
                  by_cases c63 : x22_5 < (l4.length : Int)
                  rotate_left
                  ·rw [if_neg c63] at H
                   have c63b0 : decide (x22_5 < (l4.length : Int)) = false := decide_eq_false c63
                   clear c63
                   by_cases c79 : a5 = true
                   rotate_left
                   ·replace c79 := Bool.eq_false_iff.mpr c79
                    subst c79
                    have H1 : (l4_ReedsolBursts.l1 kj59 (wrap64 (1 + (Int.tmod (wrap64 ((Int.tmod a2 8) + 8)) 8))) (Int.tmod (wrap64 ((Int.tmod a3 (t544.length : Int)) + (t544.length : Int))) (t544.length : Int)) l4 false ji22 x15_2 t544 x19_49 x20_5 x21_5 (wrap64 (x22_5 + 1)) a0_0 a0_1 a0_2 a0_3) = some r := by rw [if_neg (show ¬ (false = true) by decide)] at H; exact H
                    clear H
                    have H := H1
                    clear H1
                    have H' := Aside0.mk H
                    clear H
                    go_wp2
                    go_roundg kj59
                    case measure => have := HJ6.out; have := HK2.out; have := HJ40.out; have := HJ49.out; have := HK5.out; have := HJ59.out; omega
                    case rel => exact ⟨(x20_5),(x21_5),(wrap64 (x22_5 + 1)),(by first | rfl | (simp; done) | (simp [*]; done) | (simp [wrap64]; done)),H',⟨by have := HJ6.out; have := HK2.out; have := HJ40.out; have := HJ49.out; have := HK5.out; have := HJ59.out; omega⟩,⟨mvR HO_15.out⟩,⟨mvR HO_17.out⟩,⟨mvR HO_20.out⟩,⟨mvR HO_21.out⟩,⟨mvb BK535.out⟩,⟨mvh HB.out⟩⟩
                   subst c79
                   have H1 : (if x21_5.length < 17592186044416 then (l4_ReedsolBursts.l1 kj59 (wrap64 (1 + (Int.tmod (wrap64 ((Int.tmod a2 8) + 8)) 8))) (Int.tmod (wrap64 ((Int.tmod a3 (t544.length : Int)) + (t544.length : Int))) (t544.length : Int)) l4 true ji22 x15_2 t544 x19_49 x20_5 (x21_5 ++ [wrap64 ((Int.tmod (wrap64 ((Int.tmod a3 (t544.length : Int)) + (t544.length : Int))) (t544.length : Int)) + x22_5)]) (wrap64 (x22_5 + 1)) a0_0 a0_1 a0_2 a0_3) else (none)) = some r := by rw [if_pos rfl] at H; exact H
                   clear H
                   have H := H1
                   clear H1
                   by_cases c80 : x21_5.length < 17592186044416
                   rotate_left
                   ·rw [if_neg c80] at H
                    exact absurd H (by simp)
                   rw [if_pos c80] at H
                   have LMc80 := Aside0.mk c80
                   clear c80
                   obtain ⟨y567,hy567⟩ : ∃ y_ : List Int,y_ = (x21_5 ++ [wrap64 ((Int.tmod (wrap64 ((Int.tmod a3 (t544.length : Int)) + (t544.length : Int))) (t544.length : Int)) + x22_5)]) := ⟨_,rfl⟩
                   replace H : (l4_ReedsolBursts.l1 kj59 (wrap64 (1 + (Int.tmod (wrap64 ((Int.tmod a2 8) + 8)) 8))) (Int.tmod (wrap64 ((Int.tmod a3 (t544.length : Int)) + (t544.length : Int))) (t544.length : Int)) l4 true ji22 x15_2 t544 x19_49 x20_5 y567 (wrap64 (x22_5 + 1)) a0_0 a0_1 a0_2 a0_3) = some r := by rw [hy567]; exact H
                   have Ny567 := Aside0.mk hy567
                   clear hy567
                   have H' := Aside0.mk H
                   clear H
                   go_wp2_with (first | ((with_reducible refine gate_builtin (b := .append) (xs := #[.tmp 158,.tmp 162]) rfl ?_); (try (refine gate_guard (by rfl) ?_; dsimp only)); at_builtin; refine Kd.R_append (Kd.int .i64) (w0 := w) w.heap.size rfl (.tmp 158) (.tmp 162) 36 3 (.int .i64 0) 8 rfl Try.underlying36 info3 rfl (by decide) (by omega) u21 x21_5 (wrap64 ((Int.tmod (wrap64 ((Int.tmod a3 (t544.length : Int)) + (t544.length : Int))) (t544.length : Int)) + x22_5)) [.int .i64 (wrap64 ((Int.tmod (wrap64 ((Int.tmod a3 (t544.length : Int)) + (t544.length : Int))) (t544.length : Int)) + x22_5))] (fun _ => True) (fun _ => False) rfl rfl ?aP (fun _ hk => hk.elim) ?aF ?aO ?aB ?aS ?aL ?_; (case aP => exact rfl); (case aB => exact (mvh HB.out)); (case aF => exact (fun _ _ => trivial)); (case aO => exact (mvR HO_21.out)); (case aS => exact (below_size (mvh HB.out))); (case aL => have := LMc80.out; (try simp only [hji20] at this); (try simp only [hji22] at this); (try simp only [hji24] at this); (try simp only [hji25] at this); (try clear hji20w); (try clear hji20); (try clear hji22w); (try clear hji22); (try clear hji24w); (try clear hji24); (try clear hji25w); (try clear hji25); omega); intro v568 w81 ho hb hg hat; rw [← Ny567.out] at ho; replace HO_15 := aK (Kd.R_over' (mvR HO_15.out) (Kd.R_typed (mvR HO_21.out)) (by decide) hg); replace HO_17 := aK (Kd.R_over' (mvR HO_17.out) (Kd.R_typed (mvR HO_21.out)) (by decide) hg); replace HO_20 := aK (Kd.R_over' (mvR HO_20.out) (Kd.R_typed (mvR HO_21.out)) (by decide) hg); replace BK535 := aK (blk_grown (g := gb535) (o := .cells #[.int .i64 a0_0,.int .u64 a0_1,.int .i64 a0_2,.int .i64 a0_3] 26 (0,0)) (mvb BK535.out) hg (Kd.R_ne HO_21.out BK535.out (by decide))); replace HB := aK (hb); have HO569 := aK (ho); clear HO_21; clear ho hb hg hat))
                   go_roundg kj59
                   case measure => have := HJ6.out; have := HK2.out; have := HJ40.out; have := HJ49.out; have := HK5.out; have := HJ59.out; omega
                   case rel => exact ⟨(x20_5),(y567),(wrap64 (x22_5 + 1)),(by first | rfl | (simp; done) | (simp [*]; done) | (simp [wrap64]; done)),H',⟨by have := HJ6.out; have := HK2.out; have := HJ40.out; have := HJ49.out; have := HK5.out; have := HJ59.out; omega⟩,⟨mvR HO_15.out⟩,⟨mvR HO_17.out⟩,⟨mvR HO_20.out⟩,⟨mvR HO569.out⟩,⟨mvb BK535.out⟩,⟨mvh HB.out⟩⟩
                  rw [if_pos c63] at H
                  have c63b0 : decide (x22_5 < (l4.length : Int)) = true := decide_eq_true c63
                  clear c63
                  obtain ⟨ji64,hji64⟩ : ∃ j_ : Int,(wrap64 ((Int.tmod (wrap64 ((Int.tmod a3 (t544.length : Int)) + (t544.length : Int))) (t544.length : Int)) + x22_5)) = j_ := ⟨_,rfl⟩
                  first | rw [hji64] at H | simp only [hji64] at H
                  have hji64w : (IntKind.i64.wrap ((Int.tmod (wrap64 ((Int.tmod a3 (t544.length : Int)) + (t544.length : Int))) (t544.length : Int)) + x22_5)) = ji64 := (i64_w _).trans hji64
                  by_cases c65 : 0 ≤ (ji64)
                  rotate_left
                  ·rw [if_neg c65] at H
                   exact absurd H (by simp)
                  rw [if_pos c65] at H
                  have c65b0 : decide (0 ≤ (ji64)) = true := decide_eq_true c65
                  clear c65
                  by_cases c66 : (ji64) < (x20_5.length : Int)
                  rotate_left
                  ·rw [if_neg c66] at H
                   exact absurd H (by simp)
                  rw [if_pos c66] at H
                  have c66b0 : decide ((ji64) < (x20_5.length : Int)) = true := decide_eq_true c66
                  clear c66
                  by_cases c67 : 0 ≤ x22_5
                  rotate_left
                  ·rw [if_neg c67] at H
                   exact absurd H (by simp)
                  rw [if_pos c67] at H
                  have c67b0 : decide (0 ≤ x22_5) = true := decide_eq_true c67
                  clear c67
                  by_cases c68 : ji22 = 0
                  ·rw [if_pos c68] at H
                   exact absurd H (by simp)
                  ·rw [if_neg c68] at H
                   have c68b0 : (ji22 == 0) = false := beq_eq_false_iff_ne.mpr c68
                   have c68b1 : (ji22 != 0) = true := bne_iff_ne.mpr c68
                   obtain ⟨y563,hy563⟩ : ∃ y_ : List Int,y_ = (x20_5.set ((ji64) : Int).toNat ((Int.tmod (Go.bits .xor .i64 (wrap64 (rd x20_5 (ji64))) (wrap64 (rd l4 x22_5))) ji22) % 256)) := ⟨_,rfl⟩
                   replace H : (if a5 = true then (if x21_5.length < 17592186044416 then (l4_ReedsolBursts.l1 kj59 (wrap64 (1 + (Int.tmod (wrap64 ((Int.tmod a2 8) + 8)) 8))) (Int.tmod (wrap64 ((Int.tmod a3 (t544.length : Int)) + (t544.length : Int))) (t544.length : Int)) l4 a5 ji22 x15_2 t544 x19_49 y563 (x21_5 ++ [ji64]) (wrap64 (x22_5 + 1)) a0_0 a0_1 a0_2 a0_3) else (none)) else (l4_ReedsolBursts.l1 kj59 (wrap64 (1 + (Int.tmod (wrap64 ((Int.tmod a2 8) + 8)) 8))) (Int.tmod (wrap64 ((Int.tmod a3 (t544.length : Int)) + (t544.length : Int))) (t544.length : Int)) l4 a5 ji22 x15_2 t544 x19_49 y563 x21_5 (wrap64 (x22_5 + 1)) a0_0 a0_1 a0_2 a0_3)) = some r := by rw [hy563]; exact H
                   have Ny563 := Aside0.mk hy563
                   clear hy563
                   by_cases c70 : a5 = true
                   rotate_left
                   ·replace c70 := Bool.eq_false_iff.mpr c70
                    subst c70
                    have H1 : (l4_ReedsolBursts.l1 kj59 (wrap64 (1 + (Int.tmod (wrap64 ((Int.tmod a2 8) + 8)) 8))) (Int.tmod (wrap64 ((Int.tmod a3 (t544.length : Int)) + (t544.length : Int))) (t544.length : Int)) l4 false ji22 x15_2 t544 x19_49 y563 x21_5 (wrap64 (x22_5 + 1)) a0_0 a0_1 a0_2 a0_3) = some r := by rw [if_neg (show ¬ (false = true) by decide)] at H; exact H
                    clear H
                    have H := H1
                    clear H1
                    have H' := Aside0.mk H
                    clear H
                    try go_wp2
                    have n0_ := aK (Kd.R_drew HO_15.out)
                    have n1_ := aK (Kd.R_drew HO_17.out)
                    have n2_ := aK (Kd.R_drew HO_20.out)
                    have n3_ := aK (Kd.R_drew HO_21.out)
                    have n4_ := aK (blk_drew BK535.out)
                    have n5_ := aK (below_drew1 HB.out)
                    clear HO_15 HO_17 HO_20 HO_21 BK535 HB
                    have HO_15 := n0_
                    have HO_17 := n1_
                    have HO_20 := n2_
                    have HO_21 := n3_
                    have BK535 := n4_
                    have HB := n5_
                    clear n0_ n1_ n2_ n3_ n4_ n5_
                    obtain ⟨Ao77,co77,eo77⟩ := Kd.R_slice HO_20.out
                    (first | subst eo77 | (injection eo77 with f1_ f2_ f3_; have f4_ := f1_.symm; have f5_ := f3_.symm; clear f1_ f2_ f3_; subst f4_; subst f5_))
                    have p561 : 0 ≤ ((ji64) : Int) := oD
                    have q561 : (ji64) < (x20_5.length : Int) := oD
                    obtain ⟨ad561,e561,hx561_0⟩ := Kd.at_int (Kd.R_reads' HO_20.out).2.2 (ji64) p561 q561
                    cases e561
                    replace p561 := eq_true p561
                    replace q561 := eq_true q561
                    have p562 : 0 ≤ (x22_5 : Int) := oD
                    have q562 : x22_5 < (l4.length : Int) := oD
                    obtain ⟨ad562,e562,hx562_0⟩ := Kd.at_int HR4.out x22_5 p562 q562
                    have hw562_0 := hx562_0
                    cases e562
                    replace hx562_0 := (HB.out.cell (World.block_lt_of_cell? w _ hx562_0)).trans hx562_0
                    replace p562 := eq_true p562
                    replace q562 := eq_true q562
                    have p69 : 0 ≤ ((ji64) : Int) := oD
                    have q69 : ((ji64) : Int) < ((x20_5.length : Int) : Int) := oD
                    obtain ⟨go69,co69,eo69,gb69,gl69,cl69,HG69⟩ := Kd.R_form HO_20.out (by omega)
                    (first | cases eo69 | (injection eo69 with ea_ en_ ec_; (first | subst ea_ | (injection ea_ with ea_; subst ea_)); subst ec_; clear en_))
                    have GB69 := Aside0.mk gb69
                    have GG69 := Aside0.mk HG69
                    clear gb69 gl69 HG69
                    (first | simp only [add_plain] at hx561_0 | skip)
                    obtain ⟨hx69_0,hf69_0⟩ := Kd.R_celln 0 HO_20.out ((ji64) : Int) p69 q69
                    replace p69 := eq_true p69
                    replace q69 := eq_true q69
                    have HP78 := Kd.R_putn HO_20.out ((ji64) : Int) ((Int.tmod (Go.bits .xor .i64 (wrap64 (rd x20_5 (ji64))) (wrap64 (rd l4 x22_5))) ji22) % 256)
                    rw [← Ny563.out] at HP78
                    have HQ78 := Aside0.mk HP78
                    clear HP78
                    refine start_ (n := 22) (S := fun w' => w'.cell? ⟨go69,((ji64)).toNat,none⟩ = some (.int .u8 (rd x20_5 (ji64))) ∧ w'.cell? (ad562.add (x22_5).toNat) = some (.int .u8 (rd l4 x22_5))) (ds := [21]) (bts 22 0) (by kernel_rfl) rfl rfl ⟨hx561_0,((HB.out.cell (World.block_lt_of_cell? w _ hw562_0)).trans hw562_0)⟩ (fun hHeld => ?_); refine with_tabW l4_ReedsolBursts.tab24 l4_ReedsolBursts.bits24 (fun HT_ HW_ => ?_)
                    generalize wc.drew = w76 at HO_15 HO_17 HO_20 HO_21 BK535 HB GG69 HQ78 hf69_0 hx561_0 hx562_0 hx69_0 hHeld ⊢
                    refine pu_ 0 136 22 1 HT_.out ?_; refine pu_ 1 137 22 3 HT_.out ?_; refine pu_ 2 138 22 7 HT_.out ?_; refine pu_ 3 139 22 15 HT_.out ?_; refine pu_ 4 140 22 31 HT_.out ?_; refine pu_ 5 141 22 63 HT_.out ?_; refine pu_ 6 142 22 127 HT_.out ?_; refine pu_ 7 143 22 255 HT_.out ?_; refine pu_ 8 144 22 511 HT_.out ?_; refine pu_ 11 147 22 2559 HT_.out ?_; refine pu_ 12 148 22 6655 HT_.out ?_; refine pu_ 13 149 22 14847 HT_.out ?_; refine pu_ 17 153 22 145919 HT_.out ?_; refine ta_ 9 145 22 146431 rfl rfl HT_.out HW_.out hHeld (by rintro w' ⟨s0,s1⟩; go_simp; with_reducible rfl) ?_; refine pu_ 10 146 22 147455 HT_.out ?_; refine ta_ 14 150 22 163839 rfl rfl HT_.out HW_.out hHeld (by rintro w' ⟨s0,s1⟩; go_simp; with_reducible rfl) ?_; refine pu_ 15 151 22 196607 HT_.out ?_; refine pu_ 16 152 22 262143 HT_.out ?_; refine pu_ 18 154 22 524287 HT_.out ?_; refine pu_ 19 155 22 1048575 HT_.out ?_; refine pu_ 20 156 22 2097151 HT_.out ?_
                    refine last_ (i := 21) (N := none) (bts 22 4194303) rfl rfl (one_of HT_.out (by kernel_rfl)) (by decide) (fun K hK => ?_)
                    refine skip_ (w1 := ?_) (by rfl) rfl ?_ ?_
                    rotate_left
                    ·go_simp
                     rfl
                    refine hK.out _ _ ?_
                    clear hK K
                    refine done_ (done_of HT_.out (by kernel_rfl)) ?_
                    try go_wp2
                    go_roundg kj59
                    case measure => have := HJ6.out; have := HK2.out; have := HJ40.out; have := HJ49.out; have := HK5.out; have := HJ59.out; omega
                    case rel => exact ⟨(y563),(x21_5),(wrap64 (x22_5 + 1)),(by first | rfl | (simp; done) | (simp [*]; done) | (simp [wrap64]; done)),H',⟨by have := HJ6.out; have := HK2.out; have := HJ40.out; have := HJ49.out; have := HK5.out; have := HJ59.out; omega⟩,⟨by (with_reducible repeat (first | apply Kd.R_alloc | apply Kd.R_drewN | apply Kd.R_drew)); exact Kd.R_mono (Kd.R_far (p := ⟨go69,((ji64) : Int).toNat,none⟩) (Kd.R_mono HO_15.out (fun k_ hk => (⟨hk,fun e_ => hk.2 (by rw [e_]; rfl)⟩ : _ ∧ k_ ≠ go69))) (fun _ hk => hk.2) (.int .u8 ((Int.tmod (Go.bits .xor .i64 (wrap64 (rd x20_5 (ji64))) (wrap64 (rd l4 x22_5))) ji22) % 256))) (fun _ hk => ⟨hk.1.1,hk.1.2⟩)⟩,⟨by (with_reducible repeat (first | apply Kd.R_alloc | apply Kd.R_drewN | apply Kd.R_drew)); exact Kd.R_mono (Kd.R_far (p := ⟨go69,((ji64) : Int).toNat,none⟩) (Kd.R_mono HO_17.out (fun k_ hk => (⟨hk,fun e_ => hk.2 (by rw [e_]; rfl)⟩ : _ ∧ k_ ≠ go69))) (fun _ hk => hk.2) (.int .u8 ((Int.tmod (Go.bits .xor .i64 (wrap64 (rd x20_5 (ji64))) (wrap64 (rd l4 x22_5))) ji22) % 256))) (fun _ hk => ⟨hk.1.1,hk.1.2⟩)⟩,⟨mvR HQ78.out⟩,⟨by (with_reducible repeat (first | apply Kd.R_alloc | apply Kd.R_drewN | apply Kd.R_drew)); exact Kd.R_mono (Kd.R_far (p := ⟨go69,((ji64) : Int).toNat,none⟩) (Kd.R_types HO_21.out GG69.out (by decide)) (fun _ hk => hk.2) (.int .u8 ((Int.tmod (Go.bits .xor .i64 (wrap64 (rd x20_5 (ji64))) (wrap64 (rd l4 x22_5))) ji22) % 256))) (fun _ hk => trivial)⟩,⟨by (with_reducible repeat (first | apply bN | apply bD | apply bA)); refine blk_far ?_ (by have h_ := Kd.R_ne HO_20.out BK535.out (by decide); intro e_; exact h_ (by rw [e_]; rfl)) _; exact mvb BK535.out⟩,⟨by repeat (first | (with_reducible first | exact HB.out | apply below_alloc | apply pw_below_drewN | apply below_drew1 | refine below_set ?_ GB69.out | refine below_set ?_ GE535.out) | exact HB.out)⟩⟩
                   subst c70
                   have H1 : (if x21_5.length < 17592186044416 then (l4_ReedsolBursts.l1 kj59 (wrap64 (1 + (Int.tmod (wrap64 ((Int.tmod a2 8) + 8)) 8))) (Int.tmod (wrap64 ((Int.tmod a3 (t544.length : Int)) + (t544.length : Int))) (t544.length : Int)) l4 true ji22 x15_2 t544 x19_49 y563 (x21_5 ++ [ji64]) (wrap64 (x22_5 + 1)) a0_0 a0_1 a0_2 a0_3) else (none)) = some r := by rw [if_pos rfl] at H; exact H
                   clear H
                   have H := H1
                   clear H1
                   by_cases c71 : x21_5.length < 17592186044416
                   rotate_left
                   ·rw [if_neg c71] at H
                    exact absurd H (by simp)
                   rw [if_pos c71] at H
                   have LMc71 := Aside0.mk c71
                   clear c71
                   obtain ⟨y564,hy564⟩ : ∃ y_ : List Int,y_ = (x21_5 ++ [ji64]) := ⟨_,rfl⟩
                   replace H : (l4_ReedsolBursts.l1 kj59 (wrap64 (1 + (Int.tmod (wrap64 ((Int.tmod a2 8) + 8)) 8))) (Int.tmod (wrap64 ((Int.tmod a3 (t544.length : Int)) + (t544.length : Int))) (t544.length : Int)) l4 true ji22 x15_2 t544 x19_49 y563 y564 (wrap64 (x22_5 + 1)) a0_0 a0_1 a0_2 a0_3) = some r := by rw [hy564]; exact H
                   have Ny564 := Aside0.mk hy564
                   clear hy564
                   have H' := Aside0.mk H
                   clear H
                   try go_wp2
                   have n0_ := aK (Kd.R_drew HO_15.out)
                   have n1_ := aK (Kd.R_drew HO_17.out)
                   have n2_ := aK (Kd.R_drew HO_20.out)
                   have n3_ := aK (Kd.R_drew HO_21.out)
                   have n4_ := aK (blk_drew BK535.out)
                   have n5_ := aK (below_drew1 HB.out)
                   clear HO_15 HO_17 HO_20 HO_21 BK535 HB
                   have HO_15 := n0_
                   have HO_17 := n1_
                   have HO_20 := n2_
                   have HO_21 := n3_
                   have BK535 := n4_
                   have HB := n5_
                   clear n0_ n1_ n2_ n3_ n4_ n5_
                   obtain ⟨Ao73,co73,eo73⟩ := Kd.R_slice HO_20.out
                   (first | subst eo73 | (injection eo73 with f1_ f2_ f3_; have f4_ := f1_.symm; have f5_ := f3_.symm; clear f1_ f2_ f3_; subst f4_; subst f5_))
                   have p561 : 0 ≤ ((ji64) : Int) := oD
                   have q561 : (ji64) < (x20_5.length : Int) := oD
                   obtain ⟨ad561,e561,hx561_0⟩ := Kd.at_int (Kd.R_reads' HO_20.out).2.2 (ji64) p561 q561
                   cases e561
                   replace p561 := eq_true p561
                   replace q561 := eq_true q561
                   have p562 : 0 ≤ (x22_5 : Int) := oD
                   have q562 : x22_5 < (l4.length : Int) := oD
                   obtain ⟨ad562,e562,hx562_0⟩ := Kd.at_int HR4.out x22_5 p562 q562
                   have hw562_0 := hx562_0
                   cases e562
                   replace hx562_0 := (HB.out.cell (World.block_lt_of_cell? w _ hx562_0)).trans hx562_0
                   replace p562 := eq_true p562
                   replace q562 := eq_true q562
                   have p69 : 0 ≤ ((ji64) : Int) := oD
                   have q69 : ((ji64) : Int) < ((x20_5.length : Int) : Int) := oD
                   obtain ⟨go69,co69,eo69,gb69,gl69,cl69,HG69⟩ := Kd.R_form HO_20.out (by omega)
                   (first | cases eo69 | (injection eo69 with ea_ en_ ec_; (first | subst ea_ | (injection ea_ with ea_; subst ea_)); subst ec_; clear en_))
                   have GB69 := Aside0.mk gb69
                   have GG69 := Aside0.mk HG69
                   clear gb69 gl69 HG69
                   (first | simp only [add_plain] at hx561_0 | skip)
                   obtain ⟨hx69_0,hf69_0⟩ := Kd.R_celln 0 HO_20.out ((ji64) : Int) p69 q69
                   replace p69 := eq_true p69
                   replace q69 := eq_true q69
                   have HP74 := Kd.R_putn HO_20.out ((ji64) : Int) ((Int.tmod (Go.bits .xor .i64 (wrap64 (rd x20_5 (ji64))) (wrap64 (rd l4 x22_5))) ji22) % 256)
                   rw [← Ny563.out] at HP74
                   have HQ74 := Aside0.mk HP74
                   clear HP74
                   refine start_ (n := 22) (S := fun w' => w'.cell? ⟨go69,((ji64)).toNat,none⟩ = some (.int .u8 (rd x20_5 (ji64))) ∧ w'.cell? (ad562.add (x22_5).toNat) = some (.int .u8 (rd l4 x22_5))) (ds := [21]) (bts 22 0) (by kernel_rfl) rfl rfl ⟨hx561_0,((HB.out.cell (World.block_lt_of_cell? w _ hw562_0)).trans hw562_0)⟩ (fun hHeld => ?_); refine with_tabW l4_ReedsolBursts.tab24 l4_ReedsolBursts.bits24 (fun HT_ HW_ => ?_)
                   generalize wc.drew = w72 at HO_15 HO_17 HO_20 HO_21 BK535 HB GG69 HQ74 hf69_0 hx561_0 hx562_0 hx69_0 hHeld ⊢
                   refine pu_ 0 136 22 1 HT_.out ?_; refine pu_ 1 137 22 3 HT_.out ?_; refine pu_ 2 138 22 7 HT_.out ?_; refine pu_ 3 139 22 15 HT_.out ?_; refine pu_ 4 140 22 31 HT_.out ?_; refine pu_ 5 141 22 63 HT_.out ?_; refine pu_ 6 142 22 127 HT_.out ?_; refine pu_ 7 143 22 255 HT_.out ?_; refine pu_ 8 144 22 511 HT_.out ?_; refine pu_ 11 147 22 2559 HT_.out ?_; refine pu_ 12 148 22 6655 HT_.out ?_; refine pu_ 13 149 22 14847 HT_.out ?_; refine pu_ 17 153 22 145919 HT_.out ?_; refine ta_ 9 145 22 146431 rfl rfl HT_.out HW_.out hHeld (by rintro w' ⟨s0,s1⟩; go_simp; with_reducible rfl) ?_; refine pu_ 10 146 22 147455 HT_.out ?_; refine ta_ 14 150 22 163839 rfl rfl HT_.out HW_.out hHeld (by rintro w' ⟨s0,s1⟩; go_simp; with_reducible rfl) ?_; refine pu_ 15 151 22 196607 HT_.out ?_; refine pu_ 16 152 22 262143 HT_.out ?_; refine pu_ 18 154 22 524287 HT_.out ?_; refine pu_ 19 155 22 1048575 HT_.out ?_; refine pu_ 20 156 22 2097151 HT_.out ?_
                   refine last_ (i := 21) (N := none) (bts 22 4194303) rfl rfl (one_of HT_.out (by kernel_rfl)) (by decide) (fun K hK => ?_)
                   refine skip_ (w1 := ?_) (by rfl) rfl ?_ ?_
                   rotate_left
                   ·go_simp
                    rfl
                   refine hK.out _ _ ?_
                   clear hK K
                   refine done_ (done_of HT_.out (by kernel_rfl)) ?_
                   try go_wp2_with (first | ((with_reducible refine gate_builtin (b := .append) (xs := #[.tmp 158,.tmp 162]) rfl ?_); (try (refine gate_guard (by rfl) ?_; dsimp only)); at_builtin; refine Kd.R_append (Kd.int .i64) (w0 := w) w.heap.size rfl (.tmp 158) (.tmp 162) 36 3 (.int .i64 0) 8 rfl Try.underlying36 info3 rfl (by decide) (by omega) u21 x21_5 ji64 [.int .i64 ji64] (fun _ => True) (fun _ => False) rfl (by first | (go_simp; done) | (go_simp; rfl)) ?aP (fun _ hk => hk.elim) ?aF ?aO ?aB ?aS ?aL ?_; (case aP => exact rfl); (case aB => exact (by repeat (first | (with_reducible first | exact HB.out | apply below_alloc | apply pw_below_drewN | apply below_drew1 | refine below_set ?_ GB69.out | refine below_set ?_ GE535.out) | exact HB.out))); (case aF => exact (fun _ _ => trivial)); (case aO => exact (by (with_reducible repeat (first | apply Kd.R_alloc | apply Kd.R_drewN | apply Kd.R_drew)); exact Kd.R_mono (Kd.R_far (p := ⟨go69,((ji64) : Int).toNat,none⟩) (Kd.R_types HO_21.out GG69.out (by decide)) (fun _ hk => hk.2) (.int .u8 ((Int.tmod (Go.bits .xor .i64 (wrap64 (rd x20_5 (ji64))) (wrap64 (rd l4 x22_5))) ji22) % 256))) (fun _ hk => trivial))); (case aS => exact (below_size (by repeat (first | (with_reducible first | exact HB.out | apply below_alloc | apply pw_below_drewN | apply below_drew1 | refine below_set ?_ GB69.out | refine below_set ?_ GE535.out) | exact HB.out)))); (case aL => have := LMc71.out; (try simp only [hji20] at this); (try simp only [hji22] at this); (try simp only [hji24] at this); (try simp only [hji25] at this); (try simp only [hji64] at this); (try clear hji20w); (try clear hji20); (try clear hji22w); (try clear hji22); (try clear hji24w); (try clear hji24); (try clear hji25w); (try clear hji25); (try clear hji64w); (try clear hji64); omega); intro v565 w75 ho hb hg hat; rw [← Ny564.out] at ho; replace HO_15 := aK (Kd.R_over' (by (with_reducible repeat (first | apply Kd.R_alloc | apply Kd.R_drewN | apply Kd.R_drew)); exact (Kd.R_mono (Kd.R_far (p := ⟨go69,((ji64) : Int).toNat,none⟩) (Kd.R_mono HO_15.out (fun k_ hk => (⟨hk,fun e_ => hk.2 (by rw [e_]; rfl)⟩ : _ ∧ k_ ≠ go69))) (fun _ hk => hk.2) (.int .u8 ((Int.tmod (Go.bits .xor .i64 (wrap64 (rd x20_5 (ji64))) (wrap64 (rd l4 x22_5))) ji22) % 256))) (fun _ h_ => h_.1))) (Kd.R_typed (by (with_reducible repeat (first | apply Kd.R_alloc | apply Kd.R_drewN | apply Kd.R_drew)); exact (Kd.R_mono (Kd.R_far (p := ⟨go69,((ji64) : Int).toNat,none⟩) (Kd.R_types HO_21.out GG69.out (by decide)) (fun _ hk => hk.2) (.int .u8 ((Int.tmod (Go.bits .xor .i64 (wrap64 (rd x20_5 (ji64))) (wrap64 (rd l4 x22_5))) ji22) % 256))) (fun _ h_ => h_.1)))) (by decide) hg); replace HO_17 := aK (Kd.R_over' (by (with_reducible repeat (first | apply Kd.R_alloc | apply Kd.R_drewN | apply Kd.R_drew)); exact (Kd.R_mono (Kd.R_far (p := ⟨go69,((ji64) : Int).toNat,none⟩) (Kd.R_mono HO_17.out (fun k_ hk => (⟨hk,fun e_ => hk.2 (by rw [e_]; rfl)⟩ : _ ∧ k_ ≠ go69))) (fun _ hk => hk.2) (.int .u8 ((Int.tmod (Go.bits .xor .i64 (wrap64 (rd x20_5 (ji64))) (wrap64 (rd l4 x22_5))) ji22) % 256))) (fun _ h_ => h_.1))) (Kd.R_typed (by (with_reducible repeat (first | apply Kd.R_alloc | apply Kd.R_drewN | apply Kd.R_drew)); exact (Kd.R_mono (Kd.R_far (p := ⟨go69,((ji64) : Int).toNat,none⟩) (Kd.R_types HO_21.out GG69.out (by decide)) (fun _ hk => hk.2) (.int .u8 ((Int.tmod (Go.bits .xor .i64 (wrap64 (rd x20_5 (ji64))) (wrap64 (rd l4 x22_5))) ji22) % 256))) (fun _ h_ => h_.1)))) (by decide) hg); replace BK535 := aK (blk_grown (g := gb535) (o := .cells #[.int .i64 a0_0,.int .u64 a0_1,.int .i64 a0_2,.int .i64 a0_3] 26 (0,0)) (by (with_reducible repeat (first | apply bN | apply bD | apply bA)); refine blk_far ?_ (by have h_ := Kd.R_ne HO_20.out BK535.out (by decide); intro e_; exact h_ (by rw [e_]; rfl)) _; exact mvb BK535.out) hg (Kd.R_ne HO_21.out BK535.out (by decide))); replace HO_20 := aK (Kd.R_over' (mvR HQ74.out) (Kd.R_typed (by (with_reducible repeat (first | apply Kd.R_alloc | apply Kd.R_drewN | apply Kd.R_drew)); exact (Kd.R_mono (Kd.R_far (p := ⟨go69,((ji64) : Int).toNat,none⟩) (Kd.R_types HO_21.out GG69.out (by decide)) (fun _ hk => hk.2) (.int .u8 ((Int.tmod (Go.bits .xor .i64 (wrap64 (rd x20_5 (ji64))) (wrap64 (rd l4 x22_5))) ji22) % 256))) (fun _ h_ => h_.1)))) (by decide) hg); replace HB := aK (hb); have HO566 := aK (ho); clear HO_21; clear ho hb hg hat))
                   go_roundg kj59
                   case measure => have := HJ6.out; have := HK2.out; have := HJ40.out; have := HJ49.out; have := HK5.out; have := HJ59.out; omega
                   case rel => exact ⟨(y563),(y564),(wrap64 (x22_5 + 1)),(by first | rfl | (simp; done) | (simp [*]; done) | (simp [wrap64]; done)),H',⟨by have := HJ6.out; have := HK2.out; have := HJ40.out; have := HJ49.out; have := HK5.out; have := HJ59.out; omega⟩,⟨mvR HO_15.out⟩,⟨mvR HO_17.out⟩,⟨mvR HO_20.out⟩,⟨mvR HO566.out⟩,⟨mvb BK535.out⟩,⟨mvh HB.out⟩⟩
def l4_ReedsolBursts.Pure : Prop := ∀ (a0_0 : Int) (a0_1 : Int) (a0_2 : Int) (a0_3 : Int) (l1 : List Int) (a2 : Int) (a3 : Int) (l4 : List Int) (a5 : Bool),(Lit.int .i64 a0_0).wf = true → (Lit.int .u64 a0_1).wf = true → (Lit.int .i64 a0_2).wf = true → (Lit.int .i64 a0_3).wf = true → l1.length ≤ maxLen → l1.length * 1 ≤ 140737488351232 → (∀ x ∈ l1,(Lit.int .u8 x).wf = true) → (Lit.int .i64 a2).wf = true → (Lit.int .i64 a3).wf = true → l4.length ≤ maxLen → l4.length * 1 ≤ 140737488351232 → (∀ x ∈ l4,(Lit.int .u8 x).wf = true) → ∃ k,l4_ReedsolBursts.f k a0_0 a0_1 a0_2 a0_3 l1 a2 a3 l4 a5 = some true
theorem l4_ReedsolBursts.walk (P : l4_ReedsolBursts.Pure) (a0_0 : Int) (a0_1 : Int) (a0_2 : Int) (a0_3 : Int) (a1 : Option Addr) (len1 cap1 : Nat) (z1 : List Int) (a2 : Int) (a3 : Int) (a4 : Option Addr) (len4 cap4 : Nat) (z4 : List Int) (a5 : Bool) (w : World) (w0_0 : (Lit.int .i64 a0_0).wf = true) (w0_1 : (Lit.int .u64 a0_1).wf = true) (w0_2 : (Lit.int .i64 a0_2).wf = true) (w0_3 : (Lit.int .i64 a0_3).wf = true) (w1 : (a1 = none ∧ len1 = 0 ∧ cap1 = 0 ∧ z1 = []) ∨ ∃ x,a1 = some x ∧ len1 ≤ cap1 ∧ cap1 ≤ maxLen ∧ z1.length = cap1 ∧ (∀ i,i < z1.length → w.cell? (x.add i) = some (.int .u8 (z1.getD i 0))) ∧ ∀ n ∈ z1,(Lit.int .u8 n).wf = true) (y1 : len1 * 1 ≤ 140737488351232) (w2 : (Lit.int .i64 a2).wf = true) (w3 : (Lit.int .i64 a3).wf = true) (w4 : (a4 = none ∧ len4 = 0 ∧ cap4 = 0 ∧ z4 = []) ∨ ∃ x,a4 = some x ∧ len4 ≤ cap4 ∧ cap4 ≤ maxLen ∧ z4.length = cap4 ∧ (∀ i,i < z4.length → w.cell? (x.add i) = some (.int .u8 (z4.getD i 0))) ∧ ∀ n ∈ z4,(Lit.int .u8 n).wf = true) (y4 : len4 * 1 ≤ 140737488351232) :
  Calls Try.prog 4 #[.agg #[.int .i64 a0_0,.int .u64 a0_1,.int .i64 a0_2,.int .i64 a0_3],.slice a1 len1 cap1,.int .i64 a2,.int .i64 a3,.slice a4 len4 cap4,.bool a5] w fun e w' => e = .returned (.bool true) ∧ Below w.heap.size w w' := by
 obtain ⟨l1,rfl,hr1,hm1,hw1,hc1⟩ := ReadsInt.ofRowC w1
 obtain ⟨l4,rfl,hr4,hm4,hw4,hc4⟩ := ReadsInt.ofRowC w4
 obtain ⟨k,h⟩ := P a0_0 a0_1 a0_2 a0_3 l1 a2 a3 l4 a5 w0_0 w0_1 w0_2 w0_3 hm1 y1 hw1 w2 w3 hm4 y4 hw4
 refine (l4_ReedsolBursts.calls k a0_0 a0_1 a0_2 a0_3 _ _ l1 a2 a3 _ _ l4 a5 true rfl w (Kd.C_of_reads (d := (0 : Int)) (h1 := fun _ => rfl) hr1) hc1 (Kd.C_of_reads (d := (0 : Int)) (h1 := fun _ => rfl) hr4) hc4 h).mono ?_
 rintro e w' ⟨rfl,hd⟩
 exact ⟨rfl,hd⟩



end Go.Proofs.Ytpgecdidddoglaa.P

