-- written by mk.sh, a program of this session, over the kit's print
import Derived.Test.YtpgecdidddoglaaRbQAux
import Derived.Test.YtpgecdidddoglaaRbPx0
import Derived.Test.YtpgecdidddoglaaRbPx6
import Derived.Test.YtpgecdidddoglaaRbPx7
import Derived.Test.YtpgecdidddoglaaRbPx11
import Derived.Test.YtpgecdidddoglaaRbPx12
import Derived.Test.YtpgecdidddoglaaRbPx13
import Derived.Test.YtpgecdidddoglaaRbPx14
namespace Go.Proofs.Ytpgecdidddoglaa.P
open Go.RowKit Go.Proofs.YtpgecdidddoglaaW.PrintWords Go.Proofs.YtpgecdidddoglaaW.PrintLast Go.Proofs.YtpgecdidddoglaaW.PrintMore
attribute [local go_sem] max2_int min2_int max_two min_two max_three min_three max_four min_four   -- for this text's walks alone
set_option linter.unusedVariables false
set_option linter.unusedSimpArgs false

mutual
def reedsol_code_mend.l0 : Nat → RCode → List Int → List Bool → Int → List Int → List Int → List Bool → Int → Int → Option (List Int × Bool)
 | 0,_,_,_,_,_,_,_,_,_ => none
 | k + 1,x0,x1,x2,x3,x10,x12,x45,x46,x47 => if x47 < x46 then (if 0 ≤ x47 then (if x47 < (x45.length : Int) then (if rdOf false x45 x47 = true then (if 0 < x0.size then ((gT_Exp.f x0 (wrap64 ((wrap64 ((x1.length : Int) - 1)) - x47))).bind fun t304 => ((reedsol_code_product.f k x0 x12 (([1,t304] : List Int)) (wrap64 (x3 + 1))).bind fun t308 => (reedsol_code_mend.l0 k x0 x1 x2 x3 x10 t308 x45 x46 (wrap64 (x47 + 1))))) else (none)) else (reedsol_code_mend.l0 k x0 x1 x2 x3 x10 x12 x45 x46 (wrap64 (x47 + 1)))) else (none)) else (none)) else (if 0 < x0.size then ((reedsol_code_product.f k x0 x10 x12 x0.Par).bind fun t311 => (reedsol_code_mend.l1 k x0 x1 x2 x3 x10 x12 t311)) else (none))
def reedsol_code_mend.l1 : Nat → RCode → List Int → List Bool → Int → List Int → List Int → List Int → Option (List Int × Bool)
 | 0,_,_,_,_,_,_,_ => none
 | k + 1,x0,x1,x2,x3,x10,x12,x15 => if 0 < x0.size then (if (x15.length : Int) < x0.Par then (if x15.length < 140737488355328 then (reedsol_code_mend.l1 k x0 x1 x2 x3 x10 x12 (x15 ++ [0])) else (none)) else (if 0 ≤ x3 then (if x3 ≤ x0.Par then (if x0.Par ≤ (x15.length : Int) then ((reedsol_code_locator.f k x0 ((x15.take (x0.Par : Int).toNat).drop (x3 : Int).toNat)).bind fun bt321 => (if (wrap64 (2 * bt321.2)) > (wrap64 (x0.Par - x3)) then (some (([] : List Int),false)) else ((reedsol_code_product.f k x0 x12 bt321.1 (wrap64 ((x12.length : Int) + (bt321.1.length : Int)))).bind fun t325 => ((reedsol_code_product.f k x0 x10 t325 x0.Par).bind fun t328 => (if 0 ≤ (mx 0 (wrap64 ((t325.length : Int) - 1))) then (if (mx 0 (wrap64 ((t325.length : Int) - 1)) : Int).toNat ≤ 281474976710656 then (reedsol_code_mend.l2 k x0 x1 x2 x3 t325 t328 (List.replicate (mx 0 (wrap64 ((t325.length : Int) - 1)) : Int).toNat 0) 1) else (none)) else (none)))))) else (none)) else (none)) else (none))) else (none)
def reedsol_code_mend.l2 : Nat → RCode → List Int → List Bool → Int → List Int → List Int → List Int → Int → Option (List Int × Bool)
 | 0,_,_,_,_,_,_,_,_ => none
 | k + 1,x0,x1,x2,x3,x18,x19,x20,x21 => if x21 < (x18.length : Int) then (if 0 ≤ x21 then (if 0 ≤ (wrap64 (x21 - 1)) then (if (wrap64 (x21 - 1)) < (x20.length : Int) then (reedsol_code_mend.l2 k x0 x1 x2 x3 x18 x19 (x20.set ((wrap64 (x21 - 1)) : Int).toNat (rd x18 x21)) (wrap64 (x21 + 2))) else (none)) else (none)) else (none)) else (if 0 ≤ (x1.length : Int) then (if ((x1.length : Int) : Int).toNat ≤ 281474976710656 then ((some (List.replicate ((x1.length : Int) : Int).toNat 0 : List Int)).bind fun y336 => (if y336.length + x1.length < 140737488355328 then ((some (x1.take (min x1.length y336.length) ++ y336.drop (min x1.length y336.length) : List Int)).bind fun y339 => (reedsol_code_mend.l3 k x0 x1 x2 x3 x18 x19 x20 y339 (y339.length : Int) 0)) else (none))) else (none)) else (none))
def reedsol_code_mend.l3 : Nat → RCode → List Int → List Bool → Int → List Int → List Int → List Int → List Int → Int → Int → Option (List Int × Bool)
 | 0,_,_,_,_,_,_,_,_,_,_ => none
 | k + 1,x0,x1,x2,x3,x18,x19,x20,x22,x157,x158 => if x158 < x157 then (if 0 < x0.size then ((gT_Exp.f x0 (wrap64 (-(wrap64 ((wrap64 ((x1.length : Int) - 1)) - x158))))).bind fun t342 => ((reedsol_code_value.f k x0 x18 t342).bind fun t343 => (if t343 = 0 then ((reedsol_code_value.f k x0 x20 t342).bind fun t344 => (if t344 = 0 then (some (([] : List Int),false)) else (if 0 ≤ x158 then (if x158 < (x22.length : Int) then (if (wrap64 ((x0.size : Int) - 1)) = 0 then (none) else ((gT_Exp.f x0 (wrap64 ((wrap64 ((wrap64 ((x1.length : Int) - 1)) - x158)) * (Int.tmod (wrap64 (1 - x0.First)) (wrap64 ((x0.size : Int) - 1)))))).bind fun t346 => ((reedsol_code_value.f k x0 x19 t342).bind fun t347 => ((reedsol_open_2.f k x0 t347 t344).bind fun t348 => ((reedsol_open_1.f k x0 t346 t348).bind fun t349 => (reedsol_code_mend.l3 k x0 x1 x2 x3 x18 x19 x20 (x22.set (x158 : Int).toNat (Go.bits .xor .u8 (rd x22 x158) t349)) x157 (wrap64 (x158 + 1)))))))) else (none)) else (none)))) else (reedsol_code_mend.l3 k x0 x1 x2 x3 x18 x19 x20 x22 x157 (wrap64 (x158 + 1)))))) else (none)) else ((reedsol_code_syndromes.f k x0 x22).bind fun bt351 => (reedsol_code_mend.l4 k x0 x1 x2 x3 x22 bt351.2 0 (x22.length : Int) 0))
def reedsol_code_mend.l4 : Nat → RCode → List Int → List Bool → Int → List Int → Bool → Int → Int → Int → Option (List Int × Bool)
 | 0,_,_,_,_,_,_,_,_,_ => none
 | k + 1,x0,x1,x2,x3,x22,x28,x29,x232,x233 => if x233 < x232 then (if 0 ≤ x233 then (if x233 < (x22.length : Int) then (if x233 < (x1.length : Int) then (if (rd x22 x233) = (rd x1 x233) then (reedsol_code_mend.l4 k x0 x1 x2 x3 x22 x28 x29 x232 (wrap64 (x233 + 1))) else (if x233 < (x2.length : Int) then (if rdOf false x2 x233 = true then (reedsol_code_mend.l4 k x0 x1 x2 x3 x22 x28 x29 x232 (wrap64 (x233 + 1))) else (reedsol_code_mend.l4 k x0 x1 x2 x3 x22 x28 (wrap64 (x29 + 1)) x232 (wrap64 (x233 + 1)))) else (none))) else (none)) else (none)) else (none)) else (if x28 = true then (if 0 < x0.size then (some (x22,decide ((wrap64 (2 * x29)) ≤ (wrap64 (x0.Par - x3))))) else (none)) else (some (x22,false)))
end
def reedsol_code_mend.f (k : Nat) (a0 : RCode) (l1 : List Int) (l2 : List Bool) (a3 : Int) : Option (List Int × Bool) := if 0 < a0.size then (if a3 > a0.Par then (some (([] : List Int),false)) else ((reedsol_code_syndromes.f k a0 l1).bind fun bt296 => (reedsol_code_mend.l0 k a0 l1 l2 a3 bt296.1 (([1] : List Int)) l2 (l2.length : Int) 0))) else (none)
theorem reedsol_code_mend.mono_l : ∀ k,(∀ y0 y1 y2 y3 y4 y5 y6 y7 y8,LeO (reedsol_code_mend.l0 k y0 y1 y2 y3 y4 y5 y6 y7 y8) (reedsol_code_mend.l0 (k + 1) y0 y1 y2 y3 y4 y5 y6 y7 y8)) ∧ (∀ y0 y1 y2 y3 y4 y5 y6,LeO (reedsol_code_mend.l1 k y0 y1 y2 y3 y4 y5 y6) (reedsol_code_mend.l1 (k + 1) y0 y1 y2 y3 y4 y5 y6)) ∧ (∀ y0 y1 y2 y3 y4 y5 y6 y7,LeO (reedsol_code_mend.l2 k y0 y1 y2 y3 y4 y5 y6 y7) (reedsol_code_mend.l2 (k + 1) y0 y1 y2 y3 y4 y5 y6 y7)) ∧ (∀ y0 y1 y2 y3 y4 y5 y6 y7 y8 y9,LeO (reedsol_code_mend.l3 k y0 y1 y2 y3 y4 y5 y6 y7 y8 y9) (reedsol_code_mend.l3 (k + 1) y0 y1 y2 y3 y4 y5 y6 y7 y8 y9)) ∧ (∀ y0 y1 y2 y3 y4 y5 y6 y7 y8,LeO (reedsol_code_mend.l4 k y0 y1 y2 y3 y4 y5 y6 y7 y8) (reedsol_code_mend.l4 (k + 1) y0 y1 y2 y3 y4 y5 y6 y7 y8))
 | 0 => ⟨fun _ _ _ _ _ _ _ _ _ r h => by simp [reedsol_code_mend.l0] at h,fun _ _ _ _ _ _ _ r h => by simp [reedsol_code_mend.l1] at h,fun _ _ _ _ _ _ _ _ r h => by simp [reedsol_code_mend.l2] at h,fun _ _ _ _ _ _ _ _ _ _ r h => by simp [reedsol_code_mend.l3] at h,fun _ _ _ _ _ _ _ _ _ r h => by simp [reedsol_code_mend.l4] at h⟩
 | k + 1 => by
  obtain ⟨ih0,ih1,ih2,ih3,ih4⟩ := reedsol_code_mend.mono_l k
  refine ⟨?_,?_,?_,?_,?_⟩
  ·intro y0 y1 y2 y3 y4 y5 y6 y7 y8
   unfold reedsol_code_mend.l0
   repeat' with_reducible first
   | exact ih0 _ _ _ _ _ _ _ _ _
   | exact ih1 _ _ _ _ _ _ _
   | exact ih2 _ _ _ _ _ _ _ _
   | exact ih3 _ _ _ _ _ _ _ _ _ _
   | exact ih4 _ _ _ _ _ _ _ _ _
   | exact reedsol_code_locator.mono _ _ _
   | exact reedsol_code_product.mono _ _ _ _ _
   | exact reedsol_code_syndromes.mono _ _ _
   | exact reedsol_code_value.mono _ _ _ _
   | exact reedsol_open_1.mono _ _ _ _
   | exact reedsol_open_2.mono _ _ _ _
   | exact LeO.refl _
   | exact LeO.none _
   | refine LeO.ite ?_ ?_
   | refine LeO.bind ?_ (fun _ => ?_)
  ·intro y0 y1 y2 y3 y4 y5 y6
   unfold reedsol_code_mend.l1
   repeat' with_reducible first
   | exact ih0 _ _ _ _ _ _ _ _ _
   | exact ih1 _ _ _ _ _ _ _
   | exact ih2 _ _ _ _ _ _ _ _
   | exact ih3 _ _ _ _ _ _ _ _ _ _
   | exact ih4 _ _ _ _ _ _ _ _ _
   | exact reedsol_code_locator.mono _ _ _
   | exact reedsol_code_product.mono _ _ _ _ _
   | exact reedsol_code_syndromes.mono _ _ _
   | exact reedsol_code_value.mono _ _ _ _
   | exact reedsol_open_1.mono _ _ _ _
   | exact reedsol_open_2.mono _ _ _ _
   | exact LeO.refl _
   | exact LeO.none _
   | refine LeO.ite ?_ ?_
   | refine LeO.bind ?_ (fun _ => ?_)
  ·intro y0 y1 y2 y3 y4 y5 y6 y7
   unfold reedsol_code_mend.l2
   repeat' with_reducible first
   | exact ih0 _ _ _ _ _ _ _ _ _
   | exact ih1 _ _ _ _ _ _ _
   | exact ih2 _ _ _ _ _ _ _ _
   | exact ih3 _ _ _ _ _ _ _ _ _ _
   | exact ih4 _ _ _ _ _ _ _ _ _
   | exact reedsol_code_locator.mono _ _ _
   | exact reedsol_code_product.mono _ _ _ _ _
   | exact reedsol_code_syndromes.mono _ _ _
   | exact reedsol_code_value.mono _ _ _ _
   | exact reedsol_open_1.mono _ _ _ _
   | exact reedsol_open_2.mono _ _ _ _
   | exact LeO.refl _
   | exact LeO.none _
   | refine LeO.ite ?_ ?_
   | refine LeO.bind ?_ (fun _ => ?_)
  ·intro y0 y1 y2 y3 y4 y5 y6 y7 y8 y9
   unfold reedsol_code_mend.l3
   repeat' with_reducible first
   | exact ih0 _ _ _ _ _ _ _ _ _
   | exact ih1 _ _ _ _ _ _ _
   | exact ih2 _ _ _ _ _ _ _ _
   | exact ih3 _ _ _ _ _ _ _ _ _ _
   | exact ih4 _ _ _ _ _ _ _ _ _
   | exact reedsol_code_locator.mono _ _ _
   | exact reedsol_code_product.mono _ _ _ _ _
   | exact reedsol_code_syndromes.mono _ _ _
   | exact reedsol_code_value.mono _ _ _ _
   | exact reedsol_open_1.mono _ _ _ _
   | exact reedsol_open_2.mono _ _ _ _
   | exact LeO.refl _
   | exact LeO.none _
   | refine LeO.ite ?_ ?_
   | refine LeO.bind ?_ (fun _ => ?_)
  ·intro y0 y1 y2 y3 y4 y5 y6 y7 y8
   unfold reedsol_code_mend.l4
   repeat' with_reducible first
   | exact ih0 _ _ _ _ _ _ _ _ _
   | exact ih1 _ _ _ _ _ _ _
   | exact ih2 _ _ _ _ _ _ _ _
   | exact ih3 _ _ _ _ _ _ _ _ _ _
   | exact ih4 _ _ _ _ _ _ _ _ _
   | exact reedsol_code_locator.mono _ _ _
   | exact reedsol_code_product.mono _ _ _ _ _
   | exact reedsol_code_syndromes.mono _ _ _
   | exact reedsol_code_value.mono _ _ _ _
   | exact reedsol_open_1.mono _ _ _ _
   | exact reedsol_open_2.mono _ _ _ _
   | exact LeO.refl _
   | exact LeO.none _
   | refine LeO.ite ?_ ?_
   | refine LeO.bind ?_ (fun _ => ?_)
theorem reedsol_code_mend.mono : ∀ a0 a1 a2 a3 k,LeO (reedsol_code_mend.f k a0 a1 a2 a3) (reedsol_code_mend.f (k + 1) a0 a1 a2 a3) := by
 intro a0 a1 a2 a3 k
 obtain ⟨ih0,ih1,ih2,ih3,ih4⟩ := reedsol_code_mend.mono_l k
 unfold reedsol_code_mend.f
 repeat' with_reducible first
   | exact ih0 _ _ _ _ _ _ _ _ _
   | exact ih1 _ _ _ _ _ _ _
   | exact ih2 _ _ _ _ _ _ _ _
   | exact ih3 _ _ _ _ _ _ _ _ _ _
   | exact ih4 _ _ _ _ _ _ _ _ _
   | exact reedsol_code_locator.mono _ _ _
   | exact reedsol_code_product.mono _ _ _ _ _
   | exact reedsol_code_syndromes.mono _ _ _
   | exact reedsol_code_value.mono _ _ _ _
   | exact reedsol_open_1.mono _ _ _ _
   | exact reedsol_open_2.mono _ _ _ _
   | exact LeO.refl _
   | exact LeO.none _
   | refine LeO.ite ?_ ?_
   | refine LeO.bind ?_ (fun _ => ?_)
def reedsol_code_mend.T35 : Bool × List (List Nat × List Nat) := (true,[([],[]),([],[]),([0,1],[0,1]),([2],[2]),([],[]),([4],[4]),([5],[5]),([6],[6]),([],[]),([8],[8]),([9],[9]),([10],[10]),([],[]),([],[]),([13],[13]),([14],[14]),([15],[15]),([16],[16]),([17],[17]),([],[]),([19],[19]),([20],[20]),([21],[21]),([22],[22]),([18,23],[18,23]),([12,24],[12,24]),([11,25],[11,25]),([],[]),([27],[27]),([28],[28]),([29],[29]),([],[]),([],[]),([],[]),([31,32,33,26],[31,32,33]),([],[]),([30,34,35,34],[30,34,35]),([7,26,36,36],[7,26,36]),([3,37],[3,37]),([0,1,0,1,2,3,4,5,6,7,8,9,10,11,12,13,14,15,16,17,18,19,20,21,22,23,24,25,26,27,28,29,30,31,32,33,34,35,36,37,38],[0,1]),([39,38,37,0,1,2,3,4,5,6,7,8,9,10,11,12,13,14,15,16,17,18,19,20,21,22,23,24,25,26,27,28,29,30,31,32,33,34,35,36,37,38],[38,39])])
def reedsol_code_mend.B35 : List Nat := [0,0,3,7,0,16,48,112,0,256,768,1792,0,0,8192,24576,57344,122880,253952,0,524288,1572864,3670016,7864320,16769024,33550336,67108608,0,134217728,402653184,939524096,0,0,0,15166603008,0,68719476480,137438953456,274877906943,549755813887,1099511627775]
theorem reedsol_code_mend.tab35 : rtab .any (opsOf Try.f31 35) = reedsol_code_mend.T35 := by kernel_rfl
theorem reedsol_code_mend.bits35 : waitsOk reedsol_code_mend.T35.2 reedsol_code_mend.B35 = true := by kernel_rfl
def reedsol_code_mend.T42 : Bool × List (List Nat × List Nat) := (true,[([],[]),([],[]),([0,1],[0,1]),([2],[2]),([],[]),([],[]),([4,5],[4,5]),([6],[6]),([3,7],[3,7]),([8],[8]),([9],[9]),([9],[9]),([10,11,9],[9,10,11]),([12,9],[9,12]),([13,9],[9,13]),([9,14],[9,14])])
def reedsol_code_mend.B42 : List Nat := [0,0,3,7,0,0,48,112,255,511,1023,1023,4095,8191,16383,32767]
theorem reedsol_code_mend.tab42 : rtab .any (opsOf Try.f31 42) = reedsol_code_mend.T42 := by kernel_rfl
theorem reedsol_code_mend.bits42 : waitsOk reedsol_code_mend.T42.2 reedsol_code_mend.B42 = true := by kernel_rfl
def reedsol_code_mend.T45 : Bool × List (List Nat × List Nat) := (true,[([],[]),([],[]),([1],[1]),([2],[2]),([3,2],[2,3]),([2],[2]),([5,2],[2,5]),([6,2],[2,6]),([7,2],[2,7]),([8,2],[2,8]),([2],[2]),([9,10,2],[2,9,10]),([4,11,2],[2,4,11]),([2,12],[2,12]),([0,2,0],[0]),([13,14,0,1,2,3,4,5,6,7,8,9,10,11,12,13,14],[13])])
def reedsol_code_mend.B45 : List Nat := [0,0,2,6,14,6,38,102,230,486,6,2022,4094,8190,7,32767]
theorem reedsol_code_mend.tab45 : rtab .any (opsOf Try.f31 45) = reedsol_code_mend.T45 := by kernel_rfl
theorem reedsol_code_mend.bits45 : waitsOk reedsol_code_mend.T45.2 reedsol_code_mend.B45 = true := by kernel_rfl
set_option maxHeartbeats 8000000 in
set_option maxRecDepth 100000 in
theorem reedsol_code_mend.calls (k : Nat) (A0 : Option Addr) (a0 : RCode) (A1 : Option Addr) (c1 : Nat) (l1 : List Int) (A2 : Option Addr) (c2 : Nat) (l2 : List Bool) (a3 : Int) (r1 : List Int) (r2 : Bool) (w : World) (hr0 : rs_OK w A0 a0) (hr1 : Kd.C (Kd.int .u8) w A1 l1.length l1) (hc1 : l1.length ≤ c1) (hr2 : Kd.C Kd.bool w A2 l2.length l2) (hc2 : l2.length ≤ c2) (h : reedsol_code_mend.f k a0 l1 l2 a3 = some (r1,r2)) :
  Calls Try.prog 31 #[.pointer A0,.slice A1 l1.length c1,.slice A2 l2.length c2,.int .i64 a3] w fun e w' => ∃ v0_ : Value,e = .returned (.tuple #[v0_,.bool r2]) ∧ Kd.R (Kd.int .u8) 5 w' w.heap.size (fun _ => True) v0_ r1 ∧ Below w.heap.size w w' := by
 have HR0 := Aside0.mk hr0
 clear hr0
 have HR1 := Aside0.mk hr1
 have HC1 := Aside0.mk hc1
 clear hr1 hc1
 have HR2 := Aside0.mk hr2
 have HC2 := Aside0.mk hc2
 clear hr2 hc2
 have HB := aK (Below.refl w.heap.size w)
 have H : (if 0 < a0.size then (if a3 > a0.Par then (some (([] : List Int),false)) else ((reedsol_code_syndromes.f k a0 l1).bind fun bt296 => (reedsol_code_mend.l0 k a0 l1 l2 a3 bt296.1 (([1] : List Int)) l2 (l2.length : Int) 0))) else (none)) = some (r1,r2) := h
 clear h
 by_cases c5 : 0 < a0.size
 rotate_left
 ·rw [if_neg c5] at H
  exact absurd H (by simp)

 rw [if_pos c5] at H
 obtain ⟨b_,p_,c_,d_,g_,rfl,hT_⟩ := rs_pos HR0.out c5
 have HT0 := Aside0.mk hT_
 clear hT_ c5
 by_cases c7 : a3 > a0.Par
 ·rw [if_pos c7] at H
  have c7b0 : decide (a0.Par < a3) = true := decide_eq_true c7
  clear c7
  simp only [Option.some.injEq,Prod.mk.injEq] at H
  obtain ⟨rfl,rfl⟩ := H
  have ho6 := rs_At_Par HT0.out
  have hx6 := ho6
  go_enter Try.func31,Try.ntmps31
  go_wp2
  go_ret2
  exact ⟨_,by first | rfl | (simp [errW_none,errW_some] <;> rfl) | (simp [*,errW_none,errW_some] <;> rfl),by first | exact Kd.R_nil _ _ _ _ _ | exact Kd.N_nil _ _ _ _ _ | exact Kd.V_nil _ _ _ _ _ | exact Kd.Q_nil _ _ _ _ _ | exact Kd.S_nil _ _ _ _ _,mvh HB.out⟩
 ·rw [if_neg c7] at H
  have c7b0 : decide (a0.Par < a3) = false := decide_eq_false c7
  clear c7
  replace H := Option.bind_eq_some_iff.mp H
  obtain ⟨⟨t296,t297⟩,A80,H⟩ := H
  try dsimp only at H
  have A8 := Aside0.mk A80
  clear A80
  obtain ⟨y300,hy300⟩ : ∃ y_ : List Int,y_ = (([1] : List Int)) := ⟨_,rfl⟩
  replace H : (reedsol_code_mend.l0 k a0 l1 l2 a3 t296 y300 l2 (l2.length : Int) 0) = some (r1,r2) := by rw [hy300]; exact H
  have Ny300 := Aside0.mk hy300
  clear hy300
  have H' := Aside0.mk H
  clear H
  have ho6 := rs_At_Par HT0.out
  have hx6 := ho6
  go_enter Try.func31,Try.ntmps31
  go_wp2_with (first | (go_at_call 53; (with_reducible refine (reedsol_code_syndromes.calls k _ a0 _ _ l1 t296 t297 _ ?side1 ?side2 ?side3 A8.out).mono ?_); (case side1 => exact HR0.out); (case side2 => exact mvC HR1.out); (case side3 => exact HC1.out); rintro e w9 ⟨v298,rfl,ho0,hb⟩; have HO299 := aK (Kd.R_lower ho0 (below_size (mvh HB.out))); replace HB := aK (below_step (mvh HB.out) hb); (try clear hb); (try clear ho0)) | ((with_reducible refine gate_dst (N := 44) rfl ?_); refine Kd.R_lit (Kd.int .u8) _ 5 ?hg (N := 44) ?hd (xs := ([1] : List Int)) (inner := [.int .u8 1]) (ok := fun _ => True) (okp := fun _ => True) ?hr ?hp (fun _ hk => hk) trivial (Below.refl _ _) (Nat.le_refl _) (by simp) ?_; (case hd => rfl); (case hg => rfl); (case hr => first | (go_simp; done) | (go_simp; rfl)); (case hp => exact (Reps.one (show Kd.M (Kd.int .u8) _ _ _ 1 [.int .u8 1] from rfl) (Reps.none _ _))); intro v301 w10 ho11 hb hg_ hnew_; clear hg_ hnew_; (first | rw [← Ny300.out] at ho11 | (simp only [Int.reduceToNat] at ho11; rw [← Ny300.out] at ho11)); have HO302 := aK (Kd.R_lower (Kd.R_new' ho11 (Kd.R_lt (mvR HO299.out))) (below_size (mvh HB.out))); replace HO299 := aK (Kd.R_elder' (mvR HO299.out) (Kd.R_base ho11) hb); replace HB := aK (below_step (mvh HB.out) hb); clear hb ho11))
  go_loopg [12,47] k (fun kq v12 v47 w' => ∃ (x12_1 : List Int) (x47_1 : Int),v47 = .int .i64 x47_1 ∧ Aside0 (reedsol_code_mend.l0 kq a0 l1 l2 a3 t296 x12_1 l2 (l2.length : Int) x47_1 = some (r1,r2)) ∧ Aside0 (kq ≤ k) ∧ Aside0 (Kd.R (Kd.int .u8) 5 w' w.heap.size (fun k_ => some k_ ≠ (v12 : Value).ownBlock) v298 t296) ∧ Aside0 (Kd.R (Kd.int .u8) 5 w' w.heap.size (fun k_ => some k_ ≠ (v298 : Value).ownBlock) v12 x12_1) ∧ Aside0 (Below w.heap.size w w'))
  case atStart => exact ⟨(y300),(0),(by first | rfl | (simp; done) | (simp [*]; done) | (simp [wrap64]; done)),H',⟨Nat.le_refl _⟩,⟨by (with_reducible repeat (first | apply Kd.R_alloc | apply Kd.R_drewN | apply Kd.R_drew)); exact Kd.R_mono HO299.out (fun _ hk => hk.2)⟩,⟨by (with_reducible repeat (first | apply Kd.R_alloc | apply Kd.R_drewN | apply Kd.R_drew)); exact Kd.R_mono HO302.out (fun _ hk => hk.2)⟩,⟨mvh HB.out⟩⟩
  case round =>
   clear H'
   (try clear c1); (try clear c2); (try clear p2); (try clear c3); (try clear c5); (try clear p6); (try clear hx6); (try clear c7); (try clear c7b0)
   obtain ⟨x12_1,x47_1,rfl,HA,HK1,HO_10,HO_12,HB⟩ := hrel
   cases gk with
   | zero => exact absurd HA.out (by simp [reedsol_code_mend.l0])
   | succ k1 =>
    have H := HA.out
    clear HA
    simp only [reedsol_code_mend.l0] at H
    by_cases c12 : x47_1 < (l2.length : Int)
    ·rw [if_pos c12] at H
     have c12b0 : decide (x47_1 < (l2.length : Int)) = true := decide_eq_true c12
     clear c12
     by_cases c13 : 0 ≤ x47_1
     rotate_left
     ·rw [if_neg c13] at H
      exact absurd H (by simp)
     rw [if_pos c13] at H
     have c13b0 : decide (0 ≤ x47_1) = true := decide_eq_true c13
     clear c13
     by_cases c14 : x47_1 < (l2.length : Int)
     rotate_left
     ·rw [if_neg c14] at H
      exact absurd H (by simp)
     rw [if_pos c14] at H
     have c14b0 : decide (x47_1 < (l2.length : Int)) = true := decide_eq_true c14
     clear c14
     obtain ⟨bq15,hbq15⟩ : ∃ b_ : Bool,b_ = (rdOf false l2 x47_1) := ⟨_,rfl⟩
     replace H : (if bq15 = true then (if 0 < a0.size then ((gT_Exp.f a0 (wrap64 ((wrap64 ((l1.length : Int) - 1)) - x47_1))).bind fun t304 => ((reedsol_code_product.f k1 a0 x12_1 (([1,t304] : List Int)) (wrap64 (a3 + 1))).bind fun t308 => (reedsol_code_mend.l0 k1 a0 l1 l2 a3 t296 t308 l2 (l2.length : Int) (wrap64 (x47_1 + 1))))) else (none)) else (reedsol_code_mend.l0 k1 a0 l1 l2 a3 t296 x12_1 l2 (l2.length : Int) (wrap64 (x47_1 + 1)))) = some (r1,r2) := by rw [← hbq15] at H; exact H
     have Nbq15 := Aside0.mk hbq15
     clear hbq15
     by_cases c16 : bq15 = true
     rotate_left
     ·replace c16 := Bool.eq_false_iff.mpr c16
      subst c16
      have H1 : (reedsol_code_mend.l0 k1 a0 l1 l2 a3 t296 x12_1 l2 (l2.length : Int) (wrap64 (x47_1 + 1))) = some (r1,r2) := by rw [if_neg (show ¬ (false = true) by decide)] at H; exact H
      clear H
      have H := H1
      clear H1
      have H' := Aside0.mk H
      clear H
      have p303 : 0 ≤ (x47_1 : Int) := oD
      have q303 : x47_1 < (l2.length : Int) := oD
      obtain ⟨ad303,e303,hx303_0⟩ := Kd.at_bool HR2.out x47_1 p303 q303
      (try rw [← Nbq15.out] at hx303_0)
      cases e303
      replace hx303_0 := (HB.out.cell (World.block_lt_of_cell? w _ hx303_0)).trans hx303_0
      replace p303 := eq_true p303
      replace q303 := eq_true q303
      go_wp2
      (try simp only [addZ] at *)
      go_roundg k1
      case measure => have := HK1.out; omega
      case rel => exact ⟨(x12_1),(wrap64 (x47_1 + 1)),(by first | rfl | (simp; done) | (simp [*]; done) | (simp [wrap64]; done)),H',⟨by have := HK1.out; omega⟩,⟨mvR HO_10.out⟩,⟨mvR HO_12.out⟩,⟨mvh HB.out⟩⟩
     subst c16
     have H1 : (if 0 < a0.size then ((gT_Exp.f a0 (wrap64 ((wrap64 ((l1.length : Int) - 1)) - x47_1))).bind fun t304 => ((reedsol_code_product.f k1 a0 x12_1 (([1,t304] : List Int)) (wrap64 (a3 + 1))).bind fun t308 => (reedsol_code_mend.l0 k1 a0 l1 l2 a3 t296 t308 l2 (l2.length : Int) (wrap64 (x47_1 + 1))))) else (none)) = some (r1,r2) := by rw [if_pos rfl] at H; exact H
     clear H
     have H := H1
     clear H1
     by_cases c17 : 0 < a0.size
     rotate_left
     ·rw [if_neg c17] at H
      exact absurd H (by simp)
     rw [if_pos c17] at H
     clear c17
     replace H := Option.bind_eq_some_iff.mp H
     obtain ⟨t304,A190,H⟩ := H
     try dsimp only at H
     have A19 := Aside0.mk A190
     clear A190
     obtain ⟨y305,hy305⟩ : ∃ y_ : List Int,y_ = (([1,t304] : List Int)) := ⟨_,rfl⟩
     replace H : ((reedsol_code_product.f k1 a0 x12_1 y305 (wrap64 (a3 + 1))).bind fun t308 => (reedsol_code_mend.l0 k1 a0 l1 l2 a3 t296 t308 l2 (l2.length : Int) (wrap64 (x47_1 + 1)))) = some (r1,r2) := by rw [hy305]; exact H
     have Ny305 := Aside0.mk hy305
     clear hy305
     replace H := Option.bind_eq_some_iff.mp H
     obtain ⟨t308,A200,H⟩ := H
     try dsimp only at H
     have A20 := Aside0.mk A200
     clear A200
     have H' := Aside0.mk H
     clear H
     have p303 : 0 ≤ (x47_1 : Int) := oD
     have q303 : x47_1 < (l2.length : Int) := oD
     obtain ⟨ad303,e303,hx303_0⟩ := Kd.at_bool HR2.out x47_1 p303 q303
     (try rw [← Nbq15.out] at hx303_0)
     cases e303
     replace hx303_0 := (HB.out.cell (World.block_lt_of_cell? w _ hx303_0)).trans hx303_0
     replace p303 := eq_true p303
     replace q303 := eq_true q303
     have ho18 := rs_At_exp HT0.out
     have hx18 := (HB.out.cell (World.block_lt_of_cell? w _ ho18)).trans ho18
     go_wp2_with (first | (go_at_call 45; (with_reducible refine (gT_Exp.calls b_ p_ c_ d_ g_ a0 (wrap64 ((wrap64 ((l1.length : Int) - 1)) - x47_1)) t304 _ ?side1 A19.out).mono ?_); (case side1 => exact (rs_At_below HT0.out HB.out)); rintro e w' ⟨rfl,⟨nd,rfl⟩⟩) | ((with_reducible refine gate_dst (N := 65) rfl ?_); refine Kd.R_lit (Kd.int .u8) _ 5 ?hg (N := 65) ?hd (xs := ([1,t304] : List Int)) (inner := [.int .u8 1,.int .u8 t304]) (ok := fun _ => True) (okp := fun _ => True) ?hr ?hp (fun _ hk => hk) trivial (Below.refl _ _) (Nat.le_refl _) (by simp) ?_; (case hd => rfl); (case hg => rfl); (case hr => first | (go_simp; done) | (go_simp; rfl)); (case hp => exact (Reps.one (show Kd.M (Kd.int .u8) _ _ _ 1 [.int .u8 1] from rfl) (Reps.one (show Kd.M (Kd.int .u8) _ _ _ t304 [.int .u8 t304] from rfl) (Reps.none _ _)))); intro v306 w21 ho22 hb hg_ hnew_; clear hg_ hnew_; (first | rw [← Ny305.out] at ho22 | (simp only [Int.reduceToNat] at ho22; rw [← Ny305.out] at ho22)); have HO307 := aK (Kd.R_lower (Kd.R_new' (Kd.R_new' ho22 (Kd.R_lt (mvR HO_10.out))) (Kd.R_lt (mvR HO_12.out))) (below_size (mvh HB.out))); replace HO_10 := aK (Kd.R_elder' (mvR HO_10.out) (Kd.R_base ho22) hb); replace HO_12 := aK (Kd.R_elder' (mvR HO_12.out) (Kd.R_base ho22) hb); replace HB := aK (below_step (mvh HB.out) hb); clear hb ho22; obtain ⟨Ao23,co23,eo23⟩ := Kd.R_slice HO_12.out; subst eo23; obtain ⟨Ao24,co24,eo24⟩ := Kd.R_slice HO307.out; subst eo24) | (go_at_call 54; (with_reducible refine (reedsol_code_product.calls k1 _ a0 _ _ x12_1 _ _ y305 (wrap64 (a3 + 1)) t308 _ ?side1 ?side2 ?side3 ?side4 ?side5 A20.out).mono ?_); (case side1 => exact (rs_OK_below HR0.out HB.out)); (case side2 => exact mvC (Kd.R_reads' HO_12.out).2.2); (case side3 => exact (Kd.R_reads' HO_12.out).2.1); (case side4 => exact mvC (Kd.R_reads' HO307.out).2.2); (case side5 => exact (Kd.R_reads' HO307.out).2.1); rintro e w25 ⟨v309,rfl,ho0,hb⟩; have HO310 := aK (Kd.R_lower (Kd.R_new' (Kd.R_new' (Kd.R_new' ho0 (Kd.R_lt (mvR HO_10.out))) (Kd.R_lt (mvR HO_12.out))) (Kd.R_lt (mvR HO307.out))) (below_size (mvh HB.out))); replace HO_10 := aK (Kd.R_elder' (mvR HO_10.out) (Kd.R_base ho0) hb); replace HO_12 := aK (Kd.R_elder' (mvR HO_12.out) (Kd.R_base ho0) hb); replace HO307 := aK (Kd.R_elder' (mvR HO307.out) (Kd.R_base ho0) hb); replace HB := aK (below_step (mvh HB.out) hb); (try clear hb); (try clear ho0)))
     (try simp only [addZ] at *)
     go_roundg k1
     case measure => have := HK1.out; omega
     case rel => exact ⟨(t308),(wrap64 (x47_1 + 1)),(by first | rfl | (simp; done) | (simp [*]; done) | (simp [wrap64]; done)),H',⟨by have := HK1.out; omega⟩,⟨by (with_reducible repeat (first | apply Kd.R_alloc | apply Kd.R_drewN | apply Kd.R_drew)); exact Kd.R_mono HO_10.out (fun _ hk => hk.2)⟩,⟨by (with_reducible repeat (first | apply Kd.R_alloc | apply Kd.R_drewN | apply Kd.R_drew)); exact Kd.R_mono HO310.out (fun _ hk => hk.1.1.2)⟩,⟨mvh HB.out⟩⟩
    ·rw [if_neg c12] at H
     have c12b0 : decide (x47_1 < (l2.length : Int)) = false := decide_eq_false c12
     clear c12
     by_cases c26 : 0 < a0.size
     rotate_left
     ·rw [if_neg c26] at H
      exact absurd H (by simp)
     rw [if_pos c26] at H
     clear c26
     replace H := Option.bind_eq_some_iff.mp H
     obtain ⟨t311,A280,H⟩ := H
     try dsimp only at H
     have A28 := Aside0.mk A280
     clear A280
     have H' := Aside0.mk H
     clear H
     have ho27 := rs_At_Par HT0.out
     have hx27 := (HB.out.cell (World.block_lt_of_cell? w _ ho27)).trans ho27
     obtain ⟨Ao29,co29,eo29⟩ := Kd.R_slice HO_10.out
     subst eo29
     obtain ⟨Ao30,co30,eo30⟩ := Kd.R_slice HO_12.out
     subst eo30
     go_wp2_with (first | (go_at_call 54; (with_reducible refine (reedsol_code_product.calls k1 _ a0 _ _ t296 _ _ x12_1 a0.Par t311 _ ?side1 ?side2 ?side3 ?side4 ?side5 A28.out).mono ?_); (case side1 => exact (rs_OK_below HR0.out HB.out)); (case side2 => exact mvC (Kd.R_reads' HO_10.out).2.2); (case side3 => exact (Kd.R_reads' HO_10.out).2.1); (case side4 => exact mvC (Kd.R_reads' HO_12.out).2.2); (case side5 => exact (Kd.R_reads' HO_12.out).2.1); rintro e w31 ⟨v312,rfl,ho0,hb⟩; have HO313 := aK (Kd.R_lower (Kd.R_new' (Kd.R_new' ho0 (Kd.R_lt (mvR HO_10.out))) (Kd.R_lt (mvR HO_12.out))) (below_size (mvh HB.out))); replace HO_10 := aK (Kd.R_elder' (mvR HO_10.out) (Kd.R_base ho0) hb); replace HO_12 := aK (Kd.R_elder' (mvR HO_12.out) (Kd.R_base ho0) hb); replace HB := aK (below_step (mvh HB.out) hb); (try clear hb); (try clear ho0)))
     go_loopg [15] k1 (fun kq v15 w' => ∃ (x15_2 : List Int),Aside0 (reedsol_code_mend.l1 kq a0 l1 l2 a3 t296 x12_1 x15_2 = some (r1,r2)) ∧ Aside0 (kq ≤ k1) ∧ Aside0 (Kd.R (Kd.int .u8) 5 w' w.heap.size (fun k_ => some k_ ≠ ((.slice Ao30 x12_1.length co30) : Value).ownBlock ∧ some k_ ≠ (v15 : Value).ownBlock) (.slice Ao29 t296.length co29) t296) ∧ Aside0 (Kd.R (Kd.int .u8) 5 w' w.heap.size (fun k_ => some k_ ≠ ((.slice Ao29 t296.length co29) : Value).ownBlock ∧ some k_ ≠ (v15 : Value).ownBlock) (.slice Ao30 x12_1.length co30) x12_1) ∧ Aside0 (Kd.R (Kd.int .u8) 5 w' w.heap.size (fun k_ => some k_ ≠ ((.slice Ao29 t296.length co29) : Value).ownBlock ∧ some k_ ≠ ((.slice Ao30 x12_1.length co30) : Value).ownBlock) v15 x15_2) ∧ Aside0 (Below w.heap.size w w'))
     case atStart => exact ⟨(t311),H',⟨Nat.le_refl _⟩,⟨mvR HO_10.out⟩,⟨mvR HO_12.out⟩,⟨by (with_reducible repeat (first | apply Kd.R_alloc | apply Kd.R_drewN | apply Kd.R_drew)); exact Kd.R_mono HO313.out (fun _ hk => ⟨hk.1.2,hk.2⟩)⟩,⟨mvh HB.out⟩⟩
     case round =>
      clear H'
      (try clear c1); (try clear q1); (try clear hx1); (try clear c2); (try clear p2); (try clear hx2); (try clear c3); (try clear p3); (try clear q3); (try clear hx3); (try clear c5); (try clear p6); (try clear hx6); (try clear c7); (try clear c7b0); (try clear c12); (try clear c12b0); (try clear c13)
      (try clear c13b0); (try clear c14); (try clear c14b0); (try clear q15); (try clear c16); (try clear c17); (try clear hx18); (try clear c26); (try clear hx27); (try clear p30); (try clear q30); (try clear hx30); (try clear c31); (try clear hx303_0); (try clear p2); (try clear p303); (try clear p6)
      try clear q303
      obtain ⟨x15_2,HA,HK2,HO_10,HO_12,HO_15,HB⟩ := hrel
      cases gk with
      | zero => exact absurd HA.out (by simp [reedsol_code_mend.l1])
      | succ k2 =>
       have H := HA.out
       clear HA
       simp only [reedsol_code_mend.l1] at H
       by_cases c32 : 0 < a0.size
       rotate_left
       ·rw [if_neg c32] at H
        exact absurd H (by simp)
       rw [if_pos c32] at H
       clear c32
       by_cases c34 : (x15_2.length : Int) < a0.Par
       ·rw [if_pos c34] at H
        have c34b0 : decide ((x15_2.length : Int) < a0.Par) = true := decide_eq_true c34
        clear c34
        by_cases c35 : x15_2.length < 140737488355328
        rotate_left
        ·rw [if_neg c35] at H
         exact absurd H (by simp)
        rw [if_pos c35] at H
        have LMc35 := Aside0.mk c35
        clear c35
        obtain ⟨y314,hy314⟩ : ∃ y_ : List Int,y_ = (x15_2 ++ [0]) := ⟨_,rfl⟩
        replace H : (reedsol_code_mend.l1 k2 a0 l1 l2 a3 t296 x12_1 y314) = some (r1,r2) := by rw [hy314]; exact H
        have Ny314 := Aside0.mk hy314
        clear hy314
        have H' := Aside0.mk H
        clear H
        obtain ⟨Ao36,co36,eo36⟩ := Kd.R_slice HO_15.out
        subst eo36
        have ho33 := rs_At_Par HT0.out
        have hx33 := (HB.out.cell (World.block_lt_of_cell? w _ ho33)).trans ho33
        go_wp2_with (first | ((with_reducible refine gate_builtin (b := .append) (xs := #[.tmp 87,.tmp 88]) rfl ?_); at_builtin; refine Kd.R_append (Kd.int .u8) (w0 := w) w.heap.size rfl (.tmp 87) (.tmp 88) 27 5 (.int .u8 0) 1 rfl Try.underlying27 info5 rfl (by decide) (by omega) (.slice Ao36 x15_2.length co36) x15_2 0 [.int .u8 0] (fun k_ => some k_ ≠ (.slice Ao29 t296.length co29 : Value).ownBlock ∧ some k_ ≠ (.slice Ao30 x12_1.length co30 : Value).ownBlock) (fun _ => False) rfl rfl ?aP (fun _ hk => hk.elim) ?aF ?aO ?aB ?aS ?aL ?_; (case aP => exact rfl); (case aB => exact (mvh HB.out)); (case aF => exact (fun k_ hk => ⟨Kd.fresh' (Kd.R_lt (mvR HO_10.out)) k_ hk,Kd.fresh' (Kd.R_lt (mvR HO_12.out)) k_ hk⟩)); (case aO => exact (mvR HO_15.out)); (case aS => exact (below_size (mvh HB.out))); (case aL => have := LMc35.out; omega); intro v315 w37 ho hb hg hat; rw [← Ny314.out] at ho; replace HO_10 := aK (Kd.R_after (ok := (fun k_ => some k_ ≠ (.slice Ao30 x12_1.length co30 : Value).ownBlock)) (mvR HO_10.out) hg hat); replace HO_12 := aK (Kd.R_after (ok := (fun k_ => some k_ ≠ (.slice Ao29 t296.length co29 : Value).ownBlock)) (mvR HO_12.out) hg hat); replace HB := aK (hb); have HO316 := aK (ho); clear HO_15; clear ho hb hg hat))
        (try simp only [addZ] at *)
        go_roundg k2
        case measure => have := HK1.out; have := HK2.out; omega
        case rel => exact ⟨(y314),H',⟨by have := HK1.out; have := HK2.out; omega⟩,⟨mvR HO_10.out⟩,⟨mvR HO_12.out⟩,⟨mvR HO316.out⟩,⟨mvh HB.out⟩⟩
       ·rw [if_neg c34] at H
        have c34b0 : decide ((x15_2.length : Int) < a0.Par) = false := decide_eq_false c34
        clear c34
        by_cases c39 : 0 ≤ a3
        rotate_left
        ·rw [if_neg c39] at H
         exact absurd H (by simp)
        rw [if_pos c39] at H
        have c39b0 := eq_true c39
        have c39b1 : decide (0 ≤ a3) = true := decide_eq_true c39
        clear c39
        by_cases c40 : a3 ≤ a0.Par
        rotate_left
        ·rw [if_neg c40] at H
         exact absurd H (by simp)
        rw [if_pos c40] at H
        have c40b0 := eq_true c40
        have c40b1 : decide (a3 ≤ a0.Par) = true := decide_eq_true c40
        clear c40
        by_cases c41 : a0.Par ≤ (x15_2.length : Int)
        rotate_left
        ·rw [if_neg c41] at H
         exact absurd H (by simp)
        rw [if_pos c41] at H
        have c41b0 := eq_true c41
        have c41b1 : decide (a0.Par ≤ (x15_2.length : Int)) = true := decide_eq_true c41
        clear c41
        obtain ⟨y317,hy317⟩ : ∃ y_ : List Int,y_ = ((x15_2.take (a0.Par : Int).toNat).drop (a3 : Int).toNat) := ⟨_,rfl⟩
        replace H : ((reedsol_code_locator.f k2 a0 y317).bind fun bt321 => (if (wrap64 (2 * bt321.2)) > (wrap64 (a0.Par - a3)) then (some (([] : List Int),false)) else ((reedsol_code_product.f k2 a0 x12_1 bt321.1 (wrap64 ((x12_1.length : Int) + (bt321.1.length : Int)))).bind fun t325 => ((reedsol_code_product.f k2 a0 t296 t325 a0.Par).bind fun t328 => (if 0 ≤ (mx 0 (wrap64 ((t325.length : Int) - 1))) then (if (mx 0 (wrap64 ((t325.length : Int) - 1)) : Int).toNat ≤ 281474976710656 then (reedsol_code_mend.l2 k2 a0 l1 l2 a3 t325 t328 (List.replicate (mx 0 (wrap64 ((t325.length : Int) - 1)) : Int).toNat 0) 1) else (none)) else (none)))))) = some (r1,r2) := by rw [hy317]; exact H
        have Ny317 := Aside0.mk hy317
        clear hy317
        replace H := Option.bind_eq_some_iff.mp H
        obtain ⟨⟨t321,t322⟩,A420,H⟩ := H
        try dsimp only at H
        have A42 := Aside0.mk A420
        clear A420
        by_cases c44 : (wrap64 (2 * t322)) > (wrap64 (a0.Par - a3))
        ·rw [if_pos c44] at H
         have c44b0 : decide ((wrap64 (a0.Par - a3)) < (wrap64 (2 * t322))) = true := decide_eq_true c44
         clear c44
         simp only [Option.some.injEq,Prod.mk.injEq] at H
         obtain ⟨rfl,rfl⟩ := H
         obtain ⟨Ao45,co45,eo45⟩ := Kd.R_slice HO_15.out
         subst eo45
         have ho33 := rs_At_Par HT0.out
         have hx33 := (HB.out.cell (World.block_lt_of_cell? w _ ho33)).trans ho33
         have ho38 := rs_At_Par HT0.out
         have hx38 := (HB.out.cell (World.block_lt_of_cell? w _ ho38)).trans ho38
         have q46 : (a0.Par : Int) ≤ ((x15_2.length : Int) : Int) := oD
         obtain ⟨i046,hi046,_,hsz46,_⟩ := info_parts info5
         have hroom46 : x15_2.length ≤ co45 := (Kd.R_reads' HO_15.out).2.1
         have hC46 : Kd.C (Kd.int .u8) _ Ao45 x15_2.length x15_2 := (Kd.R_reads' HO_15.out).2.2
         have ql46 : (a3 : Int) ≤ (a0.Par : Int) := oD
         have q046 : (0 : Int) ≤ (a3 : Int) := oD
         have hcut46 := cut_mid (P := Try.prog) 27 5 .i64 .i64 Try.underlying27 hi046 1 hsz46 Ao45 x15_2.length co45 a3 a0.Par q046 ql46 q46 hroom46
         have hr46 := Kd.C_mid (lo := (a3 : Int).toNat) (hi := (a0.Par : Int).toNat) (c := co45) hC46 (by omega) (by omega) hroom46
         obtain ⟨A46,hA46⟩ : ∃ A1,A1 = (if co45 = (a3 : Int).toNat then Ao45 else (Ao45 : Option Addr).map (·.add ((a3 : Int).toNat * 1))) := ⟨_,rfl⟩
         obtain ⟨c46,hc46⟩ : ∃ c1,c1 = co45 - (a3 : Int).toNat := ⟨_,rfl⟩
         have hy46 : y317.length = (a0.Par : Int).toNat - (a3 : Int).toNat := (by rw [Ny317.out,List.length_drop,List.length_take] <;> omega)
         rw [show ((x15_2).take (a0.Par : Int).toNat).drop (a3 : Int).toNat = y317 from Ny317.out.symm] at hr46
         replace hr46 : Kd.C (Kd.int .u8) _ A46 y317.length y317 := (by rw [hA46]; exact hr46)
         rw [← hy46,← hA46,← hc46] at hcut46
         have HR320 := Aside0.mk hr46
         have HC320 := aK (show y317.length ≤ c46 from by rw [hy46,hc46]; exact Nat.sub_le_sub_right (Nat.le_trans (by omega) hroom46) _)
         clear hr46 hC46 hroom46 hi046 hsz46 hc46
         have KY46 := Aside0.mk hy46
         have KA46 := Aside0.mk hA46
         clear hy46 hA46
         have KL46 := aK (show (a0.Par : Int).toNat ≤ x15_2.length from by omega)
         have KM46 := aK (show (a3 : Int).toNat ≤ (a0.Par : Int).toNat from by omega)
         replace q46 := eq_true q46
         go_wp2_with (first | (go_at_call 55; (with_reducible refine (reedsol_code_locator.calls k2 _ a0 _ _ y317 t321 t322 _ ?side1 ?side2 ?side3 A42.out).mono ?_); (case side1 => exact (rs_OK_below HR0.out HB.out)); (case side2 => repeat (first | exact (by repeat (first | (with_reducible exact HR320.out) | (with_reducible refine Kd.C_alloc ?_ _) | (with_reducible refine Kd.C_drewN ?_ _) | (with_reducible refine Kd.C_drew ?_) | exact HR320.out)) | (with_reducible refine Kd.C_alloc ?_ _) | (with_reducible refine Kd.C_drewN ?_ _) | (with_reducible refine Kd.C_drew ?_))); (case side3 => exact HC320.out); rintro e w47 ⟨v323,rfl,ho0,hb⟩; have HO324 := aK (Kd.R_lower (Kd.R_new' (Kd.R_new' (Kd.R_new' ho0 (Kd.R_lt (mvR HO_10.out))) (Kd.R_lt (mvR HO_12.out))) (Kd.R_lt (mvR HO_15.out))) (below_size (mvh HB.out))); replace HO_10 := aK (Kd.R_elder' (mvR HO_10.out) (Kd.R_base ho0) hb); replace HO_12 := aK (Kd.R_elder' (mvR HO_12.out) (Kd.R_base ho0) hb); replace HO_15 := aK (Kd.R_elder' (mvR HO_15.out) (Kd.R_base ho0) hb); replace HR320 := aK (Kd.C_below (by repeat (first | (with_reducible exact HR320.out) | (with_reducible refine Kd.C_alloc ?_ _) | (with_reducible refine Kd.C_drewN ?_ _) | (with_reducible refine Kd.C_drew ?_) | exact HR320.out)) hb); replace HB := aK (below_step (mvh HB.out) hb); (try clear hb); (try clear ho0); have ho43 := rs_At_Par HT0.out; have hx43 := (HB.out.cell (World.block_lt_of_cell? w _ ho43)).trans ho43))
         go_ret2
         exact ⟨_,by first | rfl | (simp [errW_none,errW_some] <;> rfl) | (simp [*,errW_none,errW_some] <;> rfl),by first | exact Kd.R_nil _ _ _ _ _ | exact Kd.N_nil _ _ _ _ _ | exact Kd.V_nil _ _ _ _ _ | exact Kd.Q_nil _ _ _ _ _ | exact Kd.S_nil _ _ _ _ _,mvh HB.out⟩
        ·rw [if_neg c44] at H
         have c44b0 : decide ((wrap64 (a0.Par - a3)) < (wrap64 (2 * t322))) = false := decide_eq_false c44
         clear c44
         replace H := Option.bind_eq_some_iff.mp H
         obtain ⟨t325,A480,H⟩ := H
         try dsimp only at H
         have A48 := Aside0.mk A480
         clear A480
         replace H := Option.bind_eq_some_iff.mp H
         obtain ⟨t328,A500,H⟩ := H
         try dsimp only at H
         have A50 := Aside0.mk A500
         clear A500
         obtain ⟨ji51,hji51⟩ : ∃ j_ : Int,(mx 0 (wrap64 ((t325.length : Int) - 1))) = j_ := ⟨_,rfl⟩
         first | rw [hji51] at H | simp only [hji51] at H
         (try rw [hji51] at A42)
         (try rw [hji51] at A48)
         (try rw [hji51] at A50)
         (try (have hji51l : 0 ≤ ji51 := by (rw [← hji51]; unfold mx; (repeat' split) <;> omega)))
         (try (have hji51m : 0 ≤ ji51 := by omega))
         have hji51_ : (if 0 < (wrap64 ((t325.length : Int) - 1)) then (wrap64 ((t325.length : Int) - 1)) else 0) = ji51 := hji51
         by_cases c52 : 0 ≤ (ji51)
         rotate_left
         ·rw [if_neg c52] at H
          exact absurd H (by simp)
         rw [if_pos c52] at H
         have c52b0 := eq_true c52
         have c52b1 : decide (0 ≤ (ji51)) = true := decide_eq_true c52
         clear c52
         by_cases c53 : (ji51 : Int).toNat ≤ 281474976710656
         rotate_left
         ·rw [if_neg c53] at H
          exact absurd H (by simp)
         rw [if_pos c53] at H
         have c53b0 := eq_true c53
         have c53b1 : decide ((ji51 : Int).toNat ≤ 281474976710656) = true := decide_eq_true c53
         clear c53
         obtain ⟨y331,hy331⟩ : ∃ y_ : List Int,y_ = (List.replicate (ji51 : Int).toNat 0) := ⟨_,rfl⟩
         replace H : (reedsol_code_mend.l2 k2 a0 l1 l2 a3 t325 t328 y331 1) = some (r1,r2) := by rw [hy331]; exact H
         have Ny331 := Aside0.mk hy331
         clear hy331
         have H' := Aside0.mk H
         clear H
         obtain ⟨Ao54,co54,eo54⟩ := Kd.R_slice HO_15.out
         subst eo54
         have ho33 := rs_At_Par HT0.out
         have hx33 := (HB.out.cell (World.block_lt_of_cell? w _ ho33)).trans ho33
         have ho38 := rs_At_Par HT0.out
         have hx38 := (HB.out.cell (World.block_lt_of_cell? w _ ho38)).trans ho38
         have q55 : (a0.Par : Int) ≤ ((x15_2.length : Int) : Int) := oD
         obtain ⟨i055,hi055,_,hsz55,_⟩ := info_parts info5
         have hroom55 : x15_2.length ≤ co54 := (Kd.R_reads' HO_15.out).2.1
         have hC55 : Kd.C (Kd.int .u8) _ Ao54 x15_2.length x15_2 := (Kd.R_reads' HO_15.out).2.2
         have ql55 : (a3 : Int) ≤ (a0.Par : Int) := oD
         have q055 : (0 : Int) ≤ (a3 : Int) := oD
         have hcut55 := cut_mid (P := Try.prog) 27 5 .i64 .i64 Try.underlying27 hi055 1 hsz55 Ao54 x15_2.length co54 a3 a0.Par q055 ql55 q55 hroom55
         have hr55 := Kd.C_mid (lo := (a3 : Int).toNat) (hi := (a0.Par : Int).toNat) (c := co54) hC55 (by omega) (by omega) hroom55
         obtain ⟨A55,hA55⟩ : ∃ A1,A1 = (if co54 = (a3 : Int).toNat then Ao54 else (Ao54 : Option Addr).map (·.add ((a3 : Int).toNat * 1))) := ⟨_,rfl⟩
         obtain ⟨c55,hc55⟩ : ∃ c1,c1 = co54 - (a3 : Int).toNat := ⟨_,rfl⟩
         have hy55 : y317.length = (a0.Par : Int).toNat - (a3 : Int).toNat := (by rw [Ny317.out,List.length_drop,List.length_take] <;> omega)
         rw [show ((x15_2).take (a0.Par : Int).toNat).drop (a3 : Int).toNat = y317 from Ny317.out.symm] at hr55
         replace hr55 : Kd.C (Kd.int .u8) _ A55 y317.length y317 := (by rw [hA55]; exact hr55)
         rw [← hy55,← hA55,← hc55] at hcut55
         have HR320 := Aside0.mk hr55
         have HC320 := aK (show y317.length ≤ c55 from by rw [hy55,hc55]; exact Nat.sub_le_sub_right (Nat.le_trans (by omega) hroom55) _)
         clear hr55 hC55 hroom55 hi055 hsz55 hc55
         have KY55 := Aside0.mk hy55
         have KA55 := Aside0.mk hA55
         clear hy55 hA55
         have KL55 := aK (show (a0.Par : Int).toNat ≤ x15_2.length from by omega)
         have KM55 := aK (show (a3 : Int).toNat ≤ (a0.Par : Int).toNat from by omega)
         replace q55 := eq_true q55
         go_wp2_with (first | (go_at_call 55; (with_reducible refine (reedsol_code_locator.calls k2 _ a0 _ _ y317 t321 t322 _ ?side1 ?side2 ?side3 A42.out).mono ?_); (case side1 => exact (rs_OK_below HR0.out HB.out)); (case side2 => repeat (first | exact (by repeat (first | (with_reducible exact HR320.out) | (with_reducible refine Kd.C_alloc ?_ _) | (with_reducible refine Kd.C_drewN ?_ _) | (with_reducible refine Kd.C_drew ?_) | exact HR320.out)) | (with_reducible refine Kd.C_alloc ?_ _) | (with_reducible refine Kd.C_drewN ?_ _) | (with_reducible refine Kd.C_drew ?_))); (case side3 => exact HC320.out); rintro e w56 ⟨v323,rfl,ho0,hb⟩; have HO324 := aK (Kd.R_lower (Kd.R_new' (Kd.R_new' (Kd.R_new' ho0 (Kd.R_lt (mvR HO_10.out))) (Kd.R_lt (mvR HO_12.out))) (Kd.R_lt (mvR HO_15.out))) (below_size (mvh HB.out))); replace HO_10 := aK (Kd.R_elder' (mvR HO_10.out) (Kd.R_base ho0) hb); replace HO_12 := aK (Kd.R_elder' (mvR HO_12.out) (Kd.R_base ho0) hb); replace HO_15 := aK (Kd.R_elder' (mvR HO_15.out) (Kd.R_base ho0) hb); replace HR320 := aK (Kd.C_below (by repeat (first | (with_reducible exact HR320.out) | (with_reducible refine Kd.C_alloc ?_ _) | (with_reducible refine Kd.C_drewN ?_ _) | (with_reducible refine Kd.C_drew ?_) | exact HR320.out)) hb); replace HB := aK (below_step (mvh HB.out) hb); (try clear hb); (try clear ho0); have ho43 := rs_At_Par HT0.out; have hx43 := (HB.out.cell (World.block_lt_of_cell? w _ ho43)).trans ho43; obtain ⟨Ao57,co57,eo57⟩ := Kd.R_slice HO324.out; subst eo57) | (go_at_call 54; (with_reducible refine (reedsol_code_product.calls k2 _ a0 _ _ x12_1 _ _ t321 (wrap64 ((x12_1.length : Int) + (t321.length : Int))) t325 _ ?side1 ?side2 ?side3 ?side4 ?side5 A48.out).mono ?_); (case side1 => exact (rs_OK_below HR0.out HB.out)); (case side2 => exact mvC (Kd.R_reads' HO_12.out).2.2); (case side3 => exact (Kd.R_reads' HO_12.out).2.1); (case side4 => exact mvC (Kd.R_reads' HO324.out).2.2); (case side5 => exact (Kd.R_reads' HO324.out).2.1); rintro e w58 ⟨v326,rfl,ho0,hb⟩; have HO327 := aK (Kd.R_lower (Kd.R_new' (Kd.R_new' (Kd.R_new' (Kd.R_new' ho0 (Kd.R_lt (mvR HO_10.out))) (Kd.R_lt (mvR HO_12.out))) (Kd.R_lt (mvR HO_15.out))) (Kd.R_lt (mvR HO324.out))) (below_size (mvh HB.out))); replace HO_10 := aK (Kd.R_elder' (mvR HO_10.out) (Kd.R_base ho0) hb); replace HO_12 := aK (Kd.R_elder' (mvR HO_12.out) (Kd.R_base ho0) hb); replace HO_15 := aK (Kd.R_elder' (mvR HO_15.out) (Kd.R_base ho0) hb); replace HO324 := aK (Kd.R_elder' (mvR HO324.out) (Kd.R_base ho0) hb); replace HR320 := aK (Kd.C_below (by repeat (first | (with_reducible exact HR320.out) | (with_reducible refine Kd.C_alloc ?_ _) | (with_reducible refine Kd.C_drewN ?_ _) | (with_reducible refine Kd.C_drew ?_) | exact HR320.out)) hb); replace HB := aK (below_step (mvh HB.out) hb); (try clear hb); (try clear ho0); have ho49 := rs_At_Par HT0.out; have hx49 := (HB.out.cell (World.block_lt_of_cell? w _ ho49)).trans ho49; obtain ⟨Ao59,co59,eo59⟩ := Kd.R_slice HO327.out; subst eo59) | (go_at_call 54; (with_reducible refine (reedsol_code_product.calls k2 _ a0 _ _ t296 _ _ t325 a0.Par t328 _ ?side1 ?side2 ?side3 ?side4 ?side5 A50.out).mono ?_); (case side1 => exact (rs_OK_below HR0.out HB.out)); (case side2 => exact mvC (Kd.R_reads' HO_10.out).2.2); (case side3 => exact (Kd.R_reads' HO_10.out).2.1); (case side4 => exact mvC (Kd.R_reads' HO327.out).2.2); (case side5 => exact (Kd.R_reads' HO327.out).2.1); rintro e w60 ⟨v329,rfl,ho0,hb⟩; have HO330 := aK (Kd.R_lower (Kd.R_new' (Kd.R_new' (Kd.R_new' (Kd.R_new' (Kd.R_new' ho0 (Kd.R_lt (mvR HO_10.out))) (Kd.R_lt (mvR HO_12.out))) (Kd.R_lt (mvR HO_15.out))) (Kd.R_lt (mvR HO324.out))) (Kd.R_lt (mvR HO327.out))) (below_size (mvh HB.out))); replace HO_10 := aK (Kd.R_elder' (mvR HO_10.out) (Kd.R_base ho0) hb); replace HO_12 := aK (Kd.R_elder' (mvR HO_12.out) (Kd.R_base ho0) hb); replace HO_15 := aK (Kd.R_elder' (mvR HO_15.out) (Kd.R_base ho0) hb); replace HO324 := aK (Kd.R_elder' (mvR HO324.out) (Kd.R_base ho0) hb); replace HO327 := aK (Kd.R_elder' (mvR HO327.out) (Kd.R_base ho0) hb); replace HR320 := aK (Kd.C_below (by repeat (first | (with_reducible exact HR320.out) | (with_reducible refine Kd.C_alloc ?_ _) | (with_reducible refine Kd.C_drewN ?_ _) | (with_reducible refine Kd.C_drew ?_) | exact HR320.out)) hb); replace HB := aK (below_step (mvh HB.out) hb); (try clear hb); (try clear ho0)) | ((with_reducible refine gate_dst (N := 135) rfl ?_); refine Kd.R_make (Kd.int .u8) _ 5 rfl (N := 135) rfl 27 _ _ rfl ji51 rfl rfl Try.underlying27 (.int .u8 0) 1 info5 rfl (by decide) (by omega) 0 (ok := fun _ => True) (okp := fun _ => True) rfl (fun _ hk => hk) trivial oD (Nat.le_trans (Nat.mul_le_mul_right _ (oD : ji51.toNat ≤ 281474976710656)) (by omega)) (Below.refl _ _) (Nat.le_refl _) ?_; intro v332 w61 ho62 hb hg_ hnew_; clear hg_ hnew_; (first | rw [← Ny331.out] at ho62 | (simp only [Int.reduceToNat] at ho62; rw [← Ny331.out] at ho62)); have HO333 := aK (Kd.R_lower (Kd.R_new' (Kd.R_new' (Kd.R_new' (Kd.R_new' (Kd.R_new' (Kd.R_new' ho62 (Kd.R_lt (mvR HO_10.out))) (Kd.R_lt (mvR HO_12.out))) (Kd.R_lt (mvR HO_15.out))) (Kd.R_lt (mvR HO324.out))) (Kd.R_lt (mvR HO327.out))) (Kd.R_lt (mvR HO330.out))) (below_size (mvh HB.out))); replace HO_10 := aK (Kd.R_elder' (mvR HO_10.out) (Kd.R_base ho62) hb); replace HO_12 := aK (Kd.R_elder' (mvR HO_12.out) (Kd.R_base ho62) hb); replace HO_15 := aK (Kd.R_elder' (mvR HO_15.out) (Kd.R_base ho62) hb); replace HO324 := aK (Kd.R_elder' (mvR HO324.out) (Kd.R_base ho62) hb); replace HO327 := aK (Kd.R_elder' (mvR HO327.out) (Kd.R_base ho62) hb); replace HO330 := aK (Kd.R_elder' (mvR HO330.out) (Kd.R_base ho62) hb); replace HR320 := aK (Kd.C_below (by repeat (first | (with_reducible exact HR320.out) | (with_reducible refine Kd.C_alloc ?_ _) | (with_reducible refine Kd.C_drewN ?_ _) | (with_reducible refine Kd.C_drew ?_) | exact HR320.out)) hb); replace HB := aK (below_step (mvh HB.out) hb); clear hb ho62))
         go_loopg [21] k2 (fun kq v21 w' => ∃ (x20_3 : List Int) (x21_3 : Int),v21 = .int .i64 x21_3 ∧ Aside0 (reedsol_code_mend.l2 kq a0 l1 l2 a3 t325 t328 x20_3 x21_3 = some (r1,r2)) ∧ Aside0 (kq ≤ k2) ∧ Aside0 (Kd.R (Kd.int .u8) 5 w' w.heap.size (fun k_ => some k_ ≠ (v329 : Value).ownBlock ∧ some k_ ≠ (v332 : Value).ownBlock) (.slice Ao59 t325.length co59) t325) ∧ Aside0 (Kd.R (Kd.int .u8) 5 w' w.heap.size (fun k_ => some k_ ≠ ((.slice Ao59 t325.length co59) : Value).ownBlock ∧ some k_ ≠ (v332 : Value).ownBlock) v329 t328) ∧ Aside0 (Kd.R (Kd.int .u8) 5 w' w.heap.size (fun k_ => some k_ ≠ ((.slice Ao59 t325.length co59) : Value).ownBlock ∧ some k_ ≠ (v329 : Value).ownBlock) v332 x20_3) ∧ Aside0 (Below w.heap.size w w'))
         case atStart => exact ⟨(y331),(1),(by first | rfl | (simp; done) | (simp [*]; done) | (simp [wrap64]; done)),H',⟨Nat.le_refl _⟩,⟨by (with_reducible repeat (first | apply Kd.R_alloc | apply Kd.R_drewN | apply Kd.R_drew)); exact Kd.R_mono HO327.out (fun _ hk => ⟨hk.1.2,hk.2⟩)⟩,⟨by (with_reducible repeat (first | apply Kd.R_alloc | apply Kd.R_drewN | apply Kd.R_drew)); exact Kd.R_mono HO330.out (fun _ hk => ⟨hk.1.2,hk.2⟩)⟩,⟨by (with_reducible repeat (first | apply Kd.R_alloc | apply Kd.R_drewN | apply Kd.R_drew)); exact Kd.R_mono HO333.out (fun _ hk => ⟨hk.1.2,hk.2⟩)⟩,⟨mvh HB.out⟩⟩
         case round =>
          clear H'
          (try clear c1); (try clear q1); (try clear hx1); (try clear c2); (try clear p2); (try clear hx2); (try clear c3); (try clear p3); (try clear q3); (try clear hx3); (try clear c4); (try clear q4); (try clear hx4); (try clear c5); (try clear q5); (try clear p6); (try clear hx6); (try clear c7)
          (try clear c7b0); (try clear c12); (try clear c12b0); (try clear c13); (try clear c13b0); (try clear c14); (try clear c14b0); (try clear q15); (try clear c16); (try clear c17); (try clear hx18); (try clear c26); (try clear hx27); (try clear p30); (try clear q30); (try clear hx30); (try clear c31)
          (try clear c32); (try clear hx33); (try clear c34); (try clear c34b0); (try clear c35); (try clear hx38); (try clear c39); (try clear c39b0); (try clear c39b1); (try clear c40); (try clear c40b0); (try clear c40b1); (try clear c41); (try clear c41b0); (try clear c41b1); (try clear hx43)
          (try clear c44); (try clear c44b0); (try clear c46); (try clear q46); (try clear hx49); (try clear c52); (try clear c52b0); (try clear c52b1); (try clear c53); (try clear c53b0); (try clear c53b1); (try clear c54); (try clear c55); (try clear q55); (try clear hx303_0); (try clear p2)
          (try clear p3); (try clear p30); (try clear p303); (try clear p6); (try clear q046); (try clear q055); (try clear q1); (try clear q15); (try clear q3); (try clear q30); (try clear q303); (try clear q46); (try clear q55)
          obtain ⟨x20_3,x21_3,rfl,HA,HK3,HO_18,HO_19,HO_20,HB⟩ := hrel
          cases gk with
          | zero => exact absurd HA.out (by simp [reedsol_code_mend.l2])
          | succ k3 =>
           have H := HA.out
           clear HA
           simp only [reedsol_code_mend.l2] at H
           by_cases c63 : x21_3 < (t325.length : Int)
           ·rw [if_pos c63] at H
            have c63b0 : decide (x21_3 < (t325.length : Int)) = true := decide_eq_true c63
            clear c63
            by_cases c64 : 0 ≤ x21_3
            rotate_left
            ·rw [if_neg c64] at H
             exact absurd H (by simp)
            rw [if_pos c64] at H
            have c64b0 : decide (0 ≤ x21_3) = true := decide_eq_true c64
            clear c64
            obtain ⟨ji65,hji65⟩ : ∃ j_ : Int,(wrap64 (x21_3 - 1)) = j_ := ⟨_,rfl⟩
            first | rw [hji65] at H | simp only [hji65] at H
            have hji65w : (IntKind.i64.wrap (x21_3 - 1)) = ji65 := (i64_w _).trans hji65
            by_cases c66 : 0 ≤ (ji65)
            rotate_left
            ·rw [if_neg c66] at H
             exact absurd H (by simp)
            rw [if_pos c66] at H
            have c66b0 : decide (0 ≤ (ji65)) = true := decide_eq_true c66
            clear c66
            by_cases c67 : (ji65) < (x20_3.length : Int)
            rotate_left
            ·rw [if_neg c67] at H
             exact absurd H (by simp)
            rw [if_pos c67] at H
            have c67b0 : decide ((ji65) < (x20_3.length : Int)) = true := decide_eq_true c67
            clear c67
            obtain ⟨y335,hy335⟩ : ∃ y_ : List Int,y_ = (x20_3.set ((ji65) : Int).toNat (rd t325 x21_3)) := ⟨_,rfl⟩
            replace H : (reedsol_code_mend.l2 k3 a0 l1 l2 a3 t325 t328 y335 (wrap64 (x21_3 + 2))) = some (r1,r2) := by rw [hy335]; exact H
            have Ny335 := Aside0.mk hy335
            clear hy335
            have H' := Aside0.mk H
            clear H
            have p334 : 0 ≤ (x21_3 : Int) := oD
            have q334 : x21_3 < (t325.length : Int) := oD
            obtain ⟨ad334,e334,hx334_0⟩ := Kd.at_int (Kd.R_reads' HO_18.out).2.2 x21_3 p334 q334
            cases e334
            replace p334 := eq_true p334
            replace q334 := eq_true q334
            have p68 : 0 ≤ ((ji65) : Int) := oD
            have q68 : ((ji65) : Int) < ((x20_3.length : Int) : Int) := oD
            obtain ⟨go68,co68,eo68,gb68,gl68,cl68,HG68⟩ := Kd.R_form HO_20.out (by omega)
            (first | cases eo68 | (injection eo68 with ea_ en_ ec_; (first | subst ea_ | (injection ea_ with ea_; subst ea_)); subst ec_; clear en_))
            have GB68 := Aside0.mk gb68
            have GG68 := Aside0.mk HG68
            clear gb68 gl68 HG68
            obtain ⟨hx68_0,hf68_0⟩ := Kd.R_celln 0 HO_20.out ((ji65) : Int) p68 q68
            replace p68 := eq_true p68
            replace q68 := eq_true q68
            have HP69 := Kd.R_putg HO_20.out ((ji65) : Int) (rd t325 x21_3)
            go_wp2_with (first | ((with_reducible refine gate_store (t := 5) (p := 149) rfl ?_); refine store_event (t := 5) (p := 149) (v := ?vo_w70) (w1 := (wr.setCell ⟨go68,((ji65) : Int).toNat,none⟩ (.int .u8 (rd t325 x21_3)))) ?hg ?ho ?hn ?hr ?_; (case ho => rfl); (case hg => rfl); (case hn => rfl); (case hr => first | (go_simp; done) | (go_simp; rfl)); intro w70 hw; have hg : wr.grownBy w70 (some go68) := (by rw [hw]; exact HP69.2); have hp_ : Kd.R (Kd.int .u8) 5 w70 w.heap.size (fun k_ => some k_ ≠ (.slice (some ad334) t325.length co59 : Value).ownBlock ∧ some k_ ≠ (v329 : Value).ownBlock) (.slice (some ⟨go68,0,none⟩) x20_3.length co68) y335 := (by rw [hw,Ny335.out]; exact HP69.1); clear HP69; replace HO_18 := aK (Kd.R_after (v := (.slice (some ⟨go68,0,none⟩) x20_3.length co68)) (v1 := (.slice (some ⟨go68,0,none⟩) x20_3.length co68)) (ok := (fun k_ => some k_ ≠ (v329 : Value).ownBlock)) (mvR HO_18.out) hg (.inl rfl)); replace HO_19 := aK (Kd.R_after (v := (.slice (some ⟨go68,0,none⟩) x20_3.length co68)) (v1 := (.slice (some ⟨go68,0,none⟩) x20_3.length co68)) (ok := (fun k_ => some k_ ≠ (.slice (some ad334) t325.length co59 : Value).ownBlock)) (mvR HO_19.out) hg (.inl rfl)); replace HO_20 := aK (hp_); replace HB := aK ((by rw [hw]; exact below_set (HB.out) GB68.out : Below w.heap.size w w70)); clear hg hw hp_))
            (try simp only [addZ] at *)
            go_roundg k3
            case measure => have := HK1.out; have := HK2.out; have := HK3.out; omega
            case rel => exact ⟨(y335),(wrap64 (x21_3 + 2)),(by first | rfl | (simp; done) | (simp [*]; done) | (simp [wrap64]; done)),H',⟨by have := HK1.out; have := HK2.out; have := HK3.out; omega⟩,⟨mvR HO_18.out⟩,⟨mvR HO_19.out⟩,⟨mvR HO_20.out⟩,⟨mvh HB.out⟩⟩
           ·rw [if_neg c63] at H
            have c63b0 : decide (x21_3 < (t325.length : Int)) = false := decide_eq_false c63
            clear c63
            by_cases c71 : 0 ≤ (l1.length : Int)
            rotate_left
            ·rw [if_neg c71] at H
             exact absurd H (by simp)
            rw [if_pos c71] at H
            have c71b0 := eq_true c71
            have c71b1 : decide (0 ≤ (l1.length : Int)) = true := decide_eq_true c71
            clear c71
            by_cases c72 : ((l1.length : Int) : Int).toNat ≤ 281474976710656
            rotate_left
            ·rw [if_neg c72] at H
             exact absurd H (by simp)
            rw [if_pos c72] at H
            have c72b0 := eq_true c72
            have c72b1 : decide (((l1.length : Int) : Int).toNat ≤ 281474976710656) = true := decide_eq_true c72
            clear c72
            obtain ⟨y336,hy336⟩ : ∃ y_ : List Int,y_ = (List.replicate ((l1.length : Int) : Int).toNat 0) := ⟨_,rfl⟩
            replace H : (if y336.length + l1.length < 140737488355328 then ((some (l1.take (min l1.length y336.length) ++ y336.drop (min l1.length y336.length) : List Int)).bind fun y339 => (reedsol_code_mend.l3 k3 a0 l1 l2 a3 t325 t328 x20_3 y339 (y339.length : Int) 0)) else (none)) = some (r1,r2) := by rw [hy336]; exact H
            have Ny336 := Aside0.mk hy336
            clear hy336
            by_cases c73 : y336.length + l1.length < 140737488355328
            rotate_left
            ·rw [if_neg c73] at H
             exact absurd H (by simp)
            rw [if_pos c73] at H
            have LMc73 := Aside0.mk c73
            clear c73
            obtain ⟨y339,hy339⟩ : ∃ y_ : List Int,y_ = (l1.take (min l1.length y336.length) ++ y336.drop (min l1.length y336.length)) := ⟨_,rfl⟩
            replace H : (reedsol_code_mend.l3 k3 a0 l1 l2 a3 t325 t328 x20_3 y339 (y339.length : Int) 0) = some (r1,r2) := by rw [hy339]; exact H
            have Ny339 := Aside0.mk hy339
            clear hy339
            have H' := Aside0.mk H
            clear H
            go_wp2_with (first | ((with_reducible refine gate_dst (N := 152) rfl ?_); refine Kd.R_make (Kd.int .u8) _ 5 rfl (N := 152) rfl 27 _ _ rfl (l1.length : Int) rfl rfl Try.underlying27 (.int .u8 0) 1 info5 rfl (by decide) (by omega) 0 (ok := fun _ => True) (okp := fun _ => True) rfl (fun _ hk => hk) trivial oD (Nat.le_trans (Nat.mul_le_mul_right _ (oD : (l1.length : Int).toNat ≤ 281474976710656)) (by omega)) (Below.refl _ _) (Nat.le_refl _) ?_; intro v337 w74 ho75 hb hg_ hnew_; clear hg_ hnew_; (first | rw [← Ny336.out] at ho75 | (simp only [Int.reduceToNat] at ho75; rw [← Ny336.out] at ho75)); have HO338 := aK (Kd.R_lower (Kd.R_new' (Kd.R_new' (Kd.R_new' ho75 (Kd.R_lt (mvR HO_18.out))) (Kd.R_lt (mvR HO_19.out))) (Kd.R_lt (mvR HO_20.out))) (below_size (mvh HB.out))); replace HO_18 := aK (Kd.R_elder' (mvR HO_18.out) (Kd.R_base ho75) hb); replace HO_19 := aK (Kd.R_elder' (mvR HO_19.out) (Kd.R_base ho75) hb); replace HO_20 := aK (Kd.R_elder' (mvR HO_20.out) (Kd.R_base ho75) hb); replace HB := aK (below_step (mvh HB.out) hb); clear hb ho75) | ((with_reducible refine gate_builtin (b := .copy) (xs := #[.tmp 153,.tmp 154]) rfl ?_); refine Kd.R_copyB (enc := .int .u8) (h1 := fun _ => rfl) (0 : Int) (w0 := w) w.heap.size rfl (.tmp 153) (.tmp 154) 27 27 5 rfl Try.underlying27 (by kernel_rfl) v337 y336 l1 _ _ _ (fun k_ => some k_ ≠ (.slice Ao59 t325.length co59 : Value).ownBlock ∧ some k_ ≠ (v329 : Value).ownBlock ∧ some k_ ≠ (v332 : Value).ownBlock) rfl rfl ?aO ?aR ?aF ?aB ?aS ?aL ?_; (case aR => repeat (first | exact (Kd.C_below HR1.out HB.out) | (with_reducible refine Kd.C_alloc ?_ _) | (with_reducible refine Kd.C_drewN ?_ _) | (with_reducible refine Kd.C_drew ?_))); (case aB => exact (mvh HB.out)); (case aF => exact (fun k_ hk => ⟨Kd.fresh' (Kd.R_lt (mvR HO_18.out)) k_ hk,Kd.fresh' (Kd.R_lt (mvR HO_19.out)) k_ hk,Kd.fresh' (Kd.R_lt (mvR HO_20.out)) k_ hk⟩)); (case aO => exact (by (with_reducible repeat (first | apply Kd.R_alloc | apply Kd.R_drewN | apply Kd.R_drew)); exact Kd.R_mono HO338.out (fun _ hk => ⟨hk.1.1.2,⟨hk.1.2,hk.2⟩⟩))); (case aS => exact (below_size (mvh HB.out))); (case aL => have := LMc73.out; (try simp only [hji51] at this); (try clear hji51w); (try clear hji51); omega); intro v340 w76 hv9_ ho hb hg hat; subst hv9_; rw [← Ny339.out] at ho; replace HO_18 := aK (Kd.R_after (ok := (fun k_ => some k_ ≠ (v329 : Value).ownBlock ∧ some k_ ≠ (v332 : Value).ownBlock)) (mvR HO_18.out) hg hat); replace HO_19 := aK (Kd.R_after (ok := (fun k_ => some k_ ≠ (.slice Ao59 t325.length co59 : Value).ownBlock ∧ some k_ ≠ (v332 : Value).ownBlock)) (mvR HO_19.out) hg hat); replace HO_20 := aK (Kd.R_after (ok := (fun k_ => some k_ ≠ (.slice Ao59 t325.length co59 : Value).ownBlock ∧ some k_ ≠ (v329 : Value).ownBlock)) (mvR HO_20.out) hg hat); replace HB := aK (hb); have HO341 := aK (ho); clear HO338; clear ho hb hg hat; obtain ⟨Ao77,co77,eo77⟩ := Kd.R_slice HO341.out; subst eo77))
            go_loopg [158] k3 (fun kq v158 w' => ∃ (x22_4 : List Int) (x158_4 : Int),v158 = .int .i64 x158_4 ∧ Aside0 (reedsol_code_mend.l3 kq a0 l1 l2 a3 t325 t328 x20_3 x22_4 (y339.length : Int) x158_4 = some (r1,r2)) ∧ Aside0 (kq ≤ k3) ∧ Aside0 (Kd.R (Kd.int .u8) 5 w' w.heap.size (fun k_ => some k_ ≠ (v329 : Value).ownBlock ∧ some k_ ≠ (v332 : Value).ownBlock ∧ some k_ ≠ ((.slice Ao77 y339.length co77) : Value).ownBlock) (.slice Ao59 t325.length co59) t325) ∧ Aside0 (Kd.R (Kd.int .u8) 5 w' w.heap.size (fun k_ => some k_ ≠ ((.slice Ao59 t325.length co59) : Value).ownBlock ∧ some k_ ≠ (v332 : Value).ownBlock ∧ some k_ ≠ ((.slice Ao77 y339.length co77) : Value).ownBlock) v329 t328) ∧ Aside0 (Kd.R (Kd.int .u8) 5 w' w.heap.size (fun k_ => some k_ ≠ ((.slice Ao59 t325.length co59) : Value).ownBlock ∧ some k_ ≠ (v329 : Value).ownBlock ∧ some k_ ≠ ((.slice Ao77 y339.length co77) : Value).ownBlock) v332 x20_3) ∧ Aside0 (Kd.R (Kd.int .u8) 5 w' w.heap.size (fun k_ => some k_ ≠ ((.slice Ao59 t325.length co59) : Value).ownBlock ∧ some k_ ≠ (v329 : Value).ownBlock ∧ some k_ ≠ (v332 : Value).ownBlock) (.slice Ao77 y339.length co77) x22_4) ∧ Aside0 (Below w.heap.size w w'))
            case atStart => exact ⟨(y339),(0),(by first | rfl | (simp; done) | (simp [*]; done) | (simp [wrap64]; done)),H',⟨Nat.le_refl _⟩,⟨by (with_reducible repeat (first | apply Kd.R_alloc | apply Kd.R_drewN | apply Kd.R_drew)); exact Kd.R_mono HO_18.out (fun _ hk => ⟨hk.1.1,⟨hk.1.2,hk.2⟩⟩)⟩,⟨by (with_reducible repeat (first | apply Kd.R_alloc | apply Kd.R_drewN | apply Kd.R_drew)); exact Kd.R_mono HO_19.out (fun _ hk => ⟨hk.1.1,⟨hk.1.2,hk.2⟩⟩)⟩,⟨by (with_reducible repeat (first | apply Kd.R_alloc | apply Kd.R_drewN | apply Kd.R_drew)); exact Kd.R_mono HO_20.out (fun _ hk => ⟨hk.1.1,⟨hk.1.2,hk.2⟩⟩)⟩,⟨mvR HO341.out⟩,⟨mvh HB.out⟩⟩
            case round =>
             clear H'
             (try clear c1); (try clear q1); (try clear hx1); (try clear c2); (try clear p2); (try clear hx2); (try clear c3); (try clear p3); (try clear q3); (try clear hx3); (try clear c4); (try clear q4); (try clear hx4); (try clear c5); (try clear q5); (try clear c6); (try clear p6); (try clear q6)
             (try clear hx6); (try clear hf6); (try clear c7); (try clear c7b0); (try clear c12); (try clear c12b0); (try clear c13); (try clear c13b0); (try clear c14); (try clear c14b0); (try clear q15); (try clear c16); (try clear c17); (try clear hx18); (try clear c26); (try clear hx27)
             (try clear p30); (try clear q30); (try clear hx30); (try clear c31); (try clear c32); (try clear p33); (try clear q33); (try clear hx33); (try clear c34); (try clear c34b0); (try clear c35); (try clear hx38); (try clear c39); (try clear c39b0); (try clear c39b1); (try clear c40)
             (try clear c40b0); (try clear c40b1); (try clear c41); (try clear c41b0); (try clear c41b1); (try clear hx43); (try clear c44); (try clear c44b0); (try clear c46); (try clear q46); (try clear hx49); (try clear c52); (try clear c52b0); (try clear c52b1); (try clear c53); (try clear c53b0)
             (try clear c53b1); (try clear c54); (try clear c55); (try clear q55); (try clear c63); (try clear c63b0); (try clear c64); (try clear c64b0); (try clear p64); (try clear c66); (try clear c66b0); (try clear c67); (try clear c67b0); (try clear p68); (try clear q68); (try clear hx68)
             (try clear hf68); (try clear c71); (try clear c71b0); (try clear c71b1); (try clear c72); (try clear c72b0); (try clear c72b1); (try clear c73); (try clear hx303_0); (try clear hx334_0); (try clear hx68_0); (try clear p2); (try clear p3); (try clear p30); (try clear p303); (try clear p334)
             (try clear p6); (try clear p68); (try clear q046); (try clear q055); (try clear q1); (try clear q15); (try clear q3); (try clear q30); (try clear q303); (try clear q334); (try clear q4); (try clear q46); (try clear q5); (try clear q55); (try clear q68)
             obtain ⟨x22_4,x158_4,rfl,HA,HK4,HO_18,HO_19,HO_20,HO_22,HB⟩ := hrel
             have hl22_4 := (Kd.R_reads' HO_22.out).1
             rw [hl22_4] at HO_22
             (try simp only [hl22_4])
             (try simp only [hl22_4] at HO_18)
             (try simp only [hl22_4] at HO_19)
             (try simp only [hl22_4] at HO_20)
             cases gk with
             | zero => exact absurd HA.out (by simp [reedsol_code_mend.l3])
             | succ k4 =>
              have H := HA.out
              clear HA
              simp only [reedsol_code_mend.l3] at H
              by_cases c78 : x158_4 < (y339.length : Int)
              rotate_left
              ·rw [if_neg c78] at H
               have c78b0 : decide (x158_4 < (y339.length : Int)) = false := decide_eq_false c78
               (try simp only [hl22_4] at c78b0)
               clear c78
               replace H := Option.bind_eq_some_iff.mp H
               obtain ⟨⟨t351,t352⟩,A1120,H⟩ := H
               try dsimp only at H
               have A112 := Aside0.mk A1120
               clear A1120
               have H' := Aside0.mk H
               clear H
               go_wp2_with (first | (go_at_call 53; (with_reducible refine (reedsol_code_syndromes.calls k4 _ a0 _ _ x22_4 t351 t352 _ ?side1 ?side2 ?side3 A112.out).mono ?_); (case side1 => exact (rs_OK_below HR0.out HB.out)); (case side2 => exact mvC (Kd.R_reads' HO_22.out).2.2); (case side3 => exact (Kd.R_reads' HO_22.out).2.1); rintro e w113 ⟨v353,rfl,ho0,hb⟩; have HO354 := aK (Kd.R_lower (Kd.R_new' (Kd.R_new' (Kd.R_new' (Kd.R_new' ho0 (Kd.R_lt (mvR HO_18.out))) (Kd.R_lt (mvR HO_19.out))) (Kd.R_lt (mvR HO_20.out))) (Kd.R_lt (mvR HO_22.out))) (below_size (mvh HB.out))); replace HO_18 := aK (Kd.R_elder' (mvR HO_18.out) (Kd.R_base ho0) hb); replace HO_19 := aK (Kd.R_elder' (mvR HO_19.out) (Kd.R_base ho0) hb); replace HO_20 := aK (Kd.R_elder' (mvR HO_20.out) (Kd.R_base ho0) hb); replace HO_22 := aK (Kd.R_elder' (mvR HO_22.out) (Kd.R_base ho0) hb); replace HB := aK (below_step (mvh HB.out) hb); (try clear hb); (try clear ho0)))
               go_loopg [29,233] k4 (fun kq v29 v233 w' => ∃ (x29_5 : Int) (x233_5 : Int),v29 = .int .i64 x29_5 ∧ v233 = .int .i64 x233_5 ∧ Aside0 (reedsol_code_mend.l4 kq a0 l1 l2 a3 x22_4 t352 x29_5 (x22_4.length : Int) x233_5 = some (r1,r2)) ∧ Aside0 (kq ≤ k4) ∧ Aside0 (Kd.R (Kd.int .u8) 5 w' w.heap.size (fun _ => True) (.slice Ao77 x22_4.length co77) x22_4) ∧ Aside0 (Below w.heap.size w w'))
               case atStart => exact ⟨(0),(0),(by first | rfl | (simp; done) | (simp [*]; done) | (simp [wrap64]; done)),(by first | rfl | (simp; done) | (simp [*]; done) | (simp [wrap64]; done)),H',⟨Nat.le_refl _⟩,⟨by (try simp only [hl22_4]); (with_reducible repeat (first | apply Kd.R_alloc | apply Kd.R_drewN | apply Kd.R_drew)); exact Kd.R_mono HO_22.out (fun _ hk => trivial)⟩,⟨mvh HB.out⟩⟩
               case round =>
                (try clear hHeld)
                clear H'
                (try clear p1); (try clear q1); (try clear hx1); (try clear p2); (try clear p3); (try clear q3); (try clear hx3); (try clear c4); (try clear c5); (try clear p6); (try clear c7); (try clear c8); (try clear hx8); (try clear c9); (try clear hx9); (try clear p10); (try clear q10)
                (try clear hx10); (try clear hf10); (try clear p34); (try clear q34); (try clear hx34); (try clear c45); (try clear c46); (try clear c48); (try clear c53); (try clear c56); (try clear p64); (try clear c78); (try clear c78b0); (try clear c79); (try clear hx80); (try clear c83)
                (try clear c83b0); (try clear c83b1); (try clear c85); (try clear c85b0); (try clear c85b1); (try clear c89); (try clear c89b0); (try clear c90); (try clear c90b0); (try clear hx91); (try clear hx92); (try clear hx93); (try clear hx94); (try clear c95); (try clear c95b0); (try clear c95b1)
                (try clear hx97); (try clear p101); (try clear q101); (try clear hx101); (try clear hf101); (try clear hx101_0); (try clear hx345_0); (try clear p101); (try clear p345); (try clear q101); (try clear q345)
                obtain ⟨x29_5,x233_5,rfl,rfl,HA,HK5,HO_22,HB⟩ := hrel
                cases gk with
                | zero => exact absurd HA.out (by simp [reedsol_code_mend.l4])
                | succ k5 =>
                 have H := HA.out
                 clear HA
                 simp only [reedsol_code_mend.l4] at H
                 by_cases c114 : x233_5 < (x22_4.length : Int)
                 rotate_left
                 ·rw [if_neg c114] at H
                  have c114b0 : decide (x233_5 < (x22_4.length : Int)) = false := decide_eq_false c114
                  (try simp only [hl22_4] at c114b0)
                  clear c114
                  by_cases c125 : t352 = true
                  rotate_left
                  ·replace c125 := Bool.eq_false_iff.mpr c125
                   subst c125
                   have H1 : (some (x22_4,false)) = some (r1,r2) := by rw [if_neg (show ¬ (false = true) by decide)] at H; exact H
                   clear H
                   have H := H1
                   clear H1
                   simp only [Option.some.injEq,Prod.mk.injEq] at H
                   obtain ⟨rfl,rfl⟩ := H
                   try go_wp2
                   have n0_ := aK (Kd.R_drew HO_22.out)
                   have n1_ := aK (below_drew1 HB.out)
                   clear HO_22 HB
                   have HO_22 := n0_
                   have HB := n1_
                   clear n0_ n1_
                   refine start_ (n := 16) (S := fun w' => True) (ds := []) (bts 16 0) (by kernel_rfl) rfl rfl trivial (fun hHeld => ?_); refine with_tabW reedsol_code_mend.tab45 reedsol_code_mend.bits45 (fun HT_ HW_ => ?_)
                   generalize wr.drew = w129 at HO_22 HB hHeld ⊢
                   refine pu_ 0 255 16 1 HT_.out ?_; refine pu_ 1 256 16 3 HT_.out ?_; refine pu_ 2 257 16 7 HT_.out ?_; refine pn_ 3 258 16 15 HT_.out ?_; refine pn_ 4 259 16 31 HT_.out ?_; refine pn_ 5 260 16 63 HT_.out ?_; refine pn_ 6 261 16 127 HT_.out ?_; refine pn_ 7 262 16 255 HT_.out ?_; refine pn_ 8 263 16 511 HT_.out ?_; refine pn_ 9 264 16 1023 HT_.out ?_; refine pn_ 10 265 16 2047 HT_.out ?_; refine pn_ 11 266 16 4095 HT_.out ?_; refine pn_ 12 267 16 8191 HT_.out ?_; refine pu_ 13 268 16 16383 HT_.out ?_; refine pu_ 14 8 16 32767 HT_.out ?_; refine pu_ 15 9 16 65535 HT_.out ?_
                   refine done_ (done_of HT_.out (by kernel_rfl)) ?_
                   try go_wp2
                   go_ret2
                   exact ⟨_,by first | rfl | (simp [errW_none,errW_some] <;> rfl) | (simp only [← hji51]; first | rfl | (simp [errW_none,errW_some] <;> rfl)) | (simp [*,errW_none,errW_some] <;> rfl),by (with_reducible repeat (first | apply Kd.R_alloc | apply Kd.R_drewN | apply Kd.R_drew)); exact HO_22.out,mvh HB.out⟩
                  subst c125
                  have H1 : (if 0 < a0.size then (some (x22_4,decide ((wrap64 (2 * x29_5)) ≤ (wrap64 (a0.Par - a3))))) else (none)) = some (r1,r2) := by rw [if_pos rfl] at H; exact H
                  clear H
                  have H := H1
                  clear H1
                  by_cases c126 : 0 < a0.size
                  rotate_left
                  ·rw [if_neg c126] at H
                   exact absurd H (by simp)
                  rw [if_pos c126] at H
                  clear c126
                  simp only [Option.some.injEq,Prod.mk.injEq] at H
                  obtain ⟨rfl,rfl⟩ := H
                  try go_wp2
                  have n0_ := aK (Kd.R_drew HO_22.out)
                  have n1_ := aK (below_drew1 HB.out)
                  clear HO_22 HB
                  have HO_22 := n0_
                  have HB := n1_
                  clear n0_ n1_
                  have ho127 := rs_At_Par HT0.out
                  have hx127 := (HB.out.cell (World.block_lt_of_cell? w _ ho127)).trans ho127
                  refine start_ (n := 16) (S := fun w' => w'.cell? ⟨b_,3,none⟩ = some (.int .i64 a0.Par)) (ds := []) (bts 16 0) (by kernel_rfl) rfl rfl (((HB.out.cell (World.block_lt_of_cell? w _ ho127)).trans ho127)) (fun hHeld => ?_); refine with_tabW reedsol_code_mend.tab45 reedsol_code_mend.bits45 (fun HT_ HW_ => ?_)
                  generalize wr.drew = w128 at HO_22 HB hHeld ⊢
                  refine pu_ 0 255 16 1 HT_.out ?_; refine pu_ 1 256 16 3 HT_.out ?_; refine pu_ 2 257 16 7 HT_.out ?_; refine pu_ 3 258 16 15 HT_.out ?_; refine pu_ 4 259 16 31 HT_.out ?_; refine pu_ 5 260 16 63 HT_.out ?_; refine pu_ 6 261 16 127 HT_.out ?_; refine pu_ 7 262 16 255 HT_.out ?_; refine pu_ 8 263 16 511 HT_.out ?_; refine pu_ 10 265 16 1535 HT_.out ?_; refine pu_ 14 8 16 17919 HT_.out ?_
                  refine take_ (i := 9) (N := some 264) (v := ?_) (a' := ?_) (bts 16 18431) rfl rfl (take_ofW HT_.out HW_.out (by kernel_rfl)) (fun _ _ _ h => h) (Or.inl ⟨by rfl,?_⟩) hHeld ?_ ?_
                  rotate_left
                  ·intro w' s0
                   go_simp
                   with_reducible rfl
                  rotate_left
                  ·simp only [Act.put,List.setIfInBounds_toArray,List.set_cons_zero,List.set_cons_succ,i64_w,i32_w]
                   rfl
                  refine pu_ 11 266 16 20479 HT_.out ?_; refine pu_ 12 267 16 24575 HT_.out ?_; refine pu_ 13 268 16 32767 HT_.out ?_; refine pu_ 15 9 16 65535 HT_.out ?_
                  refine done_ (done_of HT_.out (by kernel_rfl)) ?_
                  try go_wp2
                  go_ret2
                  exact ⟨_,by first | rfl | (simp [errW_none,errW_some] <;> rfl) | (simp only [← hji51]; first | rfl | (simp [errW_none,errW_some] <;> rfl)) | (simp [*,errW_none,errW_some] <;> rfl),by (with_reducible repeat (first | apply Kd.R_alloc | apply Kd.R_drewN | apply Kd.R_drew)); exact HO_22.out,mvh HB.out⟩
                 rw [if_pos c114] at H
                 have c114b0 : decide (x233_5 < (x22_4.length : Int)) = true := decide_eq_true c114
                 (try simp only [hl22_4] at c114b0)
                 clear c114
                 by_cases c115 : 0 ≤ x233_5
                 rotate_left
                 ·rw [if_neg c115] at H
                  exact absurd H (by simp)
                 rw [if_pos c115] at H
                 have c115b0 : decide (0 ≤ x233_5) = true := decide_eq_true c115
                 clear c115
                 by_cases c116 : x233_5 < (x22_4.length : Int)
                 rotate_left
                 ·rw [if_neg c116] at H
                  exact absurd H (by simp)
                 rw [if_pos c116] at H
                 have c116b0 : decide (x233_5 < (x22_4.length : Int)) = true := decide_eq_true c116
                 (try simp only [hl22_4] at c116b0)
                 clear c116
                 by_cases c117 : x233_5 < (l1.length : Int)
                 rotate_left
                 ·rw [if_neg c117] at H
                  exact absurd H (by simp)
                 rw [if_pos c117] at H
                 have c117b0 : decide (x233_5 < (l1.length : Int)) = true := decide_eq_true c117
                 (try simp only [hl22_4] at c117b0)
                 clear c117
                 by_cases c118 : (rd x22_4 x233_5) = (rd l1 x233_5)
                 ·rw [if_pos c118] at H
                  have c118b0 : ((rd x22_4 x233_5) == (rd l1 x233_5)) = true := beq_iff_eq.mpr c118
                  have c118b1 : ((rd x22_4 x233_5) != (rd l1 x233_5)) = false := bne_eq_false_iff_eq.mpr c118
                  clear c118
                  have H' := Aside0.mk H
                  clear H
                  try go_wp2
                  have n0_ := aK (Kd.R_drew HO_22.out)
                  have n1_ := aK (below_drew1 HB.out)
                  clear HO_22 HB
                  have HO_22 := n0_
                  have HB := n1_
                  clear n0_ n1_
                  have p355 : 0 ≤ (x233_5 : Int) := oD
                  have q355 : x233_5 < (x22_4.length : Int) := oD
                  obtain ⟨ad355,e355,hx355_0⟩ := Kd.at_int (Kd.R_reads' HO_22.out).2.2 x233_5 p355 q355
                  cases e355
                  replace p355 := eq_true p355
                  replace q355 := eq_true q355
                  have p356 : 0 ≤ (x233_5 : Int) := oD
                  have q356 : x233_5 < (l1.length : Int) := oD
                  obtain ⟨ad356,e356,hx356_0⟩ := Kd.at_int HR1.out x233_5 p356 q356
                  have hw356_0 := hx356_0
                  cases e356
                  replace hx356_0 := (HB.out.cell (World.block_lt_of_cell? w _ hx356_0)).trans hx356_0
                  replace p356 := eq_true p356
                  replace q356 := eq_true q356
                  refine start_ (n := 16) (S := fun w' => w'.cell? (ad355.add (x233_5).toNat) = some (.int .u8 (rd x22_4 x233_5)) ∧ w'.cell? (ad356.add (x233_5).toNat) = some (.int .u8 (rd l1 x233_5))) (ds := []) (bts 16 0) (by kernel_rfl) rfl rfl ⟨hx355_0,((HB.out.cell (World.block_lt_of_cell? w _ hw356_0)).trans hw356_0)⟩ (fun hHeld => ?_); refine with_tabW reedsol_code_mend.tab42 reedsol_code_mend.bits42 (fun HT_ HW_ => ?_)
                  generalize wr.drew = w119 at HO_22 HB hx355_0 hx356_0 hHeld ⊢
                  refine pu_ 0 236 16 1 HT_.out ?_; refine pu_ 1 237 16 3 HT_.out ?_; refine pu_ 2 238 16 7 HT_.out ?_; refine pu_ 4 240 16 23 HT_.out ?_; refine pu_ 5 241 16 55 HT_.out ?_; refine pu_ 6 242 16 119 HT_.out ?_; refine ta_ 3 239 16 127 rfl rfl HT_.out HW_.out hHeld (by rintro w' ⟨s0,s1⟩; go_simp; with_reducible rfl) ?_; refine ta_ 7 243 16 255 rfl rfl HT_.out HW_.out hHeld (by rintro w' ⟨s0,s1⟩; go_simp; with_reducible rfl) ?_; refine pu_ 8 244 16 511 HT_.out ?_; refine pu_ 9 245 16 1023 HT_.out ?_; refine pn_ 10 246 16 2047 HT_.out ?_; refine pn_ 11 247 16 4095 HT_.out ?_; refine pn_ 12 248 16 8191 HT_.out ?_; refine pn_ 13 249 16 16383 HT_.out ?_; refine pn_ 14 250 16 32767 HT_.out ?_; refine pu_ 15 251 16 65535 HT_.out ?_
                  refine done_ (done_of HT_.out (by kernel_rfl)) ?_
                  try go_wp2
                  (try simp only [addZ] at *)
                  go_roundg k5
                  case measure => have := HK1.out; have := HK2.out; have := HK3.out; have := HK4.out; have := HK5.out; omega
                  case rel => exact ⟨(x29_5),(wrap64 (x233_5 + 1)),(by first | rfl | (simp; done) | (simp [*]; done) | (simp [wrap64]; done)),(by first | rfl | (simp; done) | (simp [*]; done) | (simp [wrap64]; done)),H',⟨by have := HK1.out; have := HK2.out; have := HK3.out; have := HK4.out; have := HK5.out; omega⟩,⟨by (try simp only [hl22_4]); exact mvR HO_22.out⟩,⟨mvh HB.out⟩⟩
                 ·rw [if_neg c118] at H
                  have c118b0 : ((rd x22_4 x233_5) == (rd l1 x233_5)) = false := beq_eq_false_iff_ne.mpr c118
                  have c118b1 : ((rd x22_4 x233_5) != (rd l1 x233_5)) = true := bne_iff_ne.mpr c118
                  by_cases c120 : x233_5 < (l2.length : Int)
                  rotate_left
                  ·rw [if_neg c120] at H
                   exact absurd H (by simp)
                  rw [if_pos c120] at H
                  have c120b0 : decide (x233_5 < (l2.length : Int)) = true := decide_eq_true c120
                  (try simp only [hl22_4] at c120b0)
                  clear c120
                  obtain ⟨bq121,hbq121⟩ : ∃ b_ : Bool,b_ = (rdOf false l2 x233_5) := ⟨_,rfl⟩
                  replace H : (if bq121 = true then (reedsol_code_mend.l4 k5 a0 l1 l2 a3 x22_4 t352 x29_5 (x22_4.length : Int) (wrap64 (x233_5 + 1))) else (reedsol_code_mend.l4 k5 a0 l1 l2 a3 x22_4 t352 (wrap64 (x29_5 + 1)) (x22_4.length : Int) (wrap64 (x233_5 + 1)))) = some (r1,r2) := by rw [← hbq121] at H; exact H
                  have Nbq121 := Aside0.mk hbq121
                  clear hbq121
                  by_cases c122 : bq121 = true
                  ·subst c122
                   have H1 : (reedsol_code_mend.l4 k5 a0 l1 l2 a3 x22_4 t352 x29_5 (x22_4.length : Int) (wrap64 (x233_5 + 1))) = some (r1,r2) := by rw [if_pos rfl] at H; exact H
                   clear H
                   have H := H1
                   clear H1
                   have H' := Aside0.mk H
                   clear H
                   try go_wp2
                   have n0_ := aK (Kd.R_drew HO_22.out)
                   have n1_ := aK (below_drew1 HB.out)
                   clear HO_22 HB
                   have HO_22 := n0_
                   have HB := n1_
                   clear n0_ n1_
                   have p355 : 0 ≤ (x233_5 : Int) := oD
                   have q355 : x233_5 < (x22_4.length : Int) := oD
                   obtain ⟨ad355,e355,hx355_0⟩ := Kd.at_int (Kd.R_reads' HO_22.out).2.2 x233_5 p355 q355
                   cases e355
                   replace p355 := eq_true p355
                   replace q355 := eq_true q355
                   have p356 : 0 ≤ (x233_5 : Int) := oD
                   have q356 : x233_5 < (l1.length : Int) := oD
                   obtain ⟨ad356,e356,hx356_0⟩ := Kd.at_int HR1.out x233_5 p356 q356
                   have hw356_0 := hx356_0
                   cases e356
                   replace hx356_0 := (HB.out.cell (World.block_lt_of_cell? w _ hx356_0)).trans hx356_0
                   replace p356 := eq_true p356
                   replace q356 := eq_true q356
                   have p357 : 0 ≤ (x233_5 : Int) := oD
                   have q357 : x233_5 < (l2.length : Int) := oD
                   obtain ⟨ad357,e357,hx357_0⟩ := Kd.at_bool HR2.out x233_5 p357 q357
                   have hw357_0 := hx357_0
                   (try rw [← Nbq121.out] at hx357_0 hw357_0)
                   cases e357
                   replace hx357_0 := (HB.out.cell (World.block_lt_of_cell? w _ hx357_0)).trans hx357_0
                   replace p357 := eq_true p357
                   replace q357 := eq_true q357
                   refine start_ (n := 16) (S := fun w' => w'.cell? (ad355.add (x233_5).toNat) = some (.int .u8 (rd x22_4 x233_5)) ∧ w'.cell? (ad356.add (x233_5).toNat) = some (.int .u8 (rd l1 x233_5)) ∧ w'.cell? (ad357.add (x233_5).toNat) = some (.bool true)) (ds := []) (bts 16 0) (by kernel_rfl) rfl rfl ⟨hx355_0,((HB.out.cell (World.block_lt_of_cell? w _ hw356_0)).trans hw356_0),((HB.out.cell (World.block_lt_of_cell? w _ hw357_0)).trans hw357_0)⟩ (fun hHeld => ?_); refine with_tabW reedsol_code_mend.tab42 reedsol_code_mend.bits42 (fun HT_ HW_ => ?_)
                   generalize wr.drew = w123 at HO_22 HB hx355_0 hx356_0 hx357_0 hHeld ⊢
                   refine pu_ 0 236 16 1 HT_.out ?_; refine pu_ 1 237 16 3 HT_.out ?_; refine pu_ 2 238 16 7 HT_.out ?_; refine pu_ 4 240 16 23 HT_.out ?_; refine pu_ 5 241 16 55 HT_.out ?_; refine pu_ 6 242 16 119 HT_.out ?_; refine ta_ 3 239 16 127 rfl rfl HT_.out HW_.out hHeld (by rintro w' ⟨s0,s1,s2⟩; go_simp; with_reducible rfl) ?_; refine ta_ 7 243 16 255 rfl rfl HT_.out HW_.out hHeld (by rintro w' ⟨s0,s1,s2⟩; go_simp; with_reducible rfl) ?_; refine pu_ 8 244 16 511 HT_.out ?_; refine pu_ 9 245 16 1023 HT_.out ?_; refine pu_ 10 246 16 2047 HT_.out ?_; refine pu_ 11 247 16 4095 HT_.out ?_; refine pu_ 12 248 16 8191 HT_.out ?_; refine ta_ 13 249 16 16383 rfl rfl HT_.out HW_.out hHeld (by rintro w' ⟨s0,s1,s2⟩; go_simp; with_reducible rfl) ?_; refine pu_ 14 250 16 32767 HT_.out ?_; refine pu_ 15 251 16 65535 HT_.out ?_
                   refine done_ (done_of HT_.out (by kernel_rfl)) ?_
                   try go_wp2
                   (try simp only [addZ] at *)
                   go_roundg k5
                   case measure => have := HK1.out; have := HK2.out; have := HK3.out; have := HK4.out; have := HK5.out; omega
                   case rel => exact ⟨(x29_5),(wrap64 (x233_5 + 1)),(by first | rfl | (simp; done) | (simp [*]; done) | (simp [wrap64]; done)),(by first | rfl | (simp; done) | (simp [*]; done) | (simp [wrap64]; done)),H',⟨by have := HK1.out; have := HK2.out; have := HK3.out; have := HK4.out; have := HK5.out; omega⟩,⟨by (try simp only [hl22_4]); exact mvR HO_22.out⟩,⟨mvh HB.out⟩⟩
                  ·replace c122 := Bool.eq_false_iff.mpr c122
                   subst c122
                   have H1 : (reedsol_code_mend.l4 k5 a0 l1 l2 a3 x22_4 t352 (wrap64 (x29_5 + 1)) (x22_4.length : Int) (wrap64 (x233_5 + 1))) = some (r1,r2) := by rw [if_neg (show ¬ (false = true) by decide)] at H; exact H
                   clear H
                   have H := H1
                   clear H1
                   have H' := Aside0.mk H
                   clear H
                   try go_wp2
                   have n0_ := aK (Kd.R_drew HO_22.out)
                   have n1_ := aK (below_drew1 HB.out)
                   clear HO_22 HB
                   have HO_22 := n0_
                   have HB := n1_
                   clear n0_ n1_
                   have p355 : 0 ≤ (x233_5 : Int) := oD
                   have q355 : x233_5 < (x22_4.length : Int) := oD
                   obtain ⟨ad355,e355,hx355_0⟩ := Kd.at_int (Kd.R_reads' HO_22.out).2.2 x233_5 p355 q355
                   cases e355
                   replace p355 := eq_true p355
                   replace q355 := eq_true q355
                   have p356 : 0 ≤ (x233_5 : Int) := oD
                   have q356 : x233_5 < (l1.length : Int) := oD
                   obtain ⟨ad356,e356,hx356_0⟩ := Kd.at_int HR1.out x233_5 p356 q356
                   have hw356_0 := hx356_0
                   cases e356
                   replace hx356_0 := (HB.out.cell (World.block_lt_of_cell? w _ hx356_0)).trans hx356_0
                   replace p356 := eq_true p356
                   replace q356 := eq_true q356
                   have p357 : 0 ≤ (x233_5 : Int) := oD
                   have q357 : x233_5 < (l2.length : Int) := oD
                   obtain ⟨ad357,e357,hx357_0⟩ := Kd.at_bool HR2.out x233_5 p357 q357
                   have hw357_0 := hx357_0
                   (try rw [← Nbq121.out] at hx357_0 hw357_0)
                   cases e357
                   replace hx357_0 := (HB.out.cell (World.block_lt_of_cell? w _ hx357_0)).trans hx357_0
                   replace p357 := eq_true p357
                   replace q357 := eq_true q357
                   refine start_ (n := 16) (S := fun w' => w'.cell? (ad355.add (x233_5).toNat) = some (.int .u8 (rd x22_4 x233_5)) ∧ w'.cell? (ad356.add (x233_5).toNat) = some (.int .u8 (rd l1 x233_5)) ∧ w'.cell? (ad357.add (x233_5).toNat) = some (.bool false)) (ds := []) (bts 16 0) (by kernel_rfl) rfl rfl ⟨hx355_0,((HB.out.cell (World.block_lt_of_cell? w _ hw356_0)).trans hw356_0),((HB.out.cell (World.block_lt_of_cell? w _ hw357_0)).trans hw357_0)⟩ (fun hHeld => ?_); refine with_tabW reedsol_code_mend.tab42 reedsol_code_mend.bits42 (fun HT_ HW_ => ?_)
                   generalize wr.drew = w124 at HO_22 HB hx355_0 hx356_0 hx357_0 hHeld ⊢
                   refine pu_ 0 236 16 1 HT_.out ?_; refine pu_ 1 237 16 3 HT_.out ?_; refine pu_ 2 238 16 7 HT_.out ?_; refine pu_ 4 240 16 23 HT_.out ?_; refine pu_ 5 241 16 55 HT_.out ?_; refine pu_ 6 242 16 119 HT_.out ?_; refine ta_ 3 239 16 127 rfl rfl HT_.out HW_.out hHeld (by rintro w' ⟨s0,s1,s2⟩; go_simp; with_reducible rfl) ?_; refine ta_ 7 243 16 255 rfl rfl HT_.out HW_.out hHeld (by rintro w' ⟨s0,s1,s2⟩; go_simp; with_reducible rfl) ?_; refine pu_ 8 244 16 511 HT_.out ?_; refine pu_ 9 245 16 1023 HT_.out ?_; refine pu_ 10 246 16 2047 HT_.out ?_; refine pu_ 11 247 16 4095 HT_.out ?_; refine pu_ 12 248 16 8191 HT_.out ?_; refine ta_ 13 249 16 16383 rfl rfl HT_.out HW_.out hHeld (by rintro w' ⟨s0,s1,s2⟩; go_simp; with_reducible rfl) ?_; refine pu_ 14 250 16 32767 HT_.out ?_; refine pu_ 15 251 16 65535 HT_.out ?_
                   refine done_ (done_of HT_.out (by kernel_rfl)) ?_
                   try go_wp2
                   (try simp only [addZ] at *)
                   go_roundg k5
                   case measure => have := HK1.out; have := HK2.out; have := HK3.out; have := HK4.out; have := HK5.out; omega
                   case rel => exact ⟨(wrap64 (x29_5 + 1)),(wrap64 (x233_5 + 1)),(by first | rfl | (simp; done) | (simp [*]; done) | (simp [wrap64]; done)),(by first | rfl | (simp; done) | (simp [*]; done) | (simp [wrap64]; done)),H',⟨by have := HK1.out; have := HK2.out; have := HK3.out; have := HK4.out; have := HK5.out; omega⟩,⟨by (try simp only [hl22_4]); exact mvR HO_22.out⟩,⟨mvh HB.out⟩⟩
              rw [if_pos c78] at H
              have c78b0 : decide (x158_4 < (y339.length : Int)) = true := decide_eq_true c78
              (try simp only [hl22_4] at c78b0)
              clear c78
              by_cases c79 : 0 < a0.size
              rotate_left
              ·rw [if_neg c79] at H
               exact absurd H (by simp)
              rw [if_pos c79] at H
              clear c79
              replace H := Option.bind_eq_some_iff.mp H
              obtain ⟨t342,A810,H⟩ := H
              try dsimp only at H
              have A81 := Aside0.mk A810
              clear A810
              replace H := Option.bind_eq_some_iff.mp H
              obtain ⟨t343,A820,H⟩ := H
              try dsimp only at H
              have A82 := Aside0.mk A820
              clear A820
              by_cases c83 : t343 = 0
              rotate_left
              ·rw [if_neg c83] at H
               have c83b0 : (t343 == 0) = false := beq_eq_false_iff_ne.mpr c83
               have c83b1 : (t343 != 0) = true := bne_iff_ne.mpr c83
               have H' := Aside0.mk H
               clear H
               have ho80 := rs_At_exp HT0.out
               have hx80 := (HB.out.cell (World.block_lt_of_cell? w _ ho80)).trans ho80
               go_wp2_with (first | (go_at_call 45; (with_reducible refine (gT_Exp.calls b_ p_ c_ d_ g_ a0 (wrap64 (-(wrap64 ((wrap64 ((l1.length : Int) - 1)) - x158_4)))) t342 _ ?side1 A81.out).mono ?_); (case side1 => exact (rs_At_below HT0.out HB.out)); rintro e w' ⟨rfl,⟨nd,rfl⟩⟩) | (go_at_call 56; (with_reducible refine (reedsol_code_value.calls k4 _ a0 _ _ t325 t342 t343 _ ?side1 ?side2 ?side3 A82.out).mono ?_); (case side1 => exact (rs_OK_below HR0.out (mvh HB.out))); (case side2 => exact mvC (Kd.R_reads' HO_18.out).2.2); (case side3 => exact (Kd.R_reads' HO_18.out).2.1); rintro e w111 ⟨rfl,hb⟩; replace HO_18 := aK (Kd.R_below (mvR HO_18.out) hb); replace HO_19 := aK (Kd.R_below (mvR HO_19.out) hb); replace HO_20 := aK (Kd.R_below (mvR HO_20.out) hb); replace HO_22 := aK (Kd.R_below (mvR HO_22.out) hb); replace HB := aK (below_step (mvh HB.out) hb); (try clear hb)))
               (try simp only [← hl22_4])
               (try simp only [addZ] at *)
               go_roundg k4
               case measure => have := HK1.out; have := HK2.out; have := HK3.out; have := HK4.out; omega
               case rel => exact ⟨(x22_4),(wrap64 (x158_4 + 1)),(by first | rfl | (simp; done) | (simp [*]; done) | (simp [wrap64]; done)),H',⟨by have := HK1.out; have := HK2.out; have := HK3.out; have := HK4.out; omega⟩,⟨by (try simp only [hl22_4]); exact mvR HO_18.out⟩,⟨by (try simp only [hl22_4]); exact mvR HO_19.out⟩,⟨by (try simp only [hl22_4]); exact mvR HO_20.out⟩,⟨by (try simp only [hl22_4]); exact mvR HO_22.out⟩,⟨mvh HB.out⟩⟩
              rw [if_pos c83] at H
              have c83b0 : (t343 == 0) = true := beq_iff_eq.mpr c83
              have c83b1 : (t343 != 0) = false := bne_eq_false_iff_eq.mpr c83
              clear c83
              replace H := Option.bind_eq_some_iff.mp H
              obtain ⟨t344,A840,H⟩ := H
              try dsimp only at H
              have A84 := Aside0.mk A840
              clear A840
              by_cases c85 : t344 = 0
              ·rw [if_pos c85] at H
               have c85b0 : (t344 == 0) = true := beq_iff_eq.mpr c85
               have c85b1 : (t344 != 0) = false := bne_eq_false_iff_eq.mpr c85
               clear c85
               simp only [Option.some.injEq,Prod.mk.injEq] at H
               obtain ⟨rfl,rfl⟩ := H
               have ho80 := rs_At_exp HT0.out
               have hx80 := (HB.out.cell (World.block_lt_of_cell? w _ ho80)).trans ho80
               go_wp2_with (first | (go_at_call 45; (with_reducible refine (gT_Exp.calls b_ p_ c_ d_ g_ a0 (wrap64 (-(wrap64 ((wrap64 ((l1.length : Int) - 1)) - x158_4)))) t342 _ ?side1 A81.out).mono ?_); (case side1 => exact (rs_At_below HT0.out HB.out)); rintro e w' ⟨rfl,⟨nd,rfl⟩⟩) | (go_at_call 56; (with_reducible refine (reedsol_code_value.calls k4 _ a0 _ _ t325 t342 t343 _ ?side1 ?side2 ?side3 A82.out).mono ?_); (case side1 => exact (rs_OK_below HR0.out (mvh HB.out))); (case side2 => exact mvC (Kd.R_reads' HO_18.out).2.2); (case side3 => exact (Kd.R_reads' HO_18.out).2.1); rintro e w86 ⟨rfl,hb⟩; replace HO_18 := aK (Kd.R_below (mvR HO_18.out) hb); replace HO_19 := aK (Kd.R_below (mvR HO_19.out) hb); replace HO_20 := aK (Kd.R_below (mvR HO_20.out) hb); replace HO_22 := aK (Kd.R_below (mvR HO_22.out) hb); replace HB := aK (below_step (mvh HB.out) hb); (try clear hb); obtain ⟨Ao87,co87,eo87⟩ := Kd.R_slice HO_20.out; subst eo87) | (go_at_call 56; (with_reducible refine (reedsol_code_value.calls k4 _ a0 _ _ x20_3 t342 t344 _ ?side1 ?side2 ?side3 A84.out).mono ?_); (case side1 => exact (rs_OK_below HR0.out HB.out)); (case side2 => exact mvC (Kd.R_reads' HO_20.out).2.2); (case side3 => exact (Kd.R_reads' HO_20.out).2.1); rintro e w88 ⟨rfl,hb⟩; replace HO_18 := aK (Kd.R_below (mvR HO_18.out) hb); replace HO_19 := aK (Kd.R_below (mvR HO_19.out) hb); replace HO_20 := aK (Kd.R_below (mvR HO_20.out) hb); replace HO_22 := aK (Kd.R_below (mvR HO_22.out) hb); replace HB := aK (below_step (mvh HB.out) hb); (try clear hb)))
               go_ret2
               exact ⟨_,by first | rfl | (simp [errW_none,errW_some] <;> rfl) | (simp only [← hji51]; first | rfl | (simp [errW_none,errW_some] <;> rfl)) | (simp [*,errW_none,errW_some] <;> rfl),by first | exact Kd.R_nil _ _ _ _ _ | exact Kd.N_nil _ _ _ _ _ | exact Kd.V_nil _ _ _ _ _ | exact Kd.Q_nil _ _ _ _ _ | exact Kd.S_nil _ _ _ _ _,mvh HB.out⟩
              ·rw [if_neg c85] at H
               have c85b0 : (t344 == 0) = false := beq_eq_false_iff_ne.mpr c85
               have c85b1 : (t344 != 0) = true := bne_iff_ne.mpr c85
               by_cases c89 : 0 ≤ x158_4
               rotate_left
               ·rw [if_neg c89] at H
                exact absurd H (by simp)
               rw [if_pos c89] at H
               have c89b0 : decide (0 ≤ x158_4) = true := decide_eq_true c89
               clear c89
               by_cases c90 : x158_4 < (x22_4.length : Int)
               rotate_left
               ·rw [if_neg c90] at H
                exact absurd H (by simp)
               rw [if_pos c90] at H
               have c90b0 : decide (x158_4 < (x22_4.length : Int)) = true := decide_eq_true c90
               (try simp only [hl22_4] at c90b0)
               clear c90
               by_cases c95 : (wrap64 ((a0.size : Int) - 1)) = 0
               ·rw [if_pos c95] at H
                exact absurd H (by simp)
               ·rw [if_neg c95] at H
                have c95b0 : ((wrap64 ((a0.size : Int) - 1)) == 0) = false := beq_eq_false_iff_ne.mpr c95
                have c95b1 : ((wrap64 ((a0.size : Int) - 1)) != 0) = true := bne_iff_ne.mpr c95
                replace H := Option.bind_eq_some_iff.mp H
                obtain ⟨t346,A960,H⟩ := H
                try dsimp only at H
                have A96 := Aside0.mk A960
                clear A960
                replace H := Option.bind_eq_some_iff.mp H
                obtain ⟨t347,A980,H⟩ := H
                try dsimp only at H
                have A98 := Aside0.mk A980
                clear A980
                replace H := Option.bind_eq_some_iff.mp H
                obtain ⟨t348,A990,H⟩ := H
                try dsimp only at H
                have A99 := Aside0.mk A990
                clear A990
                replace H := Option.bind_eq_some_iff.mp H
                obtain ⟨t349,A1000,H⟩ := H
                try dsimp only at H
                have A100 := Aside0.mk A1000
                clear A1000
                obtain ⟨y350,hy350⟩ : ∃ y_ : List Int,y_ = (x22_4.set (x158_4 : Int).toNat (Go.bits .xor .u8 (rd x22_4 x158_4) t349)) := ⟨_,rfl⟩
                replace H : (reedsol_code_mend.l3 k4 a0 l1 l2 a3 t325 t328 x20_3 y350 (y339.length : Int) (wrap64 (x158_4 + 1))) = some (r1,r2) := by rw [hy350]; exact H
                have Ny350 := Aside0.mk hy350
                clear hy350
                have H' := Aside0.mk H
                clear H
                have ho80 := rs_At_exp HT0.out
                have hx80 := (HB.out.cell (World.block_lt_of_cell? w _ ho80)).trans ho80
                try go_wp2_with (first | (go_at_call 45; (with_reducible refine (gT_Exp.calls b_ p_ c_ d_ g_ a0 (wrap64 (-(wrap64 ((wrap64 ((l1.length : Int) - 1)) - x158_4)))) t342 _ ?side1 A81.out).mono ?_); (case side1 => exact (rs_At_below HT0.out HB.out)); rintro e w' ⟨rfl,⟨nd,rfl⟩⟩; (try (rw [drewN_self wr]; generalize hq_ : World.drewN wr _ = wr; have n0_ : Aside0 (Kd.R (Kd.int .u8) 5 wr w.heap.size (fun k_ => some k_ ≠ (v329 : Value).ownBlock ∧ some k_ ≠ (v332 : Value).ownBlock ∧ some k_ ≠ (.slice Ao77 x22_4.length co77 : Value).ownBlock) (.slice Ao59 t325.length co59) t325) := ⟨by rw [← hq_]; exact (mvR HO_18.out)⟩; have n1_ : Aside0 (Kd.R (Kd.int .u8) 5 wr w.heap.size (fun k_ => some k_ ≠ (.slice Ao59 t325.length co59 : Value).ownBlock ∧ some k_ ≠ (v332 : Value).ownBlock ∧ some k_ ≠ (.slice Ao77 x22_4.length co77 : Value).ownBlock) v329 t328) := ⟨by rw [← hq_]; exact (mvR HO_19.out)⟩; have n2_ : Aside0 (Kd.R (Kd.int .u8) 5 wr w.heap.size (fun k_ => some k_ ≠ (.slice Ao59 t325.length co59 : Value).ownBlock ∧ some k_ ≠ (v329 : Value).ownBlock ∧ some k_ ≠ (.slice Ao77 x22_4.length co77 : Value).ownBlock) v332 x20_3) := ⟨by rw [← hq_]; exact (mvR HO_20.out)⟩; have n3_ : Aside0 (Kd.R (Kd.int .u8) 5 wr w.heap.size (fun k_ => some k_ ≠ (.slice Ao59 t325.length co59 : Value).ownBlock ∧ some k_ ≠ (v329 : Value).ownBlock ∧ some k_ ≠ (v332 : Value).ownBlock) (.slice Ao77 x22_4.length co77) x22_4) := ⟨by rw [← hq_]; exact (mvR HO_22.out)⟩; have n4_ : Aside0 (Below w.heap.size w wr) := ⟨by rw [← hq_]; exact (mvh HB.out)⟩; clear HO_18 HO_19 HO_20 HO_22 HB hq_; have HO_18 := n0_; have HO_19 := n1_; have HO_20 := n2_; have HO_22 := n3_; have HB := n4_; clear n0_ n1_ n2_ n3_ n4_))) | (go_at_call 56; (with_reducible refine (reedsol_code_value.calls k4 _ a0 _ _ t325 t342 t343 _ ?side1 ?side2 ?side3 A82.out).mono ?_); (case side1 => exact (rs_OK_below HR0.out HB.out)); (case side2 => exact mvC (Kd.R_reads' HO_18.out).2.2); (case side3 => exact (Kd.R_reads' HO_18.out).2.1); rintro e w102 ⟨rfl,hb⟩; replace HO_18 := aK (Kd.R_below (mvR HO_18.out) hb); replace HO_19 := aK (Kd.R_below (mvR HO_19.out) hb); replace HO_20 := aK (Kd.R_below (mvR HO_20.out) hb); replace HO_22 := aK (Kd.R_below (mvR HO_22.out) hb); replace HB := aK (below_step (mvh HB.out) hb); (try clear hb); obtain ⟨Ao103,co103,eo103⟩ := Kd.R_slice HO_20.out; subst eo103) | (go_at_call 56; (with_reducible refine (reedsol_code_value.calls k4 _ a0 _ _ x20_3 t342 t344 _ ?side1 ?side2 ?side3 A84.out).mono ?_); (case side1 => exact (rs_OK_below HR0.out HB.out)); (case side2 => exact mvC (Kd.R_reads' HO_20.out).2.2); (case side3 => exact (Kd.R_reads' HO_20.out).2.1); rintro e w104 ⟨rfl,hb⟩; replace HO_18 := aK (Kd.R_below (mvR HO_18.out) hb); replace HO_19 := aK (Kd.R_below (mvR HO_19.out) hb); replace HO_20 := aK (Kd.R_below (mvR HO_20.out) hb); replace HO_22 := aK (Kd.R_below (mvR HO_22.out) hb); replace HB := aK (below_step (mvh HB.out) hb); (try clear hb)))
                have n0_ := aK (Kd.R_drew HO_18.out)
                have n1_ := aK (Kd.R_drew HO_19.out)
                have n2_ := aK (Kd.R_drew HO_20.out)
                have n3_ := aK (Kd.R_drew HO_22.out)
                have n4_ := aK (below_drew1 HB.out)
                clear HO_18 HO_19 HO_20 HO_22 HB
                have HO_18 := n0_
                have HO_19 := n1_
                have HO_20 := n2_
                have HO_22 := n3_
                have HB := n4_
                clear n0_ n1_ n2_ n3_ n4_
                have p345 : 0 ≤ (x158_4 : Int) := oD
                have q345 : x158_4 < (x22_4.length : Int) := oD
                obtain ⟨ad345,e345,hx345_0⟩ := Kd.at_int (Kd.R_reads' HO_22.out).2.2 x158_4 p345 q345
                cases e345
                replace p345 := eq_true p345
                replace q345 := eq_true q345
                have ho91 := rs_At_mul HT0.out
                have hx91 := (HB.out.cell (World.block_lt_of_cell? w _ ho91)).trans ho91
                have ho92 := rs_At_exp HT0.out
                have hx92 := (HB.out.cell (World.block_lt_of_cell? w _ ho92)).trans ho92
                have ho93 := rs_At_First HT0.out
                have hx93 := (HB.out.cell (World.block_lt_of_cell? w _ ho93)).trans ho93
                have ho94 := rs_At_size HT0.out
                have hx94 := (HB.out.cell (World.block_lt_of_cell? w _ ho94)).trans ho94
                have ho97 := rs_At_div HT0.out
                have hx97 := (HB.out.cell (World.block_lt_of_cell? w _ ho97)).trans ho97
                refine start_ (n := 41) (S := fun w' => w'.cell? (ad345.add (x158_4).toNat) = some (.int .u8 (rd x22_4 x158_4)) ∧ w'.cell? ⟨b_,5,none⟩ = some (.func (.func 46) #[] #[.pointer (some ⟨p_,0,none⟩)]) ∧ w'.cell? ⟨b_,7,none⟩ = some (.func (.func 45) #[.pointer (some ⟨c_,0,none⟩)] #[]) ∧ w'.cell? ⟨b_,2,none⟩ = some (.int .i64 a0.First) ∧ w'.cell? ⟨b_,4,none⟩ = some (.int .i64 (a0.size : Int)) ∧ w'.cell? ⟨b_,6,none⟩ = some (.func (.func 48) #[] #[.pointer (some ⟨p_,0,none⟩)])) (ds := [40]) (bts 41 0) (by kernel_rfl) rfl rfl ⟨hx345_0,((HB.out.cell (World.block_lt_of_cell? w _ ho91)).trans ho91),((HB.out.cell (World.block_lt_of_cell? w _ ho92)).trans ho92),((HB.out.cell (World.block_lt_of_cell? w _ ho93)).trans ho93),((HB.out.cell (World.block_lt_of_cell? w _ ho94)).trans ho94),((HB.out.cell (World.block_lt_of_cell? w _ ho97)).trans ho97)⟩ (fun hHeld => ?_); refine with_tabW reedsol_code_mend.tab35 reedsol_code_mend.bits35 (fun HT_ HW_ => ?_)
                generalize w104.drew = w105 at HO_18 HO_19 HO_20 HO_22 HB hx345_0 hHeld ⊢
                refine pu_ 0 184 41 1 HT_.out ?_; refine pu_ 1 185 41 3 HT_.out ?_; refine pu_ 2 186 41 7 HT_.out ?_; refine pu_ 4 188 41 23 HT_.out ?_; refine pu_ 5 189 41 55 HT_.out ?_; refine pu_ 6 190 41 119 HT_.out ?_; refine pu_ 8 192 41 375 HT_.out ?_; refine pu_ 9 193 41 887 HT_.out ?_; refine pu_ 10 194 41 1911 HT_.out ?_; refine pu_ 12 196 41 6007 HT_.out ?_; refine pu_ 13 197 41 14199 HT_.out ?_; refine pu_ 14 198 41 30583 HT_.out ?_; refine pu_ 15 199 41 63351 HT_.out ?_; refine pu_ 16 200 41 128887 HT_.out ?_; refine pu_ 19 203 41 653175 HT_.out ?_; refine pu_ 20 204 41 1701751 HT_.out ?_; refine pu_ 21 205 41 3798903 HT_.out ?_; refine pu_ 27 211 41 138016631 HT_.out ?_; refine pu_ 28 212 41 406452087 HT_.out ?_; refine pu_ 29 213 41 943322999 HT_.out ?_; refine pu_ 31 215 41 3090806647 HT_.out ?_; refine pu_ 32 216 41 7385773943 HT_.out ?_; refine pu_ 33 217 41 15975708535 HT_.out ?_; refine pu_ 35 219 41 50335446903 HT_.out ?_; refine ta_ 3 187 41 50335446911 rfl rfl HT_.out HW_.out hHeld (by rintro w' ⟨s0,s1,s2,s3,s4,s5⟩; go_simp; with_reducible rfl) ?_; refine ta_ 7 191 41 50335447039 rfl rfl HT_.out HW_.out hHeld (by rintro w' ⟨s0,s1,s2,s3,s4,s5⟩; go_simp; with_reducible rfl) ?_
                refine ta_ 11 195 41 50335449087 rfl rfl HT_.out HW_.out hHeld (by rintro w' ⟨s0,s1,s2,s3,s4,s5⟩; go_simp; with_reducible rfl) ?_; refine ta_ 17 201 41 50335580159 rfl rfl HT_.out HW_.out hHeld (by rintro w' ⟨s0,s1,s2,s3,s4,s5⟩; go_simp; with_reducible rfl) ?_; refine pu_ 18 202 41 50335842303 HT_.out ?_; refine ta_ 22 206 41 50340036607 rfl rfl HT_.out HW_.out hHeld (by rintro w' ⟨s0,s1,s2,s3,s4,s5⟩; go_simp; with_reducible rfl) ?_; refine pu_ 23 207 41 50348425215 HT_.out ?_; refine pu_ 24 208 41 50365202431 HT_.out ?_; refine pu_ 25 209 41 50398756863 HT_.out ?_; refine ta_ 30 214 41 51472498687 rfl rfl HT_.out HW_.out hHeld (by rintro w' ⟨s0,s1,s2,s3,s4,s5⟩; go_simp; with_reducible rfl) ?_
                refine one_ (i := 26) (N := some 210) (bts 41 51539607551) rfl rfl (one_of HT_.out (by kernel_rfl)) (by decide) (fun K hK => ?_)
                refine goesF_ Try.func45 (by kernel_rfl) rfl #[.pointer (some ⟨c_,0,none⟩),.int .i64 (wrap64 ((wrap64 ((wrap64 ((l1.length : Int) - 1)) - x158_4)) * (Int.tmod (wrap64 (1 - a0.First)) (wrap64 ((a0.size : Int) - 1)))))] (by rfl) rfl rfl (by rfl) (by (try simp only [List.map_toArray,List.map_cons,List.map_nil]); first | done | rfl | (simp only [List.length_drop,List.length_take]; rfl) | (simp [Act.eval,IntKind.wrap_u8,IntKind.wrap_u32]; done)) ?_
                with_reducible refine (gT_Exp.calls b_ p_ c_ d_ g_ a0 (wrap64 ((wrap64 ((wrap64 ((l1.length : Int) - 1)) - x158_4)) * (Int.tmod (wrap64 (1 - a0.First)) (wrap64 ((a0.size : Int) - 1))))) t346 _ ?side1 A96.out).mono ?_
                (case side1 => exact (rs_At_below HT0.out HB.out))
                rintro e w' ⟨rfl,⟨nd,rfl⟩⟩
                refine ⟨_,rfl,?_⟩
                obtain ⟨Ao106,co106,eo106⟩ := Kd.R_slice HO_19.out
                (first | subst eo106 | (injection eo106 with f1_ f2_ f3_; have f4_ := f1_.symm; have f5_ := f3_.symm; clear f1_ f2_ f3_; subst f4_; subst f5_))
                refine hK.out _ _ ⟨hHeld.1,((HB.out.cell (World.block_lt_of_cell? w _ ho91)).trans ho91),((HB.out.cell (World.block_lt_of_cell? w _ ho92)).trans ho92),((HB.out.cell (World.block_lt_of_cell? w _ ho93)).trans ho93),((HB.out.cell (World.block_lt_of_cell? w _ ho94)).trans ho94),((HB.out.cell (World.block_lt_of_cell? w _ ho97)).trans ho97)⟩ (fun hHeld => ?_)
                clear hK K
                refine norm_ (a' := ?_) ?_ ?_
                rotate_left
                ·show Act.put _ (some 210) _ = _
                 simp only [Act.put,List.setIfInBounds_toArray,List.set_cons_zero,List.set_cons_succ,i64_w,i32_w]
                 rfl
                refine one_ (i := 34) (N := some 218) (bts 41 68719476735) rfl rfl (one_of HT_.out (by kernel_rfl)) (by decide) (fun K hK => ?_)
                refine goes_ Try.func56 (by kernel_rfl) rfl #[.pointer (some ⟨b_,0,none⟩),.slice Ao106 t328.length co106,.int .u8 t342] (by rfl) rfl rfl (by (try simp only [List.map_toArray,List.map_cons,List.map_nil]) <;> rfl) ?_
                with_reducible refine (reedsol_code_value.calls k4 _ a0 _ _ t328 t342 t347 _ ?side1 ?side2 ?side3 A98.out).mono ?_
                (case side1 => exact (rs_OK_below HR0.out (mvh HB.out)))
                (case side2 => exact mvC (Kd.R_reads' HO_19.out).2.2)
                (case side3 => exact (Kd.R_reads' HO_19.out).2.1)
                rintro e w107 ⟨rfl,hb⟩
                have HS0_ := (hb.cell (World.block_lt_of_cell? _ _ (hHeld.1))).trans (hHeld.1)
                refine ⟨_,rfl,?_⟩
                have n0_ := aK (Kd.R_below (mvR HO_18.out) hb)
                have n1_ := aK (Kd.R_below (mvR HO_19.out) hb)
                have n2_ := aK (Kd.R_below (mvR HO_20.out) hb)
                have n3_ := aK (Kd.R_below (mvR HO_22.out) hb)
                have n4_ := aK (below_step (mvh HB.out) hb)
                clear HO_18 HO_19 HO_20 HO_22 HB
                have HO_18 := n0_
                have HO_19 := n1_
                have HO_20 := n2_
                have HO_22 := n3_
                have HB := n4_
                clear n0_ n1_ n2_ n3_ n4_
                (try clear hb)
                refine hK.out _ _ ⟨HS0_,((HB.out.cell (World.block_lt_of_cell? w _ ho91)).trans ho91),((HB.out.cell (World.block_lt_of_cell? w _ ho92)).trans ho92),((HB.out.cell (World.block_lt_of_cell? w _ ho93)).trans ho93),((HB.out.cell (World.block_lt_of_cell? w _ ho94)).trans ho94),((HB.out.cell (World.block_lt_of_cell? w _ ho97)).trans ho97)⟩ (fun hHeld => ?_)
                clear hK K
                refine norm_ (a' := ?_) ?_ ?_
                rotate_left
                ·show Act.put _ (some 218) _ = _
                 simp only [Act.put,List.setIfInBounds_toArray,List.set_cons_zero,List.set_cons_succ,i64_w,i32_w]
                 rfl
                refine one_ (i := 36) (N := some 220) (bts 41 137438953471) rfl rfl (one_of HT_.out (by kernel_rfl)) (by decide) (fun K hK => ?_)
                refine goesF_ Try.func48 (by kernel_rfl) rfl #[.int .u8 t347,.int .u8 t344,.pointer (some ⟨p_,0,none⟩)] (by rfl) rfl rfl (by rfl) (by (try simp only [List.map_toArray,List.map_cons,List.map_nil]); first | done | rfl | (simp only [List.length_drop,List.length_take]; rfl) | (simp [Act.eval,IntKind.wrap_u8,IntKind.wrap_u32]; done)) ?_
                with_reducible refine (reedsol_open_2.calls k4 b_ p_ c_ d_ g_ a0 t347 t344 t348 _ ?side1 A99.out).mono ?_
                (case side1 => exact (rs_At_below HT0.out HB.out))
                rintro e w108 ⟨rfl,hb⟩
                have HS0_ := (hb.cell (World.block_lt_of_cell? _ _ (hHeld.1))).trans (hHeld.1)
                refine ⟨_,rfl,?_⟩
                have n0_ := aK (Kd.R_below (mvR HO_18.out) hb)
                have n1_ := aK (Kd.R_below (mvR HO_19.out) hb)
                have n2_ := aK (Kd.R_below (mvR HO_20.out) hb)
                have n3_ := aK (Kd.R_below (mvR HO_22.out) hb)
                have n4_ := aK (below_step (mvh HB.out) hb)
                clear HO_18 HO_19 HO_20 HO_22 HB
                have HO_18 := n0_
                have HO_19 := n1_
                have HO_20 := n2_
                have HO_22 := n3_
                have HB := n4_
                clear n0_ n1_ n2_ n3_ n4_
                (try clear hb)
                refine hK.out _ _ ⟨HS0_,((HB.out.cell (World.block_lt_of_cell? w _ ho91)).trans ho91),((HB.out.cell (World.block_lt_of_cell? w _ ho92)).trans ho92),((HB.out.cell (World.block_lt_of_cell? w _ ho93)).trans ho93),((HB.out.cell (World.block_lt_of_cell? w _ ho94)).trans ho94),((HB.out.cell (World.block_lt_of_cell? w _ ho97)).trans ho97)⟩ (fun hHeld => ?_)
                clear hK K
                refine norm_ (a' := ?_) ?_ ?_
                rotate_left
                ·show Act.put _ (some 220) _ = _
                 simp only [Act.put,List.setIfInBounds_toArray,List.set_cons_zero,List.set_cons_succ,i64_w,i32_w]
                 rfl
                refine one_ (i := 37) (N := some 221) (bts 41 274877906943) rfl rfl (one_of HT_.out (by kernel_rfl)) (by decide) (fun K hK => ?_)
                refine goesF_ Try.func46 (by kernel_rfl) rfl #[.int .u8 t346,.int .u8 t348,.pointer (some ⟨p_,0,none⟩)] (by rfl) rfl rfl (by rfl) (by (try simp only [List.map_toArray,List.map_cons,List.map_nil]); first | done | rfl | (simp only [List.length_drop,List.length_take]; rfl) | (simp [Act.eval,IntKind.wrap_u8,IntKind.wrap_u32]; done)) ?_
                with_reducible refine (reedsol_open_1.calls k4 b_ p_ c_ d_ g_ a0 t346 t348 t349 _ ?side1 A100.out).mono ?_
                (case side1 => exact (rs_At_below HT0.out HB.out))
                rintro e w109 ⟨rfl,hb⟩
                have HS0_ := (hb.cell (World.block_lt_of_cell? _ _ (hHeld.1))).trans (hHeld.1)
                refine ⟨_,rfl,?_⟩
                have n0_ := aK (Kd.R_below (mvR HO_18.out) hb)
                have n1_ := aK (Kd.R_below (mvR HO_19.out) hb)
                have n2_ := aK (Kd.R_below (mvR HO_20.out) hb)
                have n3_ := aK (Kd.R_below (mvR HO_22.out) hb)
                have n4_ := aK (below_step (mvh HB.out) hb)
                clear HO_18 HO_19 HO_20 HO_22 HB
                have HO_18 := n0_
                have HO_19 := n1_
                have HO_20 := n2_
                have HO_22 := n3_
                have HB := n4_
                clear n0_ n1_ n2_ n3_ n4_
                (try clear hb)
                have p101 : 0 ≤ (x158_4 : Int) := oD
                have q101 : (x158_4 : Int) < ((x22_4.length : Int) : Int) := oD
                obtain ⟨go101,co101,eo101,gb101,gl101,cl101,HG101⟩ := Kd.R_form HO_22.out (by omega)
                (first | cases eo101 | (injection eo101 with ea_ en_ ec_; (first | subst ea_ | (injection ea_ with ea_; subst ea_)); subst ec_; clear en_))
                have GB101 := Aside0.mk gb101
                have GG101 := Aside0.mk HG101
                clear gb101 gl101 HG101
                (first | simp only [add_plain] at hx345_0 | skip)
                obtain ⟨hx101_0,hf101_0⟩ := Kd.R_celln 0 HO_22.out (x158_4 : Int) p101 q101
                replace p101 := eq_true p101
                replace q101 := eq_true q101
                have HP110 := Kd.R_putn HO_22.out (x158_4 : Int) (Go.bits .xor .u8 (rd x22_4 x158_4) t349)
                rw [← Ny350.out] at HP110
                have HQ110 := Aside0.mk HP110
                clear HP110
                refine hK.out _ _ ⟨HS0_,((HB.out.cell (World.block_lt_of_cell? w _ ho91)).trans ho91),((HB.out.cell (World.block_lt_of_cell? w _ ho92)).trans ho92),((HB.out.cell (World.block_lt_of_cell? w _ ho93)).trans ho93),((HB.out.cell (World.block_lt_of_cell? w _ ho94)).trans ho94),((HB.out.cell (World.block_lt_of_cell? w _ ho97)).trans ho97)⟩ (fun hHeld => ?_)
                clear hK K
                refine norm_ (a' := ?_) ?_ ?_
                rotate_left
                ·show Act.put _ (some 221) _ = _
                 simp only [Act.put,List.setIfInBounds_toArray,List.set_cons_zero,List.set_cons_succ,i64_w,i32_w]
                 rfl
                refine pu_ 38 222 41 549755813887 HT_.out ?_; refine pu_ 39 223 41 1099511627775 HT_.out ?_
                refine last_ (i := 40) (N := none) (bts 41 2199023255551) rfl rfl (one_of HT_.out (by kernel_rfl)) (by decide) (fun K hK => ?_)
                refine skip_ (w1 := ?_) (by rfl) rfl ?_ ?_
                rotate_left
                ·go_simp
                 rfl
                refine hK.out _ _ ?_
                clear hK K
                refine done_ (done_of HT_.out (by kernel_rfl)) ?_
                try go_wp2
                (try simp only [← hl22_4])
                (try simp only [addZ] at *)
                go_roundg k4
                case measure => have := HK1.out; have := HK2.out; have := HK3.out; have := HK4.out; omega
                case rel => exact ⟨(y350),(wrap64 (x158_4 + 1)),(by first | rfl | (simp; done) | (simp [*]; done) | (simp [wrap64]; done)),H',⟨by have := HK1.out; have := HK2.out; have := HK3.out; have := HK4.out; omega⟩,⟨by (try simp only [hl22_4]); (with_reducible repeat (first | apply Kd.R_alloc | apply Kd.R_drewN | apply Kd.R_drew)); exact Kd.R_mono (Kd.R_far (p := ⟨go101,(x158_4 : Int).toNat,none⟩) (Kd.R_mono HO_18.out (fun k_ hk => (⟨hk,fun e_ => hk.2.2 (by rw [e_]; rfl)⟩ : _ ∧ k_ ≠ go101))) (fun _ hk => hk.2) (.int .u8 (Go.bits .xor .u8 (rd x22_4 x158_4) t349))) (fun _ hk => ⟨hk.1.1,⟨hk.1.2.1,hk.1.2.2⟩⟩)⟩,⟨by (try simp only [hl22_4]); (with_reducible repeat (first | apply Kd.R_alloc | apply Kd.R_drewN | apply Kd.R_drew)); exact Kd.R_mono (Kd.R_far (p := ⟨go101,(x158_4 : Int).toNat,none⟩) (Kd.R_mono HO_19.out (fun k_ hk => (⟨hk,fun e_ => hk.2.2 (by rw [e_]; rfl)⟩ : _ ∧ k_ ≠ go101))) (fun _ hk => hk.2) (.int .u8 (Go.bits .xor .u8 (rd x22_4 x158_4) t349))) (fun _ hk => ⟨hk.1.1,⟨hk.1.2.1,hk.1.2.2⟩⟩)⟩,⟨by (try simp only [hl22_4]); (with_reducible repeat (first | apply Kd.R_alloc | apply Kd.R_drewN | apply Kd.R_drew)); exact Kd.R_mono (Kd.R_far (p := ⟨go101,(x158_4 : Int).toNat,none⟩) (Kd.R_mono HO_20.out (fun k_ hk => (⟨hk,fun e_ => hk.2.2 (by rw [e_]; rfl)⟩ : _ ∧ k_ ≠ go101))) (fun _ hk => hk.2) (.int .u8 (Go.bits .xor .u8 (rd x22_4 x158_4) t349))) (fun _ hk => ⟨hk.1.1,⟨hk.1.2.1,hk.1.2.2⟩⟩)⟩,⟨by (try simp only [hl22_4]); exact mvR HQ110.out⟩,⟨by repeat (first | (with_reducible first | exact HB.out | apply below_alloc | apply pw_below_drewN | apply below_drew1 | refine below_set ?_ GB101.out) | exact HB.out)⟩⟩
end Go.Proofs.Ytpgecdidddoglaa.P

