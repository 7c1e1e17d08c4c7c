-- written by mk.sh, a program of this session, over the kit's print
import Derived.Test.YtpgecdidddoglaaRtQAux
import Derived.Test.YtpgecdidddoglaaRtPx0
namespace Go.Proofs.Ytpgecdidddoglaa.P
open Go.RowKit Go.Proofs.YtpgecdidddoglaaW.PrintWords Go.Proofs.YtpgecdidddoglaaW.PrintLast Go.Proofs.YtpgecdidddoglaaW.PrintMore
attribute [local go_sem] max2_int min2_int max_two min_two max_three min_three max_four min_four   -- for this text's walks alone
set_option linter.unusedVariables false
set_option linter.unusedSimpArgs false

mutual
def l4_struck.l0 : Nat → List Int → List (S70) → Int → List Int → List Bool → List Int → Int → Int → Int → Int → Int → Int → Option (List Int × List Int × Int)
 | 0,_,_,_,_,_,_,_,_,_,_,_,_ => none
 | k + 1,x1,x2,x9,x10,x11,x12,x13,x14,x413000,x413001,x413002,x413003 => if x14 < (x2.length : Int) then (l4_struck.j1 k x1 x2 x9 x10 x11 x12 x13 x14 (decide ((x1.length : Int) > 0)) x413000 x413001 x413002 x413003) else (l4_struck.j1 k x1 x2 x9 x10 x11 x12 x13 x14 false x413000 x413001 x413002 x413003)
def l4_struck.j1 : Nat → List Int → List (S70) → Int → List Int → List Bool → List Int → Int → Int → Bool → Int → Int → Int → Int → Option (List Int × List Int × Int)
 | 0,_,_,_,_,_,_,_,_,_,_,_,_,_ => none
 | k + 1,x1,x2,x9,x10,x11,x12,x13,x14,x38,x413000,x413001,x413002,x413003 => if x38 = true then (if 0 ≤ x14 then (if x14 < (x2.length : Int) then (if (x1.length : Int) = 0 then (none) else (if (rd_T70 x2 x14).f2 = true then (l4_struck.j2 k x1 x2 x9 x10 x11 x12 x13 x14 (Int.tmod (wrap64 ((Int.tmod ((rd_T70 x2 x14).f0) (x1.length : Int)) + (x1.length : Int))) (x1.length : Int)) 1 x413000 x413001 x413002 x413003) else (l4_struck.j2 k x1 x2 x9 x10 x11 x12 x13 x14 (Int.tmod (wrap64 ((Int.tmod ((rd_T70 x2 x14).f0) (x1.length : Int)) + (x1.length : Int))) (x1.length : Int)) 2 x413000 x413001 x413002 x413003))) else (none)) else (none)) else (l4_struck.l1 k x1 x10 x12 0 0)
def l4_struck.j2 : Nat → List Int → List (S70) → Int → List Int → List Bool → List Int → Int → Int → Int → Int → Int → Int → Int → Int → Option (List Int × List Int × Int)
 | 0,_,_,_,_,_,_,_,_,_,_,_,_,_,_ => none
 | k + 1,x1,x2,x9,x10,x11,x12,x13,x14,x15,x16,x413000,x413001,x413002,x413003 => if 0 ≤ x15 then (if x15 < (x11.length : Int) then (if rdOf false x11 x15 = true then (l4_struck.j3 k x1 x2 x9 x10 x11 x12 x13 x14 x15 x16 true x413000 x413001 x413002 x413003) else (l4_struck.j3 k x1 x2 x9 x10 x11 x12 x13 x14 x15 x16 (decide ((wrap64 (x13 + x16)) > x413003)) x413000 x413001 x413002 x413003)) else (none)) else (none)
def l4_struck.j3 : Nat → List Int → List (S70) → Int → List Int → List Bool → List Int → Int → Int → Int → Int → Bool → Int → Int → Int → Int → Option (List Int × List Int × Int)
 | 0,_,_,_,_,_,_,_,_,_,_,_,_,_,_,_ => none
 | k + 1,x1,x2,x9,x10,x11,x12,x13,x14,x15,x16,x71,x413000,x413001,x413002,x413003 => if x71 = true then (l4_struck.l0 k x1 x2 x9 x10 x11 x12 x13 (wrap64 (x14 + 1)) x413000 x413001 x413002 x413003) else (if 0 ≤ x15 then (if x15 < (x11.length : Int) then ((some (x11.set (x15 : Int).toNat true : List Bool)).bind fun y425 => (if x15 < (x10.length : Int) then (if 0 ≤ x14 then (if x14 < (x2.length : Int) then (if x9 = 0 then (none) else ((some (x10.set (x15 : Int).toNat ((Int.tmod (Go.bits .xor .i64 (wrap64 (rd x10 x15)) (wrap64 ((rd_T70 x2 x14).f1))) x9) % 256) : List Int)).bind fun y428 => (if (rd_T70 x2 x14).f2 = true then (if x12.length < 17592186044416 then (l4_struck.l0 k x1 x2 x9 y428 y425 (x12 ++ [x15]) (wrap64 (x13 + x16)) (wrap64 (x14 + 1)) x413000 x413001 x413002 x413003) else (none)) else (l4_struck.l0 k x1 x2 x9 y428 y425 x12 (wrap64 (x13 + x16)) (wrap64 (x14 + 1)) x413000 x413001 x413002 x413003)))) else (none)) else (none)) else (none))) else (none)) else (none))
def l4_struck.l1 : Nat → List Int → List Int → List Int → Int → Int → Option (List Int × List Int × Int)
 | 0,_,_,_,_,_ => none
 | k + 1,x1,x10,x12,x17,x18 => if x18 < (x1.length : Int) then (if 0 ≤ x18 then (if x18 < (x10.length : Int) then (if (rd x10 x18) = (rd x1 x18) then (l4_struck.l1 k x1 x10 x12 x17 (wrap64 (x18 + 1))) else (l4_struck.l1 k x1 x10 x12 (wrap64 (x17 + 1)) (wrap64 (x18 + 1)))) else (none)) else (none)) else (some (x10,x12,x17))
end
def l4_struck.f (k : Nat) (a0_0 : Int) (a0_1 : Int) (a0_2 : Int) (a0_3 : Int) (l1 : List Int) (l2 : List (S70)) : Option (List Int × List Int × Int) := if 0 ≤ (IntKind.u64.wrap (a0_0)) then ((some (([] : List Int) : List Int)).bind fun y413 => (if y413.length + l1.length < 140737488355328 then (if 0 ≤ (l1.length : Int) then (if ((l1.length : Int) : Int).toNat ≤ 281474976710656 then (l4_struck.l0 k l1 l2 (shl .i64 1 (IntKind.u64.wrap (a0_0))) (y413 ++ l1) (List.replicate ((l1.length : Int) : Int).toNat false) ([] : List Int) 0 0 a0_0 a0_1 a0_2 a0_3) else (none)) else (none)) else (none))) else (none)
theorem l4_struck.mono_l : ∀ k,(∀ y0 y1 y2 y3 y4 y5 y6 y7 y8 y9 y10 y11,LeO (l4_struck.l0 k y0 y1 y2 y3 y4 y5 y6 y7 y8 y9 y10 y11) (l4_struck.l0 (k + 1) y0 y1 y2 y3 y4 y5 y6 y7 y8 y9 y10 y11)) ∧ (∀ y0 y1 y2 y3 y4 y5 y6 y7 y8 y9 y10 y11 y12,LeO (l4_struck.j1 k y0 y1 y2 y3 y4 y5 y6 y7 y8 y9 y10 y11 y12) (l4_struck.j1 (k + 1) y0 y1 y2 y3 y4 y5 y6 y7 y8 y9 y10 y11 y12)) ∧ (∀ y0 y1 y2 y3 y4 y5 y6 y7 y8 y9 y10 y11 y12 y13,LeO (l4_struck.j2 k y0 y1 y2 y3 y4 y5 y6 y7 y8 y9 y10 y11 y12 y13) (l4_struck.j2 (k + 1) y0 y1 y2 y3 y4 y5 y6 y7 y8 y9 y10 y11 y12 y13)) ∧ (∀ y0 y1 y2 y3 y4 y5 y6 y7 y8 y9 y10 y11 y12 y13 y14,LeO (l4_struck.j3 k y0 y1 y2 y3 y4 y5 y6 y7 y8 y9 y10 y11 y12 y13 y14) (l4_struck.j3 (k + 1) y0 y1 y2 y3 y4 y5 y6 y7 y8 y9 y10 y11 y12 y13 y14)) ∧ (∀ y0 y1 y2 y3 y4,LeO (l4_struck.l1 k y0 y1 y2 y3 y4) (l4_struck.l1 (k + 1) y0 y1 y2 y3 y4))
 | 0 => ⟨fun _ _ _ _ _ _ _ _ _ _ _ _ r h => by simp [l4_struck.l0] at h,fun _ _ _ _ _ _ _ _ _ _ _ _ _ r h => by simp [l4_struck.j1] at h,fun _ _ _ _ _ _ _ _ _ _ _ _ _ _ r h => by simp [l4_struck.j2] at h,fun _ _ _ _ _ _ _ _ _ _ _ _ _ _ _ r h => by simp [l4_struck.j3] at h,fun _ _ _ _ _ r h => by simp [l4_struck.l1] at h⟩
 | k + 1 => by
  obtain ⟨ih0,ih1,ih2,ih3,ih4⟩ := l4_struck.mono_l k
  refine ⟨?_,?_,?_,?_,?_⟩
  ·intro y0 y1 y2 y3 y4 y5 y6 y7 y8 y9 y10 y11
   unfold l4_struck.l0
   repeat' first
   | (with_reducible exact ih0 _ _ _ _ _ _ _ _ _ _ _ _)
   | (with_reducible exact ih1 _ _ _ _ _ _ _ _ _ _ _ _ _)
   | (with_reducible exact ih2 _ _ _ _ _ _ _ _ _ _ _ _ _ _)
   | (with_reducible exact ih3 _ _ _ _ _ _ _ _ _ _ _ _ _ _ _)
   | (with_reducible exact ih4 _ _ _ _ _)
   | (with_reducible exact LeO.refl _)
   | (with_reducible exact LeO.none _)
   | (with_reducible refine LeO.ite ?_ ?_)
   | (with_reducible refine LeO.bind ?_ (fun _ => ?_))
  ·intro y0 y1 y2 y3 y4 y5 y6 y7 y8 y9 y10 y11 y12
   unfold l4_struck.j1
   repeat' first
   | (with_reducible exact ih0 _ _ _ _ _ _ _ _ _ _ _ _)
   | (with_reducible exact ih1 _ _ _ _ _ _ _ _ _ _ _ _ _)
   | (with_reducible exact ih2 _ _ _ _ _ _ _ _ _ _ _ _ _ _)
   | (with_reducible exact ih3 _ _ _ _ _ _ _ _ _ _ _ _ _ _ _)
   | (with_reducible exact ih4 _ _ _ _ _)
   | (with_reducible exact LeO.refl _)
   | (with_reducible exact LeO.none _)
   | (with_reducible refine LeO.ite ?_ ?_)
   | (with_reducible refine LeO.bind ?_ (fun _ => ?_))
  ·intro y0 y1 y2 y3 y4 y5 y6 y7 y8 y9 y10 y11 y12 y13
   unfold l4_struck.j2
   repeat' first
   | (with_reducible exact ih0 _ _ _ _ _ _ _ _ _ _ _ _)
   | (with_reducible exact ih1 _ _ _ _ _ _ _ _ _ _ _ _ _)
   | (with_reducible exact ih2 _ _ _ _ _ _ _ _ _ _ _ _ _ _)
   | (with_reducible exact ih3 _ _ _ _ _ _ _ _ _ _ _ _ _ _ _)
   | (with_reducible exact ih4 _ _ _ _ _)
   | (with_reducible exact LeO.refl _)
   | (with_reducible exact LeO.none _)
   | (with_reducible refine LeO.ite ?_ ?_)
   | (with_reducible refine LeO.bind ?_ (fun _ => ?_))
  ·intro y0 y1 y2 y3 y4 y5 y6 y7 y8 y9 y10 y11 y12 y13 y14
   unfold l4_struck.j3
   repeat' first
   | (with_reducible exact ih0 _ _ _ _ _ _ _ _ _ _ _ _)
   | (with_reducible exact ih1 _ _ _ _ _ _ _ _ _ _ _ _ _)
   | (with_reducible exact ih2 _ _ _ _ _ _ _ _ _ _ _ _ _ _)
   | (with_reducible exact ih3 _ _ _ _ _ _ _ _ _ _ _ _ _ _ _)
   | (with_reducible exact ih4 _ _ _ _ _)
   | (with_reducible exact LeO.refl _)
   | (with_reducible exact LeO.none _)
   | (with_reducible refine LeO.ite ?_ ?_)
   | (with_reducible refine LeO.bind ?_ (fun _ => ?_))
  ·intro y0 y1 y2 y3 y4
   unfold l4_struck.l1
   repeat' first
   | (with_reducible exact ih0 _ _ _ _ _ _ _ _ _ _ _ _)
   | (with_reducible exact ih1 _ _ _ _ _ _ _ _ _ _ _ _ _)
   | (with_reducible exact ih2 _ _ _ _ _ _ _ _ _ _ _ _ _ _)
   | (with_reducible exact ih3 _ _ _ _ _ _ _ _ _ _ _ _ _ _ _)
   | (with_reducible exact ih4 _ _ _ _ _)
   | (with_reducible exact LeO.refl _)
   | (with_reducible exact LeO.none _)
   | (with_reducible refine LeO.ite ?_ ?_)
   | (with_reducible refine LeO.bind ?_ (fun _ => ?_))
theorem l4_struck.mono : ∀ a0 a1 a2 a3 a4 a5 k,LeO (l4_struck.f k a0 a1 a2 a3 a4 a5) (l4_struck.f (k + 1) a0 a1 a2 a3 a4 a5) := by
 intro a0 a1 a2 a3 a4 a5 k
 obtain ⟨ih0,ih1,ih2,ih3,ih4⟩ := l4_struck.mono_l k
 unfold l4_struck.f
 repeat' first
   | (with_reducible exact ih0 _ _ _ _ _ _ _ _ _ _ _ _)
   | (with_reducible exact ih1 _ _ _ _ _ _ _ _ _ _ _ _ _)
   | (with_reducible exact ih2 _ _ _ _ _ _ _ _ _ _ _ _ _ _)
   | (with_reducible exact ih3 _ _ _ _ _ _ _ _ _ _ _ _ _ _ _)
   | (with_reducible exact ih4 _ _ _ _ _)
   | (with_reducible exact LeO.refl _)
   | (with_reducible exact LeO.none _)
   | (with_reducible refine LeO.ite ?_ ?_)
   | (with_reducible refine LeO.bind ?_ (fun _ => ?_))
def l4_struck.T16 : Bool × List (List Nat × List Nat) := (true,[([],[]),([],[]),([],[]),([],[]),([2,3],[2,3]),([4],[4]),([5],[5]),([],[]),([],[]),([7,8],[7,8]),([9],[9]),([10],[10]),([11],[11]),([6,12],[6,12]),([],[]),([13,14],[13,14]),([15],[15]),([0,1,0,1,2,3,4,5,6,7,8,9,10,11,12,13,14,15,16],[0,1]),([17,16,0,1,2,3,4,5,6,7,8,9,10,11,12,13,14,15,16],[16,17])])
def l4_struck.B16 : List Nat := [0,0,0,0,12,28,60,0,0,384,896,1920,3968,8188,0,32764,65532,131071,262143]
theorem l4_struck.tab16 : rtab .any (opsOf Try.f12 16) = l4_struck.T16 := by kernel_rfl
theorem l4_struck.bits16 : waitsOk l4_struck.T16.2 l4_struck.B16 = true := by kernel_rfl
def l4_struck.T23 : Bool × List (List Nat × List Nat) := (true,[([],[]),([],[]),([0,1],[0,1]),([2],[2]),([],[]),([],[]),([4,5],[4,5]),([6],[6]),([3,7],[3,7])])
def l4_struck.B23 : List Nat := [0,0,3,7,0,0,48,112,255]
theorem l4_struck.tab23 : rtab .any (opsOf Try.f12 23) = l4_struck.T23 := by kernel_rfl
theorem l4_struck.bits23 : waitsOk l4_struck.T23.2 l4_struck.B23 = true := by kernel_rfl
set_option maxHeartbeats 8000000 in
set_option maxRecDepth 100000 in
theorem l4_struck.calls (k : Nat) (a0_0 : Int) (a0_1 : Int) (a0_2 : Int) (a0_3 : Int) (A1 : Option Addr) (c1 : Nat) (l1 : List Int) (A2 : Option Addr) (c2 : Nat) (l2 : List (S70)) (r1 : List Int) (r2 : List Int) (r3 : Int) (w : World) (hr1 : Kd.C (Kd.int .u8) w A1 l1.length l1) (hc1 : l1.length ≤ c1) (hr2 : Kd.C k70 w A2 l2.length l2) (hc2 : l2.length ≤ c2) (h : l4_struck.f k a0_0 a0_1 a0_2 a0_3 l1 l2 = some (r1,r2,r3)) :
  Calls Try.prog 12 #[.agg #[.int .i64 a0_0,.int .u64 a0_1,.int .i64 a0_2,.int .i64 a0_3],.slice A1 l1.length c1,.slice A2 l2.length c2] w fun e w' => ∃ v0_ v1_ : Value,e = .returned (.tuple #[v0_,v1_,.int .i64 r3]) ∧ Kd.R (Kd.int .u8) 5 w' w.heap.size (fun _ => True) v0_ r1 ∧ Kd.R (Kd.int .i64) 3 w' w.heap.size (fun _ => True) v1_ r2 ∧ Below w.heap.size w w' := by
 have hu26 := Try.underlying26
 have HR1 := Aside0.mk hr1
 have HC1 := Aside0.mk hc1
 clear hr1 hc1
 have HR2 := Aside0.mk hr2
 have HC2 := Aside0.mk hc2
 clear hr2 hc2
 have HB := aK (Below.refl w.heap.size w)
 have H : (if 0 ≤ (IntKind.u64.wrap (a0_0)) then ((some (([] : List Int) : List Int)).bind fun y413 => (if y413.length + l1.length < 140737488355328 then (if 0 ≤ (l1.length : Int) then (if ((l1.length : Int) : Int).toNat ≤ 281474976710656 then (l4_struck.l0 k l1 l2 (shl .i64 1 (IntKind.u64.wrap (a0_0))) (y413 ++ l1) (List.replicate ((l1.length : Int) : Int).toNat false) ([] : List Int) 0 0 a0_0 a0_1 a0_2 a0_3) else (none)) else (none)) else (none))) else (none)) = some (r1,r2,r3) := h
 clear h
 obtain ⟨ji4,hji4⟩ : ∃ j_ : Int,(IntKind.u64.wrap (a0_0)) = j_ := ⟨_,rfl⟩
 first | rw [hji4] at H | simp only [hji4] at H
 by_cases c5 : 0 ≤ (ji4)
 rotate_left
 ·rw [if_neg c5] at H
  exact absurd H (by simp)

 rw [if_pos c5] at H
 have c5b0 := eq_true c5
 have c5b1 : decide (0 ≤ (ji4)) = true := decide_eq_true c5
 clear c5
 obtain ⟨ji6,hji6⟩ : ∃ j_ : Int,(shl .i64 1 (ji4)) = j_ := ⟨_,rfl⟩
 first | rw [hji6] at H | simp only [hji6] at H
 have hji6_ : (IntKind.i64.wrap (1 * 2 ^ min (ji4).toNat 64)) = ji6 := hji6
 have hji6z : (ji4) ≤ 64 → (IntKind.i64.wrap (1 * 2 ^ (ji4).toNat)) = ji6 := shl_small hji6
 have hji6u : (IntKind.i64.wrap (2 ^ min (ji4).toNat 64)) = ji6 := by have h_ := hji6_; rw [Int.one_mul] at h_; exact h_
 have hji6v : (ji4) ≤ 64 → (IntKind.i64.wrap (2 ^ (ji4).toNat)) = ji6 := fun hle_ => by have h_ := hji6z hle_; rw [Int.one_mul] at h_; exact h_
 have hji6y : (wrap64 (1 * 2 ^ min (ji4).toNat 64)) = ji6 := (i64_w _).symm.trans hji6_
 have hji6x : (ji4) ≤ 64 → (wrap64 (1 * 2 ^ (ji4).toNat)) = ji6 := fun h_ => (i64_w _).symm.trans (hji6z h_)
 obtain ⟨y413,hy413⟩ : ∃ y_ : List Int,y_ = (([] : List Int)) := ⟨_,rfl⟩
 replace H : (if y413.length + l1.length < 140737488355328 then (if 0 ≤ (l1.length : Int) then (if ((l1.length : Int) : Int).toNat ≤ 281474976710656 then (l4_struck.l0 k l1 l2 ji6 (y413 ++ l1) (List.replicate ((l1.length : Int) : Int).toNat false) ([] : List Int) 0 0 a0_0 a0_1 a0_2 a0_3) else (none)) else (none)) else (none)) = some (r1,r2,r3) := by rw [hy413]; exact H
 have Ny413 := Aside0.mk hy413
 clear hy413
 by_cases c7 : y413.length + l1.length < 140737488355328
 rotate_left
 ·rw [if_neg c7] at H
  exact absurd H (by simp)
 rw [if_pos c7] at H
 have LMc7 := Aside0.mk c7
 clear c7
 obtain ⟨y416,hy416⟩ : ∃ y_ : List Int,y_ = (y413 ++ l1) := ⟨_,rfl⟩
 replace H : (if 0 ≤ (l1.length : Int) then (if ((l1.length : Int) : Int).toNat ≤ 281474976710656 then (l4_struck.l0 k l1 l2 ji6 y416 (List.replicate ((l1.length : Int) : Int).toNat false) ([] : List Int) 0 0 a0_0 a0_1 a0_2 a0_3) else (none)) else (none)) = some (r1,r2,r3) := by rw [hy416]; exact H
 have Ny416 := Aside0.mk hy416
 clear hy416
 by_cases c8 : 0 ≤ (l1.length : Int)
 rotate_left
 ·rw [if_neg c8] at H
  exact absurd H (by simp)
 rw [if_pos c8] at H
 have c8b0 := eq_true c8
 have c8b1 : decide (0 ≤ (l1.length : Int)) = true := decide_eq_true c8
 clear c8
 by_cases c9 : ((l1.length : Int) : Int).toNat ≤ 281474976710656
 rotate_left
 ·rw [if_neg c9] at H
  exact absurd H (by simp)
 rw [if_pos c9] at H
 have c9b0 := eq_true c9
 have c9b1 : decide (((l1.length : Int) : Int).toNat ≤ 281474976710656) = true := decide_eq_true c9
 clear c9
 obtain ⟨y419,hy419⟩ : ∃ y_ : List Bool,y_ = (List.replicate ((l1.length : Int) : Int).toNat false) := ⟨_,rfl⟩
 replace H : (l4_struck.l0 k l1 l2 ji6 y416 y419 ([] : List Int) 0 0 a0_0 a0_1 a0_2 a0_3) = some (r1,r2,r3) := by rw [hy419]; exact H
 have Ny419 := Aside0.mk hy419
 clear hy419
 have H' := Aside0.mk H
 clear H
 go_enter Try.func12,Try.ntmps12
 go_wp2_with (first | ((with_reducible refine gate_dst (N := 3) rfl ?_); (try (refine gate_guard (by rfl) ?_; dsimp only)); refine box_event ?hg (N := 3) ?hd (cs := #[.int .i64 a0_0,.int .u64 a0_1,.int .i64 a0_2,.int .i64 a0_3]) (t := 26) ?hr ?_; (case hd => rfl); (case hg => rfl); (case hr => first | (go_simp; done) | (go_simp; rfl)); intro gb412 hg w10 hbox hb; have n0_ := aK (below_step (mvh HB.out) hb); have n1_ := aK (hbox); have n2_ := aK ((by rw [hg]; exact (below_size (mvh HB.out)) : w.heap.size ≤ gb412)); have n3_ := aK ((by rw [hg]; exact (below_size (mvh HB.out)) : w.heap.size ≤ gb412)); clear HB; have HB := n0_; have BK412 := n1_; have GW412 := n2_; have GE412 := n3_; clear n0_ n1_ n2_ n3_; clear hb hbox hg; obtain ⟨hcz11_0,hcz11_1,hcz11_2,hcz11_3,hfz11_0,hfz11_1,hfz11_2,hfz11_3⟩ := cf4 BK412.out) | ((with_reducible refine gate_dst (N := 24) rfl ?_); (try (refine gate_guard (by rfl) ?_; dsimp only)); refine Kd.R_lit (Kd.int .u8) _ 5 ?hg (N := 24) ?hd (xs := ([] : List Int)) (inner := []) (ok := fun _ => True) (okp := fun _ => True) ?hr ?hp (fun _ hk => hk) trivial (Below.refl _ _) (Nat.le_refl _) (by simp) ?_; (case hd => rfl); (case hg => rfl); (case hr => first | (go_simp; done) | (go_simp; rfl)); (case hp => exact (Reps.none _ _)); intro v414 w12 ho13 hb hg_ hnew_; clear hg_ hnew_; (first | rw [← Ny413.out] at ho13 | (simp only [Int.reduceToNat] at ho13; rw [← Ny413.out] at ho13)); have n0_ := aK (Kd.R_lower ho13 (below_size (mvh HB.out))); have n1_ := aK (kb BK412.out hb); have n2_ := aK (below_step (mvh HB.out) hb); clear BK412 HB; have HO415 := n0_; have BK412 := n1_; have HB := n2_; clear n0_ n1_ n2_; clear hb ho13) | ((with_reducible refine gate_builtin (b := .append) (xs := #[.tmp 24,.tmp 25]) rfl ?_); (try (refine gate_guard (by rfl) ?_; dsimp only)); at_builtin; refine Kd.R_append_rows (Kd.int .u8) (w0 := w) w.heap.size rfl (.tmp 24) (.tmp 25) 27 5 (.int .u8 0) 1 rfl Try.underlying27 info5 rfl (by decide) (by omega) v414 y413 l1 _ _ _ (fun _ => True) (fun _ => False) rfl rfl ?aO ?aR (fun _ _ h => h) (fun _ h => h.elim) ?aF ?aB ?aS ?aL ?_; (case aR => repeat (first | exact (Kd.C_below HR1.out HB.out) | (with_reducible refine Kd.C_alloc ?_ _) | (with_reducible refine Kd.C_drewN ?_ _) | (with_reducible refine Kd.C_drew ?_))); (case aB => exact (mvh HB.out)); (case aF => exact (fun _ _ => trivial)); (case aO => exact (mvR HO415.out)); (case aS => exact (below_size (mvh HB.out))); (case aL => have := LMc7.out; (try simp only [hji4] at this); (try simp only [hji6] at this); (try clear hji4w); (try clear hji4); (try clear hji6w); (try clear hji6); omega); intro v417 w14 ho hb hg hat; rw [← Ny416.out] at ho; have n0_ := aK (blk_grown (g := gb412) (o := .cells #[.int .i64 a0_0,.int .u64 a0_1,.int .i64 a0_2,.int .i64 a0_3] 26 (0,0)) (mvb BK412.out) hg (Kd.R_ne HO415.out BK412.out (by decide))); have n1_ := aK (hb); have n2_ := aK (ho); clear BK412 HB HO415; have BK412 := n0_; have HB := n1_; have HO418 := n2_; clear n0_ n1_ n2_; clear ho hb hg hat) | ((with_reducible refine gate_dst (N := 29) rfl ?_); (try (refine gate_guard (by rfl) ?_; dsimp only)); refine Kd.R_make Kd.bool _ 4 rfl (N := 29) rfl 68 _ _ rfl (l1.length : Int) rfl rfl Try.underlying68 (.bool false) 1 info4 rfl (by decide) (by omega) false (ok := fun _ => True) (okp := fun _ => True) rfl (fun _ hk => hk) trivial (of_decide_eq_true (by first | (with_reducible assumption) | assumption)) (Nat.le_trans (Nat.mul_le_mul_right _ (of_decide_eq_true (by first | (with_reducible assumption) | assumption) : (l1.length : Int).toNat ≤ 281474976710656)) (by omega)) (Below.refl _ _) (Nat.le_refl _) ?_; intro v420 w15 ho16 hb hg_ hnew_; clear hg_ hnew_; (first | rw [← Ny419.out] at ho16 | (simp only [Int.reduceToNat] at ho16; rw [← Ny419.out] at ho16)); have n0_ := aK (Kd.R_below (mvR HO418.out) hb); have n1_ := aK (Kd.R_lower ho16 (below_size (mvh HB.out))); have n2_ := aK (kb BK412.out hb); have n3_ := aK (below_step (mvh HB.out) hb); clear HO418 BK412 HB; have HO418 := n0_; have HO421 := n1_; have BK412 := n2_; have HB := n3_; clear n0_ n1_ n2_ n3_; clear hb ho16))
 go_loopg [12,13,14] k (fun kq v12 v13 v14 w' => ∃ (x10_1 : List Int) (x11_1 : List Bool) (x12_1 : List Int) (x13_1 : Int) (x14_1 : Int),v13 = .int .i64 x13_1 ∧ v14 = .int .i64 x14_1 ∧ Aside0 (l4_struck.l0 kq l1 l2 ji6 x10_1 x11_1 x12_1 x13_1 x14_1 a0_0 a0_1 a0_2 a0_3 = some (r1,r2,r3)) ∧ Aside0 (kq ≤ k) ∧ Aside0 (Kd.R (Kd.int .u8) 5 w' w.heap.size (fun _ => True) v417 x10_1) ∧ Aside0 (Kd.R Kd.bool 4 w' w.heap.size (fun _ => True) v420 x11_1) ∧ Aside0 (Kd.R (Kd.int .i64) 3 w' w.heap.size (fun _ => True) v12 x12_1) ∧ Aside0 (w'.heap[gb412]? = some (.cells #[.int .i64 a0_0,.int .u64 a0_1,.int .i64 a0_2,.int .i64 a0_3] 26 (0,0))) ∧ Aside0 (Below w.heap.size w w'))
 case atStart => exact ⟨(y416),(y419),(([] : List Int)),(0),(0),(by first | rfl | (simp; done) | (simp [*]; done) | (simp [wrap64]; done)),(by first | rfl | (simp; done) | (simp [*]; done) | (simp [wrap64]; done)),H',⟨Nat.le_refl _⟩,⟨mvR HO418.out⟩,⟨mvR HO421.out⟩,⟨by first | exact Kd.R_nil _ _ _ _ _ | exact Kd.N_nil _ _ _ _ _ | exact Kd.V_nil _ _ _ _ _ | exact Kd.Q_nil _ _ _ _ _ | exact Kd.S_nil _ _ _ _ _⟩,⟨mvb BK412.out⟩,⟨mvh HB.out⟩⟩
 case round =>
  clear H'
  (try clear c1); (try clear c2); (try clear p2); (try clear c5); (try clear c5b0); (try clear c5b1); (try clear p6); (try clear c7); (try clear c8); (try clear c8b0); (try clear c8b1); (try clear c9); (try clear c9b0); (try clear c9b1); (try clear c12); (try clear hcz11_0); (try clear hcz11_1); (try clear hcz11_2)
  (try clear hcz11_3); (try clear hfz11_0); (try clear hfz11_1); (try clear hfz11_2); (try clear hfz11_3)
  obtain ⟨x10_1,x11_1,x12_1,x13_1,x14_1,rfl,rfl,HA,HK1,HO_10,HO_11,HO_12,BK412,HB⟩ := hrel
  cases gk with
  | zero => exact absurd HA.out (by simp [l4_struck.l0])
  | succ k1 =>
   have H := HA.out
   clear HA
   simp only [l4_struck.l0] at H
   have HC17 := Aside0.mk H
   clear H
   go_upto_region 7 with (fail)
   go_cut [38] (fun v38 wc => ∃ (kq : Nat) (x38_16 : Bool),v38 = .bool x38_16 ∧ Aside0 (l4_struck.j1 kq l1 l2 ji6 x10_1 x11_1 x12_1 x13_1 x14_1 x38_16 a0_0 a0_1 a0_2 a0_3 = some (r1,r2,r3)) ∧ Aside0 (kq ≤ k1) ∧ Aside0 (Kd.R (Kd.int .u8) 5 wc w.heap.size (fun _ => True) v417 x10_1) ∧ Aside0 (Kd.R Kd.bool 4 wc w.heap.size (fun _ => True) v420 x11_1) ∧ Aside0 (Kd.R (Kd.int .i64) 3 wc w.heap.size (fun _ => True) u12 x12_1) ∧ Aside0 (wc.heap[gb412]? = some (.cells #[.int .i64 a0_0,.int .u64 a0_1,.int .i64 a0_2,.int .i64 a0_3] 26 (0,0))) ∧ Aside0 (Below w.heap.size w wc))
   case first =>
    have H := HC17.out
    clear HC17
    by_cases c18 : x14_1 < (l2.length : Int)
    ·rw [if_pos c18] at H
     have c18b0 : decide (x14_1 < (l2.length : Int)) = true := decide_eq_true c18
     clear c18
     (first | rw [c18b0] | (simp only [i64_w,i32_w]; rw [c18b0]) | rw [c18b1] | skip)
     have H' := Aside0.mk H
     clear H
     go_wp2
     go_meet
     case rel => exact ⟨_,(decide ((l1.length : Int) > 0)),(by first | rfl | (simp; done) | (simp [*]; done) | (simp [wrap64]; done)),H',⟨by have := HK1.out; first | omega | exact Nat.le_refl _⟩,⟨mvR HO_10.out⟩,⟨mvR HO_11.out⟩,⟨mvR HO_12.out⟩,⟨mvb BK412.out⟩,⟨mvh HB.out⟩⟩
    ·rw [if_neg c18] at H
     have c18b0 : decide (x14_1 < (l2.length : Int)) = false := decide_eq_false c18
     clear c18
     (first | rw [c18b0] | (simp only [i64_w,i32_w]; rw [c18b0]) | rw [c18b1] | skip)
     have H' := Aside0.mk H
     clear H
     go_wp2
     go_meet
     case rel => exact ⟨_,(false),(by first | rfl | (simp; done) | (simp [*]; done) | (simp [wrap64]; done)),H',⟨by have := HK1.out; first | omega | exact Nat.le_refl _⟩,⟨mvR HO_10.out⟩,⟨mvR HO_11.out⟩,⟨mvR HO_12.out⟩,⟨mvb BK412.out⟩,⟨mvh HB.out⟩⟩
   case rest =>
    clear HC17
    (try clear c1); (try clear c2); (try clear p2); (try clear c5); (try clear c5b0); (try clear c5b1); (try clear p6); (try clear c7); (try clear c8); (try clear c8b0); (try clear c8b1); (try clear c9); (try clear c9b0); (try clear c9b1); (try clear c12); (try clear c18); (try clear c18b0); (try clear c18b1)
    (try clear hcz11_0); (try clear hcz11_1); (try clear hcz11_2); (try clear hcz11_3); (try clear hfz11_0); (try clear hfz11_1); (try clear hfz11_2); (try clear hfz11_3); (try clear p2); (try clear p6)
    obtain ⟨kq,x38_16,rfl,HA,HJ16,HO_10,HO_11,HO_12,BK412,HB⟩ := hcut
    cases kq with
    | zero => exact absurd HA.out (by simp [l4_struck.j1])
    | succ kj16 =>
     have H := HA.out
     clear HA
     simp only [l4_struck.j1] at H
     by_cases c19 : x38_16 = true
     rotate_left
     ·replace c19 := Bool.eq_false_iff.mpr c19
      subst c19
      have H1 : (l4_struck.l1 kj16 l1 x10_1 x12_1 0 0) = some (r1,r2,r3) := by rw [if_neg (show ¬ (false = true) by decide)] at H; exact H
      clear H
      have H := H1
      clear H1
      have H' := Aside0.mk H
      clear H
      go_wp2
      go_loopg [17,18] kj16 (fun kq v17 v18 w' => ∃ (x17_3 : Int) (x18_3 : Int),v17 = .int .i64 x17_3 ∧ v18 = .int .i64 x18_3 ∧ Aside0 (l4_struck.l1 kq l1 x10_1 x12_1 x17_3 x18_3 = some (r1,r2,r3)) ∧ Aside0 (kq ≤ kj16) ∧ Aside0 (Kd.R (Kd.int .u8) 5 w' w.heap.size (fun _ => True) v417 x10_1) ∧ Aside0 (Kd.R (Kd.int .i64) 3 w' w.heap.size (fun _ => True) u12 x12_1) ∧ Aside0 (w'.heap[gb412]? = some (.cells #[.int .i64 a0_0,.int .u64 a0_1,.int .i64 a0_2,.int .i64 a0_3] 26 (0,0))) ∧ Aside0 (Below w.heap.size w w'))
      case atStart => exact ⟨(0),(0),(by first | rfl | (simp; done) | (simp [*]; done) | (simp [wrap64]; done)),(by first | rfl | (simp; done) | (simp [*]; done) | (simp [wrap64]; done)),H',⟨Nat.le_refl _⟩,⟨mvR HO_10.out⟩,⟨mvR HO_12.out⟩,⟨mvb BK412.out⟩,⟨mvh HB.out⟩⟩
      case round =>
       (try clear hHeld)
       clear H'
       (try clear c1); (try clear c2); (try clear p2); (try clear q2); (try clear c3); (try clear p3); (try clear q3); (try clear hx3); (try clear hf3); (try clear c4); (try clear p4); (try clear q4); (try clear hx4); (try clear hf4); (try clear p6); (try clear c19); (try clear c20); (try clear c21)
       (try clear q24); (try clear c35); (try clear c37); (try clear c37b0); (try clear c38); (try clear c38b0); (try clear p39); (try clear q39); (try clear hx39); (try clear hf39); (try clear c40); (try clear c40b0); (try clear c41); (try clear c41b0); (try clear c42); (try clear c42b0); (try clear p42)
       (try clear q42); (try clear hx42); (try clear c43); (try clear c43b0); (try clear c43b1); (try clear p44); (try clear q44); (try clear hx44); (try clear hf44); (try clear q45); (try clear c46); (try clear c47); (try clear hx39_0); (try clear hx426_0); (try clear hx427_0); (try clear hx427_1)
       (try clear hx427_2); (try clear hx429_0); (try clear hx429_1); (try clear hx429_2); (try clear hx44_0); (try clear p39); (try clear p424); (try clear p426); (try clear p427); (try clear p429); (try clear p44); (try clear p6); (try clear q2); (try clear q24); (try clear q39); (try clear q4)
       (try clear q422); (try clear q423); (try clear q424); (try clear q426); (try clear q427); (try clear q429); (try clear q44)
       obtain ⟨x17_3,x18_3,rfl,rfl,HA,HK3,HO_10,HO_12,BK412,HB⟩ := hrel
       cases gk with
       | zero => exact absurd HA.out (by simp [l4_struck.l1])
       | succ k3 =>
        have H := HA.out
        clear HA
        simp only [l4_struck.l1] at H
        by_cases c59 : x18_3 < (l1.length : Int)
        rotate_left
        ·rw [if_neg c59] at H
         have c59b0 : decide (x18_3 < (l1.length : Int)) = false := decide_eq_false c59
         clear c59
         simp only [Option.some.injEq,Prod.mk.injEq] at H
         obtain ⟨rfl,rfl,rfl⟩ := H
         go_wp2
         go_ret3
         exact ⟨_,_,by first | rfl | (simp [errW_none,errW_some] <;> rfl) | (simp only [← hji4,← hji6]; first | rfl | (simp [errW_none,errW_some] <;> rfl)) | (simp [*,errW_none,errW_some] <;> rfl),by (with_reducible repeat (first | apply Kd.R_alloc | apply Kd.R_drewN | apply Kd.R_drew)); exact HO_10.out,by (with_reducible repeat (first | apply Kd.R_alloc | apply Kd.R_drewN | apply Kd.R_drew)); exact HO_12.out,mvh HB.out⟩
        rw [if_pos c59] at H
        have c59b0 : decide (x18_3 < (l1.length : Int)) = true := decide_eq_true c59
        clear c59
        by_cases c60 : 0 ≤ x18_3
        rotate_left
        ·rw [if_neg c60] at H
         exact absurd H (by simp)
        rw [if_pos c60] at H
        have c60b0 : decide (0 ≤ x18_3) = true := decide_eq_true c60
        clear c60
        by_cases c61 : x18_3 < (x10_1.length : Int)
        rotate_left
        ·rw [if_neg c61] at H
         exact absurd H (by simp)
        rw [if_pos c61] at H
        have c61b0 : decide (x18_3 < (x10_1.length : Int)) = true := decide_eq_true c61
        clear c61
        by_cases c62 : (rd x10_1 x18_3) = (rd l1 x18_3)
        rotate_left
        ·rw [if_neg c62] at H
         have c62b0 : ((rd x10_1 x18_3) == (rd l1 x18_3)) = false := beq_eq_false_iff_ne.mpr c62
         have c62b1 : ((rd x10_1 x18_3) != (rd l1 x18_3)) = true := bne_iff_ne.mpr c62
         have H' := Aside0.mk H
         clear H
         try go_wp2
         have n0_ := aK (Kd.R_drew HO_10.out)
         have n1_ := aK (Kd.R_drew HO_12.out)
         have n2_ := aK (blk_drew BK412.out)
         have n3_ := aK (below_drew1 HB.out)
         clear HO_10 HO_12 BK412 HB
         have HO_10 := n0_
         have HO_12 := n1_
         have BK412 := n2_
         have HB := n3_
         clear n0_ n1_ n2_ n3_
         obtain ⟨Ao66,co66,eo66⟩ := Kd.R_slice HO_10.out
         (first | subst eo66 | (injection eo66 with f1_ f2_ f3_; have f4_ := f1_.symm; have f5_ := f3_.symm; clear f1_ f2_ f3_; subst f4_; subst f5_))
         have p433 : 0 ≤ (x18_3 : Int) := of_decide_eq_true (by first | (with_reducible assumption) | assumption)
         have q433 : x18_3 < (x10_1.length : Int) := of_decide_eq_true (by first | (with_reducible assumption) | assumption)
         obtain ⟨ad433,e433,hx433_0⟩ := Kd.at_int (Kd.R_reads' HO_10.out).2.2 x18_3 p433 q433
         cases e433
         replace p433 := eq_true p433
         replace q433 := eq_true q433
         have p434 : 0 ≤ (x18_3 : Int) := of_decide_eq_true (by first | (with_reducible assumption) | assumption)
         have q434 : x18_3 < (l1.length : Int) := of_decide_eq_true (by first | (with_reducible assumption) | assumption)
         obtain ⟨ad434,e434,hx434_0⟩ := Kd.at_int HR1.out x18_3 p434 q434
         have hw434_0 := hx434_0
         cases e434
         replace hx434_0 := (HB.out.cell (World.block_lt_of_cell? w _ hx434_0)).trans hx434_0
         replace p434 := eq_true p434
         replace q434 := eq_true q434
         refine start_ (n := 9) (S := fun w' => w'.cell? (ad433.add (x18_3).toNat) = some (.int .u8 (rd x10_1 x18_3)) ∧ w'.cell? (ad434.add (x18_3).toNat) = some (.int .u8 (rd l1 x18_3))) (ds := []) (bl 9 0) (by kernel_rfl) rfl rfl ⟨hx433_0,((HB.out.cell (World.block_lt_of_cell? w _ hw434_0)).trans hw434_0)⟩ (fun hHeld => ?_); refine with_tabW l4_struck.tab23 l4_struck.bits23 (fun HT_ HW_ => ?_)
         generalize wr.drew = w65 at HO_10 HO_12 BK412 HB hx433_0 hx434_0 hHeld ⊢
         refine pu_ (i := 0) (N := some 111) (bl 9 1) rfl rfl HT_.out ?_; refine pu_ (i := 1) (N := some 112) (bl 9 3) rfl rfl HT_.out ?_; refine pu_ (i := 2) (N := some 113) (bl 9 7) rfl rfl HT_.out ?_; refine pu_ (i := 4) (N := some 115) (bl 9 23) rfl rfl HT_.out ?_; refine pu_ (i := 5) (N := some 116) (bl 9 55) rfl rfl HT_.out ?_; refine pu_ (i := 6) (N := some 117) (bl 9 119) rfl rfl HT_.out ?_; refine ta_ (i := 3) (N := some 114) (bl 9 127) rfl rfl HT_.out HW_.out hHeld (by rintro w' ⟨s0,s1⟩; go_simp; with_reducible rfl) ?_; refine ta_ (i := 7) (N := some 118) (bl 9 255) rfl rfl HT_.out HW_.out hHeld (by rintro w' ⟨s0,s1⟩; go_simp; with_reducible rfl) ?_; refine pu_ (i := 8) (N := some 119) (bl 9 511) rfl rfl HT_.out ?_
         refine done_ (done_of HT_.out (by kernel_rfl)) ?_
         try go_wp2
         go_roundg k3
         case measure => have := HK1.out; have := HJ16.out; have := HK3.out; omega
         case rel => exact ⟨(wrap64 (x17_3 + 1)),(wrap64 (x18_3 + 1)),(by first | rfl | (simp; done) | (simp [*]; done) | (simp [wrap64]; done)),(by first | rfl | (simp; done) | (simp [*]; done) | (simp [wrap64]; done)),H',⟨by have := HK1.out; have := HJ16.out; have := HK3.out; omega⟩,⟨mvR HO_10.out⟩,⟨mvR HO_12.out⟩,⟨mvb BK412.out⟩,⟨mvh HB.out⟩⟩
        rw [if_pos c62] at H
        have c62b0 : ((rd x10_1 x18_3) == (rd l1 x18_3)) = true := beq_iff_eq.mpr c62
        have c62b1 : ((rd x10_1 x18_3) != (rd l1 x18_3)) = false := bne_eq_false_iff_eq.mpr c62
        clear c62
        have H' := Aside0.mk H
        clear H
        try go_wp2
        have n0_ := aK (Kd.R_drew HO_10.out)
        have n1_ := aK (Kd.R_drew HO_12.out)
        have n2_ := aK (blk_drew BK412.out)
        have n3_ := aK (below_drew1 HB.out)
        clear HO_10 HO_12 BK412 HB
        have HO_10 := n0_
        have HO_12 := n1_
        have BK412 := n2_
        have HB := n3_
        clear n0_ n1_ n2_ n3_
        obtain ⟨Ao64,co64,eo64⟩ := Kd.R_slice HO_10.out
        (first | subst eo64 | (injection eo64 with f1_ f2_ f3_; have f4_ := f1_.symm; have f5_ := f3_.symm; clear f1_ f2_ f3_; subst f4_; subst f5_))
        have p433 : 0 ≤ (x18_3 : Int) := of_decide_eq_true (by first | (with_reducible assumption) | assumption)
        have q433 : x18_3 < (x10_1.length : Int) := of_decide_eq_true (by first | (with_reducible assumption) | assumption)
        obtain ⟨ad433,e433,hx433_0⟩ := Kd.at_int (Kd.R_reads' HO_10.out).2.2 x18_3 p433 q433
        cases e433
        replace p433 := eq_true p433
        replace q433 := eq_true q433
        have p434 : 0 ≤ (x18_3 : Int) := of_decide_eq_true (by first | (with_reducible assumption) | assumption)
        have q434 : x18_3 < (l1.length : Int) := of_decide_eq_true (by first | (with_reducible assumption) | assumption)
        obtain ⟨ad434,e434,hx434_0⟩ := Kd.at_int HR1.out x18_3 p434 q434
        have hw434_0 := hx434_0
        cases e434
        replace hx434_0 := (HB.out.cell (World.block_lt_of_cell? w _ hx434_0)).trans hx434_0
        replace p434 := eq_true p434
        replace q434 := eq_true q434
        refine start_ (n := 9) (S := fun w' => w'.cell? (ad433.add (x18_3).toNat) = some (.int .u8 (rd x10_1 x18_3)) ∧ w'.cell? (ad434.add (x18_3).toNat) = some (.int .u8 (rd l1 x18_3))) (ds := []) (bl 9 0) (by kernel_rfl) rfl rfl ⟨hx433_0,((HB.out.cell (World.block_lt_of_cell? w _ hw434_0)).trans hw434_0)⟩ (fun hHeld => ?_); refine with_tabW l4_struck.tab23 l4_struck.bits23 (fun HT_ HW_ => ?_)
        generalize wr.drew = w63 at HO_10 HO_12 BK412 HB hx433_0 hx434_0 hHeld ⊢
        refine pu_ (i := 0) (N := some 111) (bl 9 1) rfl rfl HT_.out ?_; refine pu_ (i := 1) (N := some 112) (bl 9 3) rfl rfl HT_.out ?_; refine pu_ (i := 2) (N := some 113) (bl 9 7) rfl rfl HT_.out ?_; refine pu_ (i := 4) (N := some 115) (bl 9 23) rfl rfl HT_.out ?_; refine pu_ (i := 5) (N := some 116) (bl 9 55) rfl rfl HT_.out ?_; refine pu_ (i := 6) (N := some 117) (bl 9 119) rfl rfl HT_.out ?_; refine ta_ (i := 3) (N := some 114) (bl 9 127) rfl rfl HT_.out HW_.out hHeld (by rintro w' ⟨s0,s1⟩; go_simp; with_reducible rfl) ?_; refine ta_ (i := 7) (N := some 118) (bl 9 255) rfl rfl HT_.out HW_.out hHeld (by rintro w' ⟨s0,s1⟩; go_simp; with_reducible rfl) ?_; refine pu_ (i := 8) (N := some 119) (bl 9 511) rfl rfl HT_.out ?_
        refine done_ (done_of HT_.out (by kernel_rfl)) ?_
        try go_wp2
        go_roundg k3
        case measure => have := HK1.out; have := HJ16.out; have := HK3.out; omega
        case rel => exact ⟨(x17_3),(wrap64 (x18_3 + 1)),(by first | rfl | (simp; done) | (simp [*]; done) | (simp [wrap64]; done)),(by first | rfl | (simp; done) | (simp [*]; done) | (simp [wrap64]; done)),H',⟨by have := HK1.out; have := HJ16.out; have := HK3.out; omega⟩,⟨mvR HO_10.out⟩,⟨mvR HO_12.out⟩,⟨mvb BK412.out⟩,⟨mvh HB.out⟩⟩
     subst c19
     have H1 : (if 0 ≤ x14_1 then (if x14_1 < (l2.length : Int) then (if (l1.length : Int) = 0 then (none) else (if (rd_T70 l2 x14_1).f2 = true then (l4_struck.j2 kj16 l1 l2 ji6 x10_1 x11_1 x12_1 x13_1 x14_1 (Int.tmod (wrap64 ((Int.tmod ((rd_T70 l2 x14_1).f0) (l1.length : Int)) + (l1.length : Int))) (l1.length : Int)) 1 a0_0 a0_1 a0_2 a0_3) else (l4_struck.j2 kj16 l1 l2 ji6 x10_1 x11_1 x12_1 x13_1 x14_1 (Int.tmod (wrap64 ((Int.tmod ((rd_T70 l2 x14_1).f0) (l1.length : Int)) + (l1.length : Int))) (l1.length : Int)) 2 a0_0 a0_1 a0_2 a0_3))) else (none)) else (none)) = some (r1,r2,r3) := by rw [if_pos rfl] at H; exact H
     clear H
     have H := H1
     clear H1
     by_cases c20 : 0 ≤ x14_1
     rotate_left
     ·rw [if_neg c20] at H
      exact absurd H (by simp)
     rw [if_pos c20] at H
     have c20b0 : decide (0 ≤ x14_1) = true := decide_eq_true c20
     clear c20
     by_cases c21 : x14_1 < (l2.length : Int)
     rotate_left
     ·rw [if_neg c21] at H
      exact absurd H (by simp)
     rw [if_pos c21] at H
     have c21b0 : decide (x14_1 < (l2.length : Int)) = true := decide_eq_true c21
     clear c21
     by_cases c22 : (l1.length : Int) = 0
     ·rw [if_pos c22] at H
      exact absurd H (by simp)
     ·rw [if_neg c22] at H
      have c22b0 : ((l1.length : Int) == 0) = false := beq_eq_false_iff_ne.mpr c22
      have c22b1 : ((l1.length : Int) != 0) = true := bne_iff_ne.mpr c22
      have c22b2 : ¬ (l1 = []) := fun h_ => c22 (by rw [h_]; rfl)
      have HC23 := Aside0.mk H
      clear H
      have p422 : 0 ≤ (x14_1 : Int) := of_decide_eq_true (by first | (with_reducible assumption) | assumption)
      have q422 : x14_1 < (l2.length : Int) := of_decide_eq_true (by first | (with_reducible assumption) | assumption)
      obtain ⟨ad422,e422,hx422_0,hx422_1,hx422_2⟩ := at_T70 HR2.out x14_1 p422 q422
      cases e422
      replace hx422_0 := (HB.out.cell (World.block_lt_of_cell? w _ hx422_0)).trans hx422_0
      replace hx422_1 := (HB.out.cell (World.block_lt_of_cell? w _ hx422_1)).trans hx422_1
      replace hx422_2 := (HB.out.cell (World.block_lt_of_cell? w _ hx422_2)).trans hx422_2
      replace p422 := eq_true p422
      replace q422 := eq_true q422
      have p423 : 0 ≤ (x14_1 : Int) := of_decide_eq_true (by first | (with_reducible assumption) | assumption)
      have q423 : x14_1 < (l2.length : Int) := of_decide_eq_true (by first | (with_reducible assumption) | assumption)
      obtain ⟨ad423,e423,hx423_0,hx423_1,hx423_2⟩ := at_T70 HR2.out x14_1 p423 q423
      obtain rfl : ad422 = ad423 := (by injection e423)
      replace hx423_0 := (HB.out.cell (World.block_lt_of_cell? w _ hx423_0)).trans hx423_0
      replace hx423_1 := (HB.out.cell (World.block_lt_of_cell? w _ hx423_1)).trans hx423_1
      replace hx423_2 := (HB.out.cell (World.block_lt_of_cell? w _ hx423_2)).trans hx423_2
      replace p423 := eq_true p423
      replace q423 := eq_true q423
      go_upto_if 59 with (fail)
      go_cut [16] (fun v16 wc => ∃ (kq : Nat) (x16_22 : Int),v16 = .int .i64 x16_22 ∧ Aside0 (l4_struck.j2 kq l1 l2 ji6 x10_1 x11_1 x12_1 x13_1 x14_1 (Int.tmod (wrap64 ((Int.tmod ((rd_T70 l2 x14_1).f0) (l1.length : Int)) + (l1.length : Int))) (l1.length : Int)) x16_22 a0_0 a0_1 a0_2 a0_3 = some (r1,r2,r3)) ∧ Aside0 (kq ≤ kj16) ∧ Aside0 (Kd.R (Kd.int .u8) 5 wc w.heap.size (fun _ => True) v417 x10_1) ∧ Aside0 (Kd.R Kd.bool 4 wc w.heap.size (fun _ => True) v420 x11_1) ∧ Aside0 (Kd.R (Kd.int .i64) 3 wc w.heap.size (fun _ => True) u12 x12_1) ∧ Aside0 (wc.heap[gb412]? = some (.cells #[.int .i64 a0_0,.int .u64 a0_1,.int .i64 a0_2,.int .i64 a0_3] 26 (0,0))) ∧ Aside0 (Below w.heap.size w wc))
      case first =>
       have H := HC23.out
       clear HC23
       obtain ⟨bq24,hbq24⟩ : ∃ b_ : Bool,b_ = ((rd_T70 l2 x14_1).f2) := ⟨_,rfl⟩
       replace H : (if bq24 = true then (l4_struck.j2 kj16 l1 l2 ji6 x10_1 x11_1 x12_1 x13_1 x14_1 (Int.tmod (wrap64 ((Int.tmod ((rd_T70 l2 x14_1).f0) (l1.length : Int)) + (l1.length : Int))) (l1.length : Int)) 1 a0_0 a0_1 a0_2 a0_3) else (l4_struck.j2 kj16 l1 l2 ji6 x10_1 x11_1 x12_1 x13_1 x14_1 (Int.tmod (wrap64 ((Int.tmod ((rd_T70 l2 x14_1).f0) (l1.length : Int)) + (l1.length : Int))) (l1.length : Int)) 2 a0_0 a0_1 a0_2 a0_3)) = some (r1,r2,r3) := by rw [← hbq24] at H; exact H
       have Nbq24 := Aside0.mk hbq24
       clear hbq24
       (try rw [← Nbq24.out])
       by_cases c25 : bq24 = true
       ·subst c25
        have H1 : (l4_struck.j2 kj16 l1 l2 ji6 x10_1 x11_1 x12_1 x13_1 x14_1 (Int.tmod (wrap64 ((Int.tmod ((rd_T70 l2 x14_1).f0) (l1.length : Int)) + (l1.length : Int))) (l1.length : Int)) 1 a0_0 a0_1 a0_2 a0_3) = some (r1,r2,r3) := by rw [if_pos rfl] at H; exact H
        clear H
        have H := H1
        clear H1
        have H' := Aside0.mk H
        clear H
        go_wp2
        go_meet
        case rel => exact ⟨_,(1),(by first | rfl | (simp; done) | (simp [*]; done) | (simp [wrap64]; done)),H',⟨by have := HK1.out; have := HJ16.out; first | omega | exact Nat.le_refl _⟩,⟨mvR HO_10.out⟩,⟨mvR HO_11.out⟩,⟨mvR HO_12.out⟩,⟨mvb BK412.out⟩,⟨mvh HB.out⟩⟩
       ·replace c25 := Bool.eq_false_iff.mpr c25
        subst c25
        have H1 : (l4_struck.j2 kj16 l1 l2 ji6 x10_1 x11_1 x12_1 x13_1 x14_1 (Int.tmod (wrap64 ((Int.tmod ((rd_T70 l2 x14_1).f0) (l1.length : Int)) + (l1.length : Int))) (l1.length : Int)) 2 a0_0 a0_1 a0_2 a0_3) = some (r1,r2,r3) := by rw [if_neg (show ¬ (false = true) by decide)] at H; exact H
        clear H
        have H := H1
        clear H1
        have H' := Aside0.mk H
        clear H
        go_wp2
        go_meet
        case rel => exact ⟨_,(2),(by first | rfl | (simp; done) | (simp [*]; done) | (simp [wrap64]; done)),H',⟨by have := HK1.out; have := HJ16.out; first | omega | exact Nat.le_refl _⟩,⟨mvR HO_10.out⟩,⟨mvR HO_11.out⟩,⟨mvR HO_12.out⟩,⟨mvb BK412.out⟩,⟨mvh HB.out⟩⟩
      case rest =>
       clear HC23
       (try clear c1); (try clear c2); (try clear p2); (try clear q2); (try clear p4); (try clear q4); (try clear hx4); (try clear c5); (try clear c5b0); (try clear c5b1); (try clear p6); (try clear c7); (try clear c8); (try clear c8b0); (try clear c8b1); (try clear c9); (try clear c9b0); (try clear c9b1)
       (try clear c12); (try clear c18); (try clear c18b0); (try clear c18b1); (try clear c19); (try clear c20); (try clear c20b0); (try clear c21); (try clear c21b0); (try clear c22); (try clear c22b0); (try clear c22b1); (try clear c22b2); (try clear q24); (try clear c25); (try clear hcz11_0)
       (try clear hcz11_1); (try clear hcz11_2); (try clear hcz11_3); (try clear hfz11_0); (try clear hfz11_1); (try clear hfz11_2); (try clear hfz11_3); (try clear hx422_0); (try clear hx422_1); (try clear hx422_2); (try clear hx423_0); (try clear hx423_1); (try clear hx423_2); (try clear p2)
       (try clear p422); (try clear p423); (try clear p6); (try clear q422); (try clear q423)
       obtain ⟨kq,x16_22,rfl,HA,HJ22,HO_10,HO_11,HO_12,BK412,HB⟩ := hcut
       cases kq with
       | zero => exact absurd HA.out (by simp [l4_struck.j2])
       | succ kj22 =>
        have H := HA.out
        clear HA
        simp only [l4_struck.j2] at H
        have HC26 := Aside0.mk H
        clear H
        go_upto_region 13 with (fail)
        go_cut [71] (fun v71 wc => ∃ (kq : Nat) (x71_25 : Bool),v71 = .bool x71_25 ∧ Aside0 (l4_struck.j3 kq l1 l2 ji6 x10_1 x11_1 x12_1 x13_1 x14_1 (Int.tmod (wrap64 ((Int.tmod ((rd_T70 l2 x14_1).f0) (l1.length : Int)) + (l1.length : Int))) (l1.length : Int)) x16_22 x71_25 a0_0 a0_1 a0_2 a0_3 = some (r1,r2,r3)) ∧ Aside0 (kq ≤ kj22) ∧ Aside0 (Kd.R (Kd.int .u8) 5 wc w.heap.size (fun _ => True) v417 x10_1) ∧ Aside0 (Kd.R Kd.bool 4 wc w.heap.size (fun _ => True) v420 x11_1) ∧ Aside0 (Kd.R (Kd.int .i64) 3 wc w.heap.size (fun _ => True) u12 x12_1) ∧ Aside0 (wc.heap[gb412]? = some (.cells #[.int .i64 a0_0,.int .u64 a0_1,.int .i64 a0_2,.int .i64 a0_3] 26 (0,0))) ∧ Aside0 (Below w.heap.size w wc))
        case first =>
         have H := HC26.out
         clear HC26
         obtain ⟨ji27,hji27⟩ : ∃ j_ : Int,(Int.tmod (wrap64 ((Int.tmod ((rd_T70 l2 x14_1).f0) (l1.length : Int)) + (l1.length : Int))) (l1.length : Int)) = j_ := ⟨_,rfl⟩
         first | rw [hji27] at H | simp only [hji27] at H
         by_cases c28 : 0 ≤ (ji27)
         rotate_left
         ·rw [if_neg c28] at H
          exact absurd H (by simp)
         rw [if_pos c28] at H
         have c28b0 : decide (0 ≤ (ji27)) = true := decide_eq_true c28
         clear c28
         (first | rw [c28b0] | (simp only [i64_w,i32_w]; rw [c28b0]) | rw [c28b1] | skip)
         by_cases c29 : (ji27) < (x11_1.length : Int)
         rotate_left
         ·rw [if_neg c29] at H
          exact absurd H (by simp)
         rw [if_pos c29] at H
         have c29b0 : decide ((ji27) < (x11_1.length : Int)) = true := decide_eq_true c29
         clear c29
         obtain ⟨bq30,hbq30⟩ : ∃ b_ : Bool,b_ = (rdOf false x11_1 (ji27)) := ⟨_,rfl⟩
         replace H : (if bq30 = true then (l4_struck.j3 kj22 l1 l2 ji6 x10_1 x11_1 x12_1 x13_1 x14_1 (ji27) x16_22 true a0_0 a0_1 a0_2 a0_3) else (l4_struck.j3 kj22 l1 l2 ji6 x10_1 x11_1 x12_1 x13_1 x14_1 (ji27) x16_22 (decide ((wrap64 (x13_1 + x16_22)) > a0_3)) a0_0 a0_1 a0_2 a0_3)) = some (r1,r2,r3) := by rw [← hbq30] at H; exact H
         have Nbq30 := Aside0.mk hbq30
         clear hbq30
         by_cases c31 : bq30 = true
         ·subst c31
          have H1 : (l4_struck.j3 kj22 l1 l2 ji6 x10_1 x11_1 x12_1 x13_1 x14_1 (ji27) x16_22 true a0_0 a0_1 a0_2 a0_3) = some (r1,r2,r3) := by rw [if_pos rfl] at H; exact H
          clear H
          have H := H1
          clear H1
          have H' := Aside0.mk H
          clear H
          obtain ⟨Ao32,co32,eo32⟩ := Kd.R_slice HO_11.out
          subst eo32
          have p424 : 0 ≤ ((ji27) : Int) := of_decide_eq_true (by first | (with_reducible assumption) | assumption)
          have q424 : (ji27) < (x11_1.length : Int) := of_decide_eq_true (by first | (with_reducible assumption) | assumption)
          obtain ⟨ad424,e424,hx424_0⟩ := Kd.at_bool (Kd.R_reads' HO_11.out).2.2 (ji27) p424 q424
          (try rw [← Nbq30.out] at hx424_0)
          cases e424
          replace p424 := eq_true p424
          replace q424 := eq_true q424
          go_wp2
          (try subst hji27)
          go_meet
          case rel => exact ⟨_,(true),(by first | rfl | (simp; done) | (simp [*]; done) | (simp [wrap64]; done)),H',⟨by have := HK1.out; have := HJ16.out; have := HJ22.out; first | omega | exact Nat.le_refl _⟩,⟨mvR HO_10.out⟩,⟨mvR HO_11.out⟩,⟨mvR HO_12.out⟩,⟨mvb BK412.out⟩,⟨mvh HB.out⟩⟩
         ·replace c31 := Bool.eq_false_iff.mpr c31
          subst c31
          have H1 : (l4_struck.j3 kj22 l1 l2 ji6 x10_1 x11_1 x12_1 x13_1 x14_1 (ji27) x16_22 (decide ((wrap64 (x13_1 + x16_22)) > a0_3)) a0_0 a0_1 a0_2 a0_3) = some (r1,r2,r3) := by rw [if_neg (show ¬ (false = true) by decide)] at H; exact H
          clear H
          have H := H1
          clear H1
          have H' := Aside0.mk H
          clear H
          obtain ⟨Ao33,co33,eo33⟩ := Kd.R_slice HO_11.out
          subst eo33
          have p424 : 0 ≤ ((ji27) : Int) := of_decide_eq_true (by first | (with_reducible assumption) | assumption)
          have q424 : (ji27) < (x11_1.length : Int) := of_decide_eq_true (by first | (with_reducible assumption) | assumption)
          obtain ⟨ad424,e424,hx424_0⟩ := Kd.at_bool (Kd.R_reads' HO_11.out).2.2 (ji27) p424 q424
          (try rw [← Nbq30.out] at hx424_0)
          cases e424
          replace p424 := eq_true p424
          replace q424 := eq_true q424
          obtain ⟨hcz34_0,hcz34_1,hcz34_2,hcz34_3,hfz34_0,hfz34_1,hfz34_2,hfz34_3⟩ := cf4 BK412.out
          go_wp2
          (try subst hji27)
          go_meet
          case rel => exact ⟨_,(decide ((wrap64 (x13_1 + x16_22)) > a0_3)),(by first | rfl | (simp; done) | (simp [*]; done) | (simp [wrap64]; done)),H',⟨by have := HK1.out; have := HJ16.out; have := HJ22.out; first | omega | exact Nat.le_refl _⟩,⟨mvR HO_10.out⟩,⟨mvR HO_11.out⟩,⟨mvR HO_12.out⟩,⟨mvb BK412.out⟩,⟨mvh HB.out⟩⟩
        case rest =>
         clear HC26
         (try clear c1); (try clear c2); (try clear p2); (try clear q2); (try clear c3); (try clear q3); (try clear p4); (try clear q4); (try clear hx4); (try clear c5); (try clear c5b0); (try clear c5b1); (try clear p6); (try clear c7); (try clear c8); (try clear c8b0); (try clear c8b1); (try clear c9)
         (try clear c9b0); (try clear c9b1); (try clear c12); (try clear c18); (try clear c18b0); (try clear c18b1); (try clear c19); (try clear c20); (try clear c20b0); (try clear c21); (try clear c21b0); (try clear c22); (try clear c22b0); (try clear c22b1); (try clear c22b2); (try clear q24)
         (try clear c25); (try clear c28); (try clear c28b0); (try clear c28b1); (try clear c29); (try clear c29b0); (try clear q30); (try clear c31); (try clear hcz11_0); (try clear hcz11_1); (try clear hcz11_2); (try clear hcz11_3); (try clear hcz34_0); (try clear hcz34_1); (try clear hcz34_2)
         (try clear hcz34_3); (try clear hfz11_0); (try clear hfz11_1); (try clear hfz11_2); (try clear hfz11_3); (try clear hfz34_0); (try clear hfz34_1); (try clear hfz34_2); (try clear hfz34_3); (try clear hx422_0); (try clear hx422_1); (try clear hx422_2); (try clear hx423_0); (try clear hx423_1)
         (try clear hx423_2); (try clear hx424_0); (try clear p2); (try clear p4); (try clear p422); (try clear p423); (try clear p424); (try clear p6); (try clear q2); (try clear q24); (try clear q4); (try clear q422); (try clear q423); (try clear q424)
         obtain ⟨kq,x71_25,rfl,HA,HJ25,HO_10,HO_11,HO_12,BK412,HB⟩ := hcut
         cases kq with
         | zero => exact absurd HA.out (by simp [l4_struck.j3])
         | succ kj25 =>
          have H := HA.out
          clear HA
          simp only [l4_struck.j3] at H
          by_cases c35 : x71_25 = true
          ·subst c35
           have H1 : (l4_struck.l0 kj25 l1 l2 ji6 x10_1 x11_1 x12_1 x13_1 (wrap64 (x14_1 + 1)) a0_0 a0_1 a0_2 a0_3) = some (r1,r2,r3) := by rw [if_pos rfl] at H; exact H
           clear H
           have H := H1
           clear H1
           have H' := Aside0.mk H
           clear H
           go_wp2
           go_roundg kj25
           case measure => have := HK1.out; have := HJ16.out; have := HJ22.out; have := HJ25.out; omega
           case rel => exact ⟨(x10_1),(x11_1),(x12_1),(x13_1),(wrap64 (x14_1 + 1)),(by first | rfl | (simp; done) | (simp [*]; done) | (simp [wrap64]; done)),(by first | rfl | (simp; done) | (simp [*]; done) | (simp [wrap64]; done)),H',⟨by have := HK1.out; have := HJ16.out; have := HJ22.out; have := HJ25.out; omega⟩,⟨mvR HO_10.out⟩,⟨mvR HO_11.out⟩,⟨mvR HO_12.out⟩,⟨mvb BK412.out⟩,⟨mvh HB.out⟩⟩
          ·replace c35 := Bool.eq_false_iff.mpr c35
           subst c35
           have H1 : (if 0 ≤ (Int.tmod (wrap64 ((Int.tmod ((rd_T70 l2 x14_1).f0) (l1.length : Int)) + (l1.length : Int))) (l1.length : Int)) then (if (Int.tmod (wrap64 ((Int.tmod ((rd_T70 l2 x14_1).f0) (l1.length : Int)) + (l1.length : Int))) (l1.length : Int)) < (x11_1.length : Int) then ((some (x11_1.set ((Int.tmod (wrap64 ((Int.tmod ((rd_T70 l2 x14_1).f0) (l1.length : Int)) + (l1.length : Int))) (l1.length : Int)) : Int).toNat true : List Bool)).bind fun y425 => (if (Int.tmod (wrap64 ((Int.tmod ((rd_T70 l2 x14_1).f0) (l1.length : Int)) + (l1.length : Int))) (l1.length : Int)) < (x10_1.length : Int) then (if 0 ≤ x14_1 then (if x14_1 < (l2.length : Int) then (if ji6 = 0 then (none) else ((some (x10_1.set ((Int.tmod (wrap64 ((Int.tmod ((rd_T70 l2 x14_1).f0) (l1.length : Int)) + (l1.length : Int))) (l1.length : Int)) : Int).toNat ((Int.tmod (Go.bits .xor .i64 (wrap64 (rd x10_1 (Int.tmod (wrap64 ((Int.tmod ((rd_T70 l2 x14_1).f0) (l1.length : Int)) + (l1.length : Int))) (l1.length : Int)))) (wrap64 ((rd_T70 l2 x14_1).f1))) ji6) % 256) : List Int)).bind fun y428 => (if (rd_T70 l2 x14_1).f2 = true then (if x12_1.length < 17592186044416 then (l4_struck.l0 kj25 l1 l2 ji6 y428 y425 (x12_1 ++ [(Int.tmod (wrap64 ((Int.tmod ((rd_T70 l2 x14_1).f0) (l1.length : Int)) + (l1.length : Int))) (l1.length : Int))]) (wrap64 (x13_1 + x16_22)) (wrap64 (x14_1 + 1)) a0_0 a0_1 a0_2 a0_3) else (none)) else (l4_struck.l0 kj25 l1 l2 ji6 y428 y425 x12_1 (wrap64 (x13_1 + x16_22)) (wrap64 (x14_1 + 1)) a0_0 a0_1 a0_2 a0_3)))) else (none)) else (none)) else (none))) else (none)) else (none)) = some (r1,r2,r3) := by rw [if_neg (show ¬ (false = true) by decide)] at H; exact H
           clear H
           have H := H1
           clear H1
           obtain ⟨ji36,hji36⟩ : ∃ j_ : Int,(Int.tmod (wrap64 ((Int.tmod ((rd_T70 l2 x14_1).f0) (l1.length : Int)) + (l1.length : Int))) (l1.length : Int)) = j_ := ⟨_,rfl⟩
           first | rw [hji36] at H | simp only [hji36] at H
           by_cases c37 : 0 ≤ (ji36)
           rotate_left
           ·rw [if_neg c37] at H
            exact absurd H (by simp)
           rw [if_pos c37] at H
           have c37b0 : decide (0 ≤ (ji36)) = true := decide_eq_true c37
           clear c37
           by_cases c38 : (ji36) < (x11_1.length : Int)
           rotate_left
           ·rw [if_neg c38] at H
            exact absurd H (by simp)
           rw [if_pos c38] at H
           have c38b0 : decide ((ji36) < (x11_1.length : Int)) = true := decide_eq_true c38
           clear c38
           obtain ⟨y425,hy425⟩ : ∃ y_ : List Bool,y_ = (x11_1.set ((ji36) : Int).toNat true) := ⟨_,rfl⟩
           replace H : (if (ji36) < (x10_1.length : Int) then (if 0 ≤ x14_1 then (if x14_1 < (l2.length : Int) then (if ji6 = 0 then (none) else ((some (x10_1.set ((ji36) : Int).toNat ((Int.tmod (Go.bits .xor .i64 (wrap64 (rd x10_1 (ji36))) (wrap64 ((rd_T70 l2 x14_1).f1))) ji6) % 256) : List Int)).bind fun y428 => (if (rd_T70 l2 x14_1).f2 = true then (if x12_1.length < 17592186044416 then (l4_struck.l0 kj25 l1 l2 ji6 y428 y425 (x12_1 ++ [(ji36)]) (wrap64 (x13_1 + x16_22)) (wrap64 (x14_1 + 1)) a0_0 a0_1 a0_2 a0_3) else (none)) else (l4_struck.l0 kj25 l1 l2 ji6 y428 y425 x12_1 (wrap64 (x13_1 + x16_22)) (wrap64 (x14_1 + 1)) a0_0 a0_1 a0_2 a0_3)))) else (none)) else (none)) else (none)) = some (r1,r2,r3) := by rw [hy425]; exact H
           have Ny425 := Aside0.mk hy425
           clear hy425
           by_cases c40 : (ji36) < (x10_1.length : Int)
           rotate_left
           ·rw [if_neg c40] at H
            exact absurd H (by simp)
           rw [if_pos c40] at H
           have c40b0 : decide ((ji36) < (x10_1.length : Int)) = true := decide_eq_true c40
           clear c40
           by_cases c41 : 0 ≤ x14_1
           rotate_left
           ·rw [if_neg c41] at H
            exact absurd H (by simp)
           rw [if_pos c41] at H
           have c41b0 : decide (0 ≤ x14_1) = true := decide_eq_true c41
           clear c41
           by_cases c42 : x14_1 < (l2.length : Int)
           rotate_left
           ·rw [if_neg c42] at H
            exact absurd H (by simp)
           rw [if_pos c42] at H
           have c42b0 : decide (x14_1 < (l2.length : Int)) = true := decide_eq_true c42
           clear c42
           by_cases c43 : ji6 = 0
           ·rw [if_pos c43] at H
            exact absurd H (by simp)
           ·rw [if_neg c43] at H
            have c43b0 : (ji6 == 0) = false := beq_eq_false_iff_ne.mpr c43
            have c43b1 : (ji6 != 0) = true := bne_iff_ne.mpr c43
            obtain ⟨y428,hy428⟩ : ∃ y_ : List Int,y_ = (x10_1.set ((ji36) : Int).toNat ((Int.tmod (Go.bits .xor .i64 (wrap64 (rd x10_1 (ji36))) (wrap64 ((rd_T70 l2 x14_1).f1))) ji6) % 256)) := ⟨_,rfl⟩
            replace H : (if (rd_T70 l2 x14_1).f2 = true then (if x12_1.length < 17592186044416 then (l4_struck.l0 kj25 l1 l2 ji6 y428 y425 (x12_1 ++ [(ji36)]) (wrap64 (x13_1 + x16_22)) (wrap64 (x14_1 + 1)) a0_0 a0_1 a0_2 a0_3) else (none)) else (l4_struck.l0 kj25 l1 l2 ji6 y428 y425 x12_1 (wrap64 (x13_1 + x16_22)) (wrap64 (x14_1 + 1)) a0_0 a0_1 a0_2 a0_3)) = some (r1,r2,r3) := by rw [hy428]; exact H
            have Ny428 := Aside0.mk hy428
            clear hy428
            obtain ⟨bq45,hbq45⟩ : ∃ b_ : Bool,b_ = ((rd_T70 l2 x14_1).f2) := ⟨_,rfl⟩
            replace H : (if bq45 = true then (if x12_1.length < 17592186044416 then (l4_struck.l0 kj25 l1 l2 ji6 y428 y425 (x12_1 ++ [(ji36)]) (wrap64 (x13_1 + x16_22)) (wrap64 (x14_1 + 1)) a0_0 a0_1 a0_2 a0_3) else (none)) else (l4_struck.l0 kj25 l1 l2 ji6 y428 y425 x12_1 (wrap64 (x13_1 + x16_22)) (wrap64 (x14_1 + 1)) a0_0 a0_1 a0_2 a0_3)) = some (r1,r2,r3) := by rw [← hbq45] at H; exact H
            have Nbq45 := Aside0.mk hbq45
            clear hbq45
            by_cases c46 : bq45 = true
            rotate_left
            ·replace c46 := Bool.eq_false_iff.mpr c46
             subst c46
             have H1 : (l4_struck.l0 kj25 l1 l2 ji6 y428 y425 x12_1 (wrap64 (x13_1 + x16_22)) (wrap64 (x14_1 + 1)) a0_0 a0_1 a0_2 a0_3) = some (r1,r2,r3) := by rw [if_neg (show ¬ (false = true) by decide)] at H; exact H
             clear H
             have H := H1
             clear H1
             have H' := Aside0.mk H
             clear H
             have p39 : 0 ≤ ((ji36) : Int) := of_decide_eq_true (by first | (with_reducible assumption) | assumption)
             have q39 : ((ji36) : Int) < ((x11_1.length : Int) : Int) := of_decide_eq_true (by first | (with_reducible assumption) | assumption)
             obtain ⟨go39,co39,eo39,gb39,gl39,cl39,HG39⟩ := Kd.R_form HO_11.out (by omega)
             (first | cases eo39 | (injection eo39 with ea_ en_ ec_; (first | subst ea_ | (injection ea_ with ea_; subst ea_)); subst ec_; clear en_))
             have GB39 := Aside0.mk gb39
             have GG39 := Aside0.mk HG39
             clear gb39 gl39 HG39
             obtain ⟨hx39_0,hf39_0⟩ := Kd.R_celln false HO_11.out ((ji36) : Int) p39 q39
             replace p39 := eq_true p39
             replace q39 := eq_true q39
             have HP54 := Kd.R_putg HO_11.out ((ji36) : Int) true
             try go_wp2_with (first | ((with_reducible refine gate_store (t := 4) (p := 74) rfl ?_); refine store_event (t := 4) (p := 74) (v := ?vo_w55) (w1 := (wc.setCell ⟨go39,((ji36) : Int).toNat,none⟩ (.bool true))) ?hg ?ho ?hn ?hr ?_; (case ho => rfl); (case hg => rfl); (case hn => rfl); (case hr => first | (go_simp; done) | (go_simp; rfl)); intro w55 hw; have hg : wc.grownBy w55 (some go39) := (by rw [hw]; exact HP54.2); have hp_ : Kd.R Kd.bool 4 w55 w.heap.size (fun _ => True) (.slice (some ⟨go39,0,none⟩) x11_1.length co39) y425 := (by rw [hw,Ny425.out]; exact HP54.1); clear HP54; have n0_ := aK (Kd.R_over' (v := (.slice (some ⟨go39,0,none⟩) x11_1.length co39)) (mvR HO_10.out) (Kd.R_typed HO_11.out) (by decide) hg); have n1_ := aK (hp_); have n2_ := aK (Kd.R_over' (v := (.slice (some ⟨go39,0,none⟩) x11_1.length co39)) (mvR HO_12.out) (Kd.R_typed HO_11.out) (by decide) hg); have n3_ := aK (blk_grown (g := gb412) (o := .cells #[.int .i64 a0_0,.int .u64 a0_1,.int .i64 a0_2,.int .i64 a0_3] 26 (0,0)) (mvb BK412.out) hg (Kd.R_ne HO_11.out BK412.out (by decide))); have n4_ := aK ((by rw [hw]; exact below_set (HB.out) GB39.out : Below w.heap.size w w55)); clear HO_10 HO_11 HO_12 BK412 HB; have HO_10 := n0_; have HO_11 := n1_; have HO_12 := n2_; have BK412 := n3_; have HB := n4_; clear n0_ n1_ n2_ n3_ n4_; clear hg hw hp_))
             have n0_ := aK (Kd.R_drew HO_10.out)
             have n1_ := aK (Kd.R_drew HO_11.out)
             have n2_ := aK (Kd.R_drew HO_12.out)
             have n3_ := aK (blk_drew BK412.out)
             have n4_ := aK (below_drew1 HB.out)
             clear HO_10 HO_11 HO_12 BK412 HB
             have HO_10 := n0_
             have HO_11 := n1_
             have HO_12 := n2_
             have BK412 := n3_
             have HB := n4_
             clear n0_ n1_ n2_ n3_ n4_
             obtain ⟨Ao57,co57,eo57⟩ := Kd.R_slice HO_10.out
             (first | subst eo57 | (injection eo57 with f1_ f2_ f3_; have f4_ := f1_.symm; have f5_ := f3_.symm; clear f1_ f2_ f3_; subst f4_; subst f5_))
             have p426 : 0 ≤ ((ji36) : Int) := of_decide_eq_true (by first | (with_reducible assumption) | assumption)
             have q426 : (ji36) < (x10_1.length : Int) := of_decide_eq_true (by first | (with_reducible assumption) | assumption)
             obtain ⟨ad426,e426,hx426_0⟩ := Kd.at_int (Kd.R_reads' HO_10.out).2.2 (ji36) p426 q426
             cases e426
             replace p426 := eq_true p426
             replace q426 := eq_true q426
             have p427 : 0 ≤ (x14_1 : Int) := of_decide_eq_true (by first | (with_reducible assumption) | assumption)
             have q427 : x14_1 < (l2.length : Int) := of_decide_eq_true (by first | (with_reducible assumption) | assumption)
             obtain ⟨ad427,e427,hx427_0,hx427_1,hx427_2⟩ := at_T70 HR2.out x14_1 p427 q427
             have hw427_2 := hx427_2
             have hw427_1 := hx427_1
             have hw427_0 := hx427_0
             (try rw [← Nbq45.out] at hx427_2 hw427_2)
             obtain rfl : ad422 = ad427 := (by injection e427)
             replace hx427_0 := (HB.out.cell (World.block_lt_of_cell? w _ hx427_0)).trans hx427_0
             replace hx427_1 := (HB.out.cell (World.block_lt_of_cell? w _ hx427_1)).trans hx427_1
             replace hx427_2 := (HB.out.cell (World.block_lt_of_cell? w _ hx427_2)).trans hx427_2
             replace p427 := eq_true p427
             replace q427 := eq_true q427
             have p44 : 0 ≤ ((ji36) : Int) := of_decide_eq_true (by first | (with_reducible assumption) | assumption)
             have q44 : ((ji36) : Int) < ((x10_1.length : Int) : Int) := of_decide_eq_true (by first | (with_reducible assumption) | assumption)
             obtain ⟨go44,co44,eo44,gb44,gl44,cl44,HG44⟩ := Kd.R_form HO_10.out (by omega)
             (first | cases eo44 | (injection eo44 with ea_ en_ ec_; (first | subst ea_ | (injection ea_ with ea_; subst ea_)); subst ec_; clear en_))
             have GB44 := Aside0.mk gb44
             have GG44 := Aside0.mk HG44
             clear gb44 gl44 HG44
             (first | simp only [add_plain] at hx426_0 | skip)
             obtain ⟨hx44_0,hf44_0⟩ := Kd.R_celln 0 HO_10.out ((ji36) : Int) p44 q44
             replace p44 := eq_true p44
             replace q44 := eq_true q44
             have HP58 := Kd.R_putn HO_10.out ((ji36) : Int) ((Int.tmod (Go.bits .xor .i64 (wrap64 (rd x10_1 (ji36))) (wrap64 ((rd_T70 l2 x14_1).f1))) ji6) % 256)
             rw [← Ny428.out] at HP58
             have HQ58 := Aside0.mk HP58
             clear HP58
             refine start_ (n := 19) (S := fun w' => w'.cell? ⟨go44,((ji36)).toNat,none⟩ = some (.int .u8 (rd x10_1 (ji36))) ∧ w'.cell? (ad422.add ((x14_1).toNat * 3)) = some (.int .i64 ((rd_T70 l2 x14_1).f0)) ∧ w'.cell? ⟨(ad422.add ((x14_1).toNat * 3)).block,(ad422.add ((x14_1).toNat * 3)).off + 1,none⟩ = some (.int .u8 ((rd_T70 l2 x14_1).f1)) ∧ w'.cell? ⟨(ad422.add ((x14_1).toNat * 3)).block,(ad422.add ((x14_1).toNat * 3)).off + 2,none⟩ = some (.bool false)) (ds := [18]) #[false,false,false,false,false,false,false,false,false,false,false,false,false,false,false,false,false,false,false] (by kernel_rfl) rfl rfl ⟨hx426_0,((HB.out.cell (World.block_lt_of_cell? w _ hw427_0)).trans hw427_0),((HB.out.cell (World.block_lt_of_cell? w _ hw427_1)).trans hw427_1),((HB.out.cell (World.block_lt_of_cell? w _ hw427_2)).trans hw427_2)⟩ (fun hHeld => ?_); refine with_tabW l4_struck.tab16 l4_struck.bits16 (fun HT_ HW_ => ?_)
             generalize w55.drew = w56 at HO_10 HO_11 HO_12 BK412 HB GG44 HQ58 hf44_0 hx426_0 hx427_0 hx427_1 hx427_2 hx44_0 hHeld ⊢
             refine pu_ (i := 0) (N := some 78) (bl 19 1) rfl rfl HT_.out ?_; refine pu_ (i := 1) (N := some 79) (bl 19 3) rfl rfl HT_.out ?_; refine pu_ (i := 2) (N := some 80) (bl 19 7) rfl rfl HT_.out ?_; refine pu_ (i := 3) (N := some 81) (bl 19 15) rfl rfl HT_.out ?_; refine pu_ (i := 4) (N := some 82) (bl 19 31) rfl rfl HT_.out ?_; refine pu_ (i := 7) (N := some 85) (bl 19 159) rfl rfl HT_.out ?_; refine pu_ (i := 8) (N := some 86) (bl 19 415) rfl rfl HT_.out ?_; refine pu_ (i := 9) (N := some 87) (bl 19 927) rfl rfl HT_.out ?_; refine pu_ (i := 10) (N := some 88) (bl 19 1951) rfl rfl HT_.out ?_; refine pu_ (i := 14) (N := some 92) (bl 19 18335) rfl rfl HT_.out ?_; refine ta_ (i := 5) (N := some 83) (bl 19 18367) rfl rfl HT_.out HW_.out hHeld (by rintro w' ⟨s0,s1,s2,s3⟩; go_simp; with_reducible rfl) ?_; refine pu_ (i := 6) (N := some 84) (bl 19 18431) rfl rfl HT_.out ?_; refine ta_ (i := 11) (N := some 89) (bl 19 20479) rfl rfl HT_.out HW_.out hHeld (by rintro w' ⟨s0,s1,s2,s3⟩; go_simp; with_reducible rfl) ?_; refine pu_ (i := 12) (N := some 90) (bl 19 24575) rfl rfl HT_.out ?_; refine pu_ (i := 13) (N := some 91) (bl 19 32767) rfl rfl HT_.out ?_; refine pu_ (i := 15) (N := some 93) (bl 19 65535) rfl rfl HT_.out ?_; refine pu_ (i := 16) (N := some 94) (bl 19 131071) rfl rfl HT_.out ?_; refine pu_ (i := 17) (N := some 95) (bl 19 262143) rfl rfl HT_.out ?_
             refine last_ (i := 18) (N := none) (bl 19 524287) rfl rfl (one_of HT_.out (by kernel_rfl)) (by decide) (fun K hK => ?_)
             refine skip_ (w1 := ?_) (by rfl) rfl ?_ ?_
             rotate_left
             ·go_simp
              rfl
             refine hK.out _ _ ?_
             clear hK K
             refine done_ (done_of HT_.out (by kernel_rfl)) ?_
             have p429 : 0 ≤ (x14_1 : Int) := of_decide_eq_true (by first | (with_reducible assumption) | assumption)
             have q429 : x14_1 < (l2.length : Int) := of_decide_eq_true (by first | (with_reducible assumption) | assumption)
             obtain ⟨ad429,e429,hx429_0,hx429_1,hx429_2⟩ := at_T70 HR2.out x14_1 p429 q429
             (try rw [← Nbq45.out] at hx429_2)
             obtain rfl : ad422 = ad429 := (by injection e429)
             have hn429_0 : ad422.block ≠ go44 := Nat.ne_of_lt (Nat.lt_of_lt_of_le (by have := World.block_lt_of_cell? _ _ hx429_0; first | rwa [add_block] at this | exact this) GB44.out)
             replace hx429_0 := (HB.out.cell (World.block_lt_of_cell? w _ hx429_0)).trans hx429_0
             replace hx429_1 := (HB.out.cell (World.block_lt_of_cell? w _ hx429_1)).trans hx429_1
             replace hx429_2 := (HB.out.cell (World.block_lt_of_cell? w _ hx429_2)).trans hx429_2
             replace hx429_0 := (cell_far (p := ⟨go44,((ji36) : Int).toNat,none⟩) (by first | (rw [add_block]; exact hn429_0) | (show (Addr.add _ _).block ≠ _; rw [add_block]; exact hn429_0) | exact hn429_0) (.int .u8 ((Int.tmod (Go.bits .xor .i64 (wrap64 (rd x10_1 (ji36))) (wrap64 ((rd_T70 l2 x14_1).f1))) ji6) % 256))).trans hx429_0
             replace hx429_1 := (cell_far (p := ⟨go44,((ji36) : Int).toNat,none⟩) (by first | (rw [add_block]; exact hn429_0) | (show (Addr.add _ _).block ≠ _; rw [add_block]; exact hn429_0) | exact hn429_0) (.int .u8 ((Int.tmod (Go.bits .xor .i64 (wrap64 (rd x10_1 (ji36))) (wrap64 ((rd_T70 l2 x14_1).f1))) ji6) % 256))).trans hx429_1
             replace hx429_2 := (cell_far (p := ⟨go44,((ji36) : Int).toNat,none⟩) (by first | (rw [add_block]; exact hn429_0) | (show (Addr.add _ _).block ≠ _; rw [add_block]; exact hn429_0) | exact hn429_0) (.int .u8 ((Int.tmod (Go.bits .xor .i64 (wrap64 (rd x10_1 (ji36))) (wrap64 ((rd_T70 l2 x14_1).f1))) ji6) % 256))).trans hx429_2
             clear hn429_0
             replace p429 := eq_true p429
             replace q429 := eq_true q429
             try go_wp2
             go_roundg kj25
             case measure => have := HK1.out; have := HJ16.out; have := HJ22.out; have := HJ25.out; omega
             case rel => exact ⟨(y428),(y425),(x12_1),(wrap64 (x13_1 + x16_22)),(wrap64 (x14_1 + 1)),(by first | rfl | (simp; done) | (simp [*]; done) | (simp [wrap64]; done)),(by first | rfl | (simp; done) | (simp [*]; done) | (simp [wrap64]; done)),H',⟨by have := HK1.out; have := HJ16.out; have := HJ22.out; have := HJ25.out; omega⟩,⟨mvR HQ58.out⟩,⟨by (with_reducible repeat (first | apply Kd.R_alloc | apply Kd.R_drewN | apply Kd.R_drew)); exact Kd.R_mono (Kd.R_far (p := ⟨go44,((ji36) : Int).toNat,none⟩) (Kd.R_types HO_11.out GG44.out (by decide)) (fun _ hk => hk.2) (.int .u8 ((Int.tmod (Go.bits .xor .i64 (wrap64 (rd x10_1 (ji36))) (wrap64 ((rd_T70 l2 x14_1).f1))) ji6) % 256))) (fun _ hk => trivial)⟩,⟨by (with_reducible repeat (first | apply Kd.R_alloc | apply Kd.R_drewN | apply Kd.R_drew)); exact Kd.R_mono (Kd.R_far (p := ⟨go44,((ji36) : Int).toNat,none⟩) (Kd.R_types HO_12.out GG44.out (by decide)) (fun _ hk => hk.2) (.int .u8 ((Int.tmod (Go.bits .xor .i64 (wrap64 (rd x10_1 (ji36))) (wrap64 ((rd_T70 l2 x14_1).f1))) ji6) % 256))) (fun _ hk => trivial)⟩,⟨by (with_reducible repeat (first | apply bN | apply bD | apply bA)); refine blk_far ?_ (by have h_ := Kd.R_ne HO_10.out BK412.out (by decide); intro e_; exact h_ (by rw [e_]; rfl)) _; exact mvb BK412.out⟩,⟨by repeat (first | (with_reducible first | exact HB.out | apply below_alloc | apply pw_below_drewN | apply below_drew1 | refine below_set ?_ GB44.out | refine below_set ?_ GE412.out) | exact HB.out)⟩⟩
            subst c46
            have H1 : (if x12_1.length < 17592186044416 then (l4_struck.l0 kj25 l1 l2 ji6 y428 y425 (x12_1 ++ [(ji36)]) (wrap64 (x13_1 + x16_22)) (wrap64 (x14_1 + 1)) a0_0 a0_1 a0_2 a0_3) else (none)) = some (r1,r2,r3) := by rw [if_pos rfl] at H; exact H
            clear H
            have H := H1
            clear H1
            by_cases c47 : x12_1.length < 17592186044416
            rotate_left
            ·rw [if_neg c47] at H
             exact absurd H (by simp)
            rw [if_pos c47] at H
            have LMc47 := Aside0.mk c47
            clear c47
            obtain ⟨y430,hy430⟩ : ∃ y_ : List Int,y_ = (x12_1 ++ [(ji36)]) := ⟨_,rfl⟩
            replace H : (l4_struck.l0 kj25 l1 l2 ji6 y428 y425 y430 (wrap64 (x13_1 + x16_22)) (wrap64 (x14_1 + 1)) a0_0 a0_1 a0_2 a0_3) = some (r1,r2,r3) := by rw [hy430]; exact H
            have Ny430 := Aside0.mk hy430
            clear hy430
            have H' := Aside0.mk H
            clear H
            have p39 : 0 ≤ ((ji36) : Int) := of_decide_eq_true (by first | (with_reducible assumption) | assumption)
            have q39 : ((ji36) : Int) < ((x11_1.length : Int) : Int) := of_decide_eq_true (by first | (with_reducible assumption) | assumption)
            obtain ⟨go39,co39,eo39,gb39,gl39,cl39,HG39⟩ := Kd.R_form HO_11.out (by omega)
            (first | cases eo39 | (injection eo39 with ea_ en_ ec_; (first | subst ea_ | (injection ea_ with ea_; subst ea_)); subst ec_; clear en_))
            have GB39 := Aside0.mk gb39
            have GG39 := Aside0.mk HG39
            clear gb39 gl39 HG39
            obtain ⟨hx39_0,hf39_0⟩ := Kd.R_celln false HO_11.out ((ji36) : Int) p39 q39
            replace p39 := eq_true p39
            replace q39 := eq_true q39
            have HP48 := Kd.R_putg HO_11.out ((ji36) : Int) true
            try go_wp2_with (first | ((with_reducible refine gate_store (t := 4) (p := 74) rfl ?_); refine store_event (t := 4) (p := 74) (v := ?vo_w49) (w1 := (wc.setCell ⟨go39,((ji36) : Int).toNat,none⟩ (.bool true))) ?hg ?ho ?hn ?hr ?_; (case ho => rfl); (case hg => rfl); (case hn => rfl); (case hr => first | (go_simp; done) | (go_simp; rfl)); intro w49 hw; have hg : wc.grownBy w49 (some go39) := (by rw [hw]; exact HP48.2); have hp_ : Kd.R Kd.bool 4 w49 w.heap.size (fun _ => True) (.slice (some ⟨go39,0,none⟩) x11_1.length co39) y425 := (by rw [hw,Ny425.out]; exact HP48.1); clear HP48; have n0_ := aK (Kd.R_over' (v := (.slice (some ⟨go39,0,none⟩) x11_1.length co39)) (mvR HO_10.out) (Kd.R_typed HO_11.out) (by decide) hg); have n1_ := aK (hp_); have n2_ := aK (Kd.R_over' (v := (.slice (some ⟨go39,0,none⟩) x11_1.length co39)) (mvR HO_12.out) (Kd.R_typed HO_11.out) (by decide) hg); have n3_ := aK (blk_grown (g := gb412) (o := .cells #[.int .i64 a0_0,.int .u64 a0_1,.int .i64 a0_2,.int .i64 a0_3] 26 (0,0)) (mvb BK412.out) hg (Kd.R_ne HO_11.out BK412.out (by decide))); have n4_ := aK ((by rw [hw]; exact below_set (HB.out) GB39.out : Below w.heap.size w w49)); clear HO_10 HO_11 HO_12 BK412 HB; have HO_10 := n0_; have HO_11 := n1_; have HO_12 := n2_; have BK412 := n3_; have HB := n4_; clear n0_ n1_ n2_ n3_ n4_; clear hg hw hp_))
            have n0_ := aK (Kd.R_drew HO_10.out)
            have n1_ := aK (Kd.R_drew HO_11.out)
            have n2_ := aK (Kd.R_drew HO_12.out)
            have n3_ := aK (blk_drew BK412.out)
            have n4_ := aK (below_drew1 HB.out)
            clear HO_10 HO_11 HO_12 BK412 HB
            have HO_10 := n0_
            have HO_11 := n1_
            have HO_12 := n2_
            have BK412 := n3_
            have HB := n4_
            clear n0_ n1_ n2_ n3_ n4_
            obtain ⟨Ao51,co51,eo51⟩ := Kd.R_slice HO_10.out
            (first | subst eo51 | (injection eo51 with f1_ f2_ f3_; have f4_ := f1_.symm; have f5_ := f3_.symm; clear f1_ f2_ f3_; subst f4_; subst f5_))
            have p426 : 0 ≤ ((ji36) : Int) := of_decide_eq_true (by first | (with_reducible assumption) | assumption)
            have q426 : (ji36) < (x10_1.length : Int) := of_decide_eq_true (by first | (with_reducible assumption) | assumption)
            obtain ⟨ad426,e426,hx426_0⟩ := Kd.at_int (Kd.R_reads' HO_10.out).2.2 (ji36) p426 q426
            cases e426
            replace p426 := eq_true p426
            replace q426 := eq_true q426
            have p427 : 0 ≤ (x14_1 : Int) := of_decide_eq_true (by first | (with_reducible assumption) | assumption)
            have q427 : x14_1 < (l2.length : Int) := of_decide_eq_true (by first | (with_reducible assumption) | assumption)
            obtain ⟨ad427,e427,hx427_0,hx427_1,hx427_2⟩ := at_T70 HR2.out x14_1 p427 q427
            have hw427_2 := hx427_2
            have hw427_1 := hx427_1
            have hw427_0 := hx427_0
            (try rw [← Nbq45.out] at hx427_2 hw427_2)
            obtain rfl : ad422 = ad427 := (by injection e427)
            replace hx427_0 := (HB.out.cell (World.block_lt_of_cell? w _ hx427_0)).trans hx427_0
            replace hx427_1 := (HB.out.cell (World.block_lt_of_cell? w _ hx427_1)).trans hx427_1
            replace hx427_2 := (HB.out.cell (World.block_lt_of_cell? w _ hx427_2)).trans hx427_2
            replace p427 := eq_true p427
            replace q427 := eq_true q427
            have p44 : 0 ≤ ((ji36) : Int) := of_decide_eq_true (by first | (with_reducible assumption) | assumption)
            have q44 : ((ji36) : Int) < ((x10_1.length : Int) : Int) := of_decide_eq_true (by first | (with_reducible assumption) | assumption)
            obtain ⟨go44,co44,eo44,gb44,gl44,cl44,HG44⟩ := Kd.R_form HO_10.out (by omega)
            (first | cases eo44 | (injection eo44 with ea_ en_ ec_; (first | subst ea_ | (injection ea_ with ea_; subst ea_)); subst ec_; clear en_))
            have GB44 := Aside0.mk gb44
            have GG44 := Aside0.mk HG44
            clear gb44 gl44 HG44
            (first | simp only [add_plain] at hx426_0 | skip)
            obtain ⟨hx44_0,hf44_0⟩ := Kd.R_celln 0 HO_10.out ((ji36) : Int) p44 q44
            replace p44 := eq_true p44
            replace q44 := eq_true q44
            have HP52 := Kd.R_putn HO_10.out ((ji36) : Int) ((Int.tmod (Go.bits .xor .i64 (wrap64 (rd x10_1 (ji36))) (wrap64 ((rd_T70 l2 x14_1).f1))) ji6) % 256)
            rw [← Ny428.out] at HP52
            have HQ52 := Aside0.mk HP52
            clear HP52
            refine start_ (n := 19) (S := fun w' => w'.cell? ⟨go44,((ji36)).toNat,none⟩ = some (.int .u8 (rd x10_1 (ji36))) ∧ w'.cell? (ad422.add ((x14_1).toNat * 3)) = some (.int .i64 ((rd_T70 l2 x14_1).f0)) ∧ w'.cell? ⟨(ad422.add ((x14_1).toNat * 3)).block,(ad422.add ((x14_1).toNat * 3)).off + 1,none⟩ = some (.int .u8 ((rd_T70 l2 x14_1).f1)) ∧ w'.cell? ⟨(ad422.add ((x14_1).toNat * 3)).block,(ad422.add ((x14_1).toNat * 3)).off + 2,none⟩ = some (.bool true)) (ds := [18]) #[false,false,false,false,false,false,false,false,false,false,false,false,false,false,false,false,false,false,false] (by kernel_rfl) rfl rfl ⟨hx426_0,((HB.out.cell (World.block_lt_of_cell? w _ hw427_0)).trans hw427_0),((HB.out.cell (World.block_lt_of_cell? w _ hw427_1)).trans hw427_1),((HB.out.cell (World.block_lt_of_cell? w _ hw427_2)).trans hw427_2)⟩ (fun hHeld => ?_); refine with_tabW l4_struck.tab16 l4_struck.bits16 (fun HT_ HW_ => ?_)
            generalize w49.drew = w50 at HO_10 HO_11 HO_12 BK412 HB GG44 HQ52 hf44_0 hx426_0 hx427_0 hx427_1 hx427_2 hx44_0 hHeld ⊢
            refine pu_ (i := 0) (N := some 78) (bl 19 1) rfl rfl HT_.out ?_; refine pu_ (i := 1) (N := some 79) (bl 19 3) rfl rfl HT_.out ?_; refine pu_ (i := 2) (N := some 80) (bl 19 7) rfl rfl HT_.out ?_; refine pu_ (i := 3) (N := some 81) (bl 19 15) rfl rfl HT_.out ?_; refine pu_ (i := 4) (N := some 82) (bl 19 31) rfl rfl HT_.out ?_; refine pu_ (i := 7) (N := some 85) (bl 19 159) rfl rfl HT_.out ?_; refine pu_ (i := 8) (N := some 86) (bl 19 415) rfl rfl HT_.out ?_; refine pu_ (i := 9) (N := some 87) (bl 19 927) rfl rfl HT_.out ?_; refine pu_ (i := 10) (N := some 88) (bl 19 1951) rfl rfl HT_.out ?_; refine pu_ (i := 14) (N := some 92) (bl 19 18335) rfl rfl HT_.out ?_; refine ta_ (i := 5) (N := some 83) (bl 19 18367) rfl rfl HT_.out HW_.out hHeld (by rintro w' ⟨s0,s1,s2,s3⟩; go_simp; with_reducible rfl) ?_; refine pu_ (i := 6) (N := some 84) (bl 19 18431) rfl rfl HT_.out ?_; refine ta_ (i := 11) (N := some 89) (bl 19 20479) rfl rfl HT_.out HW_.out hHeld (by rintro w' ⟨s0,s1,s2,s3⟩; go_simp; with_reducible rfl) ?_; refine pu_ (i := 12) (N := some 90) (bl 19 24575) rfl rfl HT_.out ?_; refine pu_ (i := 13) (N := some 91) (bl 19 32767) rfl rfl HT_.out ?_; refine pu_ (i := 15) (N := some 93) (bl 19 65535) rfl rfl HT_.out ?_; refine pu_ (i := 16) (N := some 94) (bl 19 131071) rfl rfl HT_.out ?_; refine pu_ (i := 17) (N := some 95) (bl 19 262143) rfl rfl HT_.out ?_
            refine last_ (i := 18) (N := none) (bl 19 524287) rfl rfl (one_of HT_.out (by kernel_rfl)) (by decide) (fun K hK => ?_)
            refine skip_ (w1 := ?_) (by rfl) rfl ?_ ?_
            rotate_left
            ·go_simp
             rfl
            refine hK.out _ _ ?_
            clear hK K
            refine done_ (done_of HT_.out (by kernel_rfl)) ?_
            have p429 : 0 ≤ (x14_1 : Int) := of_decide_eq_true (by first | (with_reducible assumption) | assumption)
            have q429 : x14_1 < (l2.length : Int) := of_decide_eq_true (by first | (with_reducible assumption) | assumption)
            obtain ⟨ad429,e429,hx429_0,hx429_1,hx429_2⟩ := at_T70 HR2.out x14_1 p429 q429
            (try rw [← Nbq45.out] at hx429_2)
            obtain rfl : ad422 = ad429 := (by injection e429)
            have hn429_0 : ad422.block ≠ go44 := Nat.ne_of_lt (Nat.lt_of_lt_of_le (by have := World.block_lt_of_cell? _ _ hx429_0; first | rwa [add_block] at this | exact this) GB44.out)
            replace hx429_0 := (HB.out.cell (World.block_lt_of_cell? w _ hx429_0)).trans hx429_0
            replace hx429_1 := (HB.out.cell (World.block_lt_of_cell? w _ hx429_1)).trans hx429_1
            replace hx429_2 := (HB.out.cell (World.block_lt_of_cell? w _ hx429_2)).trans hx429_2
            replace hx429_0 := (cell_far (p := ⟨go44,((ji36) : Int).toNat,none⟩) (by first | (rw [add_block]; exact hn429_0) | (show (Addr.add _ _).block ≠ _; rw [add_block]; exact hn429_0) | exact hn429_0) (.int .u8 ((Int.tmod (Go.bits .xor .i64 (wrap64 (rd x10_1 (ji36))) (wrap64 ((rd_T70 l2 x14_1).f1))) ji6) % 256))).trans hx429_0
            replace hx429_1 := (cell_far (p := ⟨go44,((ji36) : Int).toNat,none⟩) (by first | (rw [add_block]; exact hn429_0) | (show (Addr.add _ _).block ≠ _; rw [add_block]; exact hn429_0) | exact hn429_0) (.int .u8 ((Int.tmod (Go.bits .xor .i64 (wrap64 (rd x10_1 (ji36))) (wrap64 ((rd_T70 l2 x14_1).f1))) ji6) % 256))).trans hx429_1
            replace hx429_2 := (cell_far (p := ⟨go44,((ji36) : Int).toNat,none⟩) (by first | (rw [add_block]; exact hn429_0) | (show (Addr.add _ _).block ≠ _; rw [add_block]; exact hn429_0) | exact hn429_0) (.int .u8 ((Int.tmod (Go.bits .xor .i64 (wrap64 (rd x10_1 (ji36))) (wrap64 ((rd_T70 l2 x14_1).f1))) ji6) % 256))).trans hx429_2
            clear hn429_0
            replace p429 := eq_true p429
            replace q429 := eq_true q429
            try go_wp2_with (first | ((with_reducible refine gate_builtin (b := .append) (xs := #[.tmp 101,.tmp 103]) rfl ?_); (try (refine gate_guard (by rfl) ?_; dsimp only)); at_builtin; refine Kd.R_append (Kd.int .i64) (w0 := w) w.heap.size rfl (.tmp 101) (.tmp 103) 36 3 (.int .i64 0) 8 rfl Try.underlying36 info3 rfl (by decide) (by omega) u12 x12_1 (ji36) [.int .i64 (ji36)] (fun _ => True) (fun _ => False) rfl (by first | (go_simp; done) | (go_simp; rfl)) ?aP (fun _ hk => hk.elim) ?aF ?aO ?aB ?aS ?aL ?_; (case aP => exact rfl); (case aB => exact (by repeat (first | (with_reducible first | exact HB.out | apply below_alloc | apply pw_below_drewN | apply below_drew1 | refine below_set ?_ GB44.out | refine below_set ?_ GE412.out) | exact HB.out))); (case aF => exact (fun _ _ => trivial)); (case aO => exact (by (with_reducible repeat (first | apply Kd.R_alloc | apply Kd.R_drewN | apply Kd.R_drew)); exact Kd.R_mono (Kd.R_far (p := ⟨go44,((ji36) : Int).toNat,none⟩) (Kd.R_types HO_12.out GG44.out (by decide)) (fun _ hk => hk.2) (.int .u8 ((Int.tmod (Go.bits .xor .i64 (wrap64 (rd x10_1 (ji36))) (wrap64 ((rd_T70 l2 x14_1).f1))) ji6) % 256))) (fun _ hk => trivial))); (case aS => exact (below_size (by repeat (first | (with_reducible first | exact HB.out | apply below_alloc | apply pw_below_drewN | apply below_drew1 | refine below_set ?_ GB44.out | refine below_set ?_ GE412.out) | exact HB.out)))); (case aL => have := LMc47.out; (try simp only [hji4] at this); (try simp only [hji6] at this); (try simp only [hji36] at this); (try clear hji4w); (try clear hji4); (try clear hji6w); (try clear hji6); (try clear hji36w); (try clear hji36); omega); intro v431 w53 ho hb hg hat; rw [← Ny430.out] at ho; have n0_ := aK (Kd.R_over' (mvR HQ52.out) (Kd.R_typed (by (with_reducible repeat (first | apply Kd.R_alloc | apply Kd.R_drewN | apply Kd.R_drew)); exact (Kd.R_mono (Kd.R_far (p := ⟨go44,((ji36) : Int).toNat,none⟩) (Kd.R_types HO_12.out GG44.out (by decide)) (fun _ hk => hk.2) (.int .u8 ((Int.tmod (Go.bits .xor .i64 (wrap64 (rd x10_1 (ji36))) (wrap64 ((rd_T70 l2 x14_1).f1))) ji6) % 256))) (fun _ h_ => h_.1)))) (by decide) hg); have n1_ := aK (Kd.R_over' (by (with_reducible repeat (first | apply Kd.R_alloc | apply Kd.R_drewN | apply Kd.R_drew)); exact (Kd.R_mono (Kd.R_far (p := ⟨go44,((ji36) : Int).toNat,none⟩) (Kd.R_types HO_11.out GG44.out (by decide)) (fun _ hk => hk.2) (.int .u8 ((Int.tmod (Go.bits .xor .i64 (wrap64 (rd x10_1 (ji36))) (wrap64 ((rd_T70 l2 x14_1).f1))) ji6) % 256))) (fun _ h_ => h_.1))) (Kd.R_typed (by (with_reducible repeat (first | apply Kd.R_alloc | apply Kd.R_drewN | apply Kd.R_drew)); exact (Kd.R_mono (Kd.R_far (p := ⟨go44,((ji36) : Int).toNat,none⟩) (Kd.R_types HO_12.out GG44.out (by decide)) (fun _ hk => hk.2) (.int .u8 ((Int.tmod (Go.bits .xor .i64 (wrap64 (rd x10_1 (ji36))) (wrap64 ((rd_T70 l2 x14_1).f1))) ji6) % 256))) (fun _ h_ => h_.1)))) (by decide) hg); have n2_ := aK (blk_grown (g := gb412) (o := .cells #[.int .i64 a0_0,.int .u64 a0_1,.int .i64 a0_2,.int .i64 a0_3] 26 (0,0)) (by (with_reducible repeat (first | apply bN | apply bD | apply bA)); refine blk_far ?_ (by have h_ := Kd.R_ne HO_10.out BK412.out (by decide); intro e_; exact h_ (by rw [e_]; rfl)) _; exact mvb BK412.out) hg (Kd.R_ne HO_12.out BK412.out (by decide))); have n3_ := aK (hb); have n4_ := aK (ho); clear HO_10 HO_11 BK412 HB HO_12; have HO_10 := n0_; have HO_11 := n1_; have BK412 := n2_; have HB := n3_; have HO432 := n4_; clear n0_ n1_ n2_ n3_ n4_; clear ho hb hg hat))
            go_roundg kj25
            case measure => have := HK1.out; have := HJ16.out; have := HJ22.out; have := HJ25.out; omega
            case rel => exact ⟨(y428),(y425),(y430),(wrap64 (x13_1 + x16_22)),(wrap64 (x14_1 + 1)),(by first | rfl | (simp; done) | (simp [*]; done) | (simp [wrap64]; done)),(by first | rfl | (simp; done) | (simp [*]; done) | (simp [wrap64]; done)),H',⟨by have := HK1.out; have := HJ16.out; have := HJ22.out; have := HJ25.out; omega⟩,⟨mvR HO_10.out⟩,⟨mvR HO_11.out⟩,⟨mvR HO432.out⟩,⟨mvb BK412.out⟩,⟨mvh HB.out⟩⟩
end Go.Proofs.Ytpgecdidddoglaa.P

