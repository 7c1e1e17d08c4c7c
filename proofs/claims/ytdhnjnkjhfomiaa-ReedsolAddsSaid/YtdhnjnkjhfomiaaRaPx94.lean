import Derived.Test.YtdhnjnkjhfomiaaRaPx0
import Derived.Test.YtdhnjnkjhfomiaaRaPx6
import Derived.Test.YtdhnjnkjhfomiaaRaPx9
import Derived.Test.YtdhnjnkjhfomiaaRaPx11
import Derived.Test.YtdhnjnkjhfomiaaRaPx13
import Derived.Test.YtdhnjnkjhfomiaaRaPx18
import Derived.Test.YtdhnjnkjhfomiaaRaPx60
import Derived.Test.YtdhnjnkjhfomiaaRaPx23
-- written by mk.sh, a program of this session, over the kit's print
namespace Go.Proofs.Ytdhnjnkjhfomiaa.P
open Go.RowKit Go.Proofs.YtdhnjnkjhfomiaaW.PrintWords Go.Proofs.YtdhnjnkjhfomiaaW.PrintLast Go.Proofs.YtdhnjnkjhfomiaaW.PrintMore
attribute [local go_sem] max2_int min2_int max_two min_two max_three min_three max_four min_four   -- for this text's walks alone
set_option linter.unusedVariables false
set_option linter.unusedSimpArgs false

mutual
def l4_ReedsolAdds.j0 : Nat → List Int → List Int → Bool → Int → Int → Int → Int → Option (Bool)
 | 0,_,_,_,_,_,_,_ => none
 | k + 1,x1,x2,x30,x580000,x580001,x580002,x580003 => if x30 = true then ((l4_knows.f k).bind fun t582 => (some t582)) else (if 0 ≤ (IntKind.u64.wrap (x580000)) then ((l4_elements.f k x580000 x580001 x580002 x580003 x1).bind fun t583 => ((reedsol_Encode.f k x580000 x580001 x580002 x580003 t583).bind fun bt586 => ((l4_num.f bt586.2).bind fun t590 => (if t590 = 0 then (l4_ReedsolAdds.j1 k x2 (shl .i64 1 (IntKind.u64.wrap (x580000))) bt586.1 ((bt586.1.length : Int) != (wrap64 ((t583.length : Int) + x580003))) x580000 x580001 x580002 x580003) else (l4_ReedsolAdds.j1 k x2 (shl .i64 1 (IntKind.u64.wrap (x580000))) bt586.1 true x580000 x580001 x580002 x580003))))) else (none))
def l4_ReedsolAdds.j1 : Nat → List Int → Int → List Int → Bool → Int → Int → Int → Int → Option (Bool)
 | 0,_,_,_,_,_,_,_,_ => none
 | k + 1,x2,x7,x9,x58,x580000,x580001,x580002,x580003 => if x58 = true then (some false) else (if 0 ≤ (x9.length : Int) then (if ((x9.length : Int) : Int).toNat ≤ 281474976710656 then (l4_ReedsolAdds.l0 k x2 x7 x9 (List.replicate ((x9.length : Int) : Int).toNat 0) (List.replicate ((x9.length : Int) : Int).toNat 0) 0 x580000 x580001 x580002 x580003) else (none)) else (none))
def l4_ReedsolAdds.l0 : Nat → List Int → Int → List Int → List Int → List Int → Int → Int → Int → Int → Int → Option (Bool)
 | 0,_,_,_,_,_,_,_,_,_,_ => none
 | k + 1,x2,x7,x9,x11,x12,x13,x580000,x580001,x580002,x580003 => if x13 < (x9.length : Int) then (if x13 < (x2.length : Int) then (if 0 ≤ x13 then (if x7 = 0 then (none) else (if x13 < (x11.length : Int) then ((some (x11.set (x13 : Int).toNat ((Int.tmod (wrap64 (rd x2 x13)) x7) % 256) : List Int)).bind fun y598 => (if x13 < (x12.length : Int) then (l4_ReedsolAdds.l0 k x2 x7 x9 y598 (x12.set (x13 : Int).toNat (Go.bits .xor .u8 (rd y598 x13) (rd x9 x13))) (wrap64 (x13 + 1)) x580000 x580001 x580002 x580003) else (none))) else (none))) else (none)) else (if 0 ≤ x13 then (if x13 < (x11.length : Int) then (if x13 < (x12.length : Int) then (l4_ReedsolAdds.l0 k x2 x7 x9 x11 (x12.set (x13 : Int).toNat (Go.bits .xor .u8 (rd x11 x13) (rd x9 x13))) (wrap64 (x13 + 1)) x580000 x580001 x580002 x580003) else (none)) else (none)) else (none))) else ((reedsol_Syndromes.f k x580000 x580001 x580002 x580003 x11).bind fun bt605 => ((reedsol_Syndromes.f k x580000 x580001 x580002 x580003 x12).bind fun bt609 => ((reedsol_Member.f k x580000 x580001 x580002 x580003 x11).bind fun bt613 => ((reedsol_Member.f k x580000 x580001 x580002 x580003 x12).bind fun bt615 => ((l4_num.f bt605.2).bind fun t617 => ((l4_num.f bt609.2).bind fun t618 => ((l4_num.f bt613.2).bind fun t619 => ((l4_num.f bt615.2).bind fun t620 => (if (wrap64 ((wrap64 ((wrap64 (t617 + t618)) + t619)) + t620)) = 0 then (if (strOfNums bt605.1).toList = (strOfNums bt609.1).toList then (if (bt613.1 != bt615.1) = true then (l4_ReedsolAdds.j3 k bt605.1 bt613.1 true) else (l4_ReedsolAdds.j3 k bt605.1 bt613.1 ((bt605.1.length : Int) != x580003))) else (l4_ReedsolAdds.j3 k bt605.1 bt613.1 true)) else (l4_ReedsolAdds.j3 k bt605.1 bt613.1 true))))))))))
def l4_ReedsolAdds.j3 : Nat → List Int → Bool → Bool → Option (Bool)
 | 0,_,_,_ => none
 | k + 1,x14,x18,x152 => if x152 = true then (some false) else (l4_ReedsolAdds.l1 k x14 x18 true 0)
def l4_ReedsolAdds.l1 : Nat → List Int → Bool → Bool → Int → Option (Bool)
 | 0,_,_,_,_ => none
 | k + 1,x14,x18,x22,x23 => if x23 < (x14.length : Int) then (if x22 = true then (if 0 ≤ x23 then (l4_ReedsolAdds.l1 k x14 x18 ((rd x14 x23) == 0) (wrap64 (x23 + 1))) else (none)) else (l4_ReedsolAdds.l1 k x14 x18 false (wrap64 (x23 + 1)))) else (some (x18 == x22))
end
def l4_ReedsolAdds.f (k : Nat) (a0_0 : Int) (a0_1 : Int) (a0_2 : Int) (a0_3 : Int) (l1 : List Int) (l2 : List Int) : Option (Bool) := (r4_Check.f k a0_0 a0_1 a0_2 a0_3).bind fun t580 => (if t580 = 0 then ((l4_knows.f k).bind fun t581 => (l4_ReedsolAdds.j0 k l1 l2 (!t581) a0_0 a0_1 a0_2 a0_3)) else (l4_ReedsolAdds.j0 k l1 l2 true a0_0 a0_1 a0_2 a0_3))
theorem l4_ReedsolAdds.mono_l : ∀ k,(∀ y0 y1 y2 y3 y4 y5 y6,LeO (l4_ReedsolAdds.j0 k y0 y1 y2 y3 y4 y5 y6) (l4_ReedsolAdds.j0 (k + 1) y0 y1 y2 y3 y4 y5 y6)) ∧ (∀ y0 y1 y2 y3 y4 y5 y6 y7,LeO (l4_ReedsolAdds.j1 k y0 y1 y2 y3 y4 y5 y6 y7) (l4_ReedsolAdds.j1 (k + 1) y0 y1 y2 y3 y4 y5 y6 y7)) ∧ (∀ y0 y1 y2 y3 y4 y5 y6 y7 y8 y9,LeO (l4_ReedsolAdds.l0 k y0 y1 y2 y3 y4 y5 y6 y7 y8 y9) (l4_ReedsolAdds.l0 (k + 1) y0 y1 y2 y3 y4 y5 y6 y7 y8 y9)) ∧ (∀ y0 y1 y2,LeO (l4_ReedsolAdds.j3 k y0 y1 y2) (l4_ReedsolAdds.j3 (k + 1) y0 y1 y2)) ∧ (∀ y0 y1 y2 y3,LeO (l4_ReedsolAdds.l1 k y0 y1 y2 y3) (l4_ReedsolAdds.l1 (k + 1) y0 y1 y2 y3))
 | 0 => ⟨fun _ _ _ _ _ _ _ r h => by simp [l4_ReedsolAdds.j0] at h,fun _ _ _ _ _ _ _ _ r h => by simp [l4_ReedsolAdds.j1] at h,fun _ _ _ _ _ _ _ _ _ _ r h => by simp [l4_ReedsolAdds.l0] at h,fun _ _ _ r h => by simp [l4_ReedsolAdds.j3] at h,fun _ _ _ _ r h => by simp [l4_ReedsolAdds.l1] at h⟩
 | k + 1 => by
  obtain ⟨ih0,ih1,ih2,ih3,ih4⟩ := l4_ReedsolAdds.mono_l k
  refine ⟨?_,?_,?_,?_,?_⟩
  ·intro y0 y1 y2 y3 y4 y5 y6
   unfold l4_ReedsolAdds.j0
   repeat' first
   | (with_reducible exact ih0 _ _ _ _ _ _ _)
   | (with_reducible exact ih1 _ _ _ _ _ _ _ _)
   | (with_reducible exact ih2 _ _ _ _ _ _ _ _ _ _)
   | (with_reducible exact ih3 _ _ _)
   | (with_reducible exact ih4 _ _ _ _)
   | (with_reducible exact l4_elements.mono _ _ _ _ _ _)
   | (with_reducible exact l4_knows.mono _)
   | (with_reducible exact r4_Check.mono _ _ _ _ _)
   | (with_reducible exact reedsol_Encode.mono _ _ _ _ _ _)
   | (with_reducible exact reedsol_Member.mono _ _ _ _ _ _)
   | (with_reducible exact reedsol_Syndromes.mono _ _ _ _ _ _)
   | (with_reducible exact LeO.refl _)
   | (with_reducible exact LeO.none _)
   | (with_reducible refine LeO.ite ?_ ?_)
   | (with_reducible refine LeO.bind ?_ (fun _ => ?_))
  ·intro y0 y1 y2 y3 y4 y5 y6 y7
   unfold l4_ReedsolAdds.j1
   repeat' first
   | (with_reducible exact ih0 _ _ _ _ _ _ _)
   | (with_reducible exact ih1 _ _ _ _ _ _ _ _)
   | (with_reducible exact ih2 _ _ _ _ _ _ _ _ _ _)
   | (with_reducible exact ih3 _ _ _)
   | (with_reducible exact ih4 _ _ _ _)
   | (with_reducible exact l4_elements.mono _ _ _ _ _ _)
   | (with_reducible exact l4_knows.mono _)
   | (with_reducible exact r4_Check.mono _ _ _ _ _)
   | (with_reducible exact reedsol_Encode.mono _ _ _ _ _ _)
   | (with_reducible exact reedsol_Member.mono _ _ _ _ _ _)
   | (with_reducible exact reedsol_Syndromes.mono _ _ _ _ _ _)
   | (with_reducible exact LeO.refl _)
   | (with_reducible exact LeO.none _)
   | (with_reducible refine LeO.ite ?_ ?_)
   | (with_reducible refine LeO.bind ?_ (fun _ => ?_))
  ·intro y0 y1 y2 y3 y4 y5 y6 y7 y8 y9
   unfold l4_ReedsolAdds.l0
   repeat' first
   | (with_reducible exact ih0 _ _ _ _ _ _ _)
   | (with_reducible exact ih1 _ _ _ _ _ _ _ _)
   | (with_reducible exact ih2 _ _ _ _ _ _ _ _ _ _)
   | (with_reducible exact ih3 _ _ _)
   | (with_reducible exact ih4 _ _ _ _)
   | (with_reducible exact l4_elements.mono _ _ _ _ _ _)
   | (with_reducible exact l4_knows.mono _)
   | (with_reducible exact r4_Check.mono _ _ _ _ _)
   | (with_reducible exact reedsol_Encode.mono _ _ _ _ _ _)
   | (with_reducible exact reedsol_Member.mono _ _ _ _ _ _)
   | (with_reducible exact reedsol_Syndromes.mono _ _ _ _ _ _)
   | (with_reducible exact LeO.refl _)
   | (with_reducible exact LeO.none _)
   | (with_reducible refine LeO.ite ?_ ?_)
   | (with_reducible refine LeO.bind ?_ (fun _ => ?_))
  ·intro y0 y1 y2
   unfold l4_ReedsolAdds.j3
   repeat' first
   | (with_reducible exact ih0 _ _ _ _ _ _ _)
   | (with_reducible exact ih1 _ _ _ _ _ _ _ _)
   | (with_reducible exact ih2 _ _ _ _ _ _ _ _ _ _)
   | (with_reducible exact ih3 _ _ _)
   | (with_reducible exact ih4 _ _ _ _)
   | (with_reducible exact l4_elements.mono _ _ _ _ _ _)
   | (with_reducible exact l4_knows.mono _)
   | (with_reducible exact r4_Check.mono _ _ _ _ _)
   | (with_reducible exact reedsol_Encode.mono _ _ _ _ _ _)
   | (with_reducible exact reedsol_Member.mono _ _ _ _ _ _)
   | (with_reducible exact reedsol_Syndromes.mono _ _ _ _ _ _)
   | (with_reducible exact LeO.refl _)
   | (with_reducible exact LeO.none _)
   | (with_reducible refine LeO.ite ?_ ?_)
   | (with_reducible refine LeO.bind ?_ (fun _ => ?_))
  ·intro y0 y1 y2 y3
   unfold l4_ReedsolAdds.l1
   repeat' first
   | (with_reducible exact ih0 _ _ _ _ _ _ _)
   | (with_reducible exact ih1 _ _ _ _ _ _ _ _)
   | (with_reducible exact ih2 _ _ _ _ _ _ _ _ _ _)
   | (with_reducible exact ih3 _ _ _)
   | (with_reducible exact ih4 _ _ _ _)
   | (with_reducible exact l4_elements.mono _ _ _ _ _ _)
   | (with_reducible exact l4_knows.mono _)
   | (with_reducible exact r4_Check.mono _ _ _ _ _)
   | (with_reducible exact reedsol_Encode.mono _ _ _ _ _ _)
   | (with_reducible exact reedsol_Member.mono _ _ _ _ _ _)
   | (with_reducible exact reedsol_Syndromes.mono _ _ _ _ _ _)
   | (with_reducible exact LeO.refl _)
   | (with_reducible exact LeO.none _)
   | (with_reducible refine LeO.ite ?_ ?_)
   | (with_reducible refine LeO.bind ?_ (fun _ => ?_))
theorem l4_ReedsolAdds.mono : ∀ a0 a1 a2 a3 a4 a5 k,LeO (l4_ReedsolAdds.f k a0 a1 a2 a3 a4 a5) (l4_ReedsolAdds.f (k + 1) a0 a1 a2 a3 a4 a5) := by
 intro a0 a1 a2 a3 a4 a5 k
 obtain ⟨ih0,ih1,ih2,ih3,ih4⟩ := l4_ReedsolAdds.mono_l k
 unfold l4_ReedsolAdds.f
 repeat' first
   | (with_reducible exact ih0 _ _ _ _ _ _ _)
   | (with_reducible exact ih1 _ _ _ _ _ _ _ _)
   | (with_reducible exact ih2 _ _ _ _ _ _ _ _ _ _)
   | (with_reducible exact ih3 _ _ _)
   | (with_reducible exact ih4 _ _ _ _)
   | (with_reducible exact l4_elements.mono _ _ _ _ _ _)
   | (with_reducible exact l4_knows.mono _)
   | (with_reducible exact r4_Check.mono _ _ _ _ _)
   | (with_reducible exact reedsol_Encode.mono _ _ _ _ _ _)
   | (with_reducible exact reedsol_Member.mono _ _ _ _ _ _)
   | (with_reducible exact reedsol_Syndromes.mono _ _ _ _ _ _)
   | (with_reducible exact LeO.refl _)
   | (with_reducible exact LeO.none _)
   | (with_reducible refine LeO.ite ?_ ?_)
   | (with_reducible refine LeO.bind ?_ (fun _ => ?_))
def l4_ReedsolAdds.T15 : Bool × List (List Nat × List Nat) := (true,[([],[]),([],[]),([],[]),([],[]),([2,3],[2,3]),([4],[4]),([],[]),([],[]),([6,7],[6,7]),([8],[8]),([5,9],[5,9]),([0,1,0,1,2,3,4,5,6,7,8,9,10],[0,1]),([11,10,0,1,2,3,4,5,6,7,8,9,10],[10,11])])
def l4_ReedsolAdds.B15 : List Nat := [0,0,0,0,12,28,0,0,192,448,1020,2047,4095]
theorem l4_ReedsolAdds.tab15 : rtab .any (opsOf Try.f5 15) = l4_ReedsolAdds.T15 := by kernel_rfl
theorem l4_ReedsolAdds.bits15 : waitsOk l4_ReedsolAdds.T15.2 l4_ReedsolAdds.B15 = true := by kernel_rfl
theorem l4_ReedsolAdds.no_false {r : Bool} {G : Prop} (hr : r = true) (h : some false = some r) : G := by
 subst hr
 cases h
theorem l4_ReedsolAdds.no_j1 {k : Nat} {x2 : List Int} {x7 : Int} {x9 : List Int} {x580000 : Int} {x580001 : Int} {x580002 : Int} {x580003 : Int} {r : Bool} {G : Prop} (hr : r = true) (h : l4_ReedsolAdds.j1 k x2 x7 x9 true x580000 x580001 x580002 x580003 = some r) : G := by
 subst hr
 cases k <;> simp [l4_ReedsolAdds.j1] at h
theorem l4_ReedsolAdds.no_j3 {k : Nat} {x14 : List Int} {x18 : Bool} {r : Bool} {G : Prop} (hr : r = true) (h : l4_ReedsolAdds.j3 k x14 x18 true = some r) : G := by
 subst hr
 cases k <;> simp [l4_ReedsolAdds.j3] at h
set_option maxHeartbeats 8000000 in
set_option maxRecDepth 100000 in
theorem l4_ReedsolAdds.calls (k : Nat) (a0_0 : Int) (a0_1 : Int) (a0_2 : Int) (a0_3 : Int) (A1 : Option Addr) (c1 : Nat) (l1 : List Int) (A2 : Option Addr) (c2 : Nat) (l2 : List Int) (r : Bool) (hr9_ : r = true) (w : World) (hr1 : Kd.C (Kd.int .u8) w A1 l1.length l1) (hc1 : l1.length ≤ c1) (hr2 : Kd.C (Kd.int .u8) w A2 l2.length l2) (hc2 : l2.length ≤ c2) (h : l4_ReedsolAdds.f k a0_0 a0_1 a0_2 a0_3 l1 l2 = some r) :
  Calls Try.prog 5 #[.agg #[.int .i64 a0_0,.int .u64 a0_1,.int .i64 a0_2,.int .i64 a0_3],.slice A1 l1.length c1,.slice A2 l2.length c2] w fun e w' => e = .returned (.bool r) ∧ Below w.heap.size w w' := by
 have HR9_ := Aside0.mk hr9_
 clear hr9_
 have hu26 := Try.underlying26
 have HR1 := Aside0.mk hr1
 have HC1 := Aside0.mk hc1
 clear hr1 hc1
 have HR2 := Aside0.mk hr2
 have HC2 := Aside0.mk hc2
 clear hr2 hc2
 have HB := aK (Below.refl w.heap.size w)
 have H : ((r4_Check.f k a0_0 a0_1 a0_2 a0_3).bind fun t580 => (if t580 = 0 then ((l4_knows.f k).bind fun t581 => (l4_ReedsolAdds.j0 k l1 l2 (!t581) a0_0 a0_1 a0_2 a0_3)) else (l4_ReedsolAdds.j0 k l1 l2 true a0_0 a0_1 a0_2 a0_3))) = some r := h
 clear h
 have HC4 := Aside0.mk H
 clear H
 go_enter Try.func5,Try.ntmps5
 go_upto_region 1 with (first | ((with_reducible refine gate_dst (N := 3) rfl ?_); (try (refine gate_guard (by rfl) ?_; dsimp only)); refine box_event ?hg (N := 3) ?hd (cs := #[.int .i64 a0_0,.int .u64 a0_1,.int .i64 a0_2,.int .i64 a0_3]) (t := 26) ?hr ?_; (case hd => rfl); (case hg => rfl); (case hr => first | (go_simp; done) | (go_simp; rfl)); intro gb579 hg w5 hbox hb; have n0_ := aK (below_step (mvh HB.out) hb); have n1_ := aK (hbox); have n2_ := aK ((by rw [hg]; exact (below_size (mvh HB.out)) : w.heap.size ≤ gb579)); have n3_ := aK ((by rw [hg]; exact (below_size (mvh HB.out)) : w.heap.size ≤ gb579)); clear HB; have HB := n0_; have BK579 := n1_; have GW579 := n2_; have GE579 := n3_; clear n0_ n1_ n2_ n3_; clear hb hbox hg))
 (try simp only [Act.put,List.setIfInBounds_toArray,List.set_cons_zero,List.set_cons_succ])
 go_cut [30] (fun v30 wc => ∃ (kq : Nat) (x30_3 : Bool),v30 = .bool x30_3 ∧ Aside0 (l4_ReedsolAdds.j0 kq l1 l2 x30_3 a0_0 a0_1 a0_2 a0_3 = some r) ∧ Aside0 (kq ≤ k) ∧ Aside0 (wc.heap[gb579]? = some (.cells #[.int .i64 a0_0,.int .u64 a0_1,.int .i64 a0_2,.int .i64 a0_3] 26 (0,0))) ∧ Aside0 (Below w.heap.size w wc))
 case first =>
  have H := HC4.out
  clear HC4
  replace H := Option.bind_eq_some_iff.mp H
  obtain ⟨t580,A60,H⟩ := H
  try dsimp only at H
  have A6 := Aside0.mk A60
  clear A60
  by_cases c7 : t580 = 0
  rotate_left
  ·rw [if_neg c7] at H
   have c7b0 : (t580 == 0) = false := beq_eq_false_iff_ne.mpr c7
   have c7b1 : (t580 != 0) = true := bne_iff_ne.mpr c7
   (first | rw [c7b0] | (simp only [i64_w,i32_w]; rw [c7b0]) | rw [c7b1] | skip)
   have H' := Aside0.mk H
   clear H
   obtain ⟨hcz12_0,hcz12_1,hcz12_2,hcz12_3,hfz12_0,hfz12_1,hfz12_2,hfz12_3⟩ := cf4 BK579.out
   go_wp2_with (first | (go_at_call 22; (with_reducible refine (r4_Check.calls k a0_0 a0_1 a0_2 a0_3 t580 _ A6.out).mono ?_); rintro e w13 ⟨rfl,hb⟩; have n0_ := aK (kb BK579.out hb); have n1_ := aK (below_step (mvh HB.out) hb); clear BK579 HB; have BK579 := n0_; have HB := n1_; clear n0_ n1_; (try clear hb)))
   go_meet
   case rel => exact ⟨_,(true),(by first | rfl | (simp; done) | (simp [*]; done) | (simp [wrap64]; done)),H',⟨by first | omega | exact Nat.le_refl _⟩,⟨mvb BK579.out⟩,⟨mvh HB.out⟩⟩
  rw [if_pos c7] at H
  have c7b0 : (t580 == 0) = true := beq_iff_eq.mpr c7
  have c7b1 : (t580 != 0) = false := bne_eq_false_iff_eq.mpr c7
  clear c7
  (first | rw [c7b0] | (simp only [i64_w,i32_w]; rw [c7b0]) | rw [c7b1] | skip)
  replace H := Option.bind_eq_some_iff.mp H
  obtain ⟨t581,A80,H⟩ := H
  try dsimp only at H
  have A8 := Aside0.mk A80
  clear A80
  have H' := Aside0.mk H
  clear H
  obtain ⟨hcz9_0,hcz9_1,hcz9_2,hcz9_3,hfz9_0,hfz9_1,hfz9_2,hfz9_3⟩ := cf4 BK579.out
  go_wp2_with (first | (go_at_call 22; (with_reducible refine (r4_Check.calls k a0_0 a0_1 a0_2 a0_3 t580 _ A6.out).mono ?_); rintro e w10 ⟨rfl,hb⟩; have n0_ := aK (kb BK579.out hb); have n1_ := aK (below_step (mvh HB.out) hb); clear BK579 HB; have BK579 := n0_; have HB := n1_; clear n0_ n1_; (try clear hb)) | (go_at_call 16; (with_reducible refine (l4_knows.calls k  t581 _ A8.out).mono ?_); rintro e w11 ⟨rfl,hb⟩; have n0_ := aK (kb BK579.out hb); have n1_ := aK (below_step (mvh HB.out) hb); clear BK579 HB; have BK579 := n0_; have HB := n1_; clear n0_ n1_; (try clear hb)))
  go_meet
  case rel => exact ⟨_,(!t581),(by first | rfl | (simp; done) | (simp [*]; done) | (simp [wrap64]; done)),H',⟨by first | omega | exact Nat.le_refl _⟩,⟨mvb BK579.out⟩,⟨mvh HB.out⟩⟩
 case rest =>
  clear HC4
  (try clear c1); (try clear c2); (try clear p2); (try clear c5); (try clear p6); (try clear c7); (try clear c7b0); (try clear c7b1); (try clear hcz12_0); (try clear hcz12_1); (try clear hcz12_2); (try clear hcz12_3); (try clear hcz9_0); (try clear hcz9_1); (try clear hcz9_2); (try clear hcz9_3); (try clear hfz12_0)
  (try clear hfz12_1); (try clear hfz12_2); (try clear hfz12_3); (try clear hfz9_0); (try clear hfz9_1); (try clear hfz9_2); (try clear hfz9_3)
  obtain ⟨kq,x30_3,rfl,HA,HJ3,BK579,HB⟩ := hcut
  cases kq with
  | zero => exact absurd HA.out (by simp [l4_ReedsolAdds.j0])
  | succ kj3 =>
   have H := HA.out
   clear HA
   simp only [l4_ReedsolAdds.j0] at H
   by_cases c14 : x30_3 = true
   ·subst c14
    have H1 : ((l4_knows.f kj3).bind fun t582 => (some t582)) = some r := by rw [if_pos rfl] at H; exact H
    clear H
    have H := H1
    clear H1
    replace H := Option.bind_eq_some_iff.mp H
    obtain ⟨t582,A150,H⟩ := H
    replace H : (some t582) = some r := H
    have A15 := Aside0.mk A150
    clear A150
    obtain rfl := Option.some.inj H
    go_wp2_with (first | (go_at_call 16; (with_reducible refine (l4_knows.calls kj3  t582 _ A15.out).mono ?_); rintro e w16 ⟨rfl,hb⟩; have n0_ := aK (kb BK579.out hb); have n1_ := aK (below_step (mvh HB.out) hb); clear BK579 HB; have BK579 := n0_; have HB := n1_; clear n0_ n1_; (try clear hb)))
    go_ret
    exact ⟨by first | rfl | (simp [errW_none,errW_some] <;> rfl) | (simp [*,errW_none,errW_some] <;> rfl),mvh HB.out⟩
   ·replace c14 := Bool.eq_false_iff.mpr c14
    subst c14
    have H1 : (if 0 ≤ (IntKind.u64.wrap (a0_0)) then ((l4_elements.f kj3 a0_0 a0_1 a0_2 a0_3 l1).bind fun t583 => ((reedsol_Encode.f kj3 a0_0 a0_1 a0_2 a0_3 t583).bind fun bt586 => ((l4_num.f bt586.2).bind fun t590 => (if t590 = 0 then (l4_ReedsolAdds.j1 kj3 l2 (shl .i64 1 (IntKind.u64.wrap (a0_0))) bt586.1 ((bt586.1.length : Int) != (wrap64 ((t583.length : Int) + a0_3))) a0_0 a0_1 a0_2 a0_3) else (l4_ReedsolAdds.j1 kj3 l2 (shl .i64 1 (IntKind.u64.wrap (a0_0))) bt586.1 true a0_0 a0_1 a0_2 a0_3))))) else (none)) = some r := by rw [if_neg (show ¬ (false = true) by decide)] at H; exact H
    clear H
    have H := H1
    clear H1
    obtain ⟨ji17,hji17⟩ : ∃ j_ : Int,(IntKind.u64.wrap (a0_0)) = j_ := ⟨_,rfl⟩
    first | rw [hji17] at H | simp only [hji17] at H
    by_cases c18 : 0 ≤ (ji17)
    rotate_left
    ·rw [if_neg c18] at H
     exact absurd H (by simp)

    rw [if_pos c18] at H
    have c18b0 := eq_true c18
    have c18b1 : decide (0 ≤ (ji17)) = true := decide_eq_true c18
    clear c18
    obtain ⟨ji19,hji19⟩ : ∃ j_ : Int,(shl .i64 1 (ji17)) = j_ := ⟨_,rfl⟩
    first | rw [hji19] at H | simp only [hji19] at H
    have hji19_ : (IntKind.i64.wrap (1 * 2 ^ min (ji17).toNat 64)) = ji19 := hji19
    have hji19z : (ji17) ≤ 64 → (IntKind.i64.wrap (1 * 2 ^ (ji17).toNat)) = ji19 := shl_small hji19
    have hji19u : (IntKind.i64.wrap (2 ^ min (ji17).toNat 64)) = ji19 := by have h_ := hji19_; rw [Int.one_mul] at h_; exact h_
    have hji19v : (ji17) ≤ 64 → (IntKind.i64.wrap (2 ^ (ji17).toNat)) = ji19 := fun hle_ => by have h_ := hji19z hle_; rw [Int.one_mul] at h_; exact h_
    have hji19y : (wrap64 (1 * 2 ^ min (ji17).toNat 64)) = ji19 := (i64_w _).symm.trans hji19_
    have hji19x : (ji17) ≤ 64 → (wrap64 (1 * 2 ^ (ji17).toNat)) = ji19 := fun h_ => (i64_w _).symm.trans (hji19z h_)
    replace H := Option.bind_eq_some_iff.mp H
    obtain ⟨t583,A200,H⟩ := H
    try dsimp only at H
    have A20 := Aside0.mk A200
    clear A200
    replace H := Option.bind_eq_some_iff.mp H
    obtain ⟨⟨t586,t589⟩,A210,H⟩ := H
    try dsimp only at H
    have A21 := Aside0.mk A210
    clear A210
    have HC22 := Aside0.mk H
    clear H
    obtain ⟨hcz23_0,hcz23_1,hcz23_2,hcz23_3,hfz23_0,hfz23_1,hfz23_2,hfz23_3⟩ := cf4 BK579.out
    go_upto_region 6 with (first | (go_at_call 24; (with_reducible refine (l4_elements.calls kj3 a0_0 a0_1 a0_2 a0_3 _ _ l1 t583 _ ?side1 ?side2 A20.out).mono ?_); (case side1 => exact Kd.C_below HR1.out (mvh HB.out)); (case side2 => exact HC1.out); rintro e w24 ⟨v584,rfl,ho0,hb⟩; have n0_ := aK (Kd.R_lower ho0 (below_size (mvh HB.out))); have n1_ := aK (kb BK579.out hb); have n2_ := aK (below_step (mvh HB.out) hb); clear BK579 HB; have HO585 := n0_; have BK579 := n1_; have HB := n2_; clear n0_ n1_ n2_; (try clear hb); (try clear ho0); obtain ⟨hcz25_0,hcz25_1,hcz25_2,hcz25_3,hfz25_0,hfz25_1,hfz25_2,hfz25_3⟩ := cf4 BK579.out; obtain ⟨Ao26,co26,eo26⟩ := Kd.R_slice HO585.out; subst eo26) | (go_at_call 18; (with_reducible refine (reedsol_Encode.calls kj3 a0_0 a0_1 a0_2 a0_3 _ _ t583 t586 t589 _ ?side1 ?side2 A21.out).mono ?_); (case side1 => exact mvC (Kd.R_reads' HO585.out).2.2); (case side2 => exact (Kd.R_reads' HO585.out).2.1); rintro e w27 ⟨v587,rfl,ho0,hb⟩; have n0_ := aK (Kd.R_elder' (mvR HO585.out) (Kd.R_base ho0) hb); have n1_ := aK (Kd.R_lower (Kd.R_new' ho0 (Kd.R_lt (mvR HO585.out))) (below_size (mvh HB.out))); have n2_ := aK (kb BK579.out hb); have n3_ := aK (below_step (mvh HB.out) hb); clear HO585 BK579 HB; have HO585 := n0_; have HO588 := n1_; have BK579 := n2_; have HB := n3_; clear n0_ n1_ n2_ n3_; (try clear hb); (try clear ho0)))
    (try simp only [Act.put,List.setIfInBounds_toArray,List.set_cons_zero,List.set_cons_succ])
    go_cut [58] (fun v58 wc => ∃ (kq : Nat) (x58_21 : Bool),v58 = .bool x58_21 ∧ Aside0 (l4_ReedsolAdds.j1 kq l2 ji19 t586 x58_21 a0_0 a0_1 a0_2 a0_3 = some r) ∧ Aside0 (kq ≤ kj3) ∧ Aside0 (Kd.R (Kd.int .u8) 5 wc w.heap.size (fun _ => True) v587 t586) ∧ Aside0 (wc.heap[gb579]? = some (.cells #[.int .i64 a0_0,.int .u64 a0_1,.int .i64 a0_2,.int .i64 a0_3] 26 (0,0))) ∧ Aside0 (Below w.heap.size w wc))
    case first =>
     have H := HC22.out
     clear HC22
     replace H := Option.bind_eq_some_iff.mp H
     obtain ⟨t590,A280,H⟩ := H
     try dsimp only at H
     have A28 := Aside0.mk A280
     clear A280
     by_cases c29 : t590 = 0
     rotate_left
     ·rw [if_neg c29] at H
      exact l4_ReedsolAdds.no_j1 HR9_.out H
     rw [if_pos c29] at H
     have c29b0 : (t590 == 0) = true := beq_iff_eq.mpr c29
     have c29b1 : (t590 != 0) = false := bne_eq_false_iff_eq.mpr c29
     clear c29
     (first | rw [c29b0] | (simp only [i64_w,i32_w]; rw [c29b0]) | rw [c29b1] | skip)
     have H' := Aside0.mk H
     clear H
     go_wp2_with (first | (go_at_call 14; (with_reducible refine (l4_num.calls t589 t590 _ A28.out).mono ?_); rintro e w' ⟨rfl,⟨nd,rfl⟩⟩; obtain ⟨Ao30,co30,eo30⟩ := Kd.R_slice HO588.out; subst eo30; obtain ⟨hcz31_0,hcz31_1,hcz31_2,hcz31_3,hfz31_0,hfz31_1,hfz31_2,hfz31_3⟩ := cf4 BK579.out))
     go_meet
     case rel => exact ⟨_,(((t586.length : Int) != (wrap64 ((t583.length : Int) + a0_3)))),(by first | rfl | (simp; done) | (simp [*]; done) | (simp [wrap64]; done)),H',⟨by have := HJ3.out; first | omega | exact Nat.le_refl _⟩,⟨by (with_reducible repeat (first | apply Kd.R_alloc | apply Kd.R_drewN | apply Kd.R_drew)); exact Kd.R_mono HO588.out (fun _ hk => trivial)⟩,⟨mvb BK579.out⟩,⟨mvh HB.out⟩⟩
    case rest =>
     clear HC22
     (try clear c1); (try clear c2); (try clear p2); (try clear c5); (try clear p6); (try clear c7); (try clear c7b0); (try clear c7b1); (try clear c14); (try clear c16); (try clear c18); (try clear c18b0); (try clear c18b1); (try clear c22); (try clear c24); (try clear c29); (try clear c29b0); (try clear c29b1)
     (try clear hcz12_0); (try clear hcz12_1); (try clear hcz12_2); (try clear hcz12_3); (try clear hcz23_0); (try clear hcz23_1); (try clear hcz23_2); (try clear hcz23_3); (try clear hcz25_0); (try clear hcz25_1); (try clear hcz25_2); (try clear hcz25_3); (try clear hcz31_0); (try clear hcz31_1); (try clear hcz31_2)
     (try clear hcz31_3); (try clear hcz9_0); (try clear hcz9_1); (try clear hcz9_2); (try clear hcz9_3); (try clear hfz12_0); (try clear hfz12_1); (try clear hfz12_2); (try clear hfz12_3); (try clear hfz23_0); (try clear hfz23_1); (try clear hfz23_2); (try clear hfz23_3); (try clear hfz25_0); (try clear hfz25_1)
     (try clear hfz25_2); (try clear hfz25_3); (try clear hfz31_0); (try clear hfz31_1); (try clear hfz31_2); (try clear hfz31_3); (try clear hfz9_0); (try clear hfz9_1); (try clear hfz9_2); (try clear hfz9_3); (try clear p2); (try clear p6)
     obtain ⟨kq,x58_21,rfl,HA,HJ21,HO_9,BK579,HB⟩ := hcut
     cases kq with
     | zero => exact absurd HA.out (by simp [l4_ReedsolAdds.j1])
     | succ kj21 =>
      have H := HA.out
      clear HA
      simp only [l4_ReedsolAdds.j1] at H
      by_cases c32 : x58_21 = true
      ·subst c32
       exact l4_ReedsolAdds.no_false HR9_.out H
      ·replace c32 := Bool.eq_false_iff.mpr c32
       subst c32
       have H1 : (if 0 ≤ (t586.length : Int) then (if ((t586.length : Int) : Int).toNat ≤ 281474976710656 then (l4_ReedsolAdds.l0 kj21 l2 ji19 t586 (List.replicate ((t586.length : Int) : Int).toNat 0) (List.replicate ((t586.length : Int) : Int).toNat 0) 0 a0_0 a0_1 a0_2 a0_3) else (none)) else (none)) = some r := by rw [if_neg (show ¬ (false = true) by decide)] at H; exact H
       clear H
       have H := H1
       clear H1
       by_cases c33 : 0 ≤ (t586.length : Int)
       rotate_left
       ·rw [if_neg c33] at H
        exact absurd H (by simp)
       rw [if_pos c33] at H
       have c33b0 := eq_true c33
       have c33b1 : decide (0 ≤ (t586.length : Int)) = true := decide_eq_true c33
       clear c33
       by_cases c34 : ((t586.length : Int) : Int).toNat ≤ 281474976710656
       rotate_left
       ·rw [if_neg c34] at H
        exact absurd H (by simp)
       rw [if_pos c34] at H
       have c34b0 := eq_true c34
       have c34b1 : decide (((t586.length : Int) : Int).toNat ≤ 281474976710656) = true := decide_eq_true c34
       clear c34
       obtain ⟨y591,hy591⟩ : ∃ y_ : List Int,y_ = (List.replicate ((t586.length : Int) : Int).toNat 0) := ⟨_,rfl⟩
       replace H : (l4_ReedsolAdds.l0 kj21 l2 ji19 t586 y591 (List.replicate ((t586.length : Int) : Int).toNat 0) 0 a0_0 a0_1 a0_2 a0_3) = some r := by rw [hy591]; exact H
       have Ny591 := Aside0.mk hy591
       clear hy591
       obtain ⟨y594,hy594⟩ : ∃ y_ : List Int,y_ = (List.replicate ((t586.length : Int) : Int).toNat 0) := ⟨_,rfl⟩
       replace H : (l4_ReedsolAdds.l0 kj21 l2 ji19 t586 y591 y594 0 a0_0 a0_1 a0_2 a0_3) = some r := by rw [hy594]; exact H
       have Ny594 := Aside0.mk hy594
       clear hy594
       have H' := Aside0.mk H
       clear H
       obtain ⟨Ao35,co35,eo35⟩ := Kd.R_slice HO_9.out
       subst eo35
       go_wp2_with (first | ((with_reducible refine gate_dst (N := 61) rfl ?_); (try (refine gate_guard (by rfl) ?_; dsimp only)); refine Kd.R_make (Kd.int .u8) _ 5 rfl (N := 61) rfl 27 _ _ rfl (t586.length : Int) rfl rfl Try.underlying27 (.int .u8 0) 1 info5 rfl (by decide) (by omega) 0 (ok := fun _ => True) (okp := fun _ => True) rfl (fun _ hk => hk) trivial (of_decide_eq_true (by first | (with_reducible assumption) | assumption)) (Nat.le_trans (Nat.mul_le_mul_right _ (of_decide_eq_true (by first | (with_reducible assumption) | assumption) : (t586.length : Int).toNat ≤ 281474976710656)) (by omega)) (Below.refl _ _) (Nat.le_refl _) ?_; intro v592 w36 ho37 hb hg_ hnew_; clear hg_ hnew_; (first | rw [← Ny591.out] at ho37 | (simp only [Int.reduceToNat] at ho37; rw [← Ny591.out] at ho37)); have n0_ := aK (Kd.R_elder' (mvR HO_9.out) (Kd.R_base ho37) hb); have n1_ := aK (Kd.R_lower (Kd.R_new' ho37 (Kd.R_lt (mvR HO_9.out))) (below_size (mvh HB.out))); have n2_ := aK (kb BK579.out hb); have n3_ := aK (below_step (mvh HB.out) hb); clear HO_9 BK579 HB; have HO_9 := n0_; have HO593 := n1_; have BK579 := n2_; have HB := n3_; clear n0_ n1_ n2_ n3_; clear hb ho37) | ((with_reducible refine gate_dst (N := 64) rfl ?_); (try (refine gate_guard (by rfl) ?_; dsimp only)); refine Kd.R_make (Kd.int .u8) _ 5 rfl (N := 64) rfl 27 _ _ rfl (t586.length : Int) rfl rfl Try.underlying27 (.int .u8 0) 1 info5 rfl (by decide) (by omega) 0 (ok := fun _ => True) (okp := fun _ => True) rfl (fun _ hk => hk) trivial (of_decide_eq_true (by first | (with_reducible assumption) | assumption)) (Nat.le_trans (Nat.mul_le_mul_right _ (of_decide_eq_true (by first | (with_reducible assumption) | assumption) : (t586.length : Int).toNat ≤ 281474976710656)) (by omega)) (Below.refl _ _) (Nat.le_refl _) ?_; intro v595 w38 ho39 hb hg_ hnew_; clear hg_ hnew_; (first | rw [← Ny594.out] at ho39 | (simp only [Int.reduceToNat] at ho39; rw [← Ny594.out] at ho39)); have n0_ := aK (Kd.R_elder' (mvR HO_9.out) (Kd.R_base ho39) hb); have n1_ := aK (Kd.R_elder' (mvR HO593.out) (Kd.R_base ho39) hb); have n2_ := aK (Kd.R_lower (Kd.R_new' (Kd.R_new' ho39 (Kd.R_lt (mvR HO_9.out))) (Kd.R_lt (mvR HO593.out))) (below_size (mvh HB.out))); have n3_ := aK (kb BK579.out hb); have n4_ := aK (below_step (mvh HB.out) hb); clear HO_9 HO593 BK579 HB; have HO_9 := n0_; have HO593 := n1_; have HO596 := n2_; have BK579 := n3_; have HB := n4_; clear n0_ n1_ n2_ n3_ n4_; clear hb ho39))
       go_loopg [13] kj21 (fun kq v13 w' => ∃ (x11_3 : List Int) (x12_3 : List Int) (x13_3 : Int),v13 = .int .i64 x13_3 ∧ Aside0 (l4_ReedsolAdds.l0 kq l2 ji19 t586 x11_3 x12_3 x13_3 a0_0 a0_1 a0_2 a0_3 = some r) ∧ Aside0 (kq ≤ kj21) ∧ Aside0 (Kd.R (Kd.int .u8) 5 w' w.heap.size (fun k_ => some k_ ≠ (v592 : Value).ownBlock ∧ some k_ ≠ (v595 : Value).ownBlock) (.slice Ao35 t586.length co35) t586) ∧ Aside0 (Kd.R (Kd.int .u8) 5 w' w.heap.size (fun k_ => some k_ ≠ ((.slice Ao35 t586.length co35) : Value).ownBlock ∧ some k_ ≠ (v595 : Value).ownBlock) v592 x11_3) ∧ Aside0 (Kd.R (Kd.int .u8) 5 w' w.heap.size (fun k_ => some k_ ≠ ((.slice Ao35 t586.length co35) : Value).ownBlock ∧ some k_ ≠ (v592 : Value).ownBlock) v595 x12_3) ∧ Aside0 (w'.heap[gb579]? = some (.cells #[.int .i64 a0_0,.int .u64 a0_1,.int .i64 a0_2,.int .i64 a0_3] 26 (0,0))) ∧ Aside0 (Below w.heap.size w w'))
       case atStart => exact ⟨(y591),(y594),(0),(by first | rfl | (simp; done) | (simp [*]; done) | (simp [wrap64]; done)),H',⟨Nat.le_refl _⟩,⟨by (with_reducible repeat (first | apply Kd.R_alloc | apply Kd.R_drewN | apply Kd.R_drew)); exact Kd.R_mono HO_9.out (fun _ hk => ⟨hk.1.2,hk.2⟩)⟩,⟨by (with_reducible repeat (first | apply Kd.R_alloc | apply Kd.R_drewN | apply Kd.R_drew)); exact Kd.R_mono HO593.out (fun _ hk => ⟨hk.1.2,hk.2⟩)⟩,⟨by (with_reducible repeat (first | apply Kd.R_alloc | apply Kd.R_drewN | apply Kd.R_drew)); exact Kd.R_mono HO596.out (fun _ hk => ⟨hk.1.2,hk.2⟩)⟩,⟨mvb BK579.out⟩,⟨mvh HB.out⟩⟩
       case round =>
        clear H'
        (try clear c1); (try clear c2); (try clear p2); (try clear c3); (try clear c5); (try clear p6); (try clear c7); (try clear c7b0); (try clear c7b1); (try clear c14); (try clear c16); (try clear c18); (try clear c18b0); (try clear c18b1); (try clear c22); (try clear c24); (try clear c29); (try clear c29b0)
        (try clear c29b1); (try clear c32); (try clear c33); (try clear c33b0); (try clear c33b1); (try clear c34); (try clear c34b0); (try clear c34b1); (try clear hcz12_0); (try clear hcz12_1); (try clear hcz12_2); (try clear hcz12_3); (try clear hcz23_0); (try clear hcz23_1); (try clear hcz23_2)
        (try clear hcz23_3); (try clear hcz25_0); (try clear hcz25_1); (try clear hcz25_2); (try clear hcz25_3); (try clear hcz31_0); (try clear hcz31_1); (try clear hcz31_2); (try clear hcz31_3); (try clear hcz9_0); (try clear hcz9_1); (try clear hcz9_2); (try clear hcz9_3); (try clear hfz12_0); (try clear hfz12_1)
        (try clear hfz12_2); (try clear hfz12_3); (try clear hfz23_0); (try clear hfz23_1); (try clear hfz23_2); (try clear hfz23_3); (try clear hfz25_0); (try clear hfz25_1); (try clear hfz25_2); (try clear hfz25_3); (try clear hfz31_0); (try clear hfz31_1); (try clear hfz31_2); (try clear hfz31_3)
        (try clear hfz9_0); (try clear hfz9_1); (try clear hfz9_2); (try clear hfz9_3); (try clear p2); (try clear p6)
        obtain ⟨x11_3,x12_3,x13_3,rfl,HA,HK3,HO_9,HO_11,HO_12,BK579,HB⟩ := hrel
        cases gk with
        | zero => exact absurd HA.out (by simp [l4_ReedsolAdds.l0])
        | succ k3 =>
         have H := HA.out
         clear HA
         simp only [l4_ReedsolAdds.l0] at H
         by_cases c40 : x13_3 < (t586.length : Int)
         rotate_left
         ·rw [if_neg c40] at H
          have c40b0 : decide (x13_3 < (t586.length : Int)) = false := decide_eq_false c40
          clear c40
          replace H := Option.bind_eq_some_iff.mp H
          obtain ⟨⟨t605,t608⟩,A590,H⟩ := H
          try dsimp only at H
          have A59 := Aside0.mk A590
          clear A590
          replace H := Option.bind_eq_some_iff.mp H
          obtain ⟨⟨t609,t612⟩,A600,H⟩ := H
          try dsimp only at H
          have A60 := Aside0.mk A600
          clear A600
          replace H := Option.bind_eq_some_iff.mp H
          obtain ⟨⟨t613,t614⟩,A610,H⟩ := H
          try dsimp only at H
          have A61 := Aside0.mk A610
          clear A610
          replace H := Option.bind_eq_some_iff.mp H
          obtain ⟨⟨t615,t616⟩,A620,H⟩ := H
          try dsimp only at H
          have A62 := Aside0.mk A620
          clear A620
          have HC63 := Aside0.mk H
          clear H
          obtain ⟨hcz64_0,hcz64_1,hcz64_2,hcz64_3,hfz64_0,hfz64_1,hfz64_2,hfz64_3⟩ := cf4 BK579.out
          obtain ⟨Ao65,co65,eo65⟩ := Kd.R_slice HO_11.out
          subst eo65
          go_upto_region 20 with (first | (go_at_call 10; (with_reducible refine (reedsol_Syndromes.calls k3 a0_0 a0_1 a0_2 a0_3 _ _ x11_3 t605 t608 _ ?side1 ?side2 A59.out).mono ?_); (case side1 => exact mvC (Kd.R_reads' HO_11.out).2.2); (case side2 => exact (Kd.R_reads' HO_11.out).2.1); rintro e w66 ⟨v606,rfl,ho0,hb⟩; have n0_ := aK (Kd.R_elder' (mvR HO_9.out) (Kd.R_base ho0) hb); have n1_ := aK (Kd.R_elder' (mvR HO_11.out) (Kd.R_base ho0) hb); have n2_ := aK (Kd.R_elder' (mvR HO_12.out) (Kd.R_base ho0) hb); have n3_ := aK (Kd.R_lower (Kd.R_new' (Kd.R_new' (Kd.R_new' ho0 (Kd.R_lt (mvR HO_9.out))) (Kd.R_lt (mvR HO_11.out))) (Kd.R_lt (mvR HO_12.out))) (below_size (mvh HB.out))); have n4_ := aK (kb BK579.out hb); have n5_ := aK (below_step (mvh HB.out) hb); clear HO_9 HO_11 HO_12 BK579 HB; have HO_9 := n0_; have HO_11 := n1_; have HO_12 := n2_; have HO607 := n3_; have BK579 := n4_; have HB := n5_; clear n0_ n1_ n2_ n3_ n4_ n5_; (try clear hb); (try clear ho0); obtain ⟨hcz67_0,hcz67_1,hcz67_2,hcz67_3,hfz67_0,hfz67_1,hfz67_2,hfz67_3⟩ := cf4 BK579.out; obtain ⟨Ao68,co68,eo68⟩ := Kd.R_slice HO_12.out; subst eo68) | (go_at_call 10; (with_reducible refine (reedsol_Syndromes.calls k3 a0_0 a0_1 a0_2 a0_3 _ _ x12_3 t609 t612 _ ?side1 ?side2 A60.out).mono ?_); (case side1 => exact mvC (Kd.R_reads' HO_12.out).2.2); (case side2 => exact (Kd.R_reads' HO_12.out).2.1); rintro e w69 ⟨v610,rfl,ho0,hb⟩; have n0_ := aK (Kd.R_elder' (mvR HO_9.out) (Kd.R_base ho0) hb); have n1_ := aK (Kd.R_elder' (mvR HO_11.out) (Kd.R_base ho0) hb); have n2_ := aK (Kd.R_elder' (mvR HO_12.out) (Kd.R_base ho0) hb); have n3_ := aK (Kd.R_elder' (mvR HO607.out) (Kd.R_base ho0) hb); have n4_ := aK (Kd.R_lower (Kd.R_new' (Kd.R_new' (Kd.R_new' (Kd.R_new' ho0 (Kd.R_lt (mvR HO_9.out))) (Kd.R_lt (mvR HO_11.out))) (Kd.R_lt (mvR HO_12.out))) (Kd.R_lt (mvR HO607.out))) (below_size (mvh HB.out))); have n5_ := aK (kb BK579.out hb); have n6_ := aK (below_step (mvh HB.out) hb); clear HO_9 HO_11 HO_12 HO607 BK579 HB; have HO_9 := n0_; have HO_11 := n1_; have HO_12 := n2_; have HO607 := n3_; have HO611 := n4_; have BK579 := n5_; have HB := n6_; clear n0_ n1_ n2_ n3_ n4_ n5_ n6_; (try clear hb); (try clear ho0); obtain ⟨hcz70_0,hcz70_1,hcz70_2,hcz70_3,hfz70_0,hfz70_1,hfz70_2,hfz70_3⟩ := cf4 BK579.out) | (go_at_call 11; (with_reducible refine (reedsol_Member.calls k3 a0_0 a0_1 a0_2 a0_3 _ _ x11_3 t613 t614 _ ?side1 ?side2 A61.out).mono ?_); (case side1 => exact mvC (Kd.R_reads' HO_11.out).2.2); (case side2 => exact (Kd.R_reads' HO_11.out).2.1); rintro e w71 ⟨rfl,hb⟩; have n0_ := aK (Kd.R_below (mvR HO_9.out) hb); have n1_ := aK (Kd.R_below (mvR HO_11.out) hb); have n2_ := aK (Kd.R_below (mvR HO_12.out) hb); have n3_ := aK (Kd.R_below (mvR HO607.out) hb); have n4_ := aK (Kd.R_below (mvR HO611.out) hb); have n5_ := aK (kb BK579.out hb); have n6_ := aK (below_step (mvh HB.out) hb); clear HO_9 HO_11 HO_12 HO607 HO611 BK579 HB; have HO_9 := n0_; have HO_11 := n1_; have HO_12 := n2_; have HO607 := n3_; have HO611 := n4_; have BK579 := n5_; have HB := n6_; clear n0_ n1_ n2_ n3_ n4_ n5_ n6_; (try clear hb); obtain ⟨hcz72_0,hcz72_1,hcz72_2,hcz72_3,hfz72_0,hfz72_1,hfz72_2,hfz72_3⟩ := cf4 BK579.out) | (go_at_call 11; (with_reducible refine (reedsol_Member.calls k3 a0_0 a0_1 a0_2 a0_3 _ _ x12_3 t615 t616 _ ?side1 ?side2 A62.out).mono ?_); (case side1 => exact mvC (Kd.R_reads' HO_12.out).2.2); (case side2 => exact (Kd.R_reads' HO_12.out).2.1); rintro e w73 ⟨rfl,hb⟩; have n0_ := aK (Kd.R_below (mvR HO_9.out) hb); have n1_ := aK (Kd.R_below (mvR HO_11.out) hb); have n2_ := aK (Kd.R_below (mvR HO_12.out) hb); have n3_ := aK (Kd.R_below (mvR HO607.out) hb); have n4_ := aK (Kd.R_below (mvR HO611.out) hb); have n5_ := aK (kb BK579.out hb); have n6_ := aK (below_step (mvh HB.out) hb); clear HO_9 HO_11 HO_12 HO607 HO611 BK579 HB; have HO_9 := n0_; have HO_11 := n1_; have HO_12 := n2_; have HO607 := n3_; have HO611 := n4_; have BK579 := n5_; have HB := n6_; clear n0_ n1_ n2_ n3_ n4_ n5_ n6_; (try clear hb)))
          (try simp only [Act.put,List.setIfInBounds_toArray,List.set_cons_zero,List.set_cons_succ])
          go_cut [152] (fun v152 wc => ∃ (kq : Nat) (x152_62 : Bool),v152 = .bool x152_62 ∧ Aside0 (l4_ReedsolAdds.j3 kq t605 t613 x152_62 = some r) ∧ Aside0 (kq ≤ k3) ∧ Aside0 (Kd.R (Kd.int .u8) 5 wc w.heap.size (fun _ => True) v606 t605) ∧ Aside0 (wc.heap[gb579]? = some (.cells #[.int .i64 a0_0,.int .u64 a0_1,.int .i64 a0_2,.int .i64 a0_3] 26 (0,0))) ∧ Aside0 (Below w.heap.size w wc))
          case first =>
           have H := HC63.out
           clear HC63
           replace H := Option.bind_eq_some_iff.mp H
           obtain ⟨t617,A740,H⟩ := H
           try dsimp only at H
           have A74 := Aside0.mk A740
           clear A740
           replace H := Option.bind_eq_some_iff.mp H
           obtain ⟨t618,A750,H⟩ := H
           try dsimp only at H
           have A75 := Aside0.mk A750
           clear A750
           replace H := Option.bind_eq_some_iff.mp H
           obtain ⟨t619,A760,H⟩ := H
           try dsimp only at H
           have A76 := Aside0.mk A760
           clear A760
           replace H := Option.bind_eq_some_iff.mp H
           obtain ⟨t620,A770,H⟩ := H
           try dsimp only at H
           have A77 := Aside0.mk A770
           clear A770
           by_cases c78 : (wrap64 ((wrap64 ((wrap64 (t617 + t618)) + t619)) + t620)) = 0
           rotate_left
           ·rw [if_neg c78] at H
            exact l4_ReedsolAdds.no_j3 HR9_.out H
           rw [if_pos c78] at H
           have c78b0 : ((wrap64 ((wrap64 ((wrap64 (t617 + t618)) + t619)) + t620)) == 0) = true := beq_iff_eq.mpr c78
           have c78b1 : ((wrap64 ((wrap64 ((wrap64 (t617 + t618)) + t619)) + t620)) != 0) = false := bne_eq_false_iff_eq.mpr c78
           clear c78
           (first | rw [c78b0] | (simp only [i64_w,i32_w]; rw [c78b0]) | rw [c78b1] | skip)
           by_cases c79 : (strOfNums t605).toList = (strOfNums t609).toList
           rotate_left
           ·rw [if_neg c79] at H
            exact l4_ReedsolAdds.no_j3 HR9_.out H
           rw [if_pos c79] at H
           have c79b0 : ((strOfNums t605).toList == (strOfNums t609).toList) = true := beq_iff_eq.mpr c79
           have c79b1 : ((strOfNums t605).toList != (strOfNums t609).toList) = false := bne_eq_false_iff_eq.mpr c79
           clear c79
           by_cases c80 : (t613 != t615) = true
           ·rw [if_pos c80] at H
            exact l4_ReedsolAdds.no_j3 HR9_.out H
           ·rw [if_neg c80] at H
            have c80b0 : (t613 != t615) = false := by simpa using c80
            (try (have c80b1 : decide (t613 = t615) = true := by simpa using c80))
            (try (have c80b2 : (t613 == t615) = true := by simpa using c80))
            clear c80
            have H' := Aside0.mk H
            clear H
            go_wp2_with (first | (go_at_call 14; (with_reducible refine (l4_num.calls t608 t617 _ A74.out).mono ?_); rintro e w' ⟨rfl,⟨nd,rfl⟩⟩) | (go_at_call 14; (with_reducible refine (l4_num.calls t612 t618 _ A75.out).mono ?_); rintro e w' ⟨rfl,⟨nd,rfl⟩⟩) | (go_at_call 14; (with_reducible refine (l4_num.calls t614 t619 _ A76.out).mono ?_); rintro e w' ⟨rfl,⟨nd,rfl⟩⟩) | (go_at_call 14; (with_reducible refine (l4_num.calls t616 t620 _ A77.out).mono ?_); rintro e w' ⟨rfl,⟨nd,rfl⟩⟩; have hcv85 := own_string (P := Try.prog) Try.underlying27 Try.underlying5 Try.underlying9 (Kd.own_of_R HO607.out); have hcv86 := fun n_ => own_string (P := Try.prog) Try.underlying27 Try.underlying5 Try.underlying9 (Kd.own_of_R (Kd.R_drewN HO607.out n_)); have hcv87 := own_string (P := Try.prog) Try.underlying27 Try.underlying5 Try.underlying9 (Kd.own_of_R HO611.out); have hcv88 := fun n_ => own_string (P := Try.prog) Try.underlying27 Try.underlying5 Try.underlying9 (Kd.own_of_R (Kd.R_drewN HO611.out n_)); obtain ⟨Ao89,co89,eo89⟩ := Kd.R_slice HO607.out; subst eo89; obtain ⟨hcz90_0,hcz90_1,hcz90_2,hcz90_3,hfz90_0,hfz90_1,hfz90_2,hfz90_3⟩ := cf4 BK579.out))
            go_meet
            case rel => exact ⟨_,(((t605.length : Int) != a0_3)),(by first | rfl | (simp; done) | (simp [*]; done) | (simp [wrap64]; done)),H',⟨by have := HJ3.out; have := HJ21.out; have := HK3.out; first | omega | exact Nat.le_refl _⟩,⟨by (with_reducible repeat (first | apply Kd.R_alloc | apply Kd.R_drewN | apply Kd.R_drew)); exact Kd.R_mono HO607.out (fun _ hk => trivial)⟩,⟨mvb BK579.out⟩,⟨mvh HB.out⟩⟩
          case rest =>
           clear HC63
           (try clear c1); (try clear c2); (try clear p2); (try clear c3); (try clear c4); (try clear p4); (try clear q4); (try clear hx4); (try clear hf4); (try clear c5); (try clear p5); (try clear q5); (try clear hx5); (try clear hf5); (try clear p6); (try clear q6); (try clear hx6); (try clear c7)
           (try clear c7b0); (try clear c7b1); (try clear c8); (try clear hcv8); (try clear hcv9); (try clear c10); (try clear c11); (try clear c14); (try clear c16); (try clear c18); (try clear c18b0); (try clear c18b1); (try clear c22); (try clear c24); (try clear c29); (try clear c29b0); (try clear c29b1)
           (try clear c32); (try clear c33); (try clear c33b0); (try clear c33b1); (try clear c34); (try clear c34b0); (try clear c34b1); (try clear c40); (try clear c40b0); (try clear c41); (try clear c41b0); (try clear c42); (try clear c42b0); (try clear c43); (try clear c43b0); (try clear c43b1)
           (try clear c44); (try clear c44b0); (try clear p45); (try clear q45); (try clear hx45); (try clear hf45); (try clear c46); (try clear c46b0); (try clear p47); (try clear q47); (try clear hx47); (try clear hf47); (try clear c52); (try clear c52b0); (try clear c53); (try clear c53b0); (try clear c54)
           (try clear c54b0); (try clear p55); (try clear q55); (try clear hx55); (try clear hf55); (try clear p59); (try clear q59); (try clear hx59); (try clear p60); (try clear q60); (try clear hx60); (try clear p64); (try clear c78); (try clear c78b0); (try clear c78b1); (try clear c79); (try clear c79b0)
           (try clear c79b1); (try clear c80); (try clear c80b0); (try clear c80b1); (try clear c80b2); (try clear hcv81); (try clear hcv82); (try clear hcv83); (try clear hcv84); (try clear hcv85); (try clear hcv86); (try clear hcv87); (try clear hcv88); (try clear hcv91); (try clear hcv92); (try clear hcv93)
           (try clear hcv94); (try clear hcz12_0); (try clear hcz12_1); (try clear hcz12_2); (try clear hcz12_3); (try clear hcz23_0); (try clear hcz23_1); (try clear hcz23_2); (try clear hcz23_3); (try clear hcz25_0); (try clear hcz25_1); (try clear hcz25_2); (try clear hcz25_3); (try clear hcz31_0)
           (try clear hcz31_1); (try clear hcz31_2); (try clear hcz31_3); (try clear hcz64_0); (try clear hcz64_1); (try clear hcz64_2); (try clear hcz64_3); (try clear hcz67_0); (try clear hcz67_1); (try clear hcz67_2); (try clear hcz67_3); (try clear hcz70_0); (try clear hcz70_1); (try clear hcz70_2)
           (try clear hcz70_3); (try clear hcz72_0); (try clear hcz72_1); (try clear hcz72_2); (try clear hcz72_3); (try clear hcz90_0); (try clear hcz90_1); (try clear hcz90_2); (try clear hcz90_3); (try clear hcz9_0); (try clear hcz9_1); (try clear hcz9_2); (try clear hcz9_3); (try clear hfz12_0)
           (try clear hfz12_1); (try clear hfz12_2); (try clear hfz12_3); (try clear hfz23_0); (try clear hfz23_1); (try clear hfz23_2); (try clear hfz23_3); (try clear hfz25_0); (try clear hfz25_1); (try clear hfz25_2); (try clear hfz25_3); (try clear hfz31_0); (try clear hfz31_1); (try clear hfz31_2)
           (try clear hfz31_3); (try clear hfz64_0); (try clear hfz64_1); (try clear hfz64_2); (try clear hfz64_3); (try clear hfz67_0); (try clear hfz67_1); (try clear hfz67_2); (try clear hfz67_3); (try clear hfz70_0); (try clear hfz70_1); (try clear hfz70_2); (try clear hfz70_3); (try clear hfz72_0)
           (try clear hfz72_1); (try clear hfz72_2); (try clear hfz72_3); (try clear hfz90_0); (try clear hfz90_1); (try clear hfz90_2); (try clear hfz90_3); (try clear hfz9_0); (try clear hfz9_1); (try clear hfz9_2); (try clear hfz9_3); (try clear hx45_0); (try clear hx47_0); (try clear hx55_0); (try clear hx597_0)
           (try clear hx599_0); (try clear hx600_0); (try clear hx602_0); (try clear hx603_0); (try clear p2); (try clear p45); (try clear p47); (try clear p55); (try clear p597); (try clear p599); (try clear p6); (try clear p600); (try clear p602); (try clear p603); (try clear q45); (try clear q47)
           (try clear q55); (try clear q597); (try clear q599); (try clear q600); (try clear q602); (try clear q603)
           obtain ⟨kq,x152_62,rfl,HA,HJ62,HO_14,BK579,HB⟩ := hcut
           cases kq with
           | zero => exact absurd HA.out (by simp [l4_ReedsolAdds.j3])
           | succ kj62 =>
            have H := HA.out
            clear HA
            simp only [l4_ReedsolAdds.j3] at H
            by_cases c95 : x152_62 = true
            ·subst c95
             exact l4_ReedsolAdds.no_false HR9_.out H
            ·replace c95 := Bool.eq_false_iff.mpr c95
             subst c95
             have H1 : (l4_ReedsolAdds.l1 kj62 t605 t613 true 0) = some r := by rw [if_neg (show ¬ (false = true) by decide)] at H; exact H
             clear H
             have H := H1
             clear H1
             have H' := Aside0.mk H
             clear H
             go_wp2
             go_loopg [22,23] kj62 (fun kq v22 v23 w' => ∃ (x22_5 : Bool) (x23_5 : Int),v22 = .bool x22_5 ∧ v23 = .int .i64 x23_5 ∧ Aside0 (l4_ReedsolAdds.l1 kq t605 t613 x22_5 x23_5 = some r) ∧ Aside0 (kq ≤ kj62) ∧ Aside0 (Kd.R (Kd.int .u8) 5 w' w.heap.size (fun _ => True) v606 t605) ∧ Aside0 (w'.heap[gb579]? = some (.cells #[.int .i64 a0_0,.int .u64 a0_1,.int .i64 a0_2,.int .i64 a0_3] 26 (0,0))) ∧ Aside0 (Below w.heap.size w w'))
             case atStart => exact ⟨(true),(0),(by first | rfl | (simp; done) | (simp [*]; done) | (simp [wrap64]; done)),(by first | rfl | (simp; done) | (simp [*]; done) | (simp [wrap64]; done)),H',⟨Nat.le_refl _⟩,⟨mvR HO_14.out⟩,⟨mvb BK579.out⟩,⟨mvh HB.out⟩⟩
             case round =>
              (try clear hHeld)
              clear H'
              (try clear c1); (try clear c2); (try clear p2); (try clear c3); (try clear c4); (try clear p4); (try clear q4); (try clear hx4); (try clear hf4); (try clear c5); (try clear p5); (try clear q5); (try clear hx5); (try clear hf5); (try clear p6); (try clear q6); (try clear hx6); (try clear c7)
              (try clear c7b0); (try clear c7b1); (try clear c8); (try clear hcv8); (try clear c9); (try clear hcv9); (try clear c10); (try clear c11); (try clear c14); (try clear c16); (try clear c18); (try clear c18b0); (try clear c18b1); (try clear c22); (try clear c24); (try clear c29); (try clear c29b0)
              (try clear c29b1); (try clear c32); (try clear c33); (try clear c33b0); (try clear c33b1); (try clear c34); (try clear c34b0); (try clear c34b1); (try clear c40); (try clear c40b0); (try clear c41); (try clear c41b0); (try clear c42); (try clear c42b0); (try clear c43); (try clear c43b0)
              (try clear c43b1); (try clear c44); (try clear c44b0); (try clear p45); (try clear q45); (try clear hx45); (try clear hf45); (try clear c46); (try clear c46b0); (try clear p47); (try clear q47); (try clear hx47); (try clear hf47); (try clear c52); (try clear c52b0); (try clear c53); (try clear c53b0)
              (try clear c54); (try clear c54b0); (try clear p55); (try clear q55); (try clear hx55); (try clear hf55); (try clear p59); (try clear q59); (try clear hx59); (try clear p60); (try clear q60); (try clear hx60); (try clear p64); (try clear c78); (try clear c78b0); (try clear c78b1); (try clear c79)
              (try clear c79b0); (try clear c79b1); (try clear c80); (try clear c80b0); (try clear c80b1); (try clear c80b2); (try clear hcv81); (try clear hcv82); (try clear hcv83); (try clear hcv84); (try clear hcv85); (try clear hcv86); (try clear hcv87); (try clear hcv88); (try clear hcv91); (try clear hcv92)
              (try clear hcv93); (try clear hcv94); (try clear c95); (try clear hcz12_0); (try clear hcz12_1); (try clear hcz12_2); (try clear hcz12_3); (try clear hcz23_0); (try clear hcz23_1); (try clear hcz23_2); (try clear hcz23_3); (try clear hcz25_0); (try clear hcz25_1); (try clear hcz25_2)
              (try clear hcz25_3); (try clear hcz31_0); (try clear hcz31_1); (try clear hcz31_2); (try clear hcz31_3); (try clear hcz64_0); (try clear hcz64_1); (try clear hcz64_2); (try clear hcz64_3); (try clear hcz67_0); (try clear hcz67_1); (try clear hcz67_2); (try clear hcz67_3); (try clear hcz70_0)
              (try clear hcz70_1); (try clear hcz70_2); (try clear hcz70_3); (try clear hcz72_0); (try clear hcz72_1); (try clear hcz72_2); (try clear hcz72_3); (try clear hcz90_0); (try clear hcz90_1); (try clear hcz90_2); (try clear hcz90_3); (try clear hcz9_0); (try clear hcz9_1); (try clear hcz9_2)
              (try clear hcz9_3); (try clear hfz12_0); (try clear hfz12_1); (try clear hfz12_2); (try clear hfz12_3); (try clear hfz23_0); (try clear hfz23_1); (try clear hfz23_2); (try clear hfz23_3); (try clear hfz25_0); (try clear hfz25_1); (try clear hfz25_2); (try clear hfz25_3); (try clear hfz31_0)
              (try clear hfz31_1); (try clear hfz31_2); (try clear hfz31_3); (try clear hfz64_0); (try clear hfz64_1); (try clear hfz64_2); (try clear hfz64_3); (try clear hfz67_0); (try clear hfz67_1); (try clear hfz67_2); (try clear hfz67_3); (try clear hfz70_0); (try clear hfz70_1); (try clear hfz70_2)
              (try clear hfz70_3); (try clear hfz72_0); (try clear hfz72_1); (try clear hfz72_2); (try clear hfz72_3); (try clear hfz90_0); (try clear hfz90_1); (try clear hfz90_2); (try clear hfz90_3); (try clear hfz9_0); (try clear hfz9_1); (try clear hfz9_2); (try clear hfz9_3); (try clear hx45_0)
              (try clear hx47_0); (try clear hx55_0); (try clear hx597_0); (try clear hx599_0); (try clear hx600_0); (try clear hx602_0); (try clear hx603_0); (try clear p2); (try clear p4); (try clear p45); (try clear p47); (try clear p5); (try clear p55); (try clear p59); (try clear p597); (try clear p599)
              (try clear p6); (try clear p60); (try clear p600); (try clear p602); (try clear p603); (try clear p64); (try clear q4); (try clear q45); (try clear q47); (try clear q5); (try clear q55); (try clear q59); (try clear q597); (try clear q599); (try clear q6); (try clear q60); (try clear q600)
              (try clear q602); (try clear q603)
              obtain ⟨x22_5,x23_5,rfl,rfl,HA,HK5,HO_14,BK579,HB⟩ := hrel
              cases gk with
              | zero => exact absurd HA.out (by simp [l4_ReedsolAdds.l1])
              | succ k5 =>
               have H := HA.out
               clear HA
               simp only [l4_ReedsolAdds.l1] at H
               by_cases c96 : x23_5 < (t605.length : Int)
               rotate_left
               ·rw [if_neg c96] at H
                have c96b0 : decide (x23_5 < (t605.length : Int)) = false := decide_eq_false c96
                clear c96
                obtain rfl := Option.some.inj H
                obtain ⟨Ao101,co101,eo101⟩ := Kd.R_slice HO_14.out
                subst eo101
                go_wp2
                go_ret
                exact ⟨by first | rfl | (simp [errW_none,errW_some] <;> rfl) | (simp only [← hji17,← hji19]; first | rfl | (simp [errW_none,errW_some] <;> rfl)) | (simp [*,errW_none,errW_some] <;> rfl),mvh HB.out⟩
               rw [if_pos c96] at H
               have c96b0 : decide (x23_5 < (t605.length : Int)) = true := decide_eq_true c96
               clear c96
               by_cases c97 : x22_5 = true
               rotate_left
               ·replace c97 := Bool.eq_false_iff.mpr c97
                subst c97
                have H1 : (l4_ReedsolAdds.l1 k5 t605 t613 false (wrap64 (x23_5 + 1))) = some r := by rw [if_neg (show ¬ (false = true) by decide)] at H; exact H
                clear H
                have H := H1
                clear H1
                have H' := Aside0.mk H
                clear H
                obtain ⟨Ao100,co100,eo100⟩ := Kd.R_slice HO_14.out
                subst eo100
                go_wp2
                go_roundg k5
                case measure => have := HJ3.out; have := HJ21.out; have := HK3.out; have := HJ62.out; have := HK5.out; omega
                case rel => exact ⟨(false),(wrap64 (x23_5 + 1)),(by first | rfl | (simp; done) | (simp [*]; done) | (simp [wrap64]; done)),(by first | rfl | (simp; done) | (simp [*]; done) | (simp [wrap64]; done)),H',⟨by have := HJ3.out; have := HJ21.out; have := HK3.out; have := HJ62.out; have := HK5.out; omega⟩,⟨mvR HO_14.out⟩,⟨mvb BK579.out⟩,⟨mvh HB.out⟩⟩
               subst c97
               have H1 : (if 0 ≤ x23_5 then (l4_ReedsolAdds.l1 k5 t605 t613 ((rd t605 x23_5) == 0) (wrap64 (x23_5 + 1))) else (none)) = some r := by rw [if_pos rfl] at H; exact H
               clear H
               have H := H1
               clear H1
               by_cases c98 : 0 ≤ x23_5
               rotate_left
               ·rw [if_neg c98] at H
                exact absurd H (by simp)
               rw [if_pos c98] at H
               have c98b0 : decide (0 ≤ x23_5) = true := decide_eq_true c98
               clear c98
               have H' := Aside0.mk H
               clear H
               obtain ⟨Ao99,co99,eo99⟩ := Kd.R_slice HO_14.out
               subst eo99
               have p621 : 0 ≤ (x23_5 : Int) := of_decide_eq_true (by first | (with_reducible assumption) | assumption)
               have q621 : x23_5 < (t605.length : Int) := of_decide_eq_true (by first | (with_reducible assumption) | assumption)
               obtain ⟨ad621,e621,hx621_0⟩ := Kd.at_int (Kd.R_reads' HO_14.out).2.2 x23_5 p621 q621
               cases e621
               replace p621 := eq_true p621
               replace q621 := eq_true q621
               go_wp2
               go_roundg k5
               case measure => have := HJ3.out; have := HJ21.out; have := HK3.out; have := HJ62.out; have := HK5.out; omega
               case rel => exact ⟨(((rd t605 x23_5) == 0)),(wrap64 (x23_5 + 1)),(by first | rfl | (simp; done) | (simp [*]; done) | (simp [wrap64]; done)),(by first | rfl | (simp; done) | (simp [*]; done) | (simp [wrap64]; done)),H',⟨by have := HJ3.out; have := HJ21.out; have := HK3.out; have := HJ62.out; have := HK5.out; omega⟩,⟨mvR HO_14.out⟩,⟨mvb BK579.out⟩,⟨mvh HB.out⟩⟩
         rw [if_pos c40] at H
         have c40b0 : decide (x13_3 < (t586.length : Int)) = true := decide_eq_true c40
         clear c40
         by_cases c41 : x13_3 < (l2.length : Int)
         rotate_left
         ·rw [if_neg c41] at H
          have c41b0 : decide (x13_3 < (l2.length : Int)) = false := decide_eq_false c41
          clear c41
          by_cases c52 : 0 ≤ x13_3
          rotate_left
          ·rw [if_neg c52] at H
           exact absurd H (by simp)
          rw [if_pos c52] at H
          have c52b0 : decide (0 ≤ x13_3) = true := decide_eq_true c52
          clear c52
          by_cases c53 : x13_3 < (x11_3.length : Int)
          rotate_left
          ·rw [if_neg c53] at H
           exact absurd H (by simp)
          rw [if_pos c53] at H
          have c53b0 : decide (x13_3 < (x11_3.length : Int)) = true := decide_eq_true c53
          clear c53
          by_cases c54 : x13_3 < (x12_3.length : Int)
          rotate_left
          ·rw [if_neg c54] at H
           exact absurd H (by simp)
          rw [if_pos c54] at H
          have c54b0 : decide (x13_3 < (x12_3.length : Int)) = true := decide_eq_true c54
          clear c54
          obtain ⟨y604,hy604⟩ : ∃ y_ : List Int,y_ = (x12_3.set (x13_3 : Int).toNat (Go.bits .xor .u8 (rd x11_3 x13_3) (rd t586 x13_3))) := ⟨_,rfl⟩
          replace H : (l4_ReedsolAdds.l0 k3 l2 ji19 t586 x11_3 y604 (wrap64 (x13_3 + 1)) a0_0 a0_1 a0_2 a0_3) = some r := by rw [hy604]; exact H
          have Ny604 := Aside0.mk hy604
          clear hy604
          have H' := Aside0.mk H
          clear H
          try go_wp2
          have n0_ := aK (Kd.R_drew HO_9.out)
          have n1_ := aK (Kd.R_drew HO_11.out)
          have n2_ := aK (Kd.R_drew HO_12.out)
          have n3_ := aK (blk_drew BK579.out)
          have n4_ := aK (below_drew1 HB.out)
          clear HO_9 HO_11 HO_12 BK579 HB
          have HO_9 := n0_
          have HO_11 := n1_
          have HO_12 := n2_
          have BK579 := n3_
          have HB := n4_
          clear n0_ n1_ n2_ n3_ n4_
          obtain ⟨Ao57,co57,eo57⟩ := Kd.R_slice HO_11.out
          (first | subst eo57 | (injection eo57 with f1_ f2_ f3_; have f4_ := f1_.symm; have f5_ := f3_.symm; clear f1_ f2_ f3_; subst f4_; subst f5_))
          have p602 : 0 ≤ (x13_3 : Int) := of_decide_eq_true (by first | (with_reducible assumption) | assumption)
          have q602 : x13_3 < (x11_3.length : Int) := of_decide_eq_true (by first | (with_reducible assumption) | assumption)
          obtain ⟨ad602,e602,hx602_0⟩ := Kd.at_int (Kd.R_reads' HO_11.out).2.2 x13_3 p602 q602
          cases e602
          replace p602 := eq_true p602
          replace q602 := eq_true q602
          have p603 : 0 ≤ (x13_3 : Int) := of_decide_eq_true (by first | (with_reducible assumption) | assumption)
          have q603 : x13_3 < (t586.length : Int) := of_decide_eq_true (by first | (with_reducible assumption) | assumption)
          obtain ⟨ad603,e603,hx603_0⟩ := Kd.at_int (Kd.R_reads' HO_9.out).2.2 x13_3 p603 q603
          cases e603
          replace p603 := eq_true p603
          replace q603 := eq_true q603
          have p55 : 0 ≤ (x13_3 : Int) := of_decide_eq_true (by first | (with_reducible assumption) | assumption)
          have q55 : (x13_3 : Int) < ((x12_3.length : Int) : Int) := of_decide_eq_true (by first | (with_reducible assumption) | assumption)
          obtain ⟨go55,co55,eo55,gb55,gl55,cl55,HG55⟩ := Kd.R_form HO_12.out (by omega)
          (first | cases eo55 | (injection eo55 with ea_ en_ ec_; (first | subst ea_ | (injection ea_ with ea_; subst ea_)); subst ec_; clear en_))
          have GB55 := Aside0.mk gb55
          have GG55 := Aside0.mk HG55
          clear gb55 gl55 HG55
          obtain ⟨hx55_0,hf55_0⟩ := Kd.R_celln 0 HO_12.out (x13_3 : Int) p55 q55
          replace p55 := eq_true p55
          replace q55 := eq_true q55
          have HP58 := Kd.R_putn HO_12.out (x13_3 : Int) (Go.bits .xor .u8 (rd x11_3 x13_3) (rd t586 x13_3))
          rw [← Ny604.out] at HP58
          have HQ58 := Aside0.mk HP58
          clear HP58
          refine start_ (n := 13) (S := fun w' => w'.cell? (ad602.add (x13_3).toNat) = some (.int .u8 (rd x11_3 x13_3)) ∧ w'.cell? (ad603.add (x13_3).toNat) = some (.int .u8 (rd t586 x13_3))) (ds := [12]) #[false,false,false,false,false,false,false,false,false,false,false,false,false] (by kernel_rfl) rfl rfl ⟨hx602_0,hx603_0⟩ (fun hHeld => ?_); refine with_tabW l4_ReedsolAdds.tab15 l4_ReedsolAdds.bits15 (fun HT_ HW_ => ?_)
          generalize wr.drew = w56 at HO_9 HO_11 HO_12 BK579 HB GG55 HQ58 hf55_0 hx55_0 hx602_0 hx603_0 hHeld ⊢
          refine pure_ (i := 0) (N := some 86) (v := ?_) (a' := ?_) #[true,false,false,false,false,false,false,false,false,false,false,false,false] rfl rfl (any_of HT_.out (by kernel_rfl)) (fun _ _ _ h => h) (Or.inl ⟨by rfl,?_⟩) ?_ ?_
          rotate_left
          ·intro w'
           go_simp
           with_reducible rfl
          rotate_left
          ·simp only [Act.put,List.setIfInBounds_toArray,List.set_cons_zero,List.set_cons_succ,i64_w,i32_w]
           rfl
          refine pure_ (i := 1) (N := some 87) (v := ?_) (a' := ?_) #[true,true,false,false,false,false,false,false,false,false,false,false,false] rfl rfl (any_of HT_.out (by kernel_rfl)) (fun _ _ _ h => h) (Or.inl ⟨by rfl,?_⟩) ?_ ?_
          rotate_left
          ·intro w'
           go_simp
           with_reducible rfl
          rotate_left
          ·simp only [Act.put,List.setIfInBounds_toArray,List.set_cons_zero,List.set_cons_succ,i64_w,i32_w]
           rfl
          refine pure_ (i := 2) (N := some 88) (v := ?_) (a' := ?_) #[true,true,true,false,false,false,false,false,false,false,false,false,false] rfl rfl (any_of HT_.out (by kernel_rfl)) (fun _ _ _ h => h) (Or.inl ⟨by rfl,?_⟩) ?_ ?_
          rotate_left
          ·intro w'
           go_simp
           with_reducible rfl
          rotate_left
          ·simp only [Act.put,List.setIfInBounds_toArray,List.set_cons_zero,List.set_cons_succ,i64_w,i32_w]
           rfl
          refine pure_ (i := 3) (N := some 89) (v := ?_) (a' := ?_) #[true,true,true,true,false,false,false,false,false,false,false,false,false] rfl rfl (any_of HT_.out (by kernel_rfl)) (fun _ _ _ h => h) (Or.inl ⟨by rfl,?_⟩) ?_ ?_
          rotate_left
          ·intro w'
           go_simp
           with_reducible rfl
          rotate_left
          ·simp only [Act.put,List.setIfInBounds_toArray,List.set_cons_zero,List.set_cons_succ,i64_w,i32_w]
           rfl
          refine pure_ (i := 4) (N := some 90) (v := ?_) (a' := ?_) #[true,true,true,true,true,false,false,false,false,false,false,false,false] rfl rfl (any_of HT_.out (by kernel_rfl)) (fun _ _ _ h => h) (Or.inl ⟨by rfl,?_⟩) ?_ ?_
          rotate_left
          ·intro w'
           go_simp
           with_reducible rfl
          rotate_left
          ·simp only [Act.put,List.setIfInBounds_toArray,List.set_cons_zero,List.set_cons_succ,i64_w,i32_w]
           rfl
          refine pure_ (i := 6) (N := some 92) (v := ?_) (a' := ?_) #[true,true,true,true,true,false,true,false,false,false,false,false,false] rfl rfl (any_of HT_.out (by kernel_rfl)) (fun _ _ _ h => h) (Or.inl ⟨by rfl,?_⟩) ?_ ?_
          rotate_left
          ·intro w'
           go_simp
           with_reducible rfl
          rotate_left
          ·simp only [Act.put,List.setIfInBounds_toArray,List.set_cons_zero,List.set_cons_succ,i64_w,i32_w]
           rfl
          refine pure_ (i := 7) (N := some 93) (v := ?_) (a' := ?_) #[true,true,true,true,true,false,true,true,false,false,false,false,false] rfl rfl (any_of HT_.out (by kernel_rfl)) (fun _ _ _ h => h) (Or.inl ⟨by rfl,?_⟩) ?_ ?_
          rotate_left
          ·intro w'
           go_simp
           with_reducible rfl
          rotate_left
          ·simp only [Act.put,List.setIfInBounds_toArray,List.set_cons_zero,List.set_cons_succ,i64_w,i32_w]
           rfl
          refine pure_ (i := 8) (N := some 94) (v := ?_) (a' := ?_) #[true,true,true,true,true,false,true,true,true,false,false,false,false] rfl rfl (any_of HT_.out (by kernel_rfl)) (fun _ _ _ h => h) (Or.inl ⟨by rfl,?_⟩) ?_ ?_
          rotate_left
          ·intro w'
           go_simp
           with_reducible rfl
          rotate_left
          ·simp only [Act.put,List.setIfInBounds_toArray,List.set_cons_zero,List.set_cons_succ,i64_w,i32_w]
           rfl
          refine take_ (i := 5) (N := some 91) (v := ?_) (a' := ?_) #[true,true,true,true,true,true,true,true,true,false,false,false,false] rfl rfl (take_ofW HT_.out HW_.out (by kernel_rfl)) (fun _ _ _ h => h) (Or.inl ⟨by rfl,?_⟩) hHeld ?_ ?_
          rotate_left
          ·rintro w' ⟨s0,s1⟩
           go_simp
           with_reducible rfl
          rotate_left
          ·simp only [Act.put,List.setIfInBounds_toArray,List.set_cons_zero,List.set_cons_succ,i64_w,i32_w]
           rfl
          refine take_ (i := 9) (N := some 95) (v := ?_) (a' := ?_) #[true,true,true,true,true,true,true,true,true,true,false,false,false] rfl rfl (take_ofW HT_.out HW_.out (by kernel_rfl)) (fun _ _ _ h => h) (Or.inl ⟨by rfl,?_⟩) hHeld ?_ ?_
          rotate_left
          ·rintro w' ⟨s0,s1⟩
           go_simp
           with_reducible rfl
          rotate_left
          ·simp only [Act.put,List.setIfInBounds_toArray,List.set_cons_zero,List.set_cons_succ,i64_w,i32_w]
           rfl
          refine pure_ (i := 10) (N := some 96) (v := ?_) (a' := ?_) #[true,true,true,true,true,true,true,true,true,true,true,false,false] rfl rfl (any_of HT_.out (by kernel_rfl)) (fun _ _ _ h => h) (Or.inl ⟨by rfl,?_⟩) ?_ ?_
          rotate_left
          ·intro w'
           go_simp
           with_reducible rfl
          rotate_left
          ·simp only [Act.put,List.setIfInBounds_toArray,List.set_cons_zero,List.set_cons_succ,i64_w,i32_w]
           rfl
          refine pure_ (i := 11) (N := some 97) (v := ?_) (a' := ?_) #[true,true,true,true,true,true,true,true,true,true,true,true,false] rfl rfl (any_of HT_.out (by kernel_rfl)) (fun _ _ _ h => h) (Or.inl ⟨by rfl,?_⟩) ?_ ?_
          rotate_left
          ·intro w'
           go_simp
           with_reducible rfl
          rotate_left
          ·simp only [Act.put,List.setIfInBounds_toArray,List.set_cons_zero,List.set_cons_succ,i64_w,i32_w]
           rfl
          refine last_ (i := 12) (N := none) #[true,true,true,true,true,true,true,true,true,true,true,true,true] rfl rfl (one_of HT_.out (by kernel_rfl)) (by decide) (fun K hK => ?_)
          refine skip_ (w1 := ?_) (by rfl) rfl ?_ ?_
          rotate_left
          ·go_simp
           rfl
          refine hK.out _ _ ?_
          clear hK K
          refine done_ (done_of HT_.out (by kernel_rfl)) ?_
          try go_wp2
          go_roundg k3
          case measure => have := HJ3.out; have := HJ21.out; have := HK3.out; omega
          case rel => exact ⟨(x11_3),(y604),(wrap64 (x13_3 + 1)),(by first | rfl | (simp; done) | (simp [*]; done) | (simp [wrap64]; done)),H',⟨by have := HJ3.out; have := HJ21.out; have := HK3.out; omega⟩,⟨by (with_reducible repeat (first | apply Kd.R_alloc | apply Kd.R_drewN | apply Kd.R_drew)); exact Kd.R_mono (Kd.R_far (p := ⟨go55,(x13_3 : Int).toNat,none⟩) (Kd.R_mono HO_9.out (fun k_ hk => (⟨hk,fun e_ => hk.2 (by rw [e_]; rfl)⟩ : _ ∧ k_ ≠ go55))) (fun _ hk => hk.2) (.int .u8 (Go.bits .xor .u8 (rd x11_3 x13_3) (rd t586 x13_3)))) (fun _ hk => ⟨hk.1.1,hk.1.2⟩)⟩,⟨by (with_reducible repeat (first | apply Kd.R_alloc | apply Kd.R_drewN | apply Kd.R_drew)); exact Kd.R_mono (Kd.R_far (p := ⟨go55,(x13_3 : Int).toNat,none⟩) (Kd.R_mono HO_11.out (fun k_ hk => (⟨hk,fun e_ => hk.2 (by rw [e_]; rfl)⟩ : _ ∧ k_ ≠ go55))) (fun _ hk => hk.2) (.int .u8 (Go.bits .xor .u8 (rd x11_3 x13_3) (rd t586 x13_3)))) (fun _ hk => ⟨hk.1.1,hk.1.2⟩)⟩,⟨mvR HQ58.out⟩,⟨by (with_reducible repeat (first | apply bN | apply bD | apply bA)); refine blk_far ?_ (by have h_ := Kd.R_ne HO_12.out BK579.out (by decide); intro e_; exact h_ (by rw [e_]; rfl)) _; exact mvb BK579.out⟩,⟨by repeat (first | (with_reducible first | exact HB.out | apply below_alloc | apply pw_below_drewN | apply below_drew1 | refine below_set ?_ GB55.out | refine below_set ?_ GE579.out) | exact HB.out)⟩⟩
         rw [if_pos c41] at H
         have c41b0 : decide (x13_3 < (l2.length : Int)) = true := decide_eq_true c41
         clear c41
         by_cases c42 : 0 ≤ x13_3
         rotate_left
         ·rw [if_neg c42] at H
          exact absurd H (by simp)
         rw [if_pos c42] at H
         have c42b0 : decide (0 ≤ x13_3) = true := decide_eq_true c42
         clear c42
         by_cases c43 : ji19 = 0
         ·rw [if_pos c43] at H
          exact absurd H (by simp)
         ·rw [if_neg c43] at H
          have c43b0 : (ji19 == 0) = false := beq_eq_false_iff_ne.mpr c43
          have c43b1 : (ji19 != 0) = true := bne_iff_ne.mpr c43
          by_cases c44 : x13_3 < (x11_3.length : Int)
          rotate_left
          ·rw [if_neg c44] at H
           exact absurd H (by simp)
          rw [if_pos c44] at H
          have c44b0 : decide (x13_3 < (x11_3.length : Int)) = true := decide_eq_true c44
          clear c44
          obtain ⟨y598,hy598⟩ : ∃ y_ : List Int,y_ = (x11_3.set (x13_3 : Int).toNat ((Int.tmod (wrap64 (rd l2 x13_3)) ji19) % 256)) := ⟨_,rfl⟩
          replace H : (if x13_3 < (x12_3.length : Int) then (l4_ReedsolAdds.l0 k3 l2 ji19 t586 y598 (x12_3.set (x13_3 : Int).toNat (Go.bits .xor .u8 (rd y598 x13_3) (rd t586 x13_3))) (wrap64 (x13_3 + 1)) a0_0 a0_1 a0_2 a0_3) else (none)) = some r := by rw [hy598]; exact H
          have Ny598 := Aside0.mk hy598
          clear hy598
          by_cases c46 : x13_3 < (x12_3.length : Int)
          rotate_left
          ·rw [if_neg c46] at H
           exact absurd H (by simp)
          rw [if_pos c46] at H
          have c46b0 : decide (x13_3 < (x12_3.length : Int)) = true := decide_eq_true c46
          clear c46
          obtain ⟨y601,hy601⟩ : ∃ y_ : List Int,y_ = (x12_3.set (x13_3 : Int).toNat (Go.bits .xor .u8 (rd y598 x13_3) (rd t586 x13_3))) := ⟨_,rfl⟩
          replace H : (l4_ReedsolAdds.l0 k3 l2 ji19 t586 y598 y601 (wrap64 (x13_3 + 1)) a0_0 a0_1 a0_2 a0_3) = some r := by rw [hy601]; exact H
          have Ny601 := Aside0.mk hy601
          clear hy601
          have H' := Aside0.mk H
          clear H
          have p597 : 0 ≤ (x13_3 : Int) := of_decide_eq_true (by first | (with_reducible assumption) | assumption)
          have q597 : x13_3 < (l2.length : Int) := of_decide_eq_true (by first | (with_reducible assumption) | assumption)
          obtain ⟨ad597,e597,hx597_0⟩ := Kd.at_int HR2.out x13_3 p597 q597
          cases e597
          replace hx597_0 := (HB.out.cell (World.block_lt_of_cell? w _ hx597_0)).trans hx597_0
          replace p597 := eq_true p597
          replace q597 := eq_true q597
          have p45 : 0 ≤ (x13_3 : Int) := of_decide_eq_true (by first | (with_reducible assumption) | assumption)
          have q45 : (x13_3 : Int) < ((x11_3.length : Int) : Int) := of_decide_eq_true (by first | (with_reducible assumption) | assumption)
          obtain ⟨go45,co45,eo45,gb45,gl45,cl45,HG45⟩ := Kd.R_form HO_11.out (by omega)
          (first | cases eo45 | (injection eo45 with ea_ en_ ec_; (first | subst ea_ | (injection ea_ with ea_; subst ea_)); subst ec_; clear en_))
          have GB45 := Aside0.mk gb45
          have GG45 := Aside0.mk HG45
          clear gb45 gl45 HG45
          obtain ⟨hx45_0,hf45_0⟩ := Kd.R_celln 0 HO_11.out (x13_3 : Int) p45 q45
          replace p45 := eq_true p45
          replace q45 := eq_true q45
          have HP48 := Kd.R_putg HO_11.out (x13_3 : Int) ((Int.tmod (wrap64 (rd l2 x13_3)) ji19) % 256)
          try go_wp2_with (first | ((with_reducible refine gate_store (t := 5) (p := 85) rfl ?_); refine store_event (t := 5) (p := 85) (v := ?vo_w49) (w1 := (wr.setCell ⟨go45,(x13_3 : Int).toNat,none⟩ (.int .u8 ((Int.tmod (wrap64 (rd l2 x13_3)) ji19) % 256)))) ?hg ?ho ?hn ?hr ?_; (case ho => rfl); (case hg => rfl); (case hn => rfl); (case hr => first | (go_simp; done) | (go_simp; rfl)); intro w49 hw; have hg : wr.grownBy w49 (some go45) := (by rw [hw]; exact HP48.2); have hp_ : Kd.R (Kd.int .u8) 5 w49 w.heap.size (fun k_ => some k_ ≠ (.slice Ao35 t586.length co35 : Value).ownBlock ∧ some k_ ≠ (v595 : Value).ownBlock) (.slice (some ⟨go45,0,none⟩) x11_3.length co45) y598 := (by rw [hw,Ny598.out]; exact HP48.1); clear HP48; have n0_ := aK (Kd.R_after (v := (.slice (some ⟨go45,0,none⟩) x11_3.length co45)) (v1 := (.slice (some ⟨go45,0,none⟩) x11_3.length co45)) (ok := (fun k_ => some k_ ≠ (v595 : Value).ownBlock)) (by (with_reducible repeat (first | apply Kd.R_alloc | apply Kd.R_drewN | apply Kd.R_drew)); exact Kd.R_mono HO_9.out (fun _ hk => ⟨hk.2,hk.1⟩)) hg (.inl rfl)); have n1_ := aK (hp_); have n2_ := aK (Kd.R_after (v := (.slice (some ⟨go45,0,none⟩) x11_3.length co45)) (v1 := (.slice (some ⟨go45,0,none⟩) x11_3.length co45)) (ok := (fun k_ => some k_ ≠ (.slice Ao35 t586.length co35 : Value).ownBlock)) (mvR HO_12.out) hg (.inl rfl)); have n3_ := aK (blk_grown (g := gb579) (o := .cells #[.int .i64 a0_0,.int .u64 a0_1,.int .i64 a0_2,.int .i64 a0_3] 26 (0,0)) (mvb BK579.out) hg (Kd.R_ne HO_11.out BK579.out (by decide))); have n4_ := aK ((by rw [hw]; exact below_set (HB.out) GB45.out : Below w.heap.size w w49)); clear HO_9 HO_11 HO_12 BK579 HB; have HO_9 := n0_; have HO_11 := n1_; have HO_12 := n2_; have BK579 := n3_; have HB := n4_; clear n0_ n1_ n2_ n3_ n4_; clear hg hw hp_))
          have n0_ := aK (Kd.R_drew HO_9.out)
          have n1_ := aK (Kd.R_drew HO_11.out)
          have n2_ := aK (Kd.R_drew HO_12.out)
          have n3_ := aK (blk_drew BK579.out)
          have n4_ := aK (below_drew1 HB.out)
          clear HO_9 HO_11 HO_12 BK579 HB
          have HO_9 := n0_
          have HO_11 := n1_
          have HO_12 := n2_
          have BK579 := n3_
          have HB := n4_
          clear n0_ n1_ n2_ n3_ n4_
          have p599 : 0 ≤ (x13_3 : Int) := of_decide_eq_true (by first | (with_reducible assumption) | assumption)
          have q599 : x13_3 < (y598.length : Int) := (by have h_ : (x13_3 : Int) < ((x11_3.length : Int) : Int) := of_decide_eq_true (by first | (with_reducible assumption) | assumption); first | (have e_ := (Kd.R_reads' HO_11.out).1; omega) | simpa only [Ny598.out,List.length_set] using h_)
          have ql599 : ((x13_3 : Int) < ((x11_3.length : Int) : Int)) = True := eq_true (of_decide_eq_true (by first | (with_reducible assumption) | assumption))
          obtain ⟨ad599,e599,hx599_0⟩ := Kd.at_int (Kd.R_reads' HO_11.out).2.2 x13_3 p599 q599
          obtain rfl : (⟨go45,0,none⟩ : Addr) = ad599 := (by injection e599)
          (first | simp only [add_plain] at hx599_0 | simp only [add_at] at hx599_0 | simp only [Addr.add,Nat.zero_add] at hx599_0 | skip)
          replace p599 := eq_true p599
          replace q599 := eq_true q599
          have p600 : 0 ≤ (x13_3 : Int) := of_decide_eq_true (by first | (with_reducible assumption) | assumption)
          have q600 : x13_3 < (t586.length : Int) := of_decide_eq_true (by first | (with_reducible assumption) | assumption)
          obtain ⟨ad600,e600,hx600_0⟩ := Kd.at_int (Kd.R_reads' HO_9.out).2.2 x13_3 p600 q600
          cases e600
          replace p600 := eq_true p600
          replace q600 := eq_true q600
          have p47 : 0 ≤ (x13_3 : Int) := of_decide_eq_true (by first | (with_reducible assumption) | assumption)
          have q47 : (x13_3 : Int) < ((x12_3.length : Int) : Int) := of_decide_eq_true (by first | (with_reducible assumption) | assumption)
          obtain ⟨go47,co47,eo47,gb47,gl47,cl47,HG47⟩ := Kd.R_form HO_12.out (by omega)
          (first | cases eo47 | (injection eo47 with ea_ en_ ec_; (first | subst ea_ | (injection ea_ with ea_; subst ea_)); subst ec_; clear en_))
          have GB47 := Aside0.mk gb47
          have GG47 := Aside0.mk HG47
          clear gb47 gl47 HG47
          obtain ⟨hx47_0,hf47_0⟩ := Kd.R_celln 0 HO_12.out (x13_3 : Int) p47 q47
          replace p47 := eq_true p47
          replace q47 := eq_true q47
          have HP51 := Kd.R_putn HO_12.out (x13_3 : Int) (Go.bits .xor .u8 (rd y598 x13_3) (rd t586 x13_3))
          rw [← Ny601.out] at HP51
          have HQ51 := Aside0.mk HP51
          clear HP51
          refine start_ (n := 13) (S := fun w' => w'.cell? ⟨go45,(x13_3).toNat,none⟩ = some (.int .u8 (rd y598 x13_3)) ∧ w'.cell? (ad600.add (x13_3).toNat) = some (.int .u8 (rd t586 x13_3))) (ds := [12]) #[false,false,false,false,false,false,false,false,false,false,false,false,false] (by kernel_rfl) rfl rfl ⟨hx599_0,hx600_0⟩ (fun hHeld => ?_); refine with_tabW l4_ReedsolAdds.tab15 l4_ReedsolAdds.bits15 (fun HT_ HW_ => ?_)
          generalize w49.drew = w50 at HO_9 HO_11 HO_12 BK579 HB GG47 HQ51 hf47_0 hx47_0 hx599_0 hx600_0 hHeld ⊢
          refine pure_ (i := 0) (N := some 86) (v := ?_) (a' := ?_) #[true,false,false,false,false,false,false,false,false,false,false,false,false] rfl rfl (any_of HT_.out (by kernel_rfl)) (fun _ _ _ h => h) (Or.inl ⟨by rfl,?_⟩) ?_ ?_
          rotate_left
          ·intro w'
           go_simp
           with_reducible rfl
          rotate_left
          ·simp only [Act.put,List.setIfInBounds_toArray,List.set_cons_zero,List.set_cons_succ,i64_w,i32_w]
           rfl
          refine pure_ (i := 1) (N := some 87) (v := ?_) (a' := ?_) #[true,true,false,false,false,false,false,false,false,false,false,false,false] rfl rfl (any_of HT_.out (by kernel_rfl)) (fun _ _ _ h => h) (Or.inl ⟨by rfl,?_⟩) ?_ ?_
          rotate_left
          ·intro w'
           go_simp
           with_reducible rfl
          rotate_left
          ·simp only [Act.put,List.setIfInBounds_toArray,List.set_cons_zero,List.set_cons_succ,i64_w,i32_w]
           rfl
          refine pure_ (i := 2) (N := some 88) (v := ?_) (a' := ?_) #[true,true,true,false,false,false,false,false,false,false,false,false,false] rfl rfl (any_of HT_.out (by kernel_rfl)) (fun _ _ _ h => h) (Or.inl ⟨by rfl,?_⟩) ?_ ?_
          rotate_left
          ·intro w'
           go_simp
           with_reducible rfl
          rotate_left
          ·simp only [Act.put,List.setIfInBounds_toArray,List.set_cons_zero,List.set_cons_succ,i64_w,i32_w]
           rfl
          refine pure_ (i := 3) (N := some 89) (v := ?_) (a' := ?_) #[true,true,true,true,false,false,false,false,false,false,false,false,false] rfl rfl (any_of HT_.out (by kernel_rfl)) (fun _ _ _ h => h) (Or.inl ⟨by rfl,?_⟩) ?_ ?_
          rotate_left
          ·intro w'
           go_simp
           with_reducible rfl
          rotate_left
          ·simp only [Act.put,List.setIfInBounds_toArray,List.set_cons_zero,List.set_cons_succ,i64_w,i32_w]
           rfl
          refine pure_ (i := 4) (N := some 90) (v := ?_) (a' := ?_) #[true,true,true,true,true,false,false,false,false,false,false,false,false] rfl rfl (any_of HT_.out (by kernel_rfl)) (fun _ _ _ h => h) (Or.inl ⟨by rfl,?_⟩) ?_ ?_
          rotate_left
          ·intro w'
           go_simp
           with_reducible rfl
          rotate_left
          ·simp only [Act.put,List.setIfInBounds_toArray,List.set_cons_zero,List.set_cons_succ,i64_w,i32_w]
           rfl
          refine pure_ (i := 6) (N := some 92) (v := ?_) (a' := ?_) #[true,true,true,true,true,false,true,false,false,false,false,false,false] rfl rfl (any_of HT_.out (by kernel_rfl)) (fun _ _ _ h => h) (Or.inl ⟨by rfl,?_⟩) ?_ ?_
          rotate_left
          ·intro w'
           go_simp
           with_reducible rfl
          rotate_left
          ·simp only [Act.put,List.setIfInBounds_toArray,List.set_cons_zero,List.set_cons_succ,i64_w,i32_w]
           rfl
          refine pure_ (i := 7) (N := some 93) (v := ?_) (a' := ?_) #[true,true,true,true,true,false,true,true,false,false,false,false,false] rfl rfl (any_of HT_.out (by kernel_rfl)) (fun _ _ _ h => h) (Or.inl ⟨by rfl,?_⟩) ?_ ?_
          rotate_left
          ·intro w'
           go_simp
           with_reducible rfl
          rotate_left
          ·simp only [Act.put,List.setIfInBounds_toArray,List.set_cons_zero,List.set_cons_succ,i64_w,i32_w]
           rfl
          refine pure_ (i := 8) (N := some 94) (v := ?_) (a' := ?_) #[true,true,true,true,true,false,true,true,true,false,false,false,false] rfl rfl (any_of HT_.out (by kernel_rfl)) (fun _ _ _ h => h) (Or.inl ⟨by rfl,?_⟩) ?_ ?_
          rotate_left
          ·intro w'
           go_simp
           with_reducible rfl
          rotate_left
          ·simp only [Act.put,List.setIfInBounds_toArray,List.set_cons_zero,List.set_cons_succ,i64_w,i32_w]
           rfl
          refine take_ (i := 5) (N := some 91) (v := ?_) (a' := ?_) #[true,true,true,true,true,true,true,true,true,false,false,false,false] rfl rfl (take_ofW HT_.out HW_.out (by kernel_rfl)) (fun _ _ _ h => h) (Or.inl ⟨by rfl,?_⟩) hHeld ?_ ?_
          rotate_left
          ·rintro w' ⟨s0,s1⟩
           go_simp
           with_reducible rfl
          rotate_left
          ·simp only [Act.put,List.setIfInBounds_toArray,List.set_cons_zero,List.set_cons_succ,i64_w,i32_w]
           rfl
          refine take_ (i := 9) (N := some 95) (v := ?_) (a' := ?_) #[true,true,true,true,true,true,true,true,true,true,false,false,false] rfl rfl (take_ofW HT_.out HW_.out (by kernel_rfl)) (fun _ _ _ h => h) (Or.inl ⟨by rfl,?_⟩) hHeld ?_ ?_
          rotate_left
          ·rintro w' ⟨s0,s1⟩
           go_simp
           with_reducible rfl
          rotate_left
          ·simp only [Act.put,List.setIfInBounds_toArray,List.set_cons_zero,List.set_cons_succ,i64_w,i32_w]
           rfl
          refine pure_ (i := 10) (N := some 96) (v := ?_) (a' := ?_) #[true,true,true,true,true,true,true,true,true,true,true,false,false] rfl rfl (any_of HT_.out (by kernel_rfl)) (fun _ _ _ h => h) (Or.inl ⟨by rfl,?_⟩) ?_ ?_
          rotate_left
          ·intro w'
           go_simp
           with_reducible rfl
          rotate_left
          ·simp only [Act.put,List.setIfInBounds_toArray,List.set_cons_zero,List.set_cons_succ,i64_w,i32_w]
           rfl
          refine pure_ (i := 11) (N := some 97) (v := ?_) (a' := ?_) #[true,true,true,true,true,true,true,true,true,true,true,true,false] rfl rfl (any_of HT_.out (by kernel_rfl)) (fun _ _ _ h => h) (Or.inl ⟨by rfl,?_⟩) ?_ ?_
          rotate_left
          ·intro w'
           go_simp
           with_reducible rfl
          rotate_left
          ·simp only [Act.put,List.setIfInBounds_toArray,List.set_cons_zero,List.set_cons_succ,i64_w,i32_w]
           rfl
          refine last_ (i := 12) (N := none) #[true,true,true,true,true,true,true,true,true,true,true,true,true] rfl rfl (one_of HT_.out (by kernel_rfl)) (by decide) (fun K hK => ?_)
          refine skip_ (w1 := ?_) (by rfl) rfl ?_ ?_
          rotate_left
          ·go_simp
           rfl
          refine hK.out _ _ ?_
          clear hK K
          refine done_ (done_of HT_.out (by kernel_rfl)) ?_
          try go_wp2
          go_roundg k3
          case measure => have := HJ3.out; have := HJ21.out; have := HK3.out; omega
          case rel => exact ⟨(y598),(y601),(wrap64 (x13_3 + 1)),(by first | rfl | (simp; done) | (simp [*]; done) | (simp [wrap64]; done)),H',⟨by have := HJ3.out; have := HJ21.out; have := HK3.out; omega⟩,⟨by (with_reducible repeat (first | apply Kd.R_alloc | apply Kd.R_drewN | apply Kd.R_drew)); exact Kd.R_mono (Kd.R_far (p := ⟨go47,(x13_3 : Int).toNat,none⟩) (Kd.R_mono HO_9.out (fun k_ hk => (⟨hk,fun e_ => hk.1 (by rw [e_]; rfl)⟩ : _ ∧ k_ ≠ go47))) (fun _ hk => hk.2) (.int .u8 (Go.bits .xor .u8 (rd y598 x13_3) (rd t586 x13_3)))) (fun _ hk => ⟨hk.1.2,hk.1.1⟩)⟩,⟨by (with_reducible repeat (first | apply Kd.R_alloc | apply Kd.R_drewN | apply Kd.R_drew)); exact Kd.R_mono (Kd.R_far (p := ⟨go47,(x13_3 : Int).toNat,none⟩) (Kd.R_mono HO_11.out (fun k_ hk => (⟨hk,fun e_ => hk.2 (by rw [e_]; rfl)⟩ : _ ∧ k_ ≠ go47))) (fun _ hk => hk.2) (.int .u8 (Go.bits .xor .u8 (rd y598 x13_3) (rd t586 x13_3)))) (fun _ hk => ⟨hk.1.1,hk.1.2⟩)⟩,⟨mvR HQ51.out⟩,⟨by (with_reducible repeat (first | apply bN | apply bD | apply bA)); refine blk_far ?_ (by have h_ := Kd.R_ne HO_12.out BK579.out (by decide); intro e_; exact h_ (by rw [e_]; rfl)) _; exact mvb BK579.out⟩,⟨by repeat (first | (with_reducible first | exact HB.out | apply below_alloc | apply pw_below_drewN | apply below_drew1 | refine below_set ?_ GB47.out | refine below_set ?_ GE579.out) | exact HB.out)⟩⟩
def l4_ReedsolAdds.Pure : Prop := ∀ (a0_0 : Int) (a0_1 : Int) (a0_2 : Int) (a0_3 : Int) (l1 : List Int) (l2 : List Int),(Lit.int .i64 a0_0).wf = true → (Lit.int .u64 a0_1).wf = true → (Lit.int .i64 a0_2).wf = true → (Lit.int .i64 a0_3).wf = true → l1.length ≤ maxLen → l1.length * 1 ≤ 140737488351232 → (∀ x ∈ l1,(Lit.int .u8 x).wf = true) → l2.length ≤ maxLen → l2.length * 1 ≤ 140737488351232 → (∀ x ∈ l2,(Lit.int .u8 x).wf = true) → ∃ k,l4_ReedsolAdds.f k a0_0 a0_1 a0_2 a0_3 l1 l2 = some true
theorem l4_ReedsolAdds.walk (P : l4_ReedsolAdds.Pure) (a0_0 : Int) (a0_1 : Int) (a0_2 : Int) (a0_3 : Int) (a1 : Option Addr) (len1 cap1 : Nat) (z1 : List Int) (a2 : Option Addr) (len2 cap2 : Nat) (z2 : List Int) (w : World) (w0_0 : (Lit.int .i64 a0_0).wf = true) (w0_1 : (Lit.int .u64 a0_1).wf = true) (w0_2 : (Lit.int .i64 a0_2).wf = true) (w0_3 : (Lit.int .i64 a0_3).wf = true) (w1 : (a1 = none ∧ len1 = 0 ∧ cap1 = 0 ∧ z1 = []) ∨ ∃ x,a1 = some x ∧ len1 ≤ cap1 ∧ cap1 ≤ maxLen ∧ z1.length = cap1 ∧ (∀ i,i < z1.length → w.cell? (x.add i) = some (.int .u8 (z1.getD i 0))) ∧ ∀ n ∈ z1,(Lit.int .u8 n).wf = true) (y1 : len1 * 1 ≤ 140737488351232) (w2 : (a2 = none ∧ len2 = 0 ∧ cap2 = 0 ∧ z2 = []) ∨ ∃ x,a2 = some x ∧ len2 ≤ cap2 ∧ cap2 ≤ maxLen ∧ z2.length = cap2 ∧ (∀ i,i < z2.length → w.cell? (x.add i) = some (.int .u8 (z2.getD i 0))) ∧ ∀ n ∈ z2,(Lit.int .u8 n).wf = true) (y2 : len2 * 1 ≤ 140737488351232) :
  Calls Try.prog 5 #[.agg #[.int .i64 a0_0,.int .u64 a0_1,.int .i64 a0_2,.int .i64 a0_3],.slice a1 len1 cap1,.slice a2 len2 cap2] w fun e w' => e = .returned (.bool true) ∧ Below w.heap.size w w' := by
 obtain ⟨l1,rfl,hr1,hm1,hw1,hc1⟩ := ReadsInt.ofRowC w1
 obtain ⟨l2,rfl,hr2,hm2,hw2,hc2⟩ := ReadsInt.ofRowC w2
 obtain ⟨k,h⟩ := P a0_0 a0_1 a0_2 a0_3 l1 l2 w0_0 w0_1 w0_2 w0_3 hm1 y1 hw1 hm2 y2 hw2
 refine (l4_ReedsolAdds.calls k a0_0 a0_1 a0_2 a0_3 _ _ l1 _ _ l2 true rfl w (Kd.C_of_reads (d := (0 : Int)) (h1 := fun _ => rfl) hr1) hc1 (Kd.C_of_reads (d := (0 : Int)) (h1 := fun _ => rfl) hr2) hc2 h).mono ?_
 rintro e w' ⟨rfl,hd⟩
 exact ⟨rfl,hd⟩


end Go.Proofs.Ytdhnjnkjhfomiaa.P

