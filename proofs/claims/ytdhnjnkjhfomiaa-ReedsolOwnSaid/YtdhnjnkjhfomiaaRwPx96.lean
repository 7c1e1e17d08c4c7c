import Derived.Test.YtdhnjnkjhfomiaaRwQVstr
import Derived.Test.YtdhnjnkjhfomiaaRwPx0
import Derived.Test.YtdhnjnkjhfomiaaRwPx6
import Derived.Test.YtdhnjnkjhfomiaaRwPx9
import Derived.Test.YtdhnjnkjhfomiaaRwPx11
import Derived.Test.YtdhnjnkjhfomiaaRwPx13
import Derived.Test.YtdhnjnkjhfomiaaRwPx18
import Derived.Test.YtdhnjnkjhfomiaaRwPx60
import Derived.Test.YtdhnjnkjhfomiaaRwPx23
import Derived.Test.YtdhnjnkjhfomiaaRwPx26
-- written by mk.sh, a program of this session, over the kit's print
namespace Go.Proofs.Ytdhnjnkjhfomiaa.P
open Go.Proofs.YtdhnjnkjhfomiaaW
open Go.RowKit Go.Proofs.YtdhnjnkjhfomiaaW.PrintWords Go.Proofs.YtdhnjnkjhfomiaaW.PrintLast Go.Proofs.YtdhnjnkjhfomiaaW.PrintMore
attribute [local go_sem] max2_int min2_int max_two min_two max_three min_three max_four min_four   -- for this text's walks alone
set_option linter.unusedVariables false
set_option linter.unusedSimpArgs false

mutual
def l4_ReedsolOwn.j0 : Nat → List Int → Bool → Int → Int → Int → Int → Option (Bool)
 | 0,_,_,_,_,_,_ => none
 | k + 1,x1,x31,x692000,x692001,x692002,x692003 => if x31 = true then ((l4_knows.f k).bind fun t694 => (some t694)) else ((l4_elements.f k x692000 x692001 x692002 x692003 x1).bind fun t695 => ((reedsol_Encode.f k x692000 x692001 x692002 x692003 t695).bind fun bt698 => ((reedsol_Encode.f k x692000 x692001 x692002 x692003 t695).bind fun bt702 => ((reedsol_Decode.f k x692000 x692001 x692002 x692003 bt698.1 ([] : List Int)).bind fun bt706 => ((reedsol_Decode.f k x692000 x692001 x692002 x692003 bt698.1 ([] : List Int)).bind fun bt711 => ((reedsol_Syndromes.f k x692000 x692001 x692002 x692003 bt698.1).bind fun bt716 => ((reedsol_Generator.f k x692000 x692001 x692002 x692003).bind fun bt720 => ((reedsol_Generator.f k x692000 x692001 x692002 x692003).bind fun bt724 => ((l4_num.f bt698.2).bind fun t728 => ((l4_num.f bt702.2).bind fun t729 => ((l4_num.f bt706.2.2).bind fun t730 => ((l4_num.f bt711.2.2).bind fun t731 => ((l4_num.f bt716.2).bind fun t732 => ((l4_num.f bt720.2).bind fun t733 => ((l4_num.f bt724.2).bind fun t734 => (if (wrap64 ((wrap64 ((wrap64 ((wrap64 ((wrap64 ((wrap64 (t728 + t729)) + t730)) + t731)) + t732)) + t733)) + t734)) = 0 then (if (strOfNums bt706.1).toList = (strOfNums t695).toList then (l4_ReedsolOwn.j1 k bt698.1 bt702.1 bt706.1 bt711.1 bt716.1 bt720.1 bt724.1 ((strOfNums bt720.1).toList != (strOfNums bt724.1).toList) x692000 x692001 x692002 x692003) else (l4_ReedsolOwn.j1 k bt698.1 bt702.1 bt706.1 bt711.1 bt716.1 bt720.1 bt724.1 true x692000 x692001 x692002 x692003)) else (l4_ReedsolOwn.j1 k bt698.1 bt702.1 bt706.1 bt711.1 bt716.1 bt720.1 bt724.1 true x692000 x692001 x692002 x692003)))))))))))))))))
def l4_ReedsolOwn.j1 : Nat → List Int → List Int → List Int → List Int → List Int → List Int → List Int → Bool → Int → Int → Int → Int → Option (Bool)
 | 0,_,_,_,_,_,_,_,_,_,_,_,_ => none
 | k + 1,x6,x8,x10,x13,x16,x18,x20,x112,x692000,x692001,x692002,x692003 => if x112 = true then (some false) else ((l1_ApartBytes.f (([x6,x8,x10,x13,x16,x18,x20] : List (List Int)))).bind fun t738 => (if t738 = true then ((reedsol_Generator.f k x692000 x692001 x692002 x692003).bind fun bt739 => ((l4_num.f bt739.2).bind fun t743 => (if t743 = 0 then (some ((strOfNums bt739.1).toList == (strOfNums x18).toList)) else (some false)))) else (some false)))
end
def l4_ReedsolOwn.f (k : Nat) (a0_0 : Int) (a0_1 : Int) (a0_2 : Int) (a0_3 : Int) (l1 : List Int) : Option (Bool) := (r4_Check.f k a0_0 a0_1 a0_2 a0_3).bind fun t692 => (if t692 = 0 then ((l4_knows.f k).bind fun t693 => (l4_ReedsolOwn.j0 k l1 (!t693) a0_0 a0_1 a0_2 a0_3)) else (l4_ReedsolOwn.j0 k l1 true a0_0 a0_1 a0_2 a0_3))
theorem l4_ReedsolOwn.mono_l : ∀ k,(∀ y0 y1 y2 y3 y4 y5,LeO (l4_ReedsolOwn.j0 k y0 y1 y2 y3 y4 y5) (l4_ReedsolOwn.j0 (k + 1) y0 y1 y2 y3 y4 y5)) ∧ (∀ y0 y1 y2 y3 y4 y5 y6 y7 y8 y9 y10 y11,LeO (l4_ReedsolOwn.j1 k y0 y1 y2 y3 y4 y5 y6 y7 y8 y9 y10 y11) (l4_ReedsolOwn.j1 (k + 1) y0 y1 y2 y3 y4 y5 y6 y7 y8 y9 y10 y11))
 | 0 => ⟨fun _ _ _ _ _ _ r h => by simp [l4_ReedsolOwn.j0] at h,fun _ _ _ _ _ _ _ _ _ _ _ _ r h => by simp [l4_ReedsolOwn.j1] at h⟩
 | k + 1 => by
  obtain ⟨ih0,ih1⟩ := l4_ReedsolOwn.mono_l k
  refine ⟨?_,?_⟩
  ·intro y0 y1 y2 y3 y4 y5
   unfold l4_ReedsolOwn.j0
   repeat' first
   | (with_reducible exact ih0 _ _ _ _ _ _)
   | (with_reducible exact ih1 _ _ _ _ _ _ _ _ _ _ _ _)
   | (with_reducible exact l4_elements.mono _ _ _ _ _ _)
   | (with_reducible exact l4_knows.mono _)
   | (with_reducible exact r4_Check.mono _ _ _ _ _)
   | (with_reducible exact reedsol_Decode.mono _ _ _ _ _ _ _)
   | (with_reducible exact reedsol_Encode.mono _ _ _ _ _ _)
   | (with_reducible exact reedsol_Generator.mono _ _ _ _ _)
   | (with_reducible exact reedsol_Syndromes.mono _ _ _ _ _ _)
   | (with_reducible exact LeO.refl _)
   | (with_reducible exact LeO.none _)
   | (with_reducible refine LeO.ite ?_ ?_)
   | (with_reducible refine LeO.bind ?_ (fun _ => ?_))
  ·intro y0 y1 y2 y3 y4 y5 y6 y7 y8 y9 y10 y11
   unfold l4_ReedsolOwn.j1
   repeat' first
   | (with_reducible exact ih0 _ _ _ _ _ _)
   | (with_reducible exact ih1 _ _ _ _ _ _ _ _ _ _ _ _)
   | (with_reducible exact l4_elements.mono _ _ _ _ _ _)
   | (with_reducible exact l4_knows.mono _)
   | (with_reducible exact r4_Check.mono _ _ _ _ _)
   | (with_reducible exact reedsol_Decode.mono _ _ _ _ _ _ _)
   | (with_reducible exact reedsol_Encode.mono _ _ _ _ _ _)
   | (with_reducible exact reedsol_Generator.mono _ _ _ _ _)
   | (with_reducible exact reedsol_Syndromes.mono _ _ _ _ _ _)
   | (with_reducible exact LeO.refl _)
   | (with_reducible exact LeO.none _)
   | (with_reducible refine LeO.ite ?_ ?_)
   | (with_reducible refine LeO.bind ?_ (fun _ => ?_))
theorem l4_ReedsolOwn.mono : ∀ a0 a1 a2 a3 a4 k,LeO (l4_ReedsolOwn.f k a0 a1 a2 a3 a4) (l4_ReedsolOwn.f (k + 1) a0 a1 a2 a3 a4) := by
 intro a0 a1 a2 a3 a4 k
 obtain ⟨ih0,ih1⟩ := l4_ReedsolOwn.mono_l k
 unfold l4_ReedsolOwn.f
 repeat' first
   | (with_reducible exact ih0 _ _ _ _ _ _)
   | (with_reducible exact ih1 _ _ _ _ _ _ _ _ _ _ _ _)
   | (with_reducible exact l4_elements.mono _ _ _ _ _ _)
   | (with_reducible exact l4_knows.mono _)
   | (with_reducible exact r4_Check.mono _ _ _ _ _)
   | (with_reducible exact reedsol_Decode.mono _ _ _ _ _ _ _)
   | (with_reducible exact reedsol_Encode.mono _ _ _ _ _ _)
   | (with_reducible exact reedsol_Generator.mono _ _ _ _ _)
   | (with_reducible exact reedsol_Syndromes.mono _ _ _ _ _ _)
   | (with_reducible exact LeO.refl _)
   | (with_reducible exact LeO.none _)
   | (with_reducible refine LeO.ite ?_ ?_)
   | (with_reducible refine LeO.bind ?_ (fun _ => ?_))
theorem l4_ReedsolOwn.no_false {r : Bool} {G : Prop} (hr : r = true) (h : some false = some r) : G := by
 subst hr
 cases h
theorem l4_ReedsolOwn.no_j1 {k : Nat} {x6 : List Int} {x8 : List Int} {x10 : List Int} {x13 : List Int} {x16 : List Int} {x18 : List Int} {x20 : List Int} {x692000 : Int} {x692001 : Int} {x692002 : Int} {x692003 : Int} {r : Bool} {G : Prop} (hr : r = true) (h : l4_ReedsolOwn.j1 k x6 x8 x10 x13 x16 x18 x20 true x692000 x692001 x692002 x692003 = some r) : G := by
 subst hr
 cases k <;> simp [l4_ReedsolOwn.j1] at h
set_option maxHeartbeats 8000000 in
set_option maxRecDepth 100000 in
theorem l4_ReedsolOwn.calls (k : Nat) (a0_0 : Int) (a0_1 : Int) (a0_2 : Int) (a0_3 : Int) (A1 : Option Addr) (c1 : Nat) (l1 : List Int) (r : Bool) (hr9_ : r = true) (w : World) (hr1 : Kd.C (Kd.int .u8) w A1 l1.length l1) (hc1 : l1.length ≤ c1) (h : l4_ReedsolOwn.f k a0_0 a0_1 a0_2 a0_3 l1 = some r) :
  Calls Try.prog 7 #[.agg #[.int .i64 a0_0,.int .u64 a0_1,.int .i64 a0_2,.int .i64 a0_3],.slice A1 l1.length c1] w fun e w' => e = .returned (.bool r) ∧ Below w.heap.size w w' := by
 have HR9_ := Aside0.mk hr9_
 clear hr9_
 have hu26 := Try.underlying26
 have HR1 := Aside0.mk hr1
 have HC1 := Aside0.mk hc1
 clear hr1 hc1
 have HB := aK (Below.refl w.heap.size w)
 have H : ((r4_Check.f k a0_0 a0_1 a0_2 a0_3).bind fun t692 => (if t692 = 0 then ((l4_knows.f k).bind fun t693 => (l4_ReedsolOwn.j0 k l1 (!t693) a0_0 a0_1 a0_2 a0_3)) else (l4_ReedsolOwn.j0 k l1 true a0_0 a0_1 a0_2 a0_3))) = some r := h
 clear h
 have HC3 := Aside0.mk H
 clear H
 go_enter Try.func7,Try.ntmps7
 go_upto_region 1 with (first | ((with_reducible refine gate_dst (N := 2) rfl ?_); refine box_event ?hg (N := 2) ?hd (cs := #[.int .i64 a0_0,.int .u64 a0_1,.int .i64 a0_2,.int .i64 a0_3]) (t := 26) ?hr ?_; (case hd => rfl); (case hg => rfl); (case hr => first | (go_simp; done) | (go_simp; rfl)); intro gb691 hg w4 hbox hb; have n0_ := aK (below_step (mvh HB.out) hb); have n1_ := aK (hbox); have n2_ := aK ((by rw [hg]; exact (below_size (mvh HB.out)) : w.heap.size ≤ gb691)); have n3_ := aK ((by rw [hg]; exact (below_size (mvh HB.out)) : w.heap.size ≤ gb691)); clear HB; have HB := n0_; have BK691 := n1_; have GW691 := n2_; have GE691 := n3_; clear n0_ n1_ n2_ n3_; clear hb hbox hg))
 (try simp only [Act.put,List.setIfInBounds_toArray,List.set_cons_zero,List.set_cons_succ])
 go_cut [31] (fun v31 wc => ∃ (kq : Nat) (x31_2 : Bool),v31 = .bool x31_2 ∧ Aside0 (l4_ReedsolOwn.j0 kq l1 x31_2 a0_0 a0_1 a0_2 a0_3 = some r) ∧ Aside0 (kq ≤ k) ∧ Aside0 (wc.heap[gb691]? = some (.cells #[.int .i64 a0_0,.int .u64 a0_1,.int .i64 a0_2,.int .i64 a0_3] 26 (0,0))) ∧ Aside0 (Below w.heap.size w wc))
 case first =>
  have H := HC3.out
  clear HC3
  replace H := Option.bind_eq_some_iff.mp H
  obtain ⟨t692,A50,H⟩ := H
  try dsimp only at H
  have A5 := Aside0.mk A50
  clear A50
  by_cases c6 : t692 = 0
  ·rw [if_pos c6] at H
   have c6b0 : (t692 == 0) = true := beq_iff_eq.mpr c6
   have c6b1 : (t692 != 0) = false := bne_eq_false_iff_eq.mpr c6
   clear c6
   (first | rw [c6b0] | (simp only [i64_w,i32_w]; rw [c6b0]) | rw [c6b1] | skip)
   replace H := Option.bind_eq_some_iff.mp H
   obtain ⟨t693,A70,H⟩ := H
   try dsimp only at H
   have A7 := Aside0.mk A70
   clear A70
   have H' := Aside0.mk H
   clear H
   obtain ⟨hcz8_0,hcz8_1,hcz8_2,hcz8_3,hfz8_0,hfz8_1,hfz8_2,hfz8_3⟩ := cf4 BK691.out
   go_wp2_with (first | ((with_reducible refine gate_callee (f := 22) rfl ?_); refine goesL_ (some 26) rfl rfl Try.func22 (by kernel_rfl) rfl #[.agg #[.int .i64 a0_0,.int .u64 a0_1,.int .i64 a0_2,.int .i64 a0_3]] rfl (by (try simp only [List.map_toArray,List.map_cons,List.map_nil]) <;> rfl) ?_; (with_reducible refine (r4_Check.calls k a0_0 a0_1 a0_2 a0_3 t692 _ A5.out).mono ?_); rintro e w9 ⟨rfl,hb⟩; refine ⟨_,rfl,?_⟩; have n0_ := aK (kb BK691.out hb); have n1_ := aK (below_step (mvh HB.out) hb); clear BK691 HB; have BK691 := n0_; have HB := n1_; clear n0_ n1_; (try clear hb)) | (go_at_call 16; (with_reducible refine (l4_knows.calls k  t693 _ A7.out).mono ?_); rintro e w10 ⟨rfl,hb⟩; have n0_ := aK (kb BK691.out hb); have n1_ := aK (below_step (mvh HB.out) hb); clear BK691 HB; have BK691 := n0_; have HB := n1_; clear n0_ n1_; (try clear hb)))
   go_meet
   case rel => exact ⟨_,(!t693),(by first | rfl | (simp; done) | (simp [*]; done) | (simp [wrap64]; done)),H',⟨by first | omega | exact Nat.le_refl _⟩,⟨mvb BK691.out⟩,⟨mvh HB.out⟩⟩
  ·rw [if_neg c6] at H
   have c6b0 : (t692 == 0) = false := beq_eq_false_iff_ne.mpr c6
   have c6b1 : (t692 != 0) = true := bne_iff_ne.mpr c6
   (first | rw [c6b0] | (simp only [i64_w,i32_w]; rw [c6b0]) | rw [c6b1] | skip)
   have H' := Aside0.mk H
   clear H
   obtain ⟨hcz11_0,hcz11_1,hcz11_2,hcz11_3,hfz11_0,hfz11_1,hfz11_2,hfz11_3⟩ := cf4 BK691.out
   go_wp2_with (first | ((with_reducible refine gate_callee (f := 22) rfl ?_); refine goesL_ (some 26) rfl rfl Try.func22 (by kernel_rfl) rfl #[.agg #[.int .i64 a0_0,.int .u64 a0_1,.int .i64 a0_2,.int .i64 a0_3]] rfl (by (try simp only [List.map_toArray,List.map_cons,List.map_nil]) <;> rfl) ?_; (with_reducible refine (r4_Check.calls k a0_0 a0_1 a0_2 a0_3 t692 _ A5.out).mono ?_); rintro e w12 ⟨rfl,hb⟩; refine ⟨_,rfl,?_⟩; have n0_ := aK (kb BK691.out hb); have n1_ := aK (below_step (mvh HB.out) hb); clear BK691 HB; have BK691 := n0_; have HB := n1_; clear n0_ n1_; (try clear hb)))
   go_meet
   case rel => exact ⟨_,(true),(by first | rfl | (simp; done) | (simp [*]; done) | (simp [wrap64]; done)),H',⟨by first | omega | exact Nat.le_refl _⟩,⟨mvb BK691.out⟩,⟨mvh HB.out⟩⟩
 case rest =>
  clear HC3
  (try clear c1); (try clear c2); (try clear p2); (try clear c6); (try clear c6b0); (try clear c6b1); (try clear p6); (try clear c7); (try clear hcz11_0); (try clear hcz11_1); (try clear hcz11_2); (try clear hcz11_3); (try clear hcz8_0); (try clear hcz8_1); (try clear hcz8_2); (try clear hcz8_3); (try clear hfz11_0)
  (try clear hfz11_1); (try clear hfz11_2); (try clear hfz11_3); (try clear hfz8_0); (try clear hfz8_1); (try clear hfz8_2); (try clear hfz8_3)
  obtain ⟨kq,x31_2,rfl,HA,HJ2,BK691,HB⟩ := hcut
  cases kq with
  | zero => exact absurd HA.out (by simp [l4_ReedsolOwn.j0])
  | succ kj2 =>
   have H := HA.out
   clear HA
   simp only [l4_ReedsolOwn.j0] at H
   by_cases c13 : x31_2 = true
   ·subst c13
    have H1 : ((l4_knows.f kj2).bind fun t694 => (some t694)) = some r := by rw [if_pos rfl] at H; exact H
    clear H
    have H := H1
    clear H1
    replace H := Option.bind_eq_some_iff.mp H
    obtain ⟨t694,A140,H⟩ := H
    replace H : (some t694) = some r := H
    have A14 := Aside0.mk A140
    clear A140
    obtain rfl := Option.some.inj H
    go_wp2_with (first | ((with_reducible refine gate_callee (f := 16) rfl ?_); refine goesL_ (some 32) rfl rfl Try.func16 (by kernel_rfl) rfl #[] rfl (by (try simp only [List.map_toArray,List.map_cons,List.map_nil]) <;> rfl) ?_; (with_reducible refine (l4_knows.calls kj2  t694 _ A14.out).mono ?_); rintro e w15 ⟨rfl,hb⟩; refine ⟨_,rfl,?_⟩; have n0_ := aK (kb BK691.out hb); have n1_ := aK (below_step (mvh HB.out) hb); clear BK691 HB; have BK691 := n0_; have HB := n1_; clear n0_ n1_; (try clear hb)))
    go_ret
    exact ⟨by first | rfl | (simp [errW_none,errW_some] <;> rfl) | (simp [*,errW_none,errW_some] <;> rfl),mvh HB.out⟩
   ·replace c13 := Bool.eq_false_iff.mpr c13
    subst c13
    have H1 : ((l4_elements.f kj2 a0_0 a0_1 a0_2 a0_3 l1).bind fun t695 => ((reedsol_Encode.f kj2 a0_0 a0_1 a0_2 a0_3 t695).bind fun bt698 => ((reedsol_Encode.f kj2 a0_0 a0_1 a0_2 a0_3 t695).bind fun bt702 => ((reedsol_Decode.f kj2 a0_0 a0_1 a0_2 a0_3 bt698.1 ([] : List Int)).bind fun bt706 => ((reedsol_Decode.f kj2 a0_0 a0_1 a0_2 a0_3 bt698.1 ([] : List Int)).bind fun bt711 => ((reedsol_Syndromes.f kj2 a0_0 a0_1 a0_2 a0_3 bt698.1).bind fun bt716 => ((reedsol_Generator.f kj2 a0_0 a0_1 a0_2 a0_3).bind fun bt720 => ((reedsol_Generator.f kj2 a0_0 a0_1 a0_2 a0_3).bind fun bt724 => ((l4_num.f bt698.2).bind fun t728 => ((l4_num.f bt702.2).bind fun t729 => ((l4_num.f bt706.2.2).bind fun t730 => ((l4_num.f bt711.2.2).bind fun t731 => ((l4_num.f bt716.2).bind fun t732 => ((l4_num.f bt720.2).bind fun t733 => ((l4_num.f bt724.2).bind fun t734 => (if (wrap64 ((wrap64 ((wrap64 ((wrap64 ((wrap64 ((wrap64 (t728 + t729)) + t730)) + t731)) + t732)) + t733)) + t734)) = 0 then (if (strOfNums bt706.1).toList = (strOfNums t695).toList then (l4_ReedsolOwn.j1 kj2 bt698.1 bt702.1 bt706.1 bt711.1 bt716.1 bt720.1 bt724.1 ((strOfNums bt720.1).toList != (strOfNums bt724.1).toList) a0_0 a0_1 a0_2 a0_3) else (l4_ReedsolOwn.j1 kj2 bt698.1 bt702.1 bt706.1 bt711.1 bt716.1 bt720.1 bt724.1 true a0_0 a0_1 a0_2 a0_3)) else (l4_ReedsolOwn.j1 kj2 bt698.1 bt702.1 bt706.1 bt711.1 bt716.1 bt720.1 bt724.1 true a0_0 a0_1 a0_2 a0_3))))))))))))))))) = some r := by rw [if_neg (show ¬ (false = true) by decide)] at H; exact H
    clear H
    have H := H1
    clear H1
    replace H := Option.bind_eq_some_iff.mp H
    obtain ⟨t695,A160,H⟩ := H
    try dsimp only at H
    have A16 := Aside0.mk A160
    clear A160
    replace H := Option.bind_eq_some_iff.mp H
    obtain ⟨⟨t698,t701⟩,A170,H⟩ := H
    try dsimp only at H
    have A17 := Aside0.mk A170
    clear A170
    replace H := Option.bind_eq_some_iff.mp H
    obtain ⟨⟨t702,t705⟩,A180,H⟩ := H
    try dsimp only at H
    have A18 := Aside0.mk A180
    clear A180
    replace H := Option.bind_eq_some_iff.mp H
    obtain ⟨⟨t706,t709,t710⟩,A190,H⟩ := H
    try dsimp only at H
    have A19 := Aside0.mk A190
    clear A190
    replace H := Option.bind_eq_some_iff.mp H
    obtain ⟨⟨t711,t714,t715⟩,A200,H⟩ := H
    try dsimp only at H
    have A20 := Aside0.mk A200
    clear A200
    replace H := Option.bind_eq_some_iff.mp H
    obtain ⟨⟨t716,t719⟩,A210,H⟩ := H
    try dsimp only at H
    have A21 := Aside0.mk A210
    clear A210
    replace H := Option.bind_eq_some_iff.mp H
    obtain ⟨⟨t720,t723⟩,A220,H⟩ := H
    try dsimp only at H
    have A22 := Aside0.mk A220
    clear A220
    replace H := Option.bind_eq_some_iff.mp H
    obtain ⟨⟨t724,t727⟩,A230,H⟩ := H
    try dsimp only at H
    have A23 := Aside0.mk A230
    clear A230
    have HC24 := Aside0.mk H
    clear H
    obtain ⟨hcz25_0,hcz25_1,hcz25_2,hcz25_3,hfz25_0,hfz25_1,hfz25_2,hfz25_3⟩ := cf4 BK691.out
    go_upto_region 11 with (first | ((with_reducible refine gate_callee (f := 24) rfl ?_); refine goesL_ (some 35) rfl rfl Try.func24 (by kernel_rfl) rfl #[.agg #[.int .i64 a0_0,.int .u64 a0_1,.int .i64 a0_2,.int .i64 a0_3],.slice A1 l1.length c1] rfl (by (try simp only [List.map_toArray,List.map_cons,List.map_nil]) <;> rfl) ?_; (with_reducible refine (l4_elements.calls kj2 a0_0 a0_1 a0_2 a0_3 _ _ l1 t695 _ ?side1 ?side2 A16.out).mono ?_); (case side1 => exact Kd.C_below HR1.out (mvh HB.out)); (case side2 => exact HC1.out); rintro e w26 ⟨v696,rfl,ho0,hb⟩; refine ⟨_,rfl,?_⟩; have n0_ := aK (Kd.R_lower ho0 (below_size (mvh HB.out))); have n1_ := aK (kb BK691.out hb); have n2_ := aK (below_step (mvh HB.out) hb); clear BK691 HB; have HO697 := n0_; have BK691 := n1_; have HB := n2_; clear n0_ n1_ n2_; (try clear hb); (try clear ho0); obtain ⟨hcz27_0,hcz27_1,hcz27_2,hcz27_3,hfz27_0,hfz27_1,hfz27_2,hfz27_3⟩ := cf4 BK691.out; obtain ⟨Ao28,co28,eo28⟩ := Kd.R_slice HO697.out; subst eo28) | ((with_reducible refine gate_callee (f := 18) rfl ?_); refine goesL_ (some 39) rfl rfl Try.func18 (by kernel_rfl) rfl #[.agg #[.int .i64 a0_0,.int .u64 a0_1,.int .i64 a0_2,.int .i64 a0_3],.slice Ao28 t695.length co28] rfl (by (try simp only [List.map_toArray,List.map_cons,List.map_nil]) <;> rfl) ?_; (with_reducible refine (reedsol_Encode.calls kj2 a0_0 a0_1 a0_2 a0_3 _ _ t695 t698 t701 _ ?side1 ?side2 A17.out).mono ?_); (case side1 => exact mvC (Kd.R_reads' HO697.out).2.2); (case side2 => exact (Kd.R_reads' HO697.out).2.1); rintro e w29 ⟨v699,rfl,ho0,hb⟩; refine ⟨_,rfl,?_⟩; have n0_ := aK (Kd.R_elder' (mvR HO697.out) (Kd.R_base ho0) hb); have n1_ := aK (Kd.R_lower (Kd.R_new' ho0 (Kd.R_lt (mvR HO697.out))) (below_size (mvh HB.out))); have n2_ := aK (kb BK691.out hb); have n3_ := aK (below_step (mvh HB.out) hb); clear HO697 BK691 HB; have HO697 := n0_; have HO700 := n1_; have BK691 := n2_; have HB := n3_; clear n0_ n1_ n2_ n3_; (try clear hb); (try clear ho0); obtain ⟨hcz30_0,hcz30_1,hcz30_2,hcz30_3,hfz30_0,hfz30_1,hfz30_2,hfz30_3⟩ := cf4 BK691.out) | ((with_reducible refine gate_callee (f := 18) rfl ?_); refine goesL_ (some 45) rfl rfl Try.func18 (by kernel_rfl) rfl #[.agg #[.int .i64 a0_0,.int .u64 a0_1,.int .i64 a0_2,.int .i64 a0_3],.slice Ao28 t695.length co28] rfl (by (try simp only [List.map_toArray,List.map_cons,List.map_nil]) <;> rfl) ?_; (with_reducible refine (reedsol_Encode.calls kj2 a0_0 a0_1 a0_2 a0_3 _ _ t695 t702 t705 _ ?side1 ?side2 A18.out).mono ?_); (case side1 => exact mvC (Kd.R_reads' HO697.out).2.2); (case side2 => exact (Kd.R_reads' HO697.out).2.1); rintro e w31 ⟨v703,rfl,ho0,hb⟩; refine ⟨_,rfl,?_⟩; have n0_ := aK (Kd.R_elder' (mvR HO697.out) (Kd.R_base ho0) hb); have n1_ := aK (Kd.R_elder' (mvR HO700.out) (Kd.R_base ho0) hb); have n2_ := aK (Kd.R_lower (Kd.R_new' (Kd.R_new' ho0 (Kd.R_lt (mvR HO697.out))) (Kd.R_lt (mvR HO700.out))) (below_size (mvh HB.out))); have n3_ := aK (kb BK691.out hb); have n4_ := aK (below_step (mvh HB.out) hb); clear HO697 HO700 BK691 HB; have HO697 := n0_; have HO700 := n1_; have HO704 := n2_; have BK691 := n3_; have HB := n4_; clear n0_ n1_ n2_ n3_ n4_; (try clear hb); (try clear ho0); obtain ⟨hcz32_0,hcz32_1,hcz32_2,hcz32_3,hfz32_0,hfz32_1,hfz32_2,hfz32_3⟩ := cf4 BK691.out; obtain ⟨Ao33,co33,eo33⟩ := Kd.R_slice HO700.out; subst eo33) | ((with_reducible refine gate_callee (f := 25) rfl ?_); refine goesL_ (some 51) rfl rfl Try.func25 (by kernel_rfl) rfl #[.agg #[.int .i64 a0_0,.int .u64 a0_1,.int .i64 a0_2,.int .i64 a0_3],.slice Ao33 t698.length co33,.slice none 0 0] rfl (by (try simp only [List.map_toArray,List.map_cons,List.map_nil]) <;> rfl) ?_; (refine (reedsol_Decode.callsO kj2 a0_0 a0_1 a0_2 a0_3 _ _ t698 _ _ ([] : List Int) t706 t709 t710 _ ?side1 ?side2 ?side3 ?side4 A19.out).mono ?_); (case side1 => exact mvC (Kd.R_reads' HO700.out).2.2); (case side2 => exact (Kd.R_reads' HO700.out).2.1); (case side3 => exact Kd.C_nil _ _); (case side4 => exact Nat.le_refl _); rintro e w34 ⟨v707,rfl,ho0,hb⟩; refine ⟨_,rfl,?_⟩; have n0_ := aK (Kd.R_below (mvR HO697.out) hb); have n1_ := aK (Kd.R_below (mvR HO700.out) hb); have n2_ := aK (Kd.R_below (mvR HO704.out) hb); have n3_ := aK (Kd.VO_lower (Kd.VO_mono (ok' := fun k_ => some k_ ≠ (.slice Ao28 t695.length co28 : Value).ownBlock ∧ some k_ ≠ (.slice Ao33 t698.length co33 : Value).ownBlock ∧ some k_ ≠ (v703 : Value).ownBlock ∧ k_ ≠ gb691) ho0 (fun k_ hk_ => ⟨(Kd.fresh' (Kd.R_lt (mvR HO697.out)) k_ hk_),(Kd.fresh' (Kd.R_lt (mvR HO700.out)) k_ hk_),(Kd.fresh' (Kd.R_lt (mvR HO704.out)) k_ hk_),(Kd.freshB (g := gb691) (o := .cells #[.int .i64 a0_0,.int .u64 a0_1,.int .i64 a0_2,.int .i64 a0_3] 26 (0,0)) (mvb BK691.out) k_ hk_)⟩)) (below_size (mvh HB.out))); have n4_ := aK (kb BK691.out hb); have n5_ := aK (below_step (mvh HB.out) hb); clear HO697 HO700 HO704 BK691 HB; have HO697 := n0_; have HO700 := n1_; have HO704 := n2_; have HO708 := n3_; have BK691 := n4_; have HB := n5_; clear n0_ n1_ n2_ n3_ n4_ n5_; (try clear hb); (try clear ho0); obtain ⟨hcz35_0,hcz35_1,hcz35_2,hcz35_3,hfz35_0,hfz35_1,hfz35_2,hfz35_3⟩ := cf4 BK691.out) | ((with_reducible refine gate_callee (f := 25) rfl ?_); refine goesL_ (some 58) rfl rfl Try.func25 (by kernel_rfl) rfl #[.agg #[.int .i64 a0_0,.int .u64 a0_1,.int .i64 a0_2,.int .i64 a0_3],.slice Ao33 t698.length co33,.slice none 0 0] rfl (by (try simp only [List.map_toArray,List.map_cons,List.map_nil]) <;> rfl) ?_; (refine (reedsol_Decode.callsO kj2 a0_0 a0_1 a0_2 a0_3 _ _ t698 _ _ ([] : List Int) t711 t714 t715 _ ?side1 ?side2 ?side3 ?side4 A20.out).mono ?_); (case side1 => exact mvC (Kd.R_reads' HO700.out).2.2); (case side2 => exact (Kd.R_reads' HO700.out).2.1); (case side3 => exact Kd.C_nil _ _); (case side4 => exact Nat.le_refl _); rintro e w36 ⟨v712,rfl,ho0,hb⟩; refine ⟨_,rfl,?_⟩; have n0_ := aK (Kd.R_below (mvR HO697.out) hb); have n1_ := aK (Kd.R_below (mvR HO700.out) hb); have n2_ := aK (Kd.R_below (mvR HO704.out) hb); have n3_ := aK (Kd.VO_below (by (with_reducible repeat (first | apply Kd.VO_alloc | apply Kd.VO_drewN | apply Kd.VO_drew)); exact HO708.out) hb); have n4_ := aK (Kd.VO_lower (Kd.VO_mono (ok' := fun k_ => some k_ ≠ (.slice Ao28 t695.length co28 : Value).ownBlock ∧ some k_ ≠ (.slice Ao33 t698.length co33 : Value).ownBlock ∧ some k_ ≠ (v703 : Value).ownBlock ∧ (k_ ≠ gb691 ∧ some k_ ≠ (v707 : Value).ownBlock)) ho0 (fun k_ hk_ => ⟨(Kd.fresh' (Kd.R_lt (mvR HO697.out)) k_ hk_),(Kd.fresh' (Kd.R_lt (mvR HO700.out)) k_ hk_),(Kd.fresh' (Kd.R_lt (mvR HO704.out)) k_ hk_),⟨(Kd.freshB (g := gb691) (o := .cells #[.int .i64 a0_0,.int .u64 a0_1,.int .i64 a0_2,.int .i64 a0_3] 26 (0,0)) (mvb BK691.out) k_ hk_),(Kd.fresh' (Kd.VO_lt (by (with_reducible repeat (first | apply Kd.VO_alloc | apply Kd.VO_drewN | apply Kd.VO_drew)); exact HO708.out)) k_ hk_)⟩⟩)) (below_size (mvh HB.out))); have n5_ := aK (kb BK691.out hb); have n6_ := aK (below_step (mvh HB.out) hb); clear HO697 HO700 HO704 HO708 BK691 HB; have HO697 := n0_; have HO700 := n1_; have HO704 := n2_; have HO708 := n3_; have HO713 := n4_; have BK691 := n5_; have HB := n6_; clear n0_ n1_ n2_ n3_ n4_ n5_ n6_; (try clear hb); (try clear ho0); obtain ⟨hcz37_0,hcz37_1,hcz37_2,hcz37_3,hfz37_0,hfz37_1,hfz37_2,hfz37_3⟩ := cf4 BK691.out) | ((with_reducible refine gate_callee (f := 10) rfl ?_); refine goesL_ (some 65) rfl rfl Try.func10 (by kernel_rfl) rfl #[.agg #[.int .i64 a0_0,.int .u64 a0_1,.int .i64 a0_2,.int .i64 a0_3],.slice Ao33 t698.length co33] rfl (by (try simp only [List.map_toArray,List.map_cons,List.map_nil]) <;> rfl) ?_; (with_reducible refine (reedsol_Syndromes.calls kj2 a0_0 a0_1 a0_2 a0_3 _ _ t698 t716 t719 _ ?side1 ?side2 A21.out).mono ?_); (case side1 => exact mvC (Kd.R_reads' HO700.out).2.2); (case side2 => exact (Kd.R_reads' HO700.out).2.1); rintro e w38 ⟨v717,rfl,ho0,hb⟩; refine ⟨_,rfl,?_⟩; have n0_ := aK (Kd.R_elder' (mvR HO697.out) (Kd.R_base ho0) hb); have n1_ := aK (Kd.R_elder' (mvR HO700.out) (Kd.R_base ho0) hb); have n2_ := aK (Kd.R_elder' (mvR HO704.out) (Kd.R_base ho0) hb); have n3_ := aK (Kd.VO_elder' (by (with_reducible repeat (first | apply Kd.VO_alloc | apply Kd.VO_drewN | apply Kd.VO_drew)); exact HO708.out) (Kd.R_base ho0) hb); have n4_ := aK (Kd.VO_elder' (by (with_reducible repeat (first | apply Kd.VO_alloc | apply Kd.VO_drewN | apply Kd.VO_drew)); exact HO713.out) (Kd.R_base ho0) hb); have n5_ := aK (Kd.R_lower (Kd.R_new' (Kd.R_new' (Kd.R_new' ho0 (Kd.R_lt (mvR HO697.out))) (Kd.R_lt (mvR HO700.out))) (Kd.R_lt (mvR HO704.out))) (below_size (mvh HB.out))); have n6_ := aK (kb BK691.out hb); have n7_ := aK (below_step (mvh HB.out) hb); clear HO697 HO700 HO704 HO708 HO713 BK691 HB; have HO697 := n0_; have HO700 := n1_; have HO704 := n2_; have HO708 := n3_; have HO713 := n4_; have HO718 := n5_; have BK691 := n6_; have HB := n7_; clear n0_ n1_ n2_ n3_ n4_ n5_ n6_ n7_; (try clear hb); (try clear ho0); obtain ⟨hcz39_0,hcz39_1,hcz39_2,hcz39_3,hfz39_0,hfz39_1,hfz39_2,hfz39_3⟩ := cf4 BK691.out) | ((with_reducible refine gate_callee (f := 17) rfl ?_); refine goesL_ (some 70) rfl rfl Try.func17 (by kernel_rfl) rfl #[.agg #[.int .i64 a0_0,.int .u64 a0_1,.int .i64 a0_2,.int .i64 a0_3]] rfl (by (try simp only [List.map_toArray,List.map_cons,List.map_nil]) <;> rfl) ?_; (with_reducible refine (reedsol_Generator.calls kj2 a0_0 a0_1 a0_2 a0_3 t720 t723 _ A22.out).mono ?_); rintro e w40 ⟨v721,rfl,ho0,hb⟩; refine ⟨_,rfl,?_⟩; have n0_ := aK (Kd.R_elder' (mvR HO697.out) (Kd.R_base ho0) hb); have n1_ := aK (Kd.R_elder' (mvR HO700.out) (Kd.R_base ho0) hb); have n2_ := aK (Kd.R_elder' (mvR HO704.out) (Kd.R_base ho0) hb); have n3_ := aK (Kd.VO_elder' (by (with_reducible repeat (first | apply Kd.VO_alloc | apply Kd.VO_drewN | apply Kd.VO_drew)); exact HO708.out) (Kd.R_base ho0) hb); have n4_ := aK (Kd.VO_elder' (by (with_reducible repeat (first | apply Kd.VO_alloc | apply Kd.VO_drewN | apply Kd.VO_drew)); exact HO713.out) (Kd.R_base ho0) hb); have n5_ := aK (Kd.R_elder' (mvR HO718.out) (Kd.R_base ho0) hb); have n6_ := aK (Kd.R_lower (Kd.R_new' (Kd.R_new' (Kd.R_new' (Kd.R_new' ho0 (Kd.R_lt (mvR HO697.out))) (Kd.R_lt (mvR HO700.out))) (Kd.R_lt (mvR HO704.out))) (Kd.R_lt (mvR HO718.out))) (below_size (mvh HB.out))); have n7_ := aK (kb BK691.out hb); have n8_ := aK (below_step (mvh HB.out) hb); clear HO697 HO700 HO704 HO708 HO713 HO718 BK691 HB; have HO697 := n0_; have HO700 := n1_; have HO704 := n2_; have HO708 := n3_; have HO713 := n4_; have HO718 := n5_; have HO722 := n6_; have BK691 := n7_; have HB := n8_; clear n0_ n1_ n2_ n3_ n4_ n5_ n6_ n7_ n8_; (try clear hb); (try clear ho0); obtain ⟨hcz41_0,hcz41_1,hcz41_2,hcz41_3,hfz41_0,hfz41_1,hfz41_2,hfz41_3⟩ := cf4 BK691.out) | ((with_reducible refine gate_callee (f := 17) rfl ?_); refine goesL_ (some 75) rfl rfl Try.func17 (by kernel_rfl) rfl #[.agg #[.int .i64 a0_0,.int .u64 a0_1,.int .i64 a0_2,.int .i64 a0_3]] rfl (by (try simp only [List.map_toArray,List.map_cons,List.map_nil]) <;> rfl) ?_; (with_reducible refine (reedsol_Generator.calls kj2 a0_0 a0_1 a0_2 a0_3 t724 t727 _ A23.out).mono ?_); rintro e w42 ⟨v725,rfl,ho0,hb⟩; refine ⟨_,rfl,?_⟩; have n0_ := aK (Kd.R_elder' (mvR HO697.out) (Kd.R_base ho0) hb); have n1_ := aK (Kd.R_elder' (mvR HO700.out) (Kd.R_base ho0) hb); have n2_ := aK (Kd.R_elder' (mvR HO704.out) (Kd.R_base ho0) hb); have n3_ := aK (Kd.VO_elder' (by (with_reducible repeat (first | apply Kd.VO_alloc | apply Kd.VO_drewN | apply Kd.VO_drew)); exact HO708.out) (Kd.R_base ho0) hb); have n4_ := aK (Kd.VO_elder' (by (with_reducible repeat (first | apply Kd.VO_alloc | apply Kd.VO_drewN | apply Kd.VO_drew)); exact HO713.out) (Kd.R_base ho0) hb); have n5_ := aK (Kd.R_elder' (mvR HO718.out) (Kd.R_base ho0) hb); have n6_ := aK (Kd.R_elder' (mvR HO722.out) (Kd.R_base ho0) hb); have n7_ := aK (Kd.R_lower (Kd.R_new' (Kd.R_new' (Kd.R_new' (Kd.R_new' (Kd.R_new' ho0 (Kd.R_lt (mvR HO697.out))) (Kd.R_lt (mvR HO700.out))) (Kd.R_lt (mvR HO704.out))) (Kd.R_lt (mvR HO718.out))) (Kd.R_lt (mvR HO722.out))) (below_size (mvh HB.out))); have n8_ := aK (kb BK691.out hb); have n9_ := aK (below_step (mvh HB.out) hb); clear HO697 HO700 HO704 HO708 HO713 HO718 HO722 BK691 HB; have HO697 := n0_; have HO700 := n1_; have HO704 := n2_; have HO708 := n3_; have HO713 := n4_; have HO718 := n5_; have HO722 := n6_; have HO726 := n7_; have BK691 := n8_; have HB := n9_; clear n0_ n1_ n2_ n3_ n4_ n5_ n6_ n7_ n8_ n9_; (try clear hb); (try clear ho0)))
    (try simp only [Act.put,List.setIfInBounds_toArray,List.set_cons_zero,List.set_cons_succ])
    go_cut [112] (fun v112 wc => ∃ (kq : Nat) (x112_23 : Bool),v112 = .bool x112_23 ∧ Aside0 (l4_ReedsolOwn.j1 kq t698 t702 t706 t711 t716 t720 t724 x112_23 a0_0 a0_1 a0_2 a0_3 = some r) ∧ Aside0 (kq ≤ kj2) ∧ Aside0 (Kd.R (Kd.int .u8) 5 wc w.heap.size (fun k_ => some k_ ≠ (v703 : Value).ownBlock ∧ some k_ ≠ (v717 : Value).ownBlock ∧ some k_ ≠ (v721 : Value).ownBlock ∧ some k_ ≠ (v725 : Value).ownBlock) (.slice Ao33 t698.length co33) t698) ∧ Aside0 (Kd.R (Kd.int .u8) 5 wc w.heap.size (fun k_ => some k_ ≠ ((.slice Ao33 t698.length co33) : Value).ownBlock ∧ some k_ ≠ (v717 : Value).ownBlock ∧ some k_ ≠ (v721 : Value).ownBlock ∧ some k_ ≠ (v725 : Value).ownBlock) v703 t702) ∧ Aside0 (Kd.VO (Kd.int .u8) 5 wc w.heap.size (fun k_ => some k_ ≠ ((.slice Ao33 t698.length co33) : Value).ownBlock ∧ some k_ ≠ (v703 : Value).ownBlock ∧ some k_ ≠ (v717 : Value).ownBlock ∧ some k_ ≠ (v721 : Value).ownBlock ∧ some k_ ≠ (v725 : Value).ownBlock ∧ k_ ≠ gb691) v707 t706) ∧ Aside0 (Kd.VO (Kd.int .u8) 5 wc w.heap.size (fun k_ => some k_ ≠ ((.slice Ao33 t698.length co33) : Value).ownBlock ∧ some k_ ≠ (v703 : Value).ownBlock ∧ some k_ ≠ (v717 : Value).ownBlock ∧ some k_ ≠ (v721 : Value).ownBlock ∧ some k_ ≠ (v725 : Value).ownBlock ∧ (k_ ≠ gb691 ∧ some k_ ≠ (v707 : Value).ownBlock)) v712 t711) ∧ Aside0 (Kd.R (Kd.int .u8) 5 wc w.heap.size (fun k_ => some k_ ≠ ((.slice Ao33 t698.length co33) : Value).ownBlock ∧ some k_ ≠ (v703 : Value).ownBlock ∧ some k_ ≠ (v721 : Value).ownBlock ∧ some k_ ≠ (v725 : Value).ownBlock) v717 t716) ∧ Aside0 (Kd.R (Kd.int .u8) 5 wc w.heap.size (fun k_ => some k_ ≠ ((.slice Ao33 t698.length co33) : Value).ownBlock ∧ some k_ ≠ (v703 : Value).ownBlock ∧ some k_ ≠ (v717 : Value).ownBlock ∧ some k_ ≠ (v725 : Value).ownBlock) v721 t720) ∧ Aside0 (Kd.R (Kd.int .u8) 5 wc w.heap.size (fun k_ => some k_ ≠ ((.slice Ao33 t698.length co33) : Value).ownBlock ∧ some k_ ≠ (v703 : Value).ownBlock ∧ some k_ ≠ (v717 : Value).ownBlock ∧ some k_ ≠ (v721 : Value).ownBlock) v725 t724) ∧ Aside0 (wc.heap[gb691]? = some (.cells #[.int .i64 a0_0,.int .u64 a0_1,.int .i64 a0_2,.int .i64 a0_3] 26 (0,0))) ∧ Aside0 (Below w.heap.size w wc))
    case first =>
     have H := HC24.out
     clear HC24
     replace H := Option.bind_eq_some_iff.mp H
     obtain ⟨t728,A430,H⟩ := H
     try dsimp only at H
     have A43 := Aside0.mk A430
     clear A430
     replace H := Option.bind_eq_some_iff.mp H
     obtain ⟨t729,A440,H⟩ := H
     try dsimp only at H
     have A44 := Aside0.mk A440
     clear A440
     replace H := Option.bind_eq_some_iff.mp H
     obtain ⟨t730,A450,H⟩ := H
     try dsimp only at H
     have A45 := Aside0.mk A450
     clear A450
     replace H := Option.bind_eq_some_iff.mp H
     obtain ⟨t731,A460,H⟩ := H
     try dsimp only at H
     have A46 := Aside0.mk A460
     clear A460
     replace H := Option.bind_eq_some_iff.mp H
     obtain ⟨t732,A470,H⟩ := H
     try dsimp only at H
     have A47 := Aside0.mk A470
     clear A470
     replace H := Option.bind_eq_some_iff.mp H
     obtain ⟨t733,A480,H⟩ := H
     try dsimp only at H
     have A48 := Aside0.mk A480
     clear A480
     replace H := Option.bind_eq_some_iff.mp H
     obtain ⟨t734,A490,H⟩ := H
     try dsimp only at H
     have A49 := Aside0.mk A490
     clear A490
     by_cases c50 : (wrap64 ((wrap64 ((wrap64 ((wrap64 ((wrap64 ((wrap64 (t728 + t729)) + t730)) + t731)) + t732)) + t733)) + t734)) = 0
     ·rw [if_pos c50] at H
      have c50b0 : ((wrap64 ((wrap64 ((wrap64 ((wrap64 ((wrap64 ((wrap64 (t728 + t729)) + t730)) + t731)) + t732)) + t733)) + t734)) == 0) = true := beq_iff_eq.mpr c50
      have c50b1 : ((wrap64 ((wrap64 ((wrap64 ((wrap64 ((wrap64 ((wrap64 (t728 + t729)) + t730)) + t731)) + t732)) + t733)) + t734)) != 0) = false := bne_eq_false_iff_eq.mpr c50
      clear c50
      (first | rw [c50b0] | (simp only [i64_w,i32_w]; rw [c50b0]) | rw [c50b1] | skip)
      by_cases c51 : (strOfNums t706).toList = (strOfNums t695).toList
      ·rw [if_pos c51] at H
       have c51b0 : ((strOfNums t706).toList == (strOfNums t695).toList) = true := beq_iff_eq.mpr c51
       have c51b1 : ((strOfNums t706).toList != (strOfNums t695).toList) = false := bne_eq_false_iff_eq.mpr c51
       clear c51
       have H' := Aside0.mk H
       clear H
       go_wp2_with (first | ((with_reducible refine gate_callee (f := 14) rfl ?_); refine goesL_ (some 79) rfl rfl Try.func14 (by kernel_rfl) rfl #[.int .i64 t701] rfl (by (try simp only [List.map_toArray,List.map_cons,List.map_nil]) <;> rfl) ?_; (with_reducible refine (l4_num.calls t701 t728 _ A43.out).mono ?_); rintro e w' ⟨rfl,⟨nd,rfl⟩⟩; refine ⟨_,rfl,?_⟩) | ((with_reducible refine gate_callee (f := 14) rfl ?_); refine goesL_ (some 81) rfl rfl Try.func14 (by kernel_rfl) rfl #[.int .i64 t705] rfl (by (try simp only [List.map_toArray,List.map_cons,List.map_nil]) <;> rfl) ?_; (with_reducible refine (l4_num.calls t705 t729 _ A44.out).mono ?_); rintro e w' ⟨rfl,⟨nd,rfl⟩⟩; refine ⟨_,rfl,?_⟩) | ((with_reducible refine gate_callee (f := 14) rfl ?_); refine goesL_ (some 84) rfl rfl Try.func14 (by kernel_rfl) rfl #[.int .i64 t710] rfl (by (try simp only [List.map_toArray,List.map_cons,List.map_nil]) <;> rfl) ?_; (with_reducible refine (l4_num.calls t710 t730 _ A45.out).mono ?_); rintro e w' ⟨rfl,⟨nd,rfl⟩⟩; refine ⟨_,rfl,?_⟩) | ((with_reducible refine gate_callee (f := 14) rfl ?_); refine goesL_ (some 87) rfl rfl Try.func14 (by kernel_rfl) rfl #[.int .i64 t715] rfl (by (try simp only [List.map_toArray,List.map_cons,List.map_nil]) <;> rfl) ?_; (with_reducible refine (l4_num.calls t715 t731 _ A46.out).mono ?_); rintro e w' ⟨rfl,⟨nd,rfl⟩⟩; refine ⟨_,rfl,?_⟩) | ((with_reducible refine gate_callee (f := 14) rfl ?_); refine goesL_ (some 90) rfl rfl Try.func14 (by kernel_rfl) rfl #[.int .i64 t719] rfl (by (try simp only [List.map_toArray,List.map_cons,List.map_nil]) <;> rfl) ?_; (with_reducible refine (l4_num.calls t719 t732 _ A47.out).mono ?_); rintro e w' ⟨rfl,⟨nd,rfl⟩⟩; refine ⟨_,rfl,?_⟩) | ((with_reducible refine gate_callee (f := 14) rfl ?_); refine goesL_ (some 93) rfl rfl Try.func14 (by kernel_rfl) rfl #[.int .i64 t723] rfl (by (try simp only [List.map_toArray,List.map_cons,List.map_nil]) <;> rfl) ?_; (with_reducible refine (l4_num.calls t723 t733 _ A48.out).mono ?_); rintro e w' ⟨rfl,⟨nd,rfl⟩⟩; refine ⟨_,rfl,?_⟩) | ((with_reducible refine gate_callee (f := 14) rfl ?_); refine goesL_ (some 96) rfl rfl Try.func14 (by kernel_rfl) rfl #[.int .i64 t727] rfl (by (try simp only [List.map_toArray,List.map_cons,List.map_nil]) <;> rfl) ?_; (with_reducible refine (l4_num.calls t727 t734 _ A49.out).mono ?_); rintro e w' ⟨rfl,⟨nd,rfl⟩⟩; refine ⟨_,rfl,?_⟩; have hcv52 := VO_string (P := Try.prog) Try.underlying27 Try.underlying5 Try.underlying9 HO708.out; have hcv53 := fun n_ => VO_string (P := Try.prog) Try.underlying27 Try.underlying5 Try.underlying9 (Kd.VO_drewN HO708.out n_); have hcv54 := own_string (P := Try.prog) Try.underlying27 Try.underlying5 Try.underlying9 (Kd.own_of_R HO697.out); have hcv55 := fun n_ => own_string (P := Try.prog) Try.underlying27 Try.underlying5 Try.underlying9 (Kd.own_of_R (Kd.R_drewN HO697.out n_)); have hcv56 := own_string (P := Try.prog) Try.underlying27 Try.underlying5 Try.underlying9 (Kd.own_of_R HO722.out); have hcv57 := fun n_ => own_string (P := Try.prog) Try.underlying27 Try.underlying5 Try.underlying9 (Kd.own_of_R (Kd.R_drewN HO722.out n_)); have hcv58 := own_string (P := Try.prog) Try.underlying27 Try.underlying5 Try.underlying9 (Kd.own_of_R HO726.out); have hcv59 := fun n_ => own_string (P := Try.prog) Try.underlying27 Try.underlying5 Try.underlying9 (Kd.own_of_R (Kd.R_drewN HO726.out n_))))
       go_meet
       case rel => exact ⟨_,(((strOfNums t720).toList != (strOfNums t724).toList)),(by first | rfl | (simp; done) | (simp [*]; done) | (simp [wrap64]; done)),H',⟨by have := HJ2.out; first | omega | exact Nat.le_refl _⟩,⟨by (with_reducible repeat (first | apply Kd.R_alloc | apply Kd.R_drewN | apply Kd.R_drew)); exact Kd.R_mono HO700.out (fun _ hk => ⟨hk.1.1.1.2,⟨hk.1.1.2,⟨hk.1.2,hk.2⟩⟩⟩)⟩,⟨by (with_reducible repeat (first | apply Kd.R_alloc | apply Kd.R_drewN | apply Kd.R_drew)); exact Kd.R_mono HO704.out (fun _ hk => ⟨hk.1.1.1.2,⟨hk.1.1.2,⟨hk.1.2,hk.2⟩⟩⟩)⟩,⟨by (with_reducible repeat (first | apply Kd.VO_alloc | apply Kd.VO_drewN | apply Kd.VO_drew)); exact Kd.VO_mono HO708.out (fun _ hk => ⟨hk.1.1.1.2.1,⟨hk.1.1.1.2.2.1,⟨hk.1.1.2,⟨hk.1.2,⟨hk.2,hk.1.1.1.2.2.2⟩⟩⟩⟩⟩)⟩,⟨by (with_reducible repeat (first | apply Kd.VO_alloc | apply Kd.VO_drewN | apply Kd.VO_drew)); exact Kd.VO_mono HO713.out (fun _ hk => ⟨hk.1.1.1.2.1,⟨hk.1.1.1.2.2.1,⟨hk.1.1.2,⟨hk.1.2,⟨hk.2,hk.1.1.1.2.2.2⟩⟩⟩⟩⟩)⟩,⟨by (with_reducible repeat (first | apply Kd.R_alloc | apply Kd.R_drewN | apply Kd.R_drew)); exact Kd.R_mono HO718.out (fun _ hk => ⟨hk.1.1.1.2,⟨hk.1.1.2,⟨hk.1.2,hk.2⟩⟩⟩)⟩,⟨by (with_reducible repeat (first | apply Kd.R_alloc | apply Kd.R_drewN | apply Kd.R_drew)); exact Kd.R_mono HO722.out (fun _ hk => ⟨hk.1.1.1.2,⟨hk.1.1.2,⟨hk.1.2,hk.2⟩⟩⟩)⟩,⟨by (with_reducible repeat (first | apply Kd.R_alloc | apply Kd.R_drewN | apply Kd.R_drew)); exact Kd.R_mono HO726.out (fun _ hk => ⟨hk.1.1.1.2,⟨hk.1.1.2,⟨hk.1.2,hk.2⟩⟩⟩)⟩,⟨mvb BK691.out⟩,⟨mvh HB.out⟩⟩
      ·rw [if_neg c51] at H
       exact l4_ReedsolOwn.no_j1 HR9_.out H
     ·rw [if_neg c50] at H
      exact l4_ReedsolOwn.no_j1 HR9_.out H
    case rest =>
     clear HC24
     (try clear c1); (try clear c2); (try clear p2); (try clear c5); (try clear hcv5); (try clear c6); (try clear c6b0); (try clear c6b1); (try clear p6); (try clear hcv6); (try clear c7); (try clear c10); (try clear c13); (try clear c14); (try clear c16); (try clear c17); (try clear c18); (try clear c22)
     (try clear c24); (try clear c25); (try clear c50); (try clear c50b0); (try clear c50b1); (try clear c51); (try clear c51b0); (try clear c51b1); (try clear hcv52); (try clear hcv53); (try clear hcv54); (try clear hcv55); (try clear hcv56); (try clear hcv57); (try clear hcv58); (try clear hcv59); (try clear hcv60)
     (try clear hcv61); (try clear hcv62); (try clear hcv63); (try clear hcz11_0); (try clear hcz11_1); (try clear hcz11_2); (try clear hcz11_3); (try clear hcz25_0); (try clear hcz25_1); (try clear hcz25_2); (try clear hcz25_3); (try clear hcz27_0); (try clear hcz27_1); (try clear hcz27_2); (try clear hcz27_3)
     (try clear hcz30_0); (try clear hcz30_1); (try clear hcz30_2); (try clear hcz30_3); (try clear hcz32_0); (try clear hcz32_1); (try clear hcz32_2); (try clear hcz32_3); (try clear hcz35_0); (try clear hcz35_1); (try clear hcz35_2); (try clear hcz35_3); (try clear hcz37_0); (try clear hcz37_1); (try clear hcz37_2)
     (try clear hcz37_3); (try clear hcz39_0); (try clear hcz39_1); (try clear hcz39_2); (try clear hcz39_3); (try clear hcz41_0); (try clear hcz41_1); (try clear hcz41_2); (try clear hcz41_3); (try clear hcz8_0); (try clear hcz8_1); (try clear hcz8_2); (try clear hcz8_3); (try clear hfz11_0); (try clear hfz11_1)
     (try clear hfz11_2); (try clear hfz11_3); (try clear hfz25_0); (try clear hfz25_1); (try clear hfz25_2); (try clear hfz25_3); (try clear hfz27_0); (try clear hfz27_1); (try clear hfz27_2); (try clear hfz27_3); (try clear hfz30_0); (try clear hfz30_1); (try clear hfz30_2); (try clear hfz30_3); (try clear hfz32_0)
     (try clear hfz32_1); (try clear hfz32_2); (try clear hfz32_3); (try clear hfz35_0); (try clear hfz35_1); (try clear hfz35_2); (try clear hfz35_3); (try clear hfz37_0); (try clear hfz37_1); (try clear hfz37_2); (try clear hfz37_3); (try clear hfz39_0); (try clear hfz39_1); (try clear hfz39_2); (try clear hfz39_3)
     (try clear hfz41_0); (try clear hfz41_1); (try clear hfz41_2); (try clear hfz41_3); (try clear hfz8_0); (try clear hfz8_1); (try clear hfz8_2); (try clear hfz8_3); (try clear p2); (try clear p6)
     obtain ⟨kq,x112_23,rfl,HA,HJ23,HO_6,HO_8,HO_10,HO_13,HO_16,HO_18,HO_20,BK691,HB⟩ := hcut
     cases kq with
     | zero => exact absurd HA.out (by simp [l4_ReedsolOwn.j1])
     | succ kj23 =>
      have H := HA.out
      clear HA
      simp only [l4_ReedsolOwn.j1] at H
      by_cases c64 : x112_23 = true
      ·subst c64
       exact l4_ReedsolOwn.no_false HR9_.out H
      ·replace c64 := Bool.eq_false_iff.mpr c64
       subst c64
       have H1 : ((l1_ApartBytes.f (([t698,t702,t706,t711,t716,t720,t724] : List (List Int)))).bind fun t738 => (if t738 = true then ((reedsol_Generator.f kj23 a0_0 a0_1 a0_2 a0_3).bind fun bt739 => ((l4_num.f bt739.2).bind fun t743 => (if t743 = 0 then (some ((strOfNums bt739.1).toList == (strOfNums t720).toList)) else (some false)))) else (some false))) = some r := by rw [if_neg (show ¬ (false = true) by decide)] at H; exact H
       clear H
       have H := H1
       clear H1
       obtain ⟨y735,hy735⟩ : ∃ y_ : List (List Int),y_ = (([t698,t702,t706,t711,t716,t720,t724] : List (List Int))) := ⟨_,rfl⟩
       replace H : ((l1_ApartBytes.f y735).bind fun t738 => (if t738 = true then ((reedsol_Generator.f kj23 a0_0 a0_1 a0_2 a0_3).bind fun bt739 => ((l4_num.f bt739.2).bind fun t743 => (if t743 = 0 then (some ((strOfNums bt739.1).toList == (strOfNums t720).toList)) else (some false)))) else (some false))) = some r := by rw [hy735]; exact H
       have Ny735 := Aside0.mk hy735
       clear hy735
       replace H := Option.bind_eq_some_iff.mp H
       obtain ⟨t738,A650,H⟩ := H
       try dsimp only at H
       have A65 := Aside0.mk A650
       clear A650
       by_cases c66 : t738 = true
       ·subst c66
        have H1 : ((reedsol_Generator.f kj23 a0_0 a0_1 a0_2 a0_3).bind fun bt739 => ((l4_num.f bt739.2).bind fun t743 => (if t743 = 0 then (some ((strOfNums bt739.1).toList == (strOfNums t720).toList)) else (some false)))) = some r := by rw [if_pos rfl] at H; exact H
        clear H
        have H := H1
        clear H1
        replace H := Option.bind_eq_some_iff.mp H
        obtain ⟨⟨t739,t742⟩,A670,H⟩ := H
        try dsimp only at H
        have A67 := Aside0.mk A670
        clear A670
        replace H := Option.bind_eq_some_iff.mp H
        obtain ⟨t743,A680,H⟩ := H
        try dsimp only at H
        have A68 := Aside0.mk A680
        clear A680
        by_cases c69 : t743 = 0
        ·rw [if_pos c69] at H
         have c69b0 : (t743 == 0) = true := beq_iff_eq.mpr c69
         have c69b1 : (t743 != 0) = false := bne_eq_false_iff_eq.mpr c69
         clear c69
         obtain rfl := Option.some.inj H
         have hcv70 := own_string (P := Try.prog) Try.underlying27 Try.underlying5 Try.underlying9 (Kd.own_of_R HO_18.out)
         have hcv71 := fun n_ => own_string (P := Try.prog) Try.underlying27 Try.underlying5 Try.underlying9 (Kd.own_of_R (Kd.R_drewN HO_18.out n_))
         obtain ⟨Ao72,co72,eo72⟩ := Kd.R_slice HO_8.out
         subst eo72
         obtain ⟨Ao73,co73,eo73⟩ := Kd.VO_slice HO_10.out
         subst eo73
         obtain ⟨Ao74,co74,eo74⟩ := Kd.VO_slice HO_13.out
         subst eo74
         obtain ⟨Ao75,co75,eo75⟩ := Kd.R_slice HO_16.out
         subst eo75
         obtain ⟨Ao76,co76,eo76⟩ := Kd.R_slice HO_18.out
         subst eo76
         obtain ⟨Ao77,co77,eo77⟩ := Kd.R_slice HO_20.out
         subst eo77
         go_wp2_with (first | (go_at_call 26; obtain ⟨_,hz_⟩ := l1_ApartBytes.says A65.out; have ra0_ : Ap.Rw wc w.heap.size 5 [] (fun _ => []) := Ap.Rw.nil _ _ _ _; have ra1_ := Ap.Rw.cons' ra0_ (Ap.Ow.of (Kd.own_of_R HO_6.out)) (fun v hv => by simp at hv); have ra2_ := Ap.Rw.cons' ra1_ (Ap.Ow.of (Kd.own_of_R HO_8.out)) (fun v hv => by simp only [List.nil_append,List.cons_append,List.mem_cons,List.not_mem_nil,or_false] at hv; subst hv; exact Ap.apart_symm (v := (.slice Ao72 t702.length co72 : Value)) (u := (.slice Ao33 t698.length co33 : Value)) (Ap.apart_of (HO_8.out.1) (fun k hk => hk.1))); have ra3_ := Ap.Rw.cons' ra2_ (HO_10.out.2.2) (fun v hv => by simp only [List.nil_append,List.cons_append,List.mem_cons,List.not_mem_nil,or_false] at hv; rcases hv with rfl | rfl; (next => exact Ap.apart_symm (v := (.slice Ao73 t706.length co73 : Value)) (u := (.slice Ao33 t698.length co33 : Value)) (Ap.apart_of (HO_10.out.2.1) (fun k hk => hk.1))); (next => exact Ap.apart_symm (v := (.slice Ao73 t706.length co73 : Value)) (u := (.slice Ao72 t702.length co72 : Value)) (Ap.apart_of (HO_10.out.2.1) (fun k hk => hk.2.1)))); have ra4_ := Ap.Rw.cons' ra3_ (HO_13.out.2.2) (fun v hv => by simp only [List.nil_append,List.cons_append,List.mem_cons,List.not_mem_nil,or_false] at hv; rcases hv with rfl | rfl | rfl; (next => exact Ap.apart_symm (v := (.slice Ao74 t711.length co74 : Value)) (u := (.slice Ao33 t698.length co33 : Value)) (Ap.apart_of (HO_13.out.2.1) (fun k hk => hk.1))); (next => exact Ap.apart_symm (v := (.slice Ao74 t711.length co74 : Value)) (u := (.slice Ao72 t702.length co72 : Value)) (Ap.apart_of (HO_13.out.2.1) (fun k hk => hk.2.1))); (next => exact Ap.apart_symm (v := (.slice Ao74 t711.length co74 : Value)) (u := (.slice Ao73 t706.length co73 : Value)) (Ap.apart_of (HO_13.out.2.1) (fun k hk => hk.2.2.2.2.2.2)))); have ra5_ := Ap.Rw.cons' ra4_ (Ap.Ow.of (Kd.own_of_R HO_16.out)) (fun v hv => by simp only [List.nil_append,List.cons_append,List.mem_cons,List.not_mem_nil,or_false] at hv; rcases hv with rfl | rfl | rfl | rfl; (next => exact Ap.apart_symm (v := (.slice Ao75 t716.length co75 : Value)) (u := (.slice Ao33 t698.length co33 : Value)) (Ap.apart_of (HO_16.out.1) (fun k hk => hk.1))); (next => exact Ap.apart_symm (v := (.slice Ao75 t716.length co75 : Value)) (u := (.slice Ao72 t702.length co72 : Value)) (Ap.apart_of (HO_16.out.1) (fun k hk => hk.2.1))); (next => exact Ap.apart_of (u := (.slice Ao75 t716.length co75 : Value)) (HO_10.out.2.1) (fun k hk => hk.2.2.1)); (next => exact Ap.apart_of (u := (.slice Ao75 t716.length co75 : Value)) (HO_13.out.2.1) (fun k hk => hk.2.2.1))); have ra6_ := Ap.Rw.cons' ra5_ (Ap.Ow.of (Kd.own_of_R HO_18.out)) (fun v hv => by simp only [List.nil_append,List.cons_append,List.mem_cons,List.not_mem_nil,or_false] at hv; rcases hv with rfl | rfl | rfl | rfl | rfl; (next => exact Ap.apart_symm (v := (.slice Ao76 t720.length co76 : Value)) (u := (.slice Ao33 t698.length co33 : Value)) (Ap.apart_of (HO_18.out.1) (fun k hk => hk.1))); (next => exact Ap.apart_symm (v := (.slice Ao76 t720.length co76 : Value)) (u := (.slice Ao72 t702.length co72 : Value)) (Ap.apart_of (HO_18.out.1) (fun k hk => hk.2.1))); (next => exact Ap.apart_of (u := (.slice Ao76 t720.length co76 : Value)) (HO_10.out.2.1) (fun k hk => hk.2.2.2.1)); (next => exact Ap.apart_of (u := (.slice Ao76 t720.length co76 : Value)) (HO_13.out.2.1) (fun k hk => hk.2.2.2.1)); (next => exact Ap.apart_symm (v := (.slice Ao76 t720.length co76 : Value)) (u := (.slice Ao75 t716.length co75 : Value)) (Ap.apart_of (HO_18.out.1) (fun k hk => hk.2.2.1)))); have ra7_ := Ap.Rw.cons' ra6_ (Ap.Ow.of (Kd.own_of_R HO_20.out)) (fun v hv => by simp only [List.nil_append,List.cons_append,List.mem_cons,List.not_mem_nil,or_false] at hv; rcases hv with rfl | rfl | rfl | rfl | rfl | rfl; (next => exact Ap.apart_symm (v := (.slice Ao77 t724.length co77 : Value)) (u := (.slice Ao33 t698.length co33 : Value)) (Ap.apart_of (HO_20.out.1) (fun k hk => hk.1))); (next => exact Ap.apart_symm (v := (.slice Ao77 t724.length co77 : Value)) (u := (.slice Ao72 t702.length co72 : Value)) (Ap.apart_of (HO_20.out.1) (fun k hk => hk.2.1))); (next => exact Ap.apart_of (u := (.slice Ao77 t724.length co77 : Value)) (HO_10.out.2.1) (fun k hk => hk.2.2.2.2.1)); (next => exact Ap.apart_of (u := (.slice Ao77 t724.length co77 : Value)) (HO_13.out.2.1) (fun k hk => hk.2.2.2.2.1)); (next => exact Ap.apart_symm (v := (.slice Ao77 t724.length co77 : Value)) (u := (.slice Ao75 t716.length co75 : Value)) (Ap.apart_of (HO_20.out.1) (fun k hk => hk.2.2.1))); (next => exact Ap.apart_symm (v := (.slice Ao77 t724.length co77 : Value)) (u := (.slice Ao76 t720.length co76 : Value)) (Ap.apart_of (HO_20.out.1) (fun k hk => hk.2.2.2)))); have RA : Aside0 (Ap.Rw wc w.heap.size 5 [.slice Ao33 t698.length co33,.slice Ao72 t702.length co72,.slice Ao73 t706.length co73,.slice Ao74 t711.length co74,.slice Ao75 t716.length co75,.slice Ao76 t720.length co76,.slice Ao77 t724.length co77] (Ap.push (Ap.push (Ap.push (Ap.push (Ap.push (Ap.push (Ap.push (fun _ => []) 0 t698) 1 t702) 2 t706) 3 t711) 4 t716) 5 t720) 6 t724)) := ⟨ra7_⟩; clear ra0_ ra1_ ra2_ ra3_ ra4_ ra5_ ra6_ ra7_; have FA : Aside0 (∀ (i : Nat) (v : Value),([.slice Ao33 t698.length co33,.slice Ao72 t702.length co72,.slice Ao73 t706.length co73,.slice Ao74 t711.length co74,.slice Ao75 t716.length co75,.slice Ao76 t720.length co76,.slice Ao77 t724.length co77] : List Value)[i]? = some v → v.ownBlock ≠ some gb691) := ⟨fun i v hv e1 => by have hv2 := List.mem_of_getElem? hv; simp only [List.mem_cons,List.not_mem_nil,or_false] at hv2; rcases hv2 with rfl | rfl | rfl | rfl | rfl | rfl | rfl; (next => exact (Kd.R_types (HO_6.out) BK691.out (by decide)).1 _ e1 |>.2 rfl); (next => exact (Kd.R_types (HO_8.out) BK691.out (by decide)).1 _ e1 |>.2 rfl); (next => exact (HO_10.out.2.1 _ e1).2.2.2.2.2 rfl); (next => exact (HO_13.out.2.1 _ e1).2.2.2.2.2.1 rfl); (next => exact (Kd.R_types (HO_16.out) BK691.out (by decide)).1 _ e1 |>.2 rfl); (next => exact (Kd.R_types (HO_18.out) BK691.out (by decide)).1 _ e1 |>.2 rfl); (next => exact (Kd.R_types (HO_20.out) BK691.out (by decide)).1 _ e1 |>.2 rfl)⟩; refine (l1_ApartBytes.callsK (fun (b : Nat) (o : Obj) => b = gb691 ∧ o = .cells #[.int .i64 a0_0,.int .u64 a0_1,.int .i64 a0_2,.int .i64 a0_3] 26 (0,0)) _ w.heap.size _ _ [.slice Ao33 t698.length co33,.slice Ao72 t702.length co72,.slice Ao73 t706.length co73,.slice Ao74 t711.length co74,.slice Ao75 t716.length co75,.slice Ao76 t720.length co76,.slice Ao77 t724.length co77] (Ap.push (Ap.push (Ap.push (Ap.push (Ap.push (Ap.push (Ap.push (fun _ => []) 0 t698) 1 t702) 2 t706) 3 t711) 4 t716) 5 t720) 6 t724) ?side1 ?side2 ?side3 ?side4 ?side5).mono ?_; (case side1 => exact Ap.lit_stK _ (Ap.Rw.below RA.out (by repeat (first | exact Below.refl _ _ | apply pw_below_drewN | apply below_drew1))) (below_size (mvh HB.out)) (show (7 : Nat) ≤ maxLen by decide) (by decide) (fun b o hb => by obtain ⟨rfl,rfl⟩ := hb; exact (mvb BK691.out)) (fun b o hb => by obtain ⟨rfl,rfl⟩ := hb; exact FA.out)); (case side2 => simp); (case side3 => exact below_size (mvh HB.out)); (case side4 => exact (show (7 : Nat) ≤ 4611686018427387000 by decide)); (case side5 => exact (Ap.push_le (Ap.push_le (Ap.push_le (Ap.push_le (Ap.push_le (Ap.push_le (Ap.push_le (fun _ => Nat.zero_le _) (hz_ t698 (by rw [Ny735.out]; simp))) (hz_ t702 (by rw [Ny735.out]; simp))) (hz_ t706 (by rw [Ny735.out]; simp))) (hz_ t711 (by rw [Ny735.out]; simp))) (hz_ t716 (by rw [Ny735.out]; simp))) (hz_ t720 (by rw [Ny735.out]; simp))) (hz_ t724 (by rw [Ny735.out]; simp)))); rintro e w81 ⟨rfl,hb,hkp⟩; have n0_ := aK (((mvh HB.out) : Below w.heap.size w _).trans hb); have n1_ := aK (hkp _ _ ⟨rfl,rfl⟩); clear HB BK691 hb hkp HO_6 HO_8 HO_10 HO_13 HO_16 HO_20; have HB := n0_; have BK691 := n1_; clear n0_ n1_; obtain ⟨hcz82_0,hcz82_1,hcz82_2,hcz82_3,hfz82_0,hfz82_1,hfz82_2,hfz82_3⟩ := cf4 BK691.out) | ((with_reducible refine gate_callee (f := 17) rfl ?_); refine goesL_ (some 127) rfl rfl Try.func17 (by kernel_rfl) rfl #[.agg #[.int .i64 a0_0,.int .u64 a0_1,.int .i64 a0_2,.int .i64 a0_3]] rfl (by (try simp only [List.map_toArray,List.map_cons,List.map_nil]) <;> rfl) ?_; (with_reducible refine (reedsol_Generator.calls kj23 a0_0 a0_1 a0_2 a0_3 t739 t742 _ A67.out).mono ?_); rintro e w83 ⟨v740,rfl,ho0,hb⟩; refine ⟨_,rfl,?_⟩; have n3_ := aK (Kd.R_lower ho0 (below_size (mvh HB.out))); have n4_ := aK (kb BK691.out hb); have n5_ := aK (below_step (mvh HB.out) hb); clear BK691 HB; have HO741 := n3_; have BK691 := n4_; have HB := n5_; clear n3_ n4_ n5_; (try clear hb); (try clear ho0)) | ((with_reducible refine gate_callee (f := 14) rfl ?_); refine goesL_ (some 131) rfl rfl Try.func14 (by kernel_rfl) rfl #[.int .i64 t742] rfl (by (try simp only [List.map_toArray,List.map_cons,List.map_nil]) <;> rfl) ?_; (with_reducible refine (l4_num.calls t742 t743 _ A68.out).mono ?_); rintro e w' ⟨rfl,⟨nd,rfl⟩⟩; refine ⟨_,rfl,?_⟩; have hcv84 := own_string (P := Try.prog) Try.underlying27 Try.underlying5 Try.underlying9 (Kd.own_of_R HO741.out); have hcv85 := fun n_ => own_string (P := Try.prog) Try.underlying27 Try.underlying5 Try.underlying9 (Kd.own_of_R (Kd.R_drewN HO741.out n_))))
         go_ret
         exact ⟨by first | rfl | (simp [errW_none,errW_some] <;> rfl) | (simp [*,errW_none,errW_some] <;> rfl),mvh HB.out⟩
        ·rw [if_neg c69] at H
         exact l4_ReedsolOwn.no_false HR9_.out H
       ·replace c66 := Bool.eq_false_iff.mpr c66
        exact l4_ReedsolOwn.no_false HR9_.out ((if_neg (c := t738 = true) (by rw [c66]; exact Bool.false_ne_true)).symm.trans H)
def l4_ReedsolOwn.Pure : Prop := ∀ (a0_0 : Int) (a0_1 : Int) (a0_2 : Int) (a0_3 : Int) (l1 : List Int),(Lit.int .i64 a0_0).wf = true → (Lit.int .u64 a0_1).wf = true → (Lit.int .i64 a0_2).wf = true → (Lit.int .i64 a0_3).wf = true → l1.length ≤ maxLen → l1.length * 1 ≤ 140737488351232 → (∀ x ∈ l1,(Lit.int .u8 x).wf = true) → ∃ k,l4_ReedsolOwn.f k a0_0 a0_1 a0_2 a0_3 l1 = some true
theorem l4_ReedsolOwn.walk (P : l4_ReedsolOwn.Pure) (a0_0 : Int) (a0_1 : Int) (a0_2 : Int) (a0_3 : Int) (a1 : Option Addr) (len1 cap1 : Nat) (z1 : List Int) (w : World) (w0_0 : (Lit.int .i64 a0_0).wf = true) (w0_1 : (Lit.int .u64 a0_1).wf = true) (w0_2 : (Lit.int .i64 a0_2).wf = true) (w0_3 : (Lit.int .i64 a0_3).wf = true) (w1 : (a1 = none ∧ len1 = 0 ∧ cap1 = 0 ∧ z1 = []) ∨ ∃ x,a1 = some x ∧ len1 ≤ cap1 ∧ cap1 ≤ maxLen ∧ z1.length = cap1 ∧ (∀ i,i < z1.length → w.cell? (x.add i) = some (.int .u8 (z1.getD i 0))) ∧ ∀ n ∈ z1,(Lit.int .u8 n).wf = true) (y1 : len1 * 1 ≤ 140737488351232) :
  Calls Try.prog 7 #[.agg #[.int .i64 a0_0,.int .u64 a0_1,.int .i64 a0_2,.int .i64 a0_3],.slice a1 len1 cap1] w fun e w' => e = .returned (.bool true) ∧ Below w.heap.size w w' := by
 obtain ⟨l1,rfl,hr1,hm1,hw1,hc1⟩ := ReadsInt.ofRowC w1
 obtain ⟨k,h⟩ := P a0_0 a0_1 a0_2 a0_3 l1 w0_0 w0_1 w0_2 w0_3 hm1 y1 hw1
 refine (l4_ReedsolOwn.calls k a0_0 a0_1 a0_2 a0_3 _ _ l1 true rfl w (Kd.C_of_reads (d := (0 : Int)) (h1 := fun _ => rfl) hr1) hc1 h).mono ?_
 rintro e w' ⟨rfl,hd⟩
 exact ⟨rfl,hd⟩


end Go.Proofs.Ytdhnjnkjhfomiaa.P

