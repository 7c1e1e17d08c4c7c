-- written by mk.sh, a program of this session, over the kit's print
import Derived.Test.YtdhnjnkjhfomiaaRmPx0
import Derived.Test.YtdhnjnkjhfomiaaRmPx1
import Derived.Test.YtdhnjnkjhfomiaaRmPx3
import Derived.Test.YtdhnjnkjhfomiaaRmPx9
import Derived.Test.YtdhnjnkjhfomiaaRmPx11
import Derived.Test.YtdhnjnkjhfomiaaRmPx13
import Derived.Test.YtdhnjnkjhfomiaaRmPx18
import Derived.Test.YtdhnjnkjhfomiaaRmPx60
import Derived.Test.YtdhnjnkjhfomiaaRmPx19
import Derived.Test.YtdhnjnkjhfomiaaRmPx21
namespace Go.Proofs.Ytdhnjnkjhfomiaa.P
open Go.RowKit YtdhnjnkjhfomiaaW.PrintWords YtdhnjnkjhfomiaaW.PrintLast YtdhnjnkjhfomiaaW.PrintMore
attribute [local go_sem] max2_int min2_int max_two min_two max_three min_three max_four min_four   -- for this text's walks alone
set_option linter.unusedVariables false
set_option linter.unusedSimpArgs false

def l4_RM.f (k : Nat) (a0_0 : Int) (a0_1 : Int) (a0_2 : Int) (a0_3 : Int) (l1 : List Int) : Option (Bool) := (l1_Lent.f l1).bind fun t546 => ((reedsol_Generator.f k a0_0 a0_1 a0_2 a0_3).bind fun bt549 => ((reedsol_Encode.f k a0_0 a0_1 a0_2 a0_3 t546).bind fun bt553 => ((r4_Generator.f k a0_0 a0_1 a0_2 a0_3).bind fun bt557 => ((r4_Encode.f k a0_0 a0_1 a0_2 a0_3 l1).bind fun bt561 => ((reedsol_Check.f k a0_0 a0_1 a0_2 a0_3).bind fun t565 => ((l4_num.f t565).bind fun t566 => ((r4_Check.f k a0_0 a0_1 a0_2 a0_3).bind fun t567 => (if t566 = t567 then (if (strOfNums bt549.1).toList = (strOfNums bt557.1).toList then ((l4_num.f bt549.2).bind fun t568 => (if t568 = bt557.2 then ((l4_num.f bt553.2).bind fun t569 => (if t569 = bt561.2 then ((l1_Stays.f t546 l1).bind fun t570 => (if t570 = true then ((l4_knows.f k).bind fun t571 => (if t571 = true then ((l1_Spoil.f k t546).bind fun t572 => (some ((strOfNums bt553.1).toList == (strOfNums bt561.1).toList))) else (some false))) else (some false))) else (some false))) else (some false))) else (some false)) else (some false)))))))))
theorem l4_RM.mono : ∀ a0 a1 a2 a3 a4 k,LeO (l4_RM.f k a0 a1 a2 a3 a4) (l4_RM.f (k + 1) a0 a1 a2 a3 a4) := by
 intro a0 a1 a2 a3 a4 k
 unfold l4_RM.f
 repeat' first
   | (with_reducible exact l1_Spoil.mono _ _)
   | (with_reducible exact l4_knows.mono _)
   | (with_reducible exact r4_Check.mono _ _ _ _ _)
   | (with_reducible exact r4_Encode.mono _ _ _ _ _ _)
   | (with_reducible exact r4_Generator.mono _ _ _ _ _)
   | (with_reducible exact reedsol_Check.mono _ _ _ _ _)
   | (with_reducible exact reedsol_Encode.mono _ _ _ _ _ _)
   | (with_reducible exact reedsol_Generator.mono _ _ _ _ _)
   | (with_reducible exact LeO.refl _)
   | (with_reducible exact LeO.none _)
   | (with_reducible refine LeO.ite ?_ ?_)
   | (with_reducible refine LeO.bind ?_ (fun _ => ?_))
def l4_RM.T6 : Bool × List (List Nat × List Nat) := (true,[([],[]),([0],[0]),([1,1],[1]),([],[]),([3,2],[3]),([2,4],[2,4]),([5,4],[5]),([6],[6]),([7,6],[6,7]),([6],[6]),([9,6],[6,9]),([8,10,6],[6,8,10]),([6,11],[6,11]),([12,6],[12]),([13],[13]),([14,13,13],[13,14]),([13],[13]),([15,16,13],[13,15,16]),([13,17],[13,17]),([18,15],[18]),([19],[19]),([20,19,19],[19,20]),([19],[19]),([21,22,19],[19,21,22]),([19,23],[19,23]),([24,21],[24]),([25],[25]),([25],[25]),([26,27,25,25],[25,26,27]),([28,25],[25,28]),([25,29],[25,29]),([30,28],[30]),([31,31],[31]),([32,31],[31,32]),([31,33],[31,33])])
def l4_RM.B6 : List Nat := [0,1,3,0,15,31,63,127,255,127,639,2047,4095,8191,16383,32767,16383,131071,262143,524287,1048575,2097151,1048575,8388607,16777215,33554431,67108863,67108863,268435455,536870911,1073741823,2147483647,4294967295,8589934591,17179869183]
theorem l4_RM.tab6 : rtab .any (opsOf Try.f4 6) = l4_RM.T6 := by kernel_rfl
theorem l4_RM.bits6 : waitsOk l4_RM.T6.2 l4_RM.B6 = true := by kernel_rfl
theorem l4_RM.no_false {r : Bool} {G : Prop} (hr : r = true) (h : some false = some r) : G := by
 subst hr
 cases h
set_option maxHeartbeats 8000000 in
set_option maxRecDepth 100000 in
theorem l4_RM.calls (k : Nat) (a0_0 : Int) (a0_1 : Int) (a0_2 : Int) (a0_3 : Int) (A1 : Option Addr) (c1 : Nat) (l1 : List Int) (r : Bool) (hr9_ : r = true) (w : World) (hr1 : Kd.C (Kd.int .u8) w A1 l1.length l1) (hc1 : l1.length ≤ c1) (h : l4_RM.f k a0_0 a0_1 a0_2 a0_3 l1 = some r) :
  Calls Try.prog 4 #[.agg #[.int .i64 a0_0,.int .u64 a0_1,.int .i64 a0_2,.int .i64 a0_3],.slice A1 l1.length c1] w fun e w' => e = .returned (.bool r) ∧ Below w.heap.size w w' := by
 have HR9_ := Aside0.mk hr9_
 clear hr9_
 have hu26 := Try.underlying26
 have HR1 := Aside0.mk hr1
 have HC1 := Aside0.mk hc1
 clear hr1 hc1
 have HB := aK (Below.refl w.heap.size w)
 have H : ((l1_Lent.f l1).bind fun t546 => ((reedsol_Generator.f k a0_0 a0_1 a0_2 a0_3).bind fun bt549 => ((reedsol_Encode.f k a0_0 a0_1 a0_2 a0_3 t546).bind fun bt553 => ((r4_Generator.f k a0_0 a0_1 a0_2 a0_3).bind fun bt557 => ((r4_Encode.f k a0_0 a0_1 a0_2 a0_3 l1).bind fun bt561 => ((reedsol_Check.f k a0_0 a0_1 a0_2 a0_3).bind fun t565 => ((l4_num.f t565).bind fun t566 => ((r4_Check.f k a0_0 a0_1 a0_2 a0_3).bind fun t567 => (if t566 = t567 then (if (strOfNums bt549.1).toList = (strOfNums bt557.1).toList then ((l4_num.f bt549.2).bind fun t568 => (if t568 = bt557.2 then ((l4_num.f bt553.2).bind fun t569 => (if t569 = bt561.2 then ((l1_Stays.f t546 l1).bind fun t570 => (if t570 = true then ((l4_knows.f k).bind fun t571 => (if t571 = true then ((l1_Spoil.f k t546).bind fun t572 => (some ((strOfNums bt553.1).toList == (strOfNums bt561.1).toList))) else (some false))) else (some false))) else (some false))) else (some false))) else (some false)) else (some false)))))))))) = some r := h
 clear h
 replace H := Option.bind_eq_some_iff.mp H
 obtain ⟨t546,A30,H⟩ := H
 try dsimp only at H
 have A3 := Aside0.mk A30
 clear A30
 replace H := Option.bind_eq_some_iff.mp H
 obtain ⟨⟨t549,t552⟩,A40,H⟩ := H
 try dsimp only at H
 have A4 := Aside0.mk A40
 clear A40
 replace H := Option.bind_eq_some_iff.mp H
 obtain ⟨⟨t553,t556⟩,A50,H⟩ := H
 try dsimp only at H
 have A5 := Aside0.mk A50
 clear A50
 replace H := Option.bind_eq_some_iff.mp H
 obtain ⟨⟨t557,t560⟩,A60,H⟩ := H
 try dsimp only at H
 have A6 := Aside0.mk A60
 clear A60
 replace H := Option.bind_eq_some_iff.mp H
 obtain ⟨⟨t561,t564⟩,A70,H⟩ := H
 try dsimp only at H
 have A7 := Aside0.mk A70
 clear A70
 replace H := Option.bind_eq_some_iff.mp H
 obtain ⟨t565,A80,H⟩ := H
 try dsimp only at H
 have A8 := Aside0.mk A80
 clear A80
 replace H := Option.bind_eq_some_iff.mp H
 obtain ⟨t566,A90,H⟩ := H
 try dsimp only at H
 have A9 := Aside0.mk A90
 clear A90
 replace H := Option.bind_eq_some_iff.mp H
 obtain ⟨t567,A100,H⟩ := H
 try dsimp only at H
 have A10 := Aside0.mk A100
 clear A100
 by_cases c11 : t566 = t567
 rotate_left
 ·rw [if_neg c11] at H
  exact l4_RM.no_false HR9_.out H
 rw [if_pos c11] at H
 have c11b0 : (t566 == t567) = true := beq_iff_eq.mpr c11
 have c11b1 : (t566 != t567) = false := bne_eq_false_iff_eq.mpr c11
 clear c11
 by_cases c12 : (strOfNums t549).toList = (strOfNums t557).toList
 rotate_left
 ·rw [if_neg c12] at H
  exact l4_RM.no_false HR9_.out H
 rw [if_pos c12] at H
 have c12b0 : ((strOfNums t549).toList == (strOfNums t557).toList) = true := beq_iff_eq.mpr c12
 have c12b1 : ((strOfNums t549).toList != (strOfNums t557).toList) = false := bne_eq_false_iff_eq.mpr c12
 clear c12
 replace H := Option.bind_eq_some_iff.mp H
 obtain ⟨t568,A130,H⟩ := H
 try dsimp only at H
 have A13 := Aside0.mk A130
 clear A130
 by_cases c14 : t568 = t560
 rotate_left
 ·rw [if_neg c14] at H
  exact l4_RM.no_false HR9_.out H
 rw [if_pos c14] at H
 have c14b0 : (t568 == t560) = true := beq_iff_eq.mpr c14
 have c14b1 : (t568 != t560) = false := bne_eq_false_iff_eq.mpr c14
 clear c14
 replace H := Option.bind_eq_some_iff.mp H
 obtain ⟨t569,A150,H⟩ := H
 try dsimp only at H
 have A15 := Aside0.mk A150
 clear A150
 by_cases c16 : t569 = t564
 rotate_left
 ·rw [if_neg c16] at H
  exact l4_RM.no_false HR9_.out H
 rw [if_pos c16] at H
 have c16b0 : (t569 == t564) = true := beq_iff_eq.mpr c16
 have c16b1 : (t569 != t564) = false := bne_eq_false_iff_eq.mpr c16
 clear c16
 replace H := Option.bind_eq_some_iff.mp H
 obtain ⟨t570,A170,H⟩ := H
 try dsimp only at H
 have A17 := Aside0.mk A170
 clear A170
 by_cases c18 : t570 = true
 rotate_left
 ·replace c18 := Bool.eq_false_iff.mpr c18
  exact l4_RM.no_false HR9_.out ((if_neg (c := t570 = true) (by rw [c18]; exact Bool.false_ne_true)).symm.trans H)
 subst c18
 have H1 : ((l4_knows.f k).bind fun t571 => (if t571 = true then ((l1_Spoil.f k t546).bind fun t572 => (some ((strOfNums t553).toList == (strOfNums t561).toList))) else (some false))) = some r := by rw [if_pos rfl] at H; exact H
 clear H
 have H := H1
 clear H1
 replace H := Option.bind_eq_some_iff.mp H
 obtain ⟨t571,A190,H⟩ := H
 try dsimp only at H
 have A19 := Aside0.mk A190
 clear A190
 by_cases c20 : t571 = true
 rotate_left
 ·replace c20 := Bool.eq_false_iff.mpr c20
  exact l4_RM.no_false HR9_.out ((if_neg (c := t571 = true) (by rw [c20]; exact Bool.false_ne_true)).symm.trans H)
 subst c20
 have H1 : ((l1_Spoil.f k t546).bind fun t572 => (some ((strOfNums t553).toList == (strOfNums t561).toList))) = some r := by rw [if_pos rfl] at H; exact H
 clear H
 have H := H1
 clear H1
 replace H := Option.bind_eq_some_iff.mp H
 obtain ⟨t572,A210,H⟩ := H
 try dsimp only at H
 have A21 := Aside0.mk A210
 clear A210
 obtain rfl := Option.some.inj H
 go_enter Try.func4,Try.ntmps4
 try go_wp2_with (first | ((with_reducible refine gate_dst (N := 2) rfl ?_); refine box_event ?hg (N := 2) ?hd (cs := #[.int .i64 a0_0,.int .u64 a0_1,.int .i64 a0_2,.int .i64 a0_3]) (t := 26) ?hr ?_; (case hd => rfl); (case hg => rfl); (case hr => first | (go_simp; done) | (go_simp; rfl)); intro gb545 hg w22 hbox hb; have n0_ := aK (below_step (mvh HB.out) hb); have n1_ := aK (hbox); have n2_ := aK ((by rw [hg]; exact (below_size (mvh HB.out)) : w.heap.size ≤ gb545)); have n3_ := aK ((by rw [hg]; exact (below_size (mvh HB.out)) : w.heap.size ≤ gb545)); clear HB; have HB := n0_; have BK545 := n1_; have GW545 := n2_; have GE545 := n3_; clear n0_ n1_ n2_ n3_; clear hb hbox hg) | (go_at_call 9; (with_reducible refine (l1_Lent.calls _ _ l1 t546 _ ?side1 ?side2 A3.out).mono ?_); (case side1 => exact Kd.C_below HR1.out (mvh HB.out)); (case side2 => exact HC1.out); rintro e w23 ⟨v547,rfl,ho0,hb⟩; have n0_ := aK (Kd.L_lower ho0 (below_size (mvh HB.out))); have n1_ := aK (kb BK545.out hb); have n2_ := aK (below_step (mvh HB.out) hb); clear BK545 HB; have HO548 := n0_; have BK545 := n1_; have HB := n2_; clear n0_ n1_ n2_; (try clear hb); (try clear ho0); obtain ⟨hcz24_0,hcz24_1,hcz24_2,hcz24_3,hfz24_0,hfz24_1,hfz24_2,hfz24_3⟩ := cf4 BK545.out) | (go_at_call 17; (with_reducible refine (reedsol_Generator.calls k a0_0 a0_1 a0_2 a0_3 t549 t552 _ A4.out).mono ?_); rintro e w25 ⟨v550,rfl,ho0,hb⟩; have n0_ := aK (Kd.L_elder' (mvL HO548.out) (Kd.R_base ho0) hb); have n1_ := aK (Kd.R_lower (Kd.R_new' ho0 (Kd.L_lt (mvL HO548.out))) (below_size (mvh HB.out))); have n2_ := aK (kb BK545.out hb); have n3_ := aK (below_step (mvh HB.out) hb); clear HO548 BK545 HB; have HO548 := n0_; have HO551 := n1_; have BK545 := n2_; have HB := n3_; clear n0_ n1_ n2_ n3_; (try clear hb); (try clear ho0); obtain ⟨hcz26_0,hcz26_1,hcz26_2,hcz26_3,hfz26_0,hfz26_1,hfz26_2,hfz26_3⟩ := cf4 BK545.out; obtain ⟨Ao27,co27,eo27⟩ := Kd.L_slice HO548.out; subst eo27) | (go_at_call 18; (with_reducible refine (reedsol_Encode.calls k a0_0 a0_1 a0_2 a0_3 _ _ t546 t553 t556 _ ?side1 ?side2 A5.out).mono ?_); (case side1 => exact mvC (Kd.L_reads' HO548.out).2.2); (case side2 => exact (Kd.L_reads' HO548.out).2.1); rintro e w28 ⟨v554,rfl,ho0,hb⟩; have n0_ := aK (Kd.L_elder' (mvL HO548.out) (Kd.R_base ho0) hb); have n1_ := aK (Kd.R_elder' (mvR HO551.out) (Kd.R_base ho0) hb); have n2_ := aK (Kd.R_lower (Kd.R_new' (Kd.R_new' ho0 (Kd.L_lt (mvL HO548.out))) (Kd.R_lt (mvR HO551.out))) (below_size (mvh HB.out))); have n3_ := aK (kb BK545.out hb); have n4_ := aK (below_step (mvh HB.out) hb); clear HO548 HO551 BK545 HB; have HO548 := n0_; have HO551 := n1_; have HO555 := n2_; have BK545 := n3_; have HB := n4_; clear n0_ n1_ n2_ n3_ n4_; (try clear hb); (try clear ho0); obtain ⟨hcz29_0,hcz29_1,hcz29_2,hcz29_3,hfz29_0,hfz29_1,hfz29_2,hfz29_3⟩ := cf4 BK545.out) | (go_at_call 19; (with_reducible refine (r4_Generator.calls k a0_0 a0_1 a0_2 a0_3 t557 t560 _ A6.out).mono ?_); rintro e w30 ⟨v558,rfl,ho0,hb⟩; have n0_ := aK (Kd.L_elder' (mvL HO548.out) (Kd.R_base ho0) hb); have n1_ := aK (Kd.R_elder' (mvR HO551.out) (Kd.R_base ho0) hb); have n2_ := aK (Kd.R_elder' (mvR HO555.out) (Kd.R_base ho0) hb); have n3_ := aK (Kd.R_lower (Kd.R_new' (Kd.R_new' (Kd.R_new' ho0 (Kd.L_lt (mvL HO548.out))) (Kd.R_lt (mvR HO551.out))) (Kd.R_lt (mvR HO555.out))) (below_size (mvh HB.out))); have n4_ := aK (kb BK545.out hb); have n5_ := aK (below_step (mvh HB.out) hb); clear HO548 HO551 HO555 BK545 HB; have HO548 := n0_; have HO551 := n1_; have HO555 := n2_; have HO559 := n3_; have BK545 := n4_; have HB := n5_; clear n0_ n1_ n2_ n3_ n4_ n5_; (try clear hb); (try clear ho0); obtain ⟨hcz31_0,hcz31_1,hcz31_2,hcz31_3,hfz31_0,hfz31_1,hfz31_2,hfz31_3⟩ := cf4 BK545.out) | (go_at_call 20; (with_reducible refine (r4_Encode.calls k a0_0 a0_1 a0_2 a0_3 _ _ l1 t561 t564 _ ?side1 ?side2 A7.out).mono ?_); (case side1 => exact Kd.C_below HR1.out (mvh HB.out)); (case side2 => exact HC1.out); rintro e w32 ⟨v562,rfl,ho0,hb⟩; have n0_ := aK (Kd.L_elder' (mvL HO548.out) (Kd.R_base ho0) hb); have n1_ := aK (Kd.R_elder' (mvR HO551.out) (Kd.R_base ho0) hb); have n2_ := aK (Kd.R_elder' (mvR HO555.out) (Kd.R_base ho0) hb); have n3_ := aK (Kd.R_elder' (mvR HO559.out) (Kd.R_base ho0) hb); have n4_ := aK (Kd.R_lower (Kd.R_new' (Kd.R_new' (Kd.R_new' (Kd.R_new' ho0 (Kd.L_lt (mvL HO548.out))) (Kd.R_lt (mvR HO551.out))) (Kd.R_lt (mvR HO555.out))) (Kd.R_lt (mvR HO559.out))) (below_size (mvh HB.out))); have n5_ := aK (kb BK545.out hb); have n6_ := aK (below_step (mvh HB.out) hb); clear HO548 HO551 HO555 HO559 BK545 HB; have HO548 := n0_; have HO551 := n1_; have HO555 := n2_; have HO559 := n3_; have HO563 := n4_; have BK545 := n5_; have HB := n6_; clear n0_ n1_ n2_ n3_ n4_ n5_ n6_; (try clear hb); (try clear ho0)))
 have n0_ := aK (Kd.L_drew HO548.out)
 have n1_ := aK (Kd.R_drew HO551.out)
 have n2_ := aK (Kd.R_drew HO555.out)
 have n3_ := aK (Kd.R_drew HO559.out)
 have n4_ := aK (Kd.R_drew HO563.out)
 have n5_ := aK (blk_drew BK545.out)
 have n6_ := aK (below_drew1 HB.out)
 clear HO548 HO551 HO555 HO559 HO563 BK545 HB
 have HO548 := n0_
 have HO551 := n1_
 have HO555 := n2_
 have HO559 := n3_
 have HO563 := n4_
 have BK545 := n5_
 have HB := n6_
 clear n0_ n1_ n2_ n3_ n4_ n5_ n6_
 refine start_ (n := 35) (S := fun w' => w'.cell? ⟨gb545,0,none⟩ = some (.int .i64 a0_0) ∧ w'.cell? ⟨gb545,1,none⟩ = some (.int .u64 a0_1) ∧ w'.cell? ⟨gb545,2,none⟩ = some (.int .i64 a0_2) ∧ w'.cell? ⟨gb545,3,none⟩ = some (.int .i64 a0_3) ∧ (convert 27 9 (v550)).run Try.prog w' = .ok (.string (strOfNums t549)) w' ∧ (convert 27 9 (v558)).run Try.prog w' = .ok (.string (strOfNums t557)) w') (ds := []) #[false,false,false,false,false,false,false,false,false,false,false,false,false,false,false,false,false,false,false,false,false,false,false,false,false,false,false,false,false,false,false,false,false,false,false] (by kernel_rfl) rfl rfl ⟨(blk_cell BK545.out 0).trans rfl,(blk_cell BK545.out 1).trans rfl,(blk_cell BK545.out 2).trans rfl,(blk_cell BK545.out 3).trans rfl,(own_string (P := Try.prog) Try.underlying27 Try.underlying5 Try.underlying9 (Kd.own_of_R HO551.out)),(own_string (P := Try.prog) Try.underlying27 Try.underlying5 Try.underlying9 (Kd.own_of_R HO559.out))⟩ (fun hHeld => ?_); refine with_tabW l4_RM.tab6 l4_RM.bits6 (fun HT_ HW_ => ?_)
 generalize w32.drew = w33 at HO548 HO551 HO555 HO559 HO563 BK545 HB hHeld ⊢
 refine take_ (i := 0) (N := some 38) (v := ?_) (a' := ?_) #[true,false,false,false,false,false,false,false,false,false,false,false,false,false,false,false,false,false,false,false,false,false,false,false,false,false,false,false,false,false,false,false,false,false,false] rfl rfl (take_ofW HT_.out HW_.out (by kernel_rfl)) (fun _ _ _ h => h) (Or.inl ⟨by rfl,?_⟩) hHeld ?_ ?_
 rotate_left
 ·rintro w' ⟨s0,s1,s2,s3,s4,s5⟩
  go_simp
  with_reducible rfl
 rotate_left
 ·simp only [Act.put,List.setIfInBounds_toArray,List.set_cons_zero,List.set_cons_succ,i64_w,i32_w]
  rfl
 refine take_ (i := 3) (N := some 41) (v := ?_) (a' := ?_) #[true,false,false,true,false,false,false,false,false,false,false,false,false,false,false,false,false,false,false,false,false,false,false,false,false,false,false,false,false,false,false,false,false,false,false] rfl rfl (take_ofW HT_.out HW_.out (by kernel_rfl)) (fun _ _ _ h => h) (Or.inl ⟨by rfl,?_⟩) hHeld ?_ ?_
 rotate_left
 ·rintro w' ⟨s0,s1,s2,s3,s4,s5⟩
  go_simp
  with_reducible rfl
 rotate_left
 ·simp only [Act.put,List.setIfInBounds_toArray,List.set_cons_zero,List.set_cons_succ,i64_w,i32_w]
  rfl
 refine one_ (i := 1) (N := some 39) #[true,true,false,true,false,false,false,false,false,false,false,false,false,false,false,false,false,false,false,false,false,false,false,false,false,false,false,false,false,false,false,false,false,false,false] rfl rfl (one_of HT_.out (by kernel_rfl)) (by decide) (fun K hK => ?_)
 refine goes_ Try.func21 (by kernel_rfl) rfl #[.agg #[.int .i64 a0_0,.int .u64 a0_1,.int .i64 a0_2,.int .i64 a0_3]] (by rfl) rfl rfl (by (try simp only [List.map_toArray,List.map_cons,List.map_nil]) <;> rfl) ?_
 with_reducible refine (reedsol_Check.calls k a0_0 a0_1 a0_2 a0_3 t565 _ A8.out).mono ?_
 rintro e w34 ⟨rfl,hb⟩
 refine ⟨_,rfl,?_⟩
 have n0_ := aK (Kd.L_below (mvL HO548.out) hb)
 have n1_ := aK (Kd.R_below (mvR HO551.out) hb)
 have n2_ := aK (Kd.R_below (mvR HO555.out) hb)
 have n3_ := aK (Kd.R_below (mvR HO559.out) hb)
 have n4_ := aK (Kd.R_below (mvR HO563.out) hb)
 have n5_ := aK (kb BK545.out hb)
 have n6_ := aK (below_step (mvh HB.out) hb)
 clear HO548 HO551 HO555 HO559 HO563 BK545 HB
 have HO548 := n0_
 have HO551 := n1_
 have HO555 := n2_
 have HO559 := n3_
 have HO563 := n4_
 have BK545 := n5_
 have HB := n6_
 clear n0_ n1_ n2_ n3_ n4_ n5_ n6_
 (try clear hb)
 refine hK.out _ _ ⟨(blk_cell BK545.out 0).trans rfl,(blk_cell BK545.out 1).trans rfl,(blk_cell BK545.out 2).trans rfl,(blk_cell BK545.out 3).trans rfl,(own_string (P := Try.prog) Try.underlying27 Try.underlying5 Try.underlying9 (Kd.own_of_R HO551.out)),(own_string (P := Try.prog) Try.underlying27 Try.underlying5 Try.underlying9 (Kd.own_of_R HO559.out))⟩ (fun hHeld => ?_)
 clear hK K
 refine norm_ (a' := ?_) ?_ ?_
 rotate_left
 ·show Act.put _ (some 39) _ = _
  simp only [Act.put,List.setIfInBounds_toArray,List.set_cons_zero,List.set_cons_succ,i64_w,i32_w]
  rfl
 refine one_ (i := 2) (N := some 40) #[true,true,true,true,false,false,false,false,false,false,false,false,false,false,false,false,false,false,false,false,false,false,false,false,false,false,false,false,false,false,false,false,false,false,false] rfl rfl (one_of HT_.out (by kernel_rfl)) (by decide) (fun K hK => ?_)
 refine goes_ Try.func14 (by kernel_rfl) rfl #[.int .i64 t565] (by rfl) rfl rfl (by (try simp only [List.map_toArray,List.map_cons,List.map_nil]) <;> rfl) ?_
 with_reducible refine (l4_num.calls t565 t566 _ A9.out).mono ?_
 rintro e w' ⟨rfl,⟨nd,rfl⟩⟩
 refine ⟨_,rfl,?_⟩
 refine hK.out _ _ ⟨(blk_cell BK545.out 0).trans rfl,(blk_cell BK545.out 1).trans rfl,(blk_cell BK545.out 2).trans rfl,(blk_cell BK545.out 3).trans rfl,(own_string (P := Try.prog) Try.underlying27 Try.underlying5 Try.underlying9 (Kd.own_of_R HO551.out)),(own_string (P := Try.prog) Try.underlying27 Try.underlying5 Try.underlying9 (Kd.own_of_R HO559.out))⟩ (fun hHeld => ?_)
 clear hK K
 refine norm_ (a' := ?_) ?_ ?_
 rotate_left
 ·show Act.put _ (some 40) _ = _
  simp only [Act.put,List.setIfInBounds_toArray,List.set_cons_zero,List.set_cons_succ,i64_w,i32_w]
  rfl
 refine one_ (i := 4) (N := some 42) #[true,true,true,true,true,false,false,false,false,false,false,false,false,false,false,false,false,false,false,false,false,false,false,false,false,false,false,false,false,false,false,false,false,false,false] rfl rfl (one_of HT_.out (by kernel_rfl)) (by decide) (fun K hK => ?_)
 refine goes_ Try.func22 (by kernel_rfl) rfl #[.agg #[.int .i64 a0_0,.int .u64 a0_1,.int .i64 a0_2,.int .i64 a0_3]] (by rfl) rfl rfl (by (try simp only [List.map_toArray,List.map_cons,List.map_nil]) <;> rfl) ?_
 with_reducible refine (r4_Check.calls k a0_0 a0_1 a0_2 a0_3 t567 _ A10.out).mono ?_
 rintro e w35 ⟨rfl,hb⟩
 refine ⟨_,rfl,?_⟩
 have n0_ := aK (Kd.L_below (mvL HO548.out) hb)
 have n1_ := aK (Kd.R_below (mvR HO551.out) hb)
 have n2_ := aK (Kd.R_below (mvR HO555.out) hb)
 have n3_ := aK (Kd.R_below (mvR HO559.out) hb)
 have n4_ := aK (Kd.R_below (mvR HO563.out) hb)
 have n5_ := aK (kb BK545.out hb)
 have n6_ := aK (below_step (mvh HB.out) hb)
 clear HO548 HO551 HO555 HO559 HO563 BK545 HB
 have HO548 := n0_
 have HO551 := n1_
 have HO555 := n2_
 have HO559 := n3_
 have HO563 := n4_
 have BK545 := n5_
 have HB := n6_
 clear n0_ n1_ n2_ n3_ n4_ n5_ n6_
 (try clear hb)
 have hcv36 := own_string (P := Try.prog) Try.underlying27 Try.underlying5 Try.underlying9 (Kd.own_of_R HO551.out)
 have hcv37 := fun n_ => own_string (P := Try.prog) Try.underlying27 Try.underlying5 Try.underlying9 (Kd.own_of_R (Kd.R_drewN HO551.out n_))
 have hcv38 := own_string (P := Try.prog) Try.underlying27 Try.underlying5 Try.underlying9 (Kd.own_of_R HO559.out)
 have hcv39 := fun n_ => own_string (P := Try.prog) Try.underlying27 Try.underlying5 Try.underlying9 (Kd.own_of_R (Kd.R_drewN HO559.out n_))
 refine hK.out _ _ ⟨(blk_cell BK545.out 0).trans rfl,(blk_cell BK545.out 1).trans rfl,(blk_cell BK545.out 2).trans rfl,(blk_cell BK545.out 3).trans rfl,(own_string (P := Try.prog) Try.underlying27 Try.underlying5 Try.underlying9 (Kd.own_of_R HO551.out)),(own_string (P := Try.prog) Try.underlying27 Try.underlying5 Try.underlying9 (Kd.own_of_R HO559.out))⟩ (fun hHeld => ?_)
 clear hK K
 refine norm_ (a' := ?_) ?_ ?_
 rotate_left
 ·show Act.put _ (some 42) _ = _
  simp only [Act.put,List.setIfInBounds_toArray,List.set_cons_zero,List.set_cons_succ,i64_w,i32_w]
  rfl
 refine pure_ (i := 5) (N := some 43) (v := ?_) (a' := ?_) #[true,true,true,true,true,true,false,false,false,false,false,false,false,false,false,false,false,false,false,false,false,false,false,false,false,false,false,false,false,false,false,false,false,false,false] rfl rfl (any_of HT_.out (by kernel_rfl)) (fun _ _ _ h => h) (Or.inl ⟨by rfl,?_⟩) ?_ ?_
 rotate_left
 ·intro w'
  go_simp
  with_reducible rfl
 rotate_left
 ·simp only [Act.put,List.setIfInBounds_toArray,List.set_cons_zero,List.set_cons_succ,i64_w,i32_w]
  rfl
 refine pure_ (i := 6) (N := some 44) (v := ?_) (a' := ?_) #[true,true,true,true,true,true,true,false,false,false,false,false,false,false,false,false,false,false,false,false,false,false,false,false,false,false,false,false,false,false,false,false,false,false,false] rfl rfl (any_of HT_.out (by kernel_rfl)) (fun _ _ _ h => h) (Or.inl ⟨by rfl,?_⟩) ?_ ?_
 rotate_left
 ·intro w'
  go_simp
  with_reducible rfl
 rotate_left
 ·simp only [Act.put,List.setIfInBounds_toArray,List.set_cons_zero,List.set_cons_succ,i64_w,i32_w]
  rfl
 refine pure_ (i := 7) (N := some 45) (v := ?_) (a' := ?_) #[true,true,true,true,true,true,true,true,false,false,false,false,false,false,false,false,false,false,false,false,false,false,false,false,false,false,false,false,false,false,false,false,false,false,false] rfl rfl (any_of HT_.out (by kernel_rfl)) (fun _ _ _ h => h) (Or.inl ⟨by rfl,?_⟩) ?_ ?_
 rotate_left
 ·intro w'
  go_simp
  with_reducible rfl
 rotate_left
 ·simp only [Act.put,List.setIfInBounds_toArray,List.set_cons_zero,List.set_cons_succ,i64_w,i32_w]
  rfl
 refine pure_ (i := 9) (N := some 47) (v := ?_) (a' := ?_) #[true,true,true,true,true,true,true,true,false,true,false,false,false,false,false,false,false,false,false,false,false,false,false,false,false,false,false,false,false,false,false,false,false,false,false] rfl rfl (any_of HT_.out (by kernel_rfl)) (fun _ _ _ h => h) (Or.inl ⟨by rfl,?_⟩) ?_ ?_
 rotate_left
 ·intro w'
  go_simp
  with_reducible rfl
 rotate_left
 ·simp only [Act.put,List.setIfInBounds_toArray,List.set_cons_zero,List.set_cons_succ,i64_w,i32_w]
  rfl
 refine take_ (i := 8) (N := some 46) (v := ?_) (a' := ?_) #[true,true,true,true,true,true,true,true,true,true,false,false,false,false,false,false,false,false,false,false,false,false,false,false,false,false,false,false,false,false,false,false,false,false,false] rfl rfl (take_ofW HT_.out HW_.out (by kernel_rfl)) (fun _ _ _ h => h) (Or.inl ⟨by rfl,?_⟩) hHeld ?_ ?_
 rotate_left
 ·rintro w' ⟨s0,s1,s2,s3,s4,s5⟩
  go_simp
  with_reducible rfl
 rotate_left
 ·simp only [Act.put,List.setIfInBounds_toArray,List.set_cons_zero,List.set_cons_succ,i64_w,i32_w]
  rfl
 refine take_ (i := 10) (N := some 48) (v := ?_) (a' := ?_) #[true,true,true,true,true,true,true,true,true,true,true,false,false,false,false,false,false,false,false,false,false,false,false,false,false,false,false,false,false,false,false,false,false,false,false] rfl rfl (take_ofW HT_.out HW_.out (by kernel_rfl)) (fun _ _ _ h => h) (Or.inl ⟨by rfl,?_⟩) hHeld ?_ ?_
 rotate_left
 ·rintro w' ⟨s0,s1,s2,s3,s4,s5⟩
  go_simp
  with_reducible rfl
 rotate_left
 ·simp only [Act.put,List.setIfInBounds_toArray,List.set_cons_zero,List.set_cons_succ,i64_w,i32_w]
  rfl
 refine pure_ (i := 11) (N := some 49) (v := ?_) (a' := ?_) #[true,true,true,true,true,true,true,true,true,true,true,true,false,false,false,false,false,false,false,false,false,false,false,false,false,false,false,false,false,false,false,false,false,false,false] rfl rfl (any_of HT_.out (by kernel_rfl)) (fun _ _ _ h => h) (Or.inl ⟨by rfl,?_⟩) ?_ ?_
 rotate_left
 ·intro w'
  go_simp
  with_reducible rfl
 rotate_left
 ·simp only [Act.put,List.setIfInBounds_toArray,List.set_cons_zero,List.set_cons_succ,i64_w,i32_w]
  rfl
 refine pure_ (i := 12) (N := some 50) (v := ?_) (a' := ?_) #[true,true,true,true,true,true,true,true,true,true,true,true,true,false,false,false,false,false,false,false,false,false,false,false,false,false,false,false,false,false,false,false,false,false,false] rfl rfl (any_of HT_.out (by kernel_rfl)) (fun _ _ _ h => h) (Or.inl ⟨by rfl,?_⟩) ?_ ?_
 rotate_left
 ·intro w'
  go_simp
  with_reducible rfl
 rotate_left
 ·simp only [Act.put,List.setIfInBounds_toArray,List.set_cons_zero,List.set_cons_succ,i64_w,i32_w]
  rfl
 refine pure_ (i := 13) (N := some 51) (v := ?_) (a' := ?_) #[true,true,true,true,true,true,true,true,true,true,true,true,true,true,false,false,false,false,false,false,false,false,false,false,false,false,false,false,false,false,false,false,false,false,false] rfl rfl (any_of HT_.out (by kernel_rfl)) (fun _ _ _ h => h) (Or.inl ⟨by rfl,?_⟩) ?_ ?_
 rotate_left
 ·intro w'
  go_simp
  with_reducible rfl
 rotate_left
 ·simp only [Act.put,List.setIfInBounds_toArray,List.set_cons_zero,List.set_cons_succ,i64_w,i32_w]
  rfl
 refine pure_ (i := 14) (N := some 52) (v := ?_) (a' := ?_) #[true,true,true,true,true,true,true,true,true,true,true,true,true,true,true,false,false,false,false,false,false,false,false,false,false,false,false,false,false,false,false,false,false,false,false] rfl rfl (any_of HT_.out (by kernel_rfl)) (fun _ _ _ h => h) (Or.inl ⟨by rfl,?_⟩) ?_ ?_
 rotate_left
 ·intro w'
  go_simp
  with_reducible rfl
 rotate_left
 ·simp only [Act.put,List.setIfInBounds_toArray,List.set_cons_zero,List.set_cons_succ,i64_w,i32_w]
  rfl
 refine pure_ (i := 16) (N := some 54) (v := ?_) (a' := ?_) #[true,true,true,true,true,true,true,true,true,true,true,true,true,true,true,false,true,false,false,false,false,false,false,false,false,false,false,false,false,false,false,false,false,false,false] rfl rfl (any_of HT_.out (by kernel_rfl)) (fun _ _ _ h => h) (Or.inl ⟨by rfl,?_⟩) ?_ ?_
 rotate_left
 ·intro w'
  go_simp
  with_reducible rfl
 rotate_left
 ·simp only [Act.put,List.setIfInBounds_toArray,List.set_cons_zero,List.set_cons_succ,i64_w,i32_w]
  rfl
 refine one_ (i := 15) (N := some 53) #[true,true,true,true,true,true,true,true,true,true,true,true,true,true,true,true,true,false,false,false,false,false,false,false,false,false,false,false,false,false,false,false,false,false,false] rfl rfl (one_of HT_.out (by kernel_rfl)) (by decide) (fun K hK => ?_)
 refine goes_ Try.func14 (by kernel_rfl) rfl #[.int .i64 t552] (by rfl) rfl rfl (by (try simp only [List.map_toArray,List.map_cons,List.map_nil]) <;> rfl) ?_
 with_reducible refine (l4_num.calls t552 t568 _ A13.out).mono ?_
 rintro e w' ⟨rfl,⟨nd,rfl⟩⟩
 refine ⟨_,rfl,?_⟩
 refine hK.out _ _ ⟨(blk_cell BK545.out 0).trans rfl,(blk_cell BK545.out 1).trans rfl,(blk_cell BK545.out 2).trans rfl,(blk_cell BK545.out 3).trans rfl,(own_string (P := Try.prog) Try.underlying27 Try.underlying5 Try.underlying9 (Kd.own_of_R HO551.out)),(own_string (P := Try.prog) Try.underlying27 Try.underlying5 Try.underlying9 (Kd.own_of_R HO559.out))⟩ (fun hHeld => ?_)
 clear hK K
 refine norm_ (a' := ?_) ?_ ?_
 rotate_left
 ·show Act.put _ (some 53) _ = _
  simp only [Act.put,List.setIfInBounds_toArray,List.set_cons_zero,List.set_cons_succ,i64_w,i32_w]
  rfl
 refine pure_ (i := 17) (N := some 55) (v := ?_) (a' := ?_) #[true,true,true,true,true,true,true,true,true,true,true,true,true,true,true,true,true,true,false,false,false,false,false,false,false,false,false,false,false,false,false,false,false,false,false] rfl rfl (any_of HT_.out (by kernel_rfl)) (fun _ _ _ h => h) (Or.inl ⟨by rfl,?_⟩) ?_ ?_
 rotate_left
 ·intro w'
  go_simp
  with_reducible rfl
 rotate_left
 ·simp only [Act.put,List.setIfInBounds_toArray,List.set_cons_zero,List.set_cons_succ,i64_w,i32_w]
  rfl
 refine pure_ (i := 18) (N := some 56) (v := ?_) (a' := ?_) #[true,true,true,true,true,true,true,true,true,true,true,true,true,true,true,true,true,true,true,false,false,false,false,false,false,false,false,false,false,false,false,false,false,false,false] rfl rfl (any_of HT_.out (by kernel_rfl)) (fun _ _ _ h => h) (Or.inl ⟨by rfl,?_⟩) ?_ ?_
 rotate_left
 ·intro w'
  go_simp
  with_reducible rfl
 rotate_left
 ·simp only [Act.put,List.setIfInBounds_toArray,List.set_cons_zero,List.set_cons_succ,i64_w,i32_w]
  rfl
 refine pure_ (i := 19) (N := some 57) (v := ?_) (a' := ?_) #[true,true,true,true,true,true,true,true,true,true,true,true,true,true,true,true,true,true,true,true,false,false,false,false,false,false,false,false,false,false,false,false,false,false,false] rfl rfl (any_of HT_.out (by kernel_rfl)) (fun _ _ _ h => h) (Or.inl ⟨by rfl,?_⟩) ?_ ?_
 rotate_left
 ·intro w'
  go_simp
  with_reducible rfl
 rotate_left
 ·simp only [Act.put,List.setIfInBounds_toArray,List.set_cons_zero,List.set_cons_succ,i64_w,i32_w]
  rfl
 refine pure_ (i := 20) (N := some 58) (v := ?_) (a' := ?_) #[true,true,true,true,true,true,true,true,true,true,true,true,true,true,true,true,true,true,true,true,true,false,false,false,false,false,false,false,false,false,false,false,false,false,false] rfl rfl (any_of HT_.out (by kernel_rfl)) (fun _ _ _ h => h) (Or.inl ⟨by rfl,?_⟩) ?_ ?_
 rotate_left
 ·intro w'
  go_simp
  with_reducible rfl
 rotate_left
 ·simp only [Act.put,List.setIfInBounds_toArray,List.set_cons_zero,List.set_cons_succ,i64_w,i32_w]
  rfl
 refine pure_ (i := 22) (N := some 60) (v := ?_) (a' := ?_) #[true,true,true,true,true,true,true,true,true,true,true,true,true,true,true,true,true,true,true,true,true,false,true,false,false,false,false,false,false,false,false,false,false,false,false] rfl rfl (any_of HT_.out (by kernel_rfl)) (fun _ _ _ h => h) (Or.inl ⟨by rfl,?_⟩) ?_ ?_
 rotate_left
 ·intro w'
  go_simp
  with_reducible rfl
 rotate_left
 ·simp only [Act.put,List.setIfInBounds_toArray,List.set_cons_zero,List.set_cons_succ,i64_w,i32_w]
  rfl
 refine one_ (i := 21) (N := some 59) #[true,true,true,true,true,true,true,true,true,true,true,true,true,true,true,true,true,true,true,true,true,true,true,false,false,false,false,false,false,false,false,false,false,false,false] rfl rfl (one_of HT_.out (by kernel_rfl)) (by decide) (fun K hK => ?_)
 refine goes_ Try.func14 (by kernel_rfl) rfl #[.int .i64 t556] (by rfl) rfl rfl (by (try simp only [List.map_toArray,List.map_cons,List.map_nil]) <;> rfl) ?_
 with_reducible refine (l4_num.calls t556 t569 _ A15.out).mono ?_
 rintro e w' ⟨rfl,⟨nd,rfl⟩⟩
 refine ⟨_,rfl,?_⟩
 refine hK.out _ _ ⟨(blk_cell BK545.out 0).trans rfl,(blk_cell BK545.out 1).trans rfl,(blk_cell BK545.out 2).trans rfl,(blk_cell BK545.out 3).trans rfl,(own_string (P := Try.prog) Try.underlying27 Try.underlying5 Try.underlying9 (Kd.own_of_R HO551.out)),(own_string (P := Try.prog) Try.underlying27 Try.underlying5 Try.underlying9 (Kd.own_of_R HO559.out))⟩ (fun hHeld => ?_)
 clear hK K
 refine norm_ (a' := ?_) ?_ ?_
 rotate_left
 ·show Act.put _ (some 59) _ = _
  simp only [Act.put,List.setIfInBounds_toArray,List.set_cons_zero,List.set_cons_succ,i64_w,i32_w]
  rfl
 refine pure_ (i := 23) (N := some 61) (v := ?_) (a' := ?_) #[true,true,true,true,true,true,true,true,true,true,true,true,true,true,true,true,true,true,true,true,true,true,true,true,false,false,false,false,false,false,false,false,false,false,false] rfl rfl (any_of HT_.out (by kernel_rfl)) (fun _ _ _ h => h) (Or.inl ⟨by rfl,?_⟩) ?_ ?_
 rotate_left
 ·intro w'
  go_simp
  with_reducible rfl
 rotate_left
 ·simp only [Act.put,List.setIfInBounds_toArray,List.set_cons_zero,List.set_cons_succ,i64_w,i32_w]
  rfl
 refine pure_ (i := 24) (N := some 62) (v := ?_) (a' := ?_) #[true,true,true,true,true,true,true,true,true,true,true,true,true,true,true,true,true,true,true,true,true,true,true,true,true,false,false,false,false,false,false,false,false,false,false] rfl rfl (any_of HT_.out (by kernel_rfl)) (fun _ _ _ h => h) (Or.inl ⟨by rfl,?_⟩) ?_ ?_
 rotate_left
 ·intro w'
  go_simp
  with_reducible rfl
 rotate_left
 ·simp only [Act.put,List.setIfInBounds_toArray,List.set_cons_zero,List.set_cons_succ,i64_w,i32_w]
  rfl
 refine pure_ (i := 25) (N := some 63) (v := ?_) (a' := ?_) #[true,true,true,true,true,true,true,true,true,true,true,true,true,true,true,true,true,true,true,true,true,true,true,true,true,true,false,false,false,false,false,false,false,false,false] rfl rfl (any_of HT_.out (by kernel_rfl)) (fun _ _ _ h => h) (Or.inl ⟨by rfl,?_⟩) ?_ ?_
 rotate_left
 ·intro w'
  go_simp
  with_reducible rfl
 rotate_left
 ·simp only [Act.put,List.setIfInBounds_toArray,List.set_cons_zero,List.set_cons_succ,i64_w,i32_w]
  rfl
 refine pure_ (i := 26) (N := some 64) (v := ?_) (a' := ?_) #[true,true,true,true,true,true,true,true,true,true,true,true,true,true,true,true,true,true,true,true,true,true,true,true,true,true,true,false,false,false,false,false,false,false,false] rfl rfl (any_of HT_.out (by kernel_rfl)) (fun _ _ _ h => h) (Or.inl ⟨by rfl,?_⟩) ?_ ?_
 rotate_left
 ·intro w'
  go_simp
  with_reducible rfl
 rotate_left
 ·simp only [Act.put,List.setIfInBounds_toArray,List.set_cons_zero,List.set_cons_succ,i64_w,i32_w]
  rfl
 refine pure_ (i := 27) (N := some 65) (v := ?_) (a' := ?_) #[true,true,true,true,true,true,true,true,true,true,true,true,true,true,true,true,true,true,true,true,true,true,true,true,true,true,true,true,false,false,false,false,false,false,false] rfl rfl (any_of HT_.out (by kernel_rfl)) (fun _ _ _ h => h) (Or.inl ⟨by rfl,?_⟩) ?_ ?_
 rotate_left
 ·intro w'
  go_simp
  with_reducible rfl
 rotate_left
 ·simp only [Act.put,List.setIfInBounds_toArray,List.set_cons_zero,List.set_cons_succ,i64_w,i32_w]
  rfl
 refine one_ (i := 28) (N := some 66) #[true,true,true,true,true,true,true,true,true,true,true,true,true,true,true,true,true,true,true,true,true,true,true,true,true,true,true,true,true,false,false,false,false,false,false] rfl rfl (one_of HT_.out (by kernel_rfl)) (by decide) (fun K hK => ?_)
 refine goes_ Try.func15 (by kernel_rfl) rfl #[.slice Ao27 t546.length co27,.slice A1 l1.length c1] (by rfl) rfl rfl (by (try simp only [List.map_toArray,List.map_cons,List.map_nil]) <;> rfl) ?_
 with_reducible refine (l1_Stays.calls _ _ t546 _ _ l1 true _ ?side1 ?side2 ?side3 ?side4 A17.out).mono ?_
 (case side1 => exact Kd.L_any (d := Kd.int .u8) (mvL HO548.out))
 (case side2 => exact (Kd.L_reads' HO548.out).2.1)
 (case side3 => exact Kd.C_below HR1.out (mvh HB.out))
 (case side4 => exact HC1.out)
 rintro e w' ⟨rfl,⟨nd,rfl⟩⟩
 refine ⟨_,rfl,?_⟩
 refine hK.out _ _ ⟨(blk_cell BK545.out 0).trans rfl,(blk_cell BK545.out 1).trans rfl,(blk_cell BK545.out 2).trans rfl,(blk_cell BK545.out 3).trans rfl,(own_string (P := Try.prog) Try.underlying27 Try.underlying5 Try.underlying9 (Kd.own_of_R HO551.out)),(own_string (P := Try.prog) Try.underlying27 Try.underlying5 Try.underlying9 (Kd.own_of_R HO559.out))⟩ (fun hHeld => ?_)
 clear hK K
 refine norm_ (a' := ?_) ?_ ?_
 rotate_left
 ·show Act.put _ (some 66) _ = _
  simp only [Act.put,List.setIfInBounds_toArray,List.set_cons_zero,List.set_cons_succ,i64_w,i32_w]
  rfl
 refine pure_ (i := 29) (N := some 67) (v := ?_) (a' := ?_) #[true,true,true,true,true,true,true,true,true,true,true,true,true,true,true,true,true,true,true,true,true,true,true,true,true,true,true,true,true,true,false,false,false,false,false] rfl rfl (any_of HT_.out (by kernel_rfl)) (fun _ _ _ h => h) (Or.inl ⟨by rfl,?_⟩) ?_ ?_
 rotate_left
 ·intro w'
  go_simp
  with_reducible rfl
 rotate_left
 ·simp only [Act.put,List.setIfInBounds_toArray,List.set_cons_zero,List.set_cons_succ,i64_w,i32_w]
  rfl
 refine pure_ (i := 30) (N := some 68) (v := ?_) (a' := ?_) #[true,true,true,true,true,true,true,true,true,true,true,true,true,true,true,true,true,true,true,true,true,true,true,true,true,true,true,true,true,true,true,false,false,false,false] rfl rfl (any_of HT_.out (by kernel_rfl)) (fun _ _ _ h => h) (Or.inl ⟨by rfl,?_⟩) ?_ ?_
 rotate_left
 ·intro w'
  go_simp
  with_reducible rfl
 rotate_left
 ·simp only [Act.put,List.setIfInBounds_toArray,List.set_cons_zero,List.set_cons_succ,i64_w,i32_w]
  rfl
 refine pure_ (i := 31) (N := some 69) (v := ?_) (a' := ?_) #[true,true,true,true,true,true,true,true,true,true,true,true,true,true,true,true,true,true,true,true,true,true,true,true,true,true,true,true,true,true,true,true,false,false,false] rfl rfl (any_of HT_.out (by kernel_rfl)) (fun _ _ _ h => h) (Or.inl ⟨by rfl,?_⟩) ?_ ?_
 rotate_left
 ·intro w'
  go_simp
  with_reducible rfl
 rotate_left
 ·simp only [Act.put,List.setIfInBounds_toArray,List.set_cons_zero,List.set_cons_succ,i64_w,i32_w]
  rfl
 refine one_ (i := 32) (N := some 70) #[true,true,true,true,true,true,true,true,true,true,true,true,true,true,true,true,true,true,true,true,true,true,true,true,true,true,true,true,true,true,true,true,true,false,false] rfl rfl (one_of HT_.out (by kernel_rfl)) (by decide) (fun K hK => ?_)
 refine goes_ Try.func16 (by kernel_rfl) rfl #[] (by rfl) rfl rfl (by (try simp only [List.map_toArray,List.map_cons,List.map_nil]) <;> rfl) ?_
 with_reducible refine (l4_knows.calls k  true _ A19.out).mono ?_
 rintro e w41 ⟨rfl,hb⟩
 refine ⟨_,rfl,?_⟩
 have n0_ := aK (Kd.L_below (mvL HO548.out) hb)
 have n1_ := aK (Kd.R_below (mvR HO551.out) hb)
 have n2_ := aK (Kd.R_below (mvR HO555.out) hb)
 have n3_ := aK (Kd.R_below (mvR HO559.out) hb)
 have n4_ := aK (Kd.R_below (mvR HO563.out) hb)
 have n5_ := aK (kb BK545.out hb)
 have n6_ := aK (below_step (mvh HB.out) hb)
 clear HO548 HO551 HO555 HO559 HO563 BK545 HB
 have HO548 := n0_
 have HO551 := n1_
 have HO555 := n2_
 have HO559 := n3_
 have HO563 := n4_
 have BK545 := n5_
 have HB := n6_
 clear n0_ n1_ n2_ n3_ n4_ n5_ n6_
 (try clear hb)
 refine hK.out _ _ ⟨(blk_cell BK545.out 0).trans rfl,(blk_cell BK545.out 1).trans rfl,(blk_cell BK545.out 2).trans rfl,(blk_cell BK545.out 3).trans rfl,(own_string (P := Try.prog) Try.underlying27 Try.underlying5 Try.underlying9 (Kd.own_of_R HO551.out)),(own_string (P := Try.prog) Try.underlying27 Try.underlying5 Try.underlying9 (Kd.own_of_R HO559.out))⟩ (fun hHeld => ?_)
 clear hK K
 refine norm_ (a' := ?_) ?_ ?_
 rotate_left
 ·show Act.put _ (some 70) _ = _
  simp only [Act.put,List.setIfInBounds_toArray,List.set_cons_zero,List.set_cons_succ,i64_w,i32_w]
  rfl
 refine pure_ (i := 33) (N := some 71) (v := ?_) (a' := ?_) #[true,true,true,true,true,true,true,true,true,true,true,true,true,true,true,true,true,true,true,true,true,true,true,true,true,true,true,true,true,true,true,true,true,true,false] rfl rfl (any_of HT_.out (by kernel_rfl)) (fun _ _ _ h => h) (Or.inl ⟨by rfl,?_⟩) ?_ ?_
 rotate_left
 ·intro w'
  go_simp
  with_reducible rfl
 rotate_left
 ·simp only [Act.put,List.setIfInBounds_toArray,List.set_cons_zero,List.set_cons_succ,i64_w,i32_w]
  rfl
 refine pure_ (i := 34) (N := some 72) (v := ?_) (a' := ?_) #[true,true,true,true,true,true,true,true,true,true,true,true,true,true,true,true,true,true,true,true,true,true,true,true,true,true,true,true,true,true,true,true,true,true,true] rfl rfl (any_of HT_.out (by kernel_rfl)) (fun _ _ _ h => h) (Or.inl ⟨by rfl,?_⟩) ?_ ?_
 rotate_left
 ·intro w'
  go_simp
  with_reducible rfl
 rotate_left
 ·simp only [Act.put,List.setIfInBounds_toArray,List.set_cons_zero,List.set_cons_succ,i64_w,i32_w]
  rfl
 refine done_ (done_of HT_.out (by kernel_rfl)) ?_
 try go_wp2_with (first | ((with_reducible refine gate_callee (f := 23) rfl ?_); have n_ := aK (Kd.L_R HO548.out); clear HO548; have HO548 := n_; clear n_; refine goesL_ (some 74) rfl rfl Try.func23 (by kernel_rfl) rfl #[.slice Ao27 t546.length co27] rfl (by (try simp only [List.map_toArray,List.map_cons,List.map_nil]) <;> rfl) ?_; (with_reducible refine (l1_Spoil.calls k (fun k_ => some k_ = (.slice Ao27 t546.length co27 : Value).ownBlock) (.slice Ao27 t546.length co27) t546 t572 w _ ?side1 ?side2 A21.out).mono ?_); (case side1 => repeat (first | (with_reducible first | exact HB.out | apply below_alloc | apply pw_below_drewN | apply below_drew1 | refine below_set ?_ GE545.out) | exact HB.out)); (case side2 => exact Kd.R_tight rfl HO548.out); rintro e w42 ⟨rfl,hy0,hb,hkp⟩; refine ⟨_,rfl,?_⟩; have n0_ := aK (blk_kept (mvb BK545.out) hkp (fun hs_ => (fun e_ => (Kd.R_ne HO548.out BK545.out (by decide)) e_) hs_)); have n1_ := aK (Kd.R_reok rfl hy0 (fun k_ e_ => HO548.out.1 k_ e_)); have n2_ := aK (Kd.R_mono (ok' := fun k_ => some k_ ≠ (.slice Ao27 t546.length co27 : Value).ownBlock ∧ some k_ ≠ (v554 : Value).ownBlock ∧ some k_ ≠ (v558 : Value).ownBlock ∧ some k_ ≠ (v562 : Value).ownBlock) (Kd.R_keptB (HO551.out) hkp (fun k_ hk_ hs_ => by simp only [and_assoc,true_and] at hk_; first | exact hk_.1 hs_ | exact hk_.2.1 hs_)) (fun k_ hk_ => by simp only [and_assoc,true_and] at hk_; first | exact ⟨hk_.1,hk_.2.1,hk_.2.2.1,hk_.2.2.2.1⟩ | exact ⟨hk_.1,hk_.2.1,hk_.2.2.1,hk_.2.2.2⟩)); have n3_ := aK (Kd.R_mono (ok' := fun k_ => some k_ ≠ (.slice Ao27 t546.length co27 : Value).ownBlock ∧ some k_ ≠ (v550 : Value).ownBlock ∧ some k_ ≠ (v558 : Value).ownBlock ∧ some k_ ≠ (v562 : Value).ownBlock) (Kd.R_keptB (HO555.out) hkp (fun k_ hk_ hs_ => by simp only [and_assoc,true_and] at hk_; first | exact hk_.1 hs_ | exact hk_.2.1 hs_)) (fun k_ hk_ => by simp only [and_assoc,true_and] at hk_; first | exact ⟨hk_.1,hk_.2.1,hk_.2.2.1,hk_.2.2.2.1⟩ | exact ⟨hk_.1,hk_.2.1,hk_.2.2.1,hk_.2.2.2⟩)); have n4_ := aK (Kd.R_mono (ok' := fun k_ => some k_ ≠ (.slice Ao27 t546.length co27 : Value).ownBlock ∧ some k_ ≠ (v550 : Value).ownBlock ∧ some k_ ≠ (v554 : Value).ownBlock ∧ some k_ ≠ (v562 : Value).ownBlock) (Kd.R_keptB (HO559.out) hkp (fun k_ hk_ hs_ => by simp only [and_assoc,true_and] at hk_; first | exact hk_.1 hs_ | exact hk_.2.1 hs_)) (fun k_ hk_ => by simp only [and_assoc,true_and] at hk_; first | exact ⟨hk_.1,hk_.2.1,hk_.2.2.1,hk_.2.2.2.1⟩ | exact ⟨hk_.1,hk_.2.1,hk_.2.2.1,hk_.2.2.2⟩)); have n5_ := aK (Kd.R_mono (ok' := fun k_ => some k_ ≠ (.slice Ao27 t546.length co27 : Value).ownBlock ∧ some k_ ≠ (v550 : Value).ownBlock ∧ some k_ ≠ (v554 : Value).ownBlock ∧ some k_ ≠ (v558 : Value).ownBlock) (Kd.R_keptB (HO563.out) hkp (fun k_ hk_ hs_ => by simp only [and_assoc,true_and] at hk_; first | exact hk_.1 hs_ | exact hk_.2.1 hs_)) (fun k_ hk_ => by simp only [and_assoc,true_and] at hk_; first | exact ⟨hk_.1,hk_.2.1,hk_.2.2.1,hk_.2.2.2.1⟩ | exact ⟨hk_.1,hk_.2.1,hk_.2.2.1,hk_.2.2.2⟩)); have n6_ := aK (hb); clear BK545 HO548 HO551 HO555 HO559 HO563 HB; have BK545 := n0_; have HO548 := n1_; have HO551 := n2_; have HO555 := n3_; have HO559 := n4_; have HO563 := n5_; have HB := n6_; clear n0_ n1_ n2_ n3_ n4_ n5_ n6_; (try clear hb); (try clear hkp); (try clear hy0); have hcv43 := own_string (P := Try.prog) Try.underlying27 Try.underlying5 Try.underlying9 (Kd.own_of_R HO555.out); have hcv44 := fun n_ => own_string (P := Try.prog) Try.underlying27 Try.underlying5 Try.underlying9 (Kd.own_of_R (Kd.R_drewN HO555.out n_)); have hcv45 := own_string (P := Try.prog) Try.underlying27 Try.underlying5 Try.underlying9 (Kd.own_of_R HO563.out); have hcv46 := fun n_ => own_string (P := Try.prog) Try.underlying27 Try.underlying5 Try.underlying9 (Kd.own_of_R (Kd.R_drewN HO563.out n_))))
 go_ret
 exact ⟨by first | rfl | (simp [errW_none,errW_some] <;> rfl) | (simp [*,errW_none,errW_some] <;> rfl),mvh HB.out⟩
def l4_RM.Pure : Prop := ∀ (a0_0 : Int) (a0_1 : Int) (a0_2 : Int) (a0_3 : Int) (l1 : List Int),(Lit.int .i64 a0_0).wf = true → (Lit.int .u64 a0_1).wf = true → (Lit.int .i64 a0_2).wf = true → (Lit.int .i64 a0_3).wf = true → l1.length ≤ maxLen → l1.length * 1 ≤ 140737488351232 → (∀ x ∈ l1,(Lit.int .u8 x).wf = true) → ∃ k,l4_RM.f k a0_0 a0_1 a0_2 a0_3 l1 = some true
theorem l4_RM.walk (P : l4_RM.Pure) (a0_0 : Int) (a0_1 : Int) (a0_2 : Int) (a0_3 : Int) (a1 : Option Addr) (len1 cap1 : Nat) (z1 : List Int) (w : World) (w0_0 : (Lit.int .i64 a0_0).wf = true) (w0_1 : (Lit.int .u64 a0_1).wf = true) (w0_2 : (Lit.int .i64 a0_2).wf = true) (w0_3 : (Lit.int .i64 a0_3).wf = true) (w1 : (a1 = none ∧ len1 = 0 ∧ cap1 = 0 ∧ z1 = []) ∨ ∃ x,a1 = some x ∧ len1 ≤ cap1 ∧ cap1 ≤ maxLen ∧ z1.length = cap1 ∧ (∀ i,i < z1.length → w.cell? (x.add i) = some (.int .u8 (z1.getD i 0))) ∧ ∀ n ∈ z1,(Lit.int .u8 n).wf = true) (y1 : len1 * 1 ≤ 140737488351232) :
  Calls Try.prog 4 #[.agg #[.int .i64 a0_0,.int .u64 a0_1,.int .i64 a0_2,.int .i64 a0_3],.slice a1 len1 cap1] w fun e w' => e = .returned (.bool true) ∧ Below w.heap.size w w' := by
 obtain ⟨l1,rfl,hr1,hm1,hw1,hc1⟩ := ReadsInt.ofRowC w1
 obtain ⟨k,h⟩ := P a0_0 a0_1 a0_2 a0_3 l1 w0_0 w0_1 w0_2 w0_3 hm1 y1 hw1
 refine (l4_RM.calls k a0_0 a0_1 a0_2 a0_3 _ _ l1 true rfl w (Kd.C_of_reads (d := (0 : Int)) (h1 := fun _ => rfl) hr1) hc1 h).mono ?_
 rintro e w' ⟨rfl,hd⟩
 exact ⟨rfl,hd⟩


end Go.Proofs.Ytdhnjnkjhfomiaa.P

