import Derived.Test.YtdhnjnkjhfomiaaRlPx0
import Derived.Test.YtdhnjnkjhfomiaaRlPx1
import Derived.Test.YtdhnjnkjhfomiaaRlPx3
import Derived.Test.YtdhnjnkjhfomiaaRlPx5
import Derived.Test.YtdhnjnkjhfomiaaRlPx6
import Derived.Test.YtdhnjnkjhfomiaaRlPx11
import Derived.Test.YtdhnjnkjhfomiaaRlPx12
import Derived.Test.YtdhnjnkjhfomiaaRlPx13
import Derived.Test.YtdhnjnkjhfomiaaRlPx14
import Derived.Test.YtdhnjnkjhfomiaaRlPx17
import Derived.Test.YtdhnjnkjhfomiaaRlPx18
import Derived.Test.YtdhnjnkjhfomiaaRlQVstr
import Derived.Test.YtdhnjnkjhfomiaaRlPx60
-- written by mk.sh, a program of this session, over the kit's print
namespace Go.Proofs.Ytdhnjnkjhfomiaa.P
open Go.RowKit Go.Proofs.YtdhnjnkjhfomiaaW.PrintWords Go.Proofs.YtdhnjnkjhfomiaaW.PrintLast Go.Proofs.YtdhnjnkjhfomiaaW.PrintMore
attribute [local go_sem] max2_int min2_int max_two min_two max_three min_three max_four min_four   -- for this text's walks alone
set_option linter.unusedVariables false
set_option linter.unusedSimpArgs false

def l4_ReedsolLooks.f (k : Nat) (a0_0 : Int) (a0_1 : Int) (a0_2 : Int) (a0_3 : Int) (l1 : List Int) : Option (Bool) := (l1_Lent.f l1).bind fun t458 => ((reedsol_Syndromes.f k a0_0 a0_1 a0_2 a0_3 t458).bind fun bt461 => ((reedsol_Member.f k a0_0 a0_1 a0_2 a0_3 t458).bind fun bt465 => ((r4_Syndromes.f k a0_0 a0_1 a0_2 a0_3 l1).bind fun bt467 => ((r4_Member.f k a0_0 a0_1 a0_2 a0_3 l1).bind fun bt471 => (if (strOfNums bt461.1).toList = (strOfNums bt467.1).toList then ((l4_num.f bt461.2).bind fun t473 => (if t473 = bt467.2 then (if (bt465.1 == bt471.1) = true then ((l4_num.f bt465.2).bind fun t474 => (if t474 = bt471.2 then ((l1_Stays.f t458 l1).bind fun t475 => (if t475 = true then ((l4_knows.f k).bind fun t476 => (some t476)) else (some false))) else (some false))) else (some false)) else (some false))) else (some false))))))
theorem l4_ReedsolLooks.mono : ∀ a0 a1 a2 a3 a4 k, LeO (l4_ReedsolLooks.f k a0 a1 a2 a3 a4) (l4_ReedsolLooks.f (k + 1) a0 a1 a2 a3 a4) := by
 intro a0 a1 a2 a3 a4 k
 unfold l4_ReedsolLooks.f
 repeat' first
   | (with_reducible exact l4_knows.mono _)
   | (with_reducible exact r4_Member.mono _ _ _ _ _ _)
   | (with_reducible exact r4_Syndromes.mono _ _ _ _ _ _)
   | (with_reducible exact reedsol_Member.mono _ _ _ _ _ _)
   | (with_reducible exact reedsol_Syndromes.mono _ _ _ _ _ _)
   | (with_reducible exact LeO.refl _)
   | (with_reducible exact LeO.none _)
   | (with_reducible refine LeO.ite ?_ ?_)
   | (with_reducible refine LeO.bind ?_ (fun _ => ?_))
theorem l4_ReedsolLooks.no_false {r : Bool} {G : Prop} (hr : r = true) (h : some false = some r) : G := by
 subst hr
 cases h
set_option maxHeartbeats 8000000 in
set_option maxRecDepth 100000 in
theorem l4_ReedsolLooks.calls (k : Nat) (a0_0 : Int) (a0_1 : Int) (a0_2 : Int) (a0_3 : Int) (A1 : Option Addr) (c1 : Nat) (l1 : List Int) (r : Bool) (hr9_ : r = true) (w : World) (hr1 : Kd.C (Kd.int .u8) w A1 l1.length l1) (hc1 : l1.length ≤ c1) (h : l4_ReedsolLooks.f k a0_0 a0_1 a0_2 a0_3 l1 = some r) :
  Calls Try.prog 3 #[.agg #[.int .i64 a0_0, .int .u64 a0_1, .int .i64 a0_2, .int .i64 a0_3], .slice A1 l1.length c1] w fun e w' => e = .returned (.bool r) ∧ Below w.heap.size w w' := by
 have HR9_ := Aside0.mk hr9_
 clear hr9_
 have hu26 := Try.underlying26
 have HR1 := Aside0.mk hr1
 have HC1 := Aside0.mk hc1
 clear hr1 hc1
 have HB := aK (Below.refl w.heap.size w)
 have H : ((l1_Lent.f l1).bind fun t458 => ((reedsol_Syndromes.f k a0_0 a0_1 a0_2 a0_3 t458).bind fun bt461 => ((reedsol_Member.f k a0_0 a0_1 a0_2 a0_3 t458).bind fun bt465 => ((r4_Syndromes.f k a0_0 a0_1 a0_2 a0_3 l1).bind fun bt467 => ((r4_Member.f k a0_0 a0_1 a0_2 a0_3 l1).bind fun bt471 => (if (strOfNums bt461.1).toList = (strOfNums bt467.1).toList then ((l4_num.f bt461.2).bind fun t473 => (if t473 = bt467.2 then (if (bt465.1 == bt471.1) = true then ((l4_num.f bt465.2).bind fun t474 => (if t474 = bt471.2 then ((l1_Stays.f t458 l1).bind fun t475 => (if t475 = true then ((l4_knows.f k).bind fun t476 => (some t476)) else (some false))) else (some false))) else (some false)) else (some false))) else (some false))))))) = some r := h
 clear h
 replace H := Option.bind_eq_some_iff.mp H
 obtain ⟨t458, A30, H⟩ := H
 try dsimp only at H
 have A3 := Aside0.mk A30
 clear A30
 replace H := Option.bind_eq_some_iff.mp H
 obtain ⟨⟨t461, t464⟩, A40, H⟩ := H
 try dsimp only at H
 have A4 := Aside0.mk A40
 clear A40
 replace H := Option.bind_eq_some_iff.mp H
 obtain ⟨⟨t465, t466⟩, A50, H⟩ := H
 try dsimp only at H
 have A5 := Aside0.mk A50
 clear A50
 replace H := Option.bind_eq_some_iff.mp H
 obtain ⟨⟨t467, t470⟩, A60, H⟩ := H
 try dsimp only at H
 have A6 := Aside0.mk A60
 clear A60
 replace H := Option.bind_eq_some_iff.mp H
 obtain ⟨⟨t471, t472⟩, A70, H⟩ := H
 try dsimp only at H
 have A7 := Aside0.mk A70
 clear A70
 by_cases c8 : (strOfNums t461).toList = (strOfNums t467).toList
 rotate_left
 ·rw [if_neg c8] at H
  exact l4_ReedsolLooks.no_false HR9_.out H
 rw [if_pos c8] at H
 have c8b0 : ((strOfNums t461).toList == (strOfNums t467).toList) = true := beq_iff_eq.mpr c8
 have c8b1 : ((strOfNums t461).toList != (strOfNums t467).toList) = false := bne_eq_false_iff_eq.mpr c8
 clear c8
 replace H := Option.bind_eq_some_iff.mp H
 obtain ⟨t473, A90, H⟩ := H
 try dsimp only at H
 have A9 := Aside0.mk A90
 clear A90
 by_cases c10 : t473 = t470
 rotate_left
 ·rw [if_neg c10] at H
  exact l4_ReedsolLooks.no_false HR9_.out H
 rw [if_pos c10] at H
 have c10b0 : (t473 == t470) = true := beq_iff_eq.mpr c10
 have c10b1 : (t473 != t470) = false := bne_eq_false_iff_eq.mpr c10
 clear c10
 by_cases c11 : (t465 == t471) = true
 rotate_left
 ·rw [if_neg c11] at H
  exact l4_ReedsolLooks.no_false HR9_.out H
 rw [if_pos c11] at H
 have c11b0 : (t465 == t471) = true := c11
 (try (have c11b1 : decide (t465 = t471) = true := by simpa using c11))
 (try (have c11b2 : (t465 == t471) = true := by simpa using c11))
 clear c11
 replace H := Option.bind_eq_some_iff.mp H
 obtain ⟨t474, A120, H⟩ := H
 try dsimp only at H
 have A12 := Aside0.mk A120
 clear A120
 by_cases c13 : t474 = t472
 rotate_left
 ·rw [if_neg c13] at H
  exact l4_ReedsolLooks.no_false HR9_.out H
 rw [if_pos c13] at H
 have c13b0 : (t474 == t472) = true := beq_iff_eq.mpr c13
 have c13b1 : (t474 != t472) = false := bne_eq_false_iff_eq.mpr c13
 clear c13
 replace H := Option.bind_eq_some_iff.mp H
 obtain ⟨t475, A140, H⟩ := H
 try dsimp only at H
 have A14 := Aside0.mk A140
 clear A140
 by_cases c15 : t475 = true
 rotate_left
 ·replace c15 := Bool.eq_false_iff.mpr c15
  exact l4_ReedsolLooks.no_false HR9_.out ((if_neg (c := t475 = true) (by rw [c15]; exact Bool.false_ne_true)).symm.trans H)
 subst c15
 have H1 : ((l4_knows.f k).bind fun t476 => (some t476)) = some r := by rw [if_pos rfl] at H; exact H
 clear H
 have H := H1
 clear H1
 replace H := Option.bind_eq_some_iff.mp H
 obtain ⟨t476, A160, H⟩ := H
 replace H : (some t476) = some r := H
 have A16 := Aside0.mk A160
 clear A160
 obtain rfl := Option.some.inj H
 go_enter Try.func3, Try.ntmps3
 go_wp2_with (first | ((with_reducible refine gate_dst (N := 2) rfl ?_); refine box_event ?hg (N := 2) ?hd (cs := #[.int .i64 a0_0, .int .u64 a0_1, .int .i64 a0_2, .int .i64 a0_3]) (t := 26) ?hr ?_; (case hd => rfl); (case hg => rfl); (case hr => first | (go_simp; done) | (go_simp; rfl)); intro gb457 hg w17 hbox hb; have n0_ := aK (below_step (mvh HB.out) hb); have n1_ := aK (hbox); have n2_ := aK ((by rw [hg]; exact (below_size (mvh HB.out)) : w.heap.size ≤ gb457)); have n3_ := aK ((by rw [hg]; exact (below_size (mvh HB.out)) : w.heap.size ≤ gb457)); clear HB; have HB := n0_; have BK457 := n1_; have GW457 := n2_; have GE457 := n3_; clear n0_ n1_ n2_ n3_; clear hb hbox hg) | (go_at_call 9; (with_reducible refine (l1_Lent.calls _ _ l1 t458 _ ?side1 ?side2 A3.out).mono ?_); (case side1 => exact Kd.C_below HR1.out (mvh HB.out)); (case side2 => exact HC1.out); rintro e w18 ⟨v459, rfl, ho0, hb⟩; have n0_ := aK (Kd.L_lower ho0 (below_size (mvh HB.out))); have n1_ := aK (kb BK457.out hb); have n2_ := aK (below_step (mvh HB.out) hb); clear BK457 HB; have HO460 := n0_; have BK457 := n1_; have HB := n2_; clear n0_ n1_ n2_; (try clear hb); (try clear ho0); obtain ⟨hcz19_0, hcz19_1, hcz19_2, hcz19_3, hfz19_0, hfz19_1, hfz19_2, hfz19_3⟩ := cf4 BK457.out; obtain ⟨Ao20, co20, eo20⟩ := Kd.L_slice HO460.out; subst eo20) | (go_at_call 10; (with_reducible refine (reedsol_Syndromes.calls k a0_0 a0_1 a0_2 a0_3 _ _ t458 t461 t464 _ ?side1 ?side2 A4.out).mono ?_); (case side1 => exact mvC (Kd.L_reads' HO460.out).2.2); (case side2 => exact (Kd.L_reads' HO460.out).2.1); rintro e w21 ⟨v462, rfl, ho0, hb⟩; have n0_ := aK (Kd.L_elder' (mvL HO460.out) (Kd.R_base ho0) hb); have n1_ := aK (Kd.R_lower (Kd.R_new' ho0 (Kd.L_lt (mvL HO460.out))) (below_size (mvh HB.out))); have n2_ := aK (kb BK457.out hb); have n3_ := aK (below_step (mvh HB.out) hb); clear HO460 BK457 HB; have HO460 := n0_; have HO463 := n1_; have BK457 := n2_; have HB := n3_; clear n0_ n1_ n2_ n3_; (try clear hb); (try clear ho0); obtain ⟨hcz22_0, hcz22_1, hcz22_2, hcz22_3, hfz22_0, hfz22_1, hfz22_2, hfz22_3⟩ := cf4 BK457.out) | (go_at_call 11; (with_reducible refine (reedsol_Member.calls k a0_0 a0_1 a0_2 a0_3 _ _ t458 t465 t466 _ ?side1 ?side2 A5.out).mono ?_); (case side1 => exact mvC (Kd.L_reads' HO460.out).2.2); (case side2 => exact (Kd.L_reads' HO460.out).2.1); rintro e w23 ⟨rfl, hb⟩; have n0_ := aK (Kd.L_below (mvL HO460.out) hb); have n1_ := aK (Kd.R_below (mvR HO463.out) hb); have n2_ := aK (kb BK457.out hb); have n3_ := aK (below_step (mvh HB.out) hb); clear HO460 HO463 BK457 HB; have HO460 := n0_; have HO463 := n1_; have BK457 := n2_; have HB := n3_; clear n0_ n1_ n2_ n3_; (try clear hb); obtain ⟨hcz24_0, hcz24_1, hcz24_2, hcz24_3, hfz24_0, hfz24_1, hfz24_2, hfz24_3⟩ := cf4 BK457.out) | (go_at_call 12; (with_reducible refine (r4_Syndromes.calls k a0_0 a0_1 a0_2 a0_3 _ _ l1 t467 t470 _ ?side1 ?side2 A6.out).mono ?_); (case side1 => exact Kd.C_below HR1.out (mvh HB.out)); (case side2 => exact HC1.out); rintro e w25 ⟨v468, rfl, ho0, hb⟩; have n0_ := aK (Kd.L_elder' (mvL HO460.out) (Kd.R_base ho0) hb); have n1_ := aK (Kd.R_elder' (mvR HO463.out) (Kd.R_base ho0) hb); have n2_ := aK (Kd.R_lower (Kd.R_new' (Kd.R_new' ho0 (Kd.L_lt (mvL HO460.out))) (Kd.R_lt (mvR HO463.out))) (below_size (mvh HB.out))); have n3_ := aK (kb BK457.out hb); have n4_ := aK (below_step (mvh HB.out) hb); clear HO460 HO463 BK457 HB; have HO460 := n0_; have HO463 := n1_; have HO469 := n2_; have BK457 := n3_; have HB := n4_; clear n0_ n1_ n2_ n3_ n4_; (try clear hb); (try clear ho0); obtain ⟨hcz26_0, hcz26_1, hcz26_2, hcz26_3, hfz26_0, hfz26_1, hfz26_2, hfz26_3⟩ := cf4 BK457.out) | (go_at_call 13; (with_reducible refine (r4_Member.calls k a0_0 a0_1 a0_2 a0_3 _ _ l1 t471 t472 _ ?side1 ?side2 A7.out).mono ?_); (case side1 => exact Kd.C_below HR1.out (mvh HB.out)); (case side2 => exact HC1.out); rintro e w27 ⟨rfl, hb⟩; have n0_ := aK (Kd.L_below (mvL HO460.out) hb); have n1_ := aK (Kd.R_below (mvR HO463.out) hb); have n2_ := aK (Kd.R_below (mvR HO469.out) hb); have n3_ := aK (kb BK457.out hb); have n4_ := aK (below_step (mvh HB.out) hb); clear HO460 HO463 HO469 BK457 HB; have HO460 := n0_; have HO463 := n1_; have HO469 := n2_; have BK457 := n3_; have HB := n4_; clear n0_ n1_ n2_ n3_ n4_; (try clear hb); have hcv28 := own_string (P := Try.prog) Try.underlying27 Try.underlying5 Try.underlying9 (Kd.own_of_R HO463.out); have hcv29 := fun n_ => own_string (P := Try.prog) Try.underlying27 Try.underlying5 Try.underlying9 (Kd.own_of_R (Kd.R_drewN HO463.out n_)); have hcv30 := own_string (P := Try.prog) Try.underlying27 Try.underlying5 Try.underlying9 (Kd.own_of_R HO469.out); have hcv31 := fun n_ => own_string (P := Try.prog) Try.underlying27 Try.underlying5 Try.underlying9 (Kd.own_of_R (Kd.R_drewN HO469.out n_))) | (go_at_call 14; (with_reducible refine (l4_num.calls t464 t473 _ A9.out).mono ?_); rintro e w' ⟨rfl, ⟨nd, rfl⟩⟩) | (go_at_call 14; (with_reducible refine (l4_num.calls t466 t474 _ A12.out).mono ?_); rintro e w' ⟨rfl, ⟨nd, rfl⟩⟩) | (go_at_call 15; (with_reducible refine (l1_Stays.calls _ _ t458 _ _ l1 true _ ?side1 ?side2 ?side3 ?side4 A14.out).mono ?_); (case side1 => exact Kd.L_any (d := Kd.int .u8) (mvL HO460.out)); (case side2 => exact (Kd.L_reads' HO460.out).2.1); (case side3 => exact Kd.C_below HR1.out (mvh HB.out)); (case side4 => exact HC1.out); rintro e w' ⟨rfl, ⟨nd, rfl⟩⟩) | (go_at_call 16; (with_reducible refine (l4_knows.calls k  t476 _ A16.out).mono ?_); rintro e w32 ⟨rfl, hb⟩; have n0_ := aK (Kd.L_below (mvL HO460.out) hb); have n1_ := aK (Kd.R_below (mvR HO463.out) hb); have n2_ := aK (Kd.R_below (mvR HO469.out) hb); have n3_ := aK (kb BK457.out hb); have n4_ := aK (below_step (mvh HB.out) hb); clear HO460 HO463 HO469 BK457 HB; have HO460 := n0_; have HO463 := n1_; have HO469 := n2_; have BK457 := n3_; have HB := n4_; clear n0_ n1_ n2_ n3_ n4_; (try clear hb)))
 go_ret
 exact ⟨by first | rfl | (simp [errW_none, errW_some] <;> rfl) | (simp [*, errW_none, errW_some] <;> rfl), mvh HB.out⟩
/-- THE ONE PURE STATEMENT of l4_ReedsolLooks: yours. -/
def l4_ReedsolLooks.Pure : Prop := ∀ (a0_0 : Int) (a0_1 : Int) (a0_2 : Int) (a0_3 : Int) (l1 : List Int), (Lit.int .i64 a0_0).wf = true → (Lit.int .u64 a0_1).wf = true → (Lit.int .i64 a0_2).wf = true → (Lit.int .i64 a0_3).wf = true → l1.length ≤ maxLen → l1.length * 1 ≤ 140737488351232 → (∀ x ∈ l1, (Lit.int .u8 x).wf = true) → ∃ k, l4_ReedsolLooks.f k a0_0 a0_1 a0_2 a0_3 l1 = some true
theorem l4_ReedsolLooks.walk (P : l4_ReedsolLooks.Pure) (a0_0 : Int) (a0_1 : Int) (a0_2 : Int) (a0_3 : Int) (a1 : Option Addr) (len1 cap1 : Nat) (z1 : List Int) (w : World) (w0_0 : (Lit.int .i64 a0_0).wf = true) (w0_1 : (Lit.int .u64 a0_1).wf = true) (w0_2 : (Lit.int .i64 a0_2).wf = true) (w0_3 : (Lit.int .i64 a0_3).wf = true) (w1 : (a1 = none ∧ len1 = 0 ∧ cap1 = 0 ∧ z1 = []) ∨ ∃ x, a1 = some x ∧ len1 ≤ cap1 ∧ cap1 ≤ maxLen ∧ z1.length = cap1 ∧ (∀ i, i < z1.length → w.cell? (x.add i) = some (.int .u8 (z1.getD i 0))) ∧ ∀ n ∈ z1, (Lit.int .u8 n).wf = true) (y1 : len1 * 1 ≤ 140737488351232) :
  Calls Try.prog 3 #[.agg #[.int .i64 a0_0, .int .u64 a0_1, .int .i64 a0_2, .int .i64 a0_3], .slice a1 len1 cap1] w fun e w' => e = .returned (.bool true) ∧ Below w.heap.size w w' := by
 obtain ⟨l1, rfl, hr1, hm1, hw1, hc1⟩ := ReadsInt.ofRowC w1
 obtain ⟨k, h⟩ := P a0_0 a0_1 a0_2 a0_3 l1 w0_0 w0_1 w0_2 w0_3 hm1 y1 hw1
 refine (l4_ReedsolLooks.calls k a0_0 a0_1 a0_2 a0_3 _ _ l1 true rfl w (Kd.C_of_reads (d := (0 : Int)) (h1 := fun _ => rfl) hr1) hc1 h).mono ?_
 rintro e w' ⟨rfl, hd⟩
 exact ⟨rfl, hd⟩



end Go.Proofs.Ytdhnjnkjhfomiaa.P

-- squeezed
