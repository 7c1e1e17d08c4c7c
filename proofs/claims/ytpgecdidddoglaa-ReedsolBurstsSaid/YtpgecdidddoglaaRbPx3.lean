-- written by mk.sh, a program of this session, over the kit's print
import Derived.Test.YtpgecdidddoglaaRbQAux
import Derived.Test.YtpgecdidddoglaaRbPx0
import Derived.Test.YtpgecdidddoglaaRbPx2
namespace Go.Proofs.Ytpgecdidddoglaa.P
open Go.RowKit Go.Proofs.YtpgecdidddoglaaW.PrintWords Go.Proofs.YtpgecdidddoglaaW.PrintLast Go.Proofs.YtpgecdidddoglaaW.PrintMore
attribute [local go_sem] max2_int min2_int max_two min_two max_three min_three max_four min_four   -- for this text's walks alone
set_option linter.unusedVariables false
set_option linter.unusedSimpArgs false

def r4_Check.f (k : Nat) (a0_0 : Int) (a0_1 : Int) (a0_2 : Int) (a0_3 : Int) : Option (Int) := (r3_Check.f k a0_0 a0_1).bind fun t147 => (if t147 = 0 then (if a0_2 < 0 then (some 330) else ((r4_q1.f a0_0 a0_1).bind fun t148 => (if a0_2 > (wrap64 (t148 - 1)) then (some 330) else (if a0_3 < 1 then (some 330) else ((r4_q1.f a0_0 a0_1).bind fun t149 => (if a0_3 > (wrap64 (t149 - 1)) then (some 330) else (some 0))))))) else (some t147))
theorem r4_Check.mono : ∀ a0 a1 a2 a3 k,LeO (r4_Check.f k a0 a1 a2 a3) (r4_Check.f (k + 1) a0 a1 a2 a3) := by
 intro a0 a1 a2 a3 k
 unfold r4_Check.f
 repeat' with_reducible first
   | exact r3_Check.mono _ _ _
   | exact LeO.refl _
   | exact LeO.none _
   | refine LeO.ite ?_ ?_
   | refine LeO.bind ?_ (fun _ => ?_)
def r4_Check.T4 : Bool × List (List Nat × List Nat) := (true,[([],[]),([0],[0]),([1],[1]),([2],[2]),([3],[3]),([4,3],[3,4]),([3],[3]),([6,3],[3,6]),([7,3,3],[3,7]),([8,3],[3,8]),([5,9,3],[3,5,9]),([3,10],[3,10]),([11,8],[11]),([12],[12]),([13,12],[12,13]),([14,12],[12,14]),([12,15],[12,15]),([16,12],[16]),([17],[17]),([18,17],[17,18]),([17],[17]),([20,17],[17,20]),([21,17,17],[17,21]),([22,17],[17,22]),([19,23,17],[17,19,23]),([17,24],[17,24])])
def r4_Check.B4 : List Nat := [0,1,3,7,15,31,15,79,207,463,1023,2047,4095,8191,16383,32767,65535,131071,262143,524287,262143,1310719,3407871,7602175,16777215,33554431]
theorem r4_Check.tab4 : rtab .any (opsOf Try.f7 4) = r4_Check.T4 := by kernel_rfl
theorem r4_Check.bits4 : waitsOk r4_Check.T4.2 r4_Check.B4 = true := by kernel_rfl
set_option maxHeartbeats 8000000 in
set_option maxRecDepth 100000 in
theorem r4_Check.calls (k : Nat) (a0_0 : Int) (a0_1 : Int) (a0_2 : Int) (a0_3 : Int) (r : Int) (w : World) (h : r4_Check.f k a0_0 a0_1 a0_2 a0_3 = some r) :
  Calls Try.prog 7 #[.agg #[.int .i64 a0_0,.int .u64 a0_1,.int .i64 a0_2,.int .i64 a0_3]] w fun e w' => e = .returned (.int .i64 r) ∧ Below w.heap.size w w' := by
 have hu26 := Try.underlying26
 have hu24 := Try.underlying24
 have HB := aK (Below.refl w.heap.size w)
 have H : ((r3_Check.f k a0_0 a0_1).bind fun t147 => (if t147 = 0 then (if a0_2 < 0 then (some 330) else ((r4_q1.f a0_0 a0_1).bind fun t148 => (if a0_2 > (wrap64 (t148 - 1)) then (some 330) else (if a0_3 < 1 then (some 330) else ((r4_q1.f a0_0 a0_1).bind fun t149 => (if a0_3 > (wrap64 (t149 - 1)) then (some 330) else (some 0))))))) else (some t147))) = some r := h
 clear h
 replace H := Option.bind_eq_some_iff.mp H
 obtain ⟨t147,A20,H⟩ := H
 try dsimp only at H
 have A2 := Aside0.mk A20
 clear A20
 by_cases c3 : t147 = 0
 rotate_left
 ·rw [if_neg c3] at H
  have c3b0 : (t147 == 0) = false := beq_eq_false_iff_ne.mpr c3
  have c3b1 : (t147 != 0) = true := bne_iff_ne.mpr c3
  obtain rfl := Option.some.inj H
  go_enter Try.func7,Try.ntmps7
  go_wp2_with (first | ((with_reducible refine gate_dst (N := 1) rfl ?_); refine box_event ?hg (N := 1) ?hd (cs := #[.int .i64 a0_0,.int .u64 a0_1,.int .i64 a0_2,.int .i64 a0_3]) (t := 26) ?hr ?_; (case hd => rfl); (case hg => rfl); (case hr => first | (go_simp; done) | (go_simp; rfl)); intro gb146 hg w36 hbox hb; have BK146 := aK (hbox); have GW146 := aK ((by rw [hg]; exact (below_size (mvh HB.out)) : w.heap.size ≤ gb146)); have GE146 := aK ((by rw [hg]; exact (below_size (mvh HB.out)) : w.heap.size ≤ gb146)); replace HB := aK (below_step (mvh HB.out) hb); clear hb hbox hg; obtain ⟨hcz37_0,hcz37_1,hcz37_2,hcz37_3,hfz37_0,hfz37_1,hfz37_2,hfz37_3⟩ := cf4 BK146.out) | (go_at_call 23; (with_reducible refine (r3_Check.calls k a0_0 a0_1 t147 _ A2.out).mono ?_); rintro e w38 ⟨rfl,hb⟩; replace BK146 := aK (kb BK146.out hb); replace HB := aK (below_step (mvh HB.out) hb); (try clear hb)))
  go_ret
  exact ⟨by first | rfl | (simp [errW_none,errW_some] <;> rfl) | (simp [*,errW_none,errW_some] <;> rfl),mvh HB.out⟩

 rw [if_pos c3] at H
 have c3b0 : (t147 == 0) = true := beq_iff_eq.mpr c3
 have c3b1 : (t147 != 0) = false := bne_eq_false_iff_eq.mpr c3
 clear c3
 by_cases c4 : a0_2 < 0
 ·rw [if_pos c4] at H
  have c4b0 : decide (a0_2 < 0) = true := decide_eq_true c4
  clear c4
  obtain rfl := Option.some.inj H
  go_enter Try.func7,Try.ntmps7
  try go_wp2_with (first | ((with_reducible refine gate_dst (N := 1) rfl ?_); refine box_event ?hg (N := 1) ?hd (cs := #[.int .i64 a0_0,.int .u64 a0_1,.int .i64 a0_2,.int .i64 a0_3]) (t := 26) ?hr ?_; (case hd => rfl); (case hg => rfl); (case hr => first | (go_simp; done) | (go_simp; rfl)); intro gb146 hg w5 hbox hb; have BK146 := aK (hbox); have GW146 := aK ((by rw [hg]; exact (below_size (mvh HB.out)) : w.heap.size ≤ gb146)); have GE146 := aK ((by rw [hg]; exact (below_size (mvh HB.out)) : w.heap.size ≤ gb146)); replace HB := aK (below_step (mvh HB.out) hb); clear hb hbox hg; obtain ⟨hcz6_0,hcz6_1,hcz6_2,hcz6_3,hfz6_0,hfz6_1,hfz6_2,hfz6_3⟩ := cf4 BK146.out) | (go_at_call 23; (with_reducible refine (r3_Check.calls k a0_0 a0_1 t147 _ A2.out).mono ?_); rintro e w7 ⟨rfl,hb⟩; replace BK146 := aK (kb BK146.out hb); replace HB := aK (below_step (mvh HB.out) hb); (try clear hb)))
  have n0_ := aK (blk_drew BK146.out)
  have n1_ := aK (below_drew1 HB.out)
  clear BK146 HB
  have BK146 := n0_
  have HB := n1_
  clear n0_ n1_
  refine start_ (n := 26) (S := fun w' => w'.cell? ⟨gb146,0,none⟩ = some (.int .i64 a0_0) ∧ w'.cell? ⟨gb146,1,none⟩ = some (.int .u64 a0_1) ∧ w'.cell? ⟨gb146,2,none⟩ = some (.int .i64 a0_2) ∧ w'.cell? ⟨gb146,3,none⟩ = some (.int .i64 a0_3)) (ds := []) (bts 26 0) (by kernel_rfl) rfl rfl ⟨(blk_cell BK146.out 0).trans rfl,(blk_cell BK146.out 1).trans rfl,(blk_cell BK146.out 2).trans rfl,(blk_cell BK146.out 3).trans rfl⟩ (fun hHeld => ?_); refine with_tabW r4_Check.tab4 r4_Check.bits4 (fun HT_ HW_ => ?_)
  generalize w7.drew = w8 at BK146 HB hHeld ⊢
  refine pu_ 0 10 26 1 HT_.out ?_; refine ta_ 1 11 26 3 rfl rfl HT_.out HW_.out hHeld (by rintro w' ⟨s0,s1,s2,s3⟩; go_simp; with_reducible rfl) ?_; refine pu_ 2 12 26 7 HT_.out ?_; refine pu_ 3 13 26 15 HT_.out ?_; refine pn_ 4 14 26 31 HT_.out ?_; refine pn_ 5 15 26 63 HT_.out ?_; refine pn_ 6 16 26 127 HT_.out ?_; refine pn_ 7 17 26 255 HT_.out ?_; refine pn_ 8 18 26 511 HT_.out ?_; refine pn_ 9 19 26 1023 HT_.out ?_; refine pn_ 10 20 26 2047 HT_.out ?_; refine pu_ 11 21 26 4095 HT_.out ?_; refine pu_ 12 22 26 8191 HT_.out ?_; refine pn_ 13 23 26 16383 HT_.out ?_; refine pn_ 14 24 26 32767 HT_.out ?_; refine pn_ 15 25 26 65535 HT_.out ?_; refine pu_ 16 26 26 131071 HT_.out ?_; refine pu_ 17 27 26 262143 HT_.out ?_; refine pn_ 18 28 26 524287 HT_.out ?_; refine pn_ 19 29 26 1048575 HT_.out ?_; refine pn_ 20 30 26 2097151 HT_.out ?_; refine pn_ 21 31 26 4194303 HT_.out ?_; refine pn_ 22 32 26 8388607 HT_.out ?_; refine pn_ 23 33 26 16777215 HT_.out ?_; refine pn_ 24 34 26 33554431 HT_.out ?_; refine pu_ 25 35 26 67108863 HT_.out ?_
  refine done_ (done_of HT_.out (by kernel_rfl)) ?_
  try go_wp2
  go_ret
  exact ⟨by first | rfl | (simp [errW_none,errW_some] <;> rfl) | (simp [*,errW_none,errW_some] <;> rfl),mvh HB.out⟩
 ·rw [if_neg c4] at H
  have c4b0 : decide (a0_2 < 0) = false := decide_eq_false c4
  clear c4
  replace H := Option.bind_eq_some_iff.mp H
  obtain ⟨t148,A90,H⟩ := H
  try dsimp only at H
  have A9 := Aside0.mk A90
  clear A90
  by_cases c10 : a0_2 > (wrap64 (t148 - 1))
  ·rw [if_pos c10] at H
   have c10b0 : decide ((wrap64 (t148 - 1)) < a0_2) = true := decide_eq_true c10
   clear c10
   obtain rfl := Option.some.inj H
   go_enter Try.func7,Try.ntmps7
   try go_wp2_with (first | ((with_reducible refine gate_dst (N := 1) rfl ?_); refine box_event ?hg (N := 1) ?hd (cs := #[.int .i64 a0_0,.int .u64 a0_1,.int .i64 a0_2,.int .i64 a0_3]) (t := 26) ?hr ?_; (case hd => rfl); (case hg => rfl); (case hr => first | (go_simp; done) | (go_simp; rfl)); intro gb146 hg w11 hbox hb; have BK146 := aK (hbox); have GW146 := aK ((by rw [hg]; exact (below_size (mvh HB.out)) : w.heap.size ≤ gb146)); have GE146 := aK ((by rw [hg]; exact (below_size (mvh HB.out)) : w.heap.size ≤ gb146)); replace HB := aK (below_step (mvh HB.out) hb); clear hb hbox hg; obtain ⟨hcz12_0,hcz12_1,hcz12_2,hcz12_3,hfz12_0,hfz12_1,hfz12_2,hfz12_3⟩ := cf4 BK146.out) | (go_at_call 23; (with_reducible refine (r3_Check.calls k a0_0 a0_1 t147 _ A2.out).mono ?_); rintro e w13 ⟨rfl,hb⟩; replace BK146 := aK (kb BK146.out hb); replace HB := aK (below_step (mvh HB.out) hb); (try clear hb)))
   have n0_ := aK (blk_drew BK146.out)
   have n1_ := aK (below_drew1 HB.out)
   clear BK146 HB
   have BK146 := n0_
   have HB := n1_
   clear n0_ n1_
   refine start_ (n := 26) (S := fun w' => w'.cell? ⟨gb146,0,none⟩ = some (.int .i64 a0_0) ∧ w'.cell? ⟨gb146,1,none⟩ = some (.int .u64 a0_1) ∧ w'.cell? ⟨gb146,2,none⟩ = some (.int .i64 a0_2) ∧ w'.cell? ⟨gb146,3,none⟩ = some (.int .i64 a0_3)) (ds := []) (bts 26 0) (by kernel_rfl) rfl rfl ⟨(blk_cell BK146.out 0).trans rfl,(blk_cell BK146.out 1).trans rfl,(blk_cell BK146.out 2).trans rfl,(blk_cell BK146.out 3).trans rfl⟩ (fun hHeld => ?_); refine with_tabW r4_Check.tab4 r4_Check.bits4 (fun HT_ HW_ => ?_)
   generalize w13.drew = w14 at BK146 HB hHeld ⊢
   refine pu_ 0 10 26 1 HT_.out ?_; refine ta_ 1 11 26 3 rfl rfl HT_.out HW_.out hHeld (by rintro w' ⟨s0,s1,s2,s3⟩; go_simp; with_reducible rfl) ?_; refine pu_ 2 12 26 7 HT_.out ?_; refine pu_ 3 13 26 15 HT_.out ?_; refine pu_ 4 14 26 31 HT_.out ?_; refine pu_ 6 16 26 95 HT_.out ?_; refine ta_ 5 15 26 127 rfl rfl HT_.out HW_.out hHeld (by rintro w' ⟨s0,s1,s2,s3⟩; go_simp; with_reducible rfl) ?_; refine ta_ 7 17 26 255 rfl rfl HT_.out HW_.out hHeld (by rintro w' ⟨s0,s1,s2,s3⟩; go_simp; with_reducible rfl) ?_
   refine one_ (i := 8) (N := some 18) (bts 26 511) rfl rfl (one_of HT_.out (by kernel_rfl)) (by decide) (fun K hK => ?_)
   refine goes_ Try.func24 (by kernel_rfl) rfl #[.agg #[.int .i64 a0_0,.int .u64 a0_1]] (by rfl) rfl rfl (by (try simp only [List.map_toArray,List.map_cons,List.map_nil]) <;> rfl) ?_
   with_reducible refine (r4_q1.calls a0_0 a0_1 t148 _ A9.out).mono ?_
   rintro e w15 ⟨rfl,hb⟩
   refine ⟨_,rfl,?_⟩
   have n0_ := aK (kb BK146.out hb)
   have n1_ := aK (below_step (mvh HB.out) hb)
   clear BK146 HB
   have BK146 := n0_
   have HB := n1_
   clear n0_ n1_
   (try clear hb)
   refine hK.out _ _ ⟨(blk_cell BK146.out 0).trans rfl,(blk_cell BK146.out 1).trans rfl,(blk_cell BK146.out 2).trans rfl,(blk_cell BK146.out 3).trans rfl⟩ (fun hHeld => ?_)
   clear hK K
   refine norm_ (a' := ?_) ?_ ?_
   rotate_left
   ·show Act.put _ (some 18) _ = _
    simp only [Act.put,List.setIfInBounds_toArray,List.set_cons_zero,List.set_cons_succ,i64_w,i32_w]
    rfl
   refine pu_ 9 19 26 1023 HT_.out ?_; refine pu_ 10 20 26 2047 HT_.out ?_; refine pu_ 11 21 26 4095 HT_.out ?_; refine pu_ 12 22 26 8191 HT_.out ?_; refine pn_ 13 23 26 16383 HT_.out ?_; refine pn_ 14 24 26 32767 HT_.out ?_; refine pn_ 15 25 26 65535 HT_.out ?_; refine pu_ 16 26 26 131071 HT_.out ?_; refine pu_ 17 27 26 262143 HT_.out ?_; refine pn_ 18 28 26 524287 HT_.out ?_; refine pn_ 19 29 26 1048575 HT_.out ?_; refine pn_ 20 30 26 2097151 HT_.out ?_; refine pn_ 21 31 26 4194303 HT_.out ?_; refine pn_ 22 32 26 8388607 HT_.out ?_; refine pn_ 23 33 26 16777215 HT_.out ?_; refine pn_ 24 34 26 33554431 HT_.out ?_; refine pu_ 25 35 26 67108863 HT_.out ?_
   refine done_ (done_of HT_.out (by kernel_rfl)) ?_
   try go_wp2
   go_ret
   exact ⟨by first | rfl | (simp [errW_none,errW_some] <;> rfl) | (simp [*,errW_none,errW_some] <;> rfl),mvh HB.out⟩
  ·rw [if_neg c10] at H
   have c10b0 : decide ((wrap64 (t148 - 1)) < a0_2) = false := decide_eq_false c10
   clear c10
   by_cases c16 : a0_3 < 1
   ·rw [if_pos c16] at H
    have c16b0 : decide (a0_3 < 1) = true := decide_eq_true c16
    clear c16
    obtain rfl := Option.some.inj H
    go_enter Try.func7,Try.ntmps7
    try go_wp2_with (first | ((with_reducible refine gate_dst (N := 1) rfl ?_); refine box_event ?hg (N := 1) ?hd (cs := #[.int .i64 a0_0,.int .u64 a0_1,.int .i64 a0_2,.int .i64 a0_3]) (t := 26) ?hr ?_; (case hd => rfl); (case hg => rfl); (case hr => first | (go_simp; done) | (go_simp; rfl)); intro gb146 hg w17 hbox hb; have BK146 := aK (hbox); have GW146 := aK ((by rw [hg]; exact (below_size (mvh HB.out)) : w.heap.size ≤ gb146)); have GE146 := aK ((by rw [hg]; exact (below_size (mvh HB.out)) : w.heap.size ≤ gb146)); replace HB := aK (below_step (mvh HB.out) hb); clear hb hbox hg; obtain ⟨hcz18_0,hcz18_1,hcz18_2,hcz18_3,hfz18_0,hfz18_1,hfz18_2,hfz18_3⟩ := cf4 BK146.out) | (go_at_call 23; (with_reducible refine (r3_Check.calls k a0_0 a0_1 t147 _ A2.out).mono ?_); rintro e w19 ⟨rfl,hb⟩; replace BK146 := aK (kb BK146.out hb); replace HB := aK (below_step (mvh HB.out) hb); (try clear hb)))
    have n0_ := aK (blk_drew BK146.out)
    have n1_ := aK (below_drew1 HB.out)
    clear BK146 HB
    have BK146 := n0_
    have HB := n1_
    clear n0_ n1_
    refine start_ (n := 26) (S := fun w' => w'.cell? ⟨gb146,0,none⟩ = some (.int .i64 a0_0) ∧ w'.cell? ⟨gb146,1,none⟩ = some (.int .u64 a0_1) ∧ w'.cell? ⟨gb146,2,none⟩ = some (.int .i64 a0_2) ∧ w'.cell? ⟨gb146,3,none⟩ = some (.int .i64 a0_3)) (ds := []) (bts 26 0) (by kernel_rfl) rfl rfl ⟨(blk_cell BK146.out 0).trans rfl,(blk_cell BK146.out 1).trans rfl,(blk_cell BK146.out 2).trans rfl,(blk_cell BK146.out 3).trans rfl⟩ (fun hHeld => ?_); refine with_tabW r4_Check.tab4 r4_Check.bits4 (fun HT_ HW_ => ?_)
    generalize w19.drew = w20 at BK146 HB hHeld ⊢
    refine pu_ 0 10 26 1 HT_.out ?_; refine ta_ 1 11 26 3 rfl rfl HT_.out HW_.out hHeld (by rintro w' ⟨s0,s1,s2,s3⟩; go_simp; with_reducible rfl) ?_; refine pu_ 2 12 26 7 HT_.out ?_; refine pu_ 3 13 26 15 HT_.out ?_; refine pu_ 4 14 26 31 HT_.out ?_; refine pu_ 6 16 26 95 HT_.out ?_; refine ta_ 5 15 26 127 rfl rfl HT_.out HW_.out hHeld (by rintro w' ⟨s0,s1,s2,s3⟩; go_simp; with_reducible rfl) ?_; refine ta_ 7 17 26 255 rfl rfl HT_.out HW_.out hHeld (by rintro w' ⟨s0,s1,s2,s3⟩; go_simp; with_reducible rfl) ?_
    refine one_ (i := 8) (N := some 18) (bts 26 511) rfl rfl (one_of HT_.out (by kernel_rfl)) (by decide) (fun K hK => ?_)
    refine goes_ Try.func24 (by kernel_rfl) rfl #[.agg #[.int .i64 a0_0,.int .u64 a0_1]] (by rfl) rfl rfl (by (try simp only [List.map_toArray,List.map_cons,List.map_nil]) <;> rfl) ?_
    with_reducible refine (r4_q1.calls a0_0 a0_1 t148 _ A9.out).mono ?_
    rintro e w21 ⟨rfl,hb⟩
    refine ⟨_,rfl,?_⟩
    have n0_ := aK (kb BK146.out hb)
    have n1_ := aK (below_step (mvh HB.out) hb)
    clear BK146 HB
    have BK146 := n0_
    have HB := n1_
    clear n0_ n1_
    (try clear hb)
    refine hK.out _ _ ⟨(blk_cell BK146.out 0).trans rfl,(blk_cell BK146.out 1).trans rfl,(blk_cell BK146.out 2).trans rfl,(blk_cell BK146.out 3).trans rfl⟩ (fun hHeld => ?_)
    clear hK K
    refine norm_ (a' := ?_) ?_ ?_
    rotate_left
    ·show Act.put _ (some 18) _ = _
     simp only [Act.put,List.setIfInBounds_toArray,List.set_cons_zero,List.set_cons_succ,i64_w,i32_w]
     rfl
    refine pu_ 9 19 26 1023 HT_.out ?_; refine pu_ 10 20 26 2047 HT_.out ?_; refine pu_ 11 21 26 4095 HT_.out ?_; refine pu_ 12 22 26 8191 HT_.out ?_; refine pu_ 13 23 26 16383 HT_.out ?_; refine ta_ 14 24 26 32767 rfl rfl HT_.out HW_.out hHeld (by rintro w' ⟨s0,s1,s2,s3⟩; go_simp; with_reducible rfl) ?_; refine pu_ 15 25 26 65535 HT_.out ?_; refine pu_ 16 26 26 131071 HT_.out ?_; refine pu_ 17 27 26 262143 HT_.out ?_; refine pn_ 18 28 26 524287 HT_.out ?_; refine pn_ 19 29 26 1048575 HT_.out ?_; refine pn_ 20 30 26 2097151 HT_.out ?_; refine pn_ 21 31 26 4194303 HT_.out ?_; refine pn_ 22 32 26 8388607 HT_.out ?_; refine pn_ 23 33 26 16777215 HT_.out ?_; refine pn_ 24 34 26 33554431 HT_.out ?_; refine pu_ 25 35 26 67108863 HT_.out ?_
    refine done_ (done_of HT_.out (by kernel_rfl)) ?_
    try go_wp2
    go_ret
    exact ⟨by first | rfl | (simp [errW_none,errW_some] <;> rfl) | (simp [*,errW_none,errW_some] <;> rfl),mvh HB.out⟩
   ·rw [if_neg c16] at H
    have c16b0 : decide (a0_3 < 1) = false := decide_eq_false c16
    clear c16
    replace H := Option.bind_eq_some_iff.mp H
    obtain ⟨t149,A220,H⟩ := H
    try dsimp only at H
    have A22 := Aside0.mk A220
    clear A220
    by_cases c23 : a0_3 > (wrap64 (t149 - 1))
    ·rw [if_pos c23] at H
     have c23b0 : decide ((wrap64 (t149 - 1)) < a0_3) = true := decide_eq_true c23
     clear c23
     obtain rfl := Option.some.inj H
     go_enter Try.func7,Try.ntmps7
     try go_wp2_with (first | ((with_reducible refine gate_dst (N := 1) rfl ?_); refine box_event ?hg (N := 1) ?hd (cs := #[.int .i64 a0_0,.int .u64 a0_1,.int .i64 a0_2,.int .i64 a0_3]) (t := 26) ?hr ?_; (case hd => rfl); (case hg => rfl); (case hr => first | (go_simp; done) | (go_simp; rfl)); intro gb146 hg w24 hbox hb; have BK146 := aK (hbox); have GW146 := aK ((by rw [hg]; exact (below_size (mvh HB.out)) : w.heap.size ≤ gb146)); have GE146 := aK ((by rw [hg]; exact (below_size (mvh HB.out)) : w.heap.size ≤ gb146)); replace HB := aK (below_step (mvh HB.out) hb); clear hb hbox hg; obtain ⟨hcz25_0,hcz25_1,hcz25_2,hcz25_3,hfz25_0,hfz25_1,hfz25_2,hfz25_3⟩ := cf4 BK146.out) | (go_at_call 23; (with_reducible refine (r3_Check.calls k a0_0 a0_1 t147 _ A2.out).mono ?_); rintro e w26 ⟨rfl,hb⟩; replace BK146 := aK (kb BK146.out hb); replace HB := aK (below_step (mvh HB.out) hb); (try clear hb)))
     have n0_ := aK (blk_drew BK146.out)
     have n1_ := aK (below_drew1 HB.out)
     clear BK146 HB
     have BK146 := n0_
     have HB := n1_
     clear n0_ n1_
     refine start_ (n := 26) (S := fun w' => w'.cell? ⟨gb146,0,none⟩ = some (.int .i64 a0_0) ∧ w'.cell? ⟨gb146,1,none⟩ = some (.int .u64 a0_1) ∧ w'.cell? ⟨gb146,2,none⟩ = some (.int .i64 a0_2) ∧ w'.cell? ⟨gb146,3,none⟩ = some (.int .i64 a0_3)) (ds := []) (bts 26 0) (by kernel_rfl) rfl rfl ⟨(blk_cell BK146.out 0).trans rfl,(blk_cell BK146.out 1).trans rfl,(blk_cell BK146.out 2).trans rfl,(blk_cell BK146.out 3).trans rfl⟩ (fun hHeld => ?_); refine with_tabW r4_Check.tab4 r4_Check.bits4 (fun HT_ HW_ => ?_)
     generalize w26.drew = w27 at BK146 HB hHeld ⊢
     refine pu_ 0 10 26 1 HT_.out ?_; refine ta_ 1 11 26 3 rfl rfl HT_.out HW_.out hHeld (by rintro w' ⟨s0,s1,s2,s3⟩; go_simp; with_reducible rfl) ?_; refine pu_ 2 12 26 7 HT_.out ?_; refine pu_ 3 13 26 15 HT_.out ?_; refine pu_ 4 14 26 31 HT_.out ?_; refine pu_ 6 16 26 95 HT_.out ?_; refine ta_ 5 15 26 127 rfl rfl HT_.out HW_.out hHeld (by rintro w' ⟨s0,s1,s2,s3⟩; go_simp; with_reducible rfl) ?_; refine ta_ 7 17 26 255 rfl rfl HT_.out HW_.out hHeld (by rintro w' ⟨s0,s1,s2,s3⟩; go_simp; with_reducible rfl) ?_
     refine one_ (i := 8) (N := some 18) (bts 26 511) rfl rfl (one_of HT_.out (by kernel_rfl)) (by decide) (fun K hK => ?_)
     refine goes_ Try.func24 (by kernel_rfl) rfl #[.agg #[.int .i64 a0_0,.int .u64 a0_1]] (by rfl) rfl rfl (by (try simp only [List.map_toArray,List.map_cons,List.map_nil]) <;> rfl) ?_
     with_reducible refine (r4_q1.calls a0_0 a0_1 t148 _ A9.out).mono ?_
     rintro e w28 ⟨rfl,hb⟩
     refine ⟨_,rfl,?_⟩
     have n0_ := aK (kb BK146.out hb)
     have n1_ := aK (below_step (mvh HB.out) hb)
     clear BK146 HB
     have BK146 := n0_
     have HB := n1_
     clear n0_ n1_
     (try clear hb)
     refine hK.out _ _ ⟨(blk_cell BK146.out 0).trans rfl,(blk_cell BK146.out 1).trans rfl,(blk_cell BK146.out 2).trans rfl,(blk_cell BK146.out 3).trans rfl⟩ (fun hHeld => ?_)
     clear hK K
     refine norm_ (a' := ?_) ?_ ?_
     rotate_left
     ·show Act.put _ (some 18) _ = _
      simp only [Act.put,List.setIfInBounds_toArray,List.set_cons_zero,List.set_cons_succ,i64_w,i32_w]
      rfl
     refine pu_ 9 19 26 1023 HT_.out ?_; refine pu_ 10 20 26 2047 HT_.out ?_; refine pu_ 11 21 26 4095 HT_.out ?_; refine pu_ 12 22 26 8191 HT_.out ?_; refine pu_ 13 23 26 16383 HT_.out ?_; refine ta_ 14 24 26 32767 rfl rfl HT_.out HW_.out hHeld (by rintro w' ⟨s0,s1,s2,s3⟩; go_simp; with_reducible rfl) ?_; refine pu_ 15 25 26 65535 HT_.out ?_; refine pu_ 16 26 26 131071 HT_.out ?_; refine pu_ 17 27 26 262143 HT_.out ?_; refine pu_ 18 28 26 524287 HT_.out ?_; refine pu_ 20 30 26 1572863 HT_.out ?_; refine ta_ 19 29 26 2097151 rfl rfl HT_.out HW_.out hHeld (by rintro w' ⟨s0,s1,s2,s3⟩; go_simp; with_reducible rfl) ?_; refine ta_ 21 31 26 4194303 rfl rfl HT_.out HW_.out hHeld (by rintro w' ⟨s0,s1,s2,s3⟩; go_simp; with_reducible rfl) ?_
     refine one_ (i := 22) (N := some 32) (bts 26 8388607) rfl rfl (one_of HT_.out (by kernel_rfl)) (by decide) (fun K hK => ?_)
     refine goes_ Try.func24 (by kernel_rfl) rfl #[.agg #[.int .i64 a0_0,.int .u64 a0_1]] (by rfl) rfl rfl (by (try simp only [List.map_toArray,List.map_cons,List.map_nil]) <;> rfl) ?_
     with_reducible refine (r4_q1.calls a0_0 a0_1 t149 _ A22.out).mono ?_
     rintro e w29 ⟨rfl,hb⟩
     refine ⟨_,rfl,?_⟩
     have n0_ := aK (kb BK146.out hb)
     have n1_ := aK (below_step (mvh HB.out) hb)
     clear BK146 HB
     have BK146 := n0_
     have HB := n1_
     clear n0_ n1_
     (try clear hb)
     refine hK.out _ _ ⟨(blk_cell BK146.out 0).trans rfl,(blk_cell BK146.out 1).trans rfl,(blk_cell BK146.out 2).trans rfl,(blk_cell BK146.out 3).trans rfl⟩ (fun hHeld => ?_)
     clear hK K
     refine norm_ (a' := ?_) ?_ ?_
     rotate_left
     ·show Act.put _ (some 32) _ = _
      simp only [Act.put,List.setIfInBounds_toArray,List.set_cons_zero,List.set_cons_succ,i64_w,i32_w]
      rfl
     refine pu_ 23 33 26 16777215 HT_.out ?_; refine pu_ 24 34 26 33554431 HT_.out ?_; refine pu_ 25 35 26 67108863 HT_.out ?_
     refine done_ (done_of HT_.out (by kernel_rfl)) ?_
     try go_wp2
     go_ret
     exact ⟨by first | rfl | (simp [errW_none,errW_some] <;> rfl) | (simp [*,errW_none,errW_some] <;> rfl),mvh HB.out⟩
    ·rw [if_neg c23] at H
     have c23b0 : decide ((wrap64 (t149 - 1)) < a0_3) = false := decide_eq_false c23
     clear c23
     obtain rfl := Option.some.inj H
     go_enter Try.func7,Try.ntmps7
     try go_wp2_with (first | ((with_reducible refine gate_dst (N := 1) rfl ?_); refine box_event ?hg (N := 1) ?hd (cs := #[.int .i64 a0_0,.int .u64 a0_1,.int .i64 a0_2,.int .i64 a0_3]) (t := 26) ?hr ?_; (case hd => rfl); (case hg => rfl); (case hr => first | (go_simp; done) | (go_simp; rfl)); intro gb146 hg w30 hbox hb; have BK146 := aK (hbox); have GW146 := aK ((by rw [hg]; exact (below_size (mvh HB.out)) : w.heap.size ≤ gb146)); have GE146 := aK ((by rw [hg]; exact (below_size (mvh HB.out)) : w.heap.size ≤ gb146)); replace HB := aK (below_step (mvh HB.out) hb); clear hb hbox hg; obtain ⟨hcz31_0,hcz31_1,hcz31_2,hcz31_3,hfz31_0,hfz31_1,hfz31_2,hfz31_3⟩ := cf4 BK146.out) | (go_at_call 23; (with_reducible refine (r3_Check.calls k a0_0 a0_1 t147 _ A2.out).mono ?_); rintro e w32 ⟨rfl,hb⟩; replace BK146 := aK (kb BK146.out hb); replace HB := aK (below_step (mvh HB.out) hb); (try clear hb)))
     have n0_ := aK (blk_drew BK146.out)
     have n1_ := aK (below_drew1 HB.out)
     clear BK146 HB
     have BK146 := n0_
     have HB := n1_
     clear n0_ n1_
     refine start_ (n := 26) (S := fun w' => w'.cell? ⟨gb146,0,none⟩ = some (.int .i64 a0_0) ∧ w'.cell? ⟨gb146,1,none⟩ = some (.int .u64 a0_1) ∧ w'.cell? ⟨gb146,2,none⟩ = some (.int .i64 a0_2) ∧ w'.cell? ⟨gb146,3,none⟩ = some (.int .i64 a0_3)) (ds := []) (bts 26 0) (by kernel_rfl) rfl rfl ⟨(blk_cell BK146.out 0).trans rfl,(blk_cell BK146.out 1).trans rfl,(blk_cell BK146.out 2).trans rfl,(blk_cell BK146.out 3).trans rfl⟩ (fun hHeld => ?_); refine with_tabW r4_Check.tab4 r4_Check.bits4 (fun HT_ HW_ => ?_)
     generalize w32.drew = w33 at BK146 HB hHeld ⊢
     refine pu_ 0 10 26 1 HT_.out ?_; refine ta_ 1 11 26 3 rfl rfl HT_.out HW_.out hHeld (by rintro w' ⟨s0,s1,s2,s3⟩; go_simp; with_reducible rfl) ?_; refine pu_ 2 12 26 7 HT_.out ?_; refine pu_ 3 13 26 15 HT_.out ?_; refine pu_ 4 14 26 31 HT_.out ?_; refine pu_ 6 16 26 95 HT_.out ?_; refine ta_ 5 15 26 127 rfl rfl HT_.out HW_.out hHeld (by rintro w' ⟨s0,s1,s2,s3⟩; go_simp; with_reducible rfl) ?_; refine ta_ 7 17 26 255 rfl rfl HT_.out HW_.out hHeld (by rintro w' ⟨s0,s1,s2,s3⟩; go_simp; with_reducible rfl) ?_
     refine one_ (i := 8) (N := some 18) (bts 26 511) rfl rfl (one_of HT_.out (by kernel_rfl)) (by decide) (fun K hK => ?_)
     refine goes_ Try.func24 (by kernel_rfl) rfl #[.agg #[.int .i64 a0_0,.int .u64 a0_1]] (by rfl) rfl rfl (by (try simp only [List.map_toArray,List.map_cons,List.map_nil]) <;> rfl) ?_
     with_reducible refine (r4_q1.calls a0_0 a0_1 t148 _ A9.out).mono ?_
     rintro e w34 ⟨rfl,hb⟩
     refine ⟨_,rfl,?_⟩
     have n0_ := aK (kb BK146.out hb)
     have n1_ := aK (below_step (mvh HB.out) hb)
     clear BK146 HB
     have BK146 := n0_
     have HB := n1_
     clear n0_ n1_
     (try clear hb)
     refine hK.out _ _ ⟨(blk_cell BK146.out 0).trans rfl,(blk_cell BK146.out 1).trans rfl,(blk_cell BK146.out 2).trans rfl,(blk_cell BK146.out 3).trans rfl⟩ (fun hHeld => ?_)
     clear hK K
     refine norm_ (a' := ?_) ?_ ?_
     rotate_left
     ·show Act.put _ (some 18) _ = _
      simp only [Act.put,List.setIfInBounds_toArray,List.set_cons_zero,List.set_cons_succ,i64_w,i32_w]
      rfl
     refine pu_ 9 19 26 1023 HT_.out ?_; refine pu_ 10 20 26 2047 HT_.out ?_; refine pu_ 11 21 26 4095 HT_.out ?_; refine pu_ 12 22 26 8191 HT_.out ?_; refine pu_ 13 23 26 16383 HT_.out ?_; refine ta_ 14 24 26 32767 rfl rfl HT_.out HW_.out hHeld (by rintro w' ⟨s0,s1,s2,s3⟩; go_simp; with_reducible rfl) ?_; refine pu_ 15 25 26 65535 HT_.out ?_; refine pu_ 16 26 26 131071 HT_.out ?_; refine pu_ 17 27 26 262143 HT_.out ?_; refine pu_ 18 28 26 524287 HT_.out ?_; refine pu_ 20 30 26 1572863 HT_.out ?_; refine ta_ 19 29 26 2097151 rfl rfl HT_.out HW_.out hHeld (by rintro w' ⟨s0,s1,s2,s3⟩; go_simp; with_reducible rfl) ?_; refine ta_ 21 31 26 4194303 rfl rfl HT_.out HW_.out hHeld (by rintro w' ⟨s0,s1,s2,s3⟩; go_simp; with_reducible rfl) ?_
     refine one_ (i := 22) (N := some 32) (bts 26 8388607) rfl rfl (one_of HT_.out (by kernel_rfl)) (by decide) (fun K hK => ?_)
     refine goes_ Try.func24 (by kernel_rfl) rfl #[.agg #[.int .i64 a0_0,.int .u64 a0_1]] (by rfl) rfl rfl (by (try simp only [List.map_toArray,List.map_cons,List.map_nil]) <;> rfl) ?_
     with_reducible refine (r4_q1.calls a0_0 a0_1 t149 _ A22.out).mono ?_
     rintro e w35 ⟨rfl,hb⟩
     refine ⟨_,rfl,?_⟩
     have n0_ := aK (kb BK146.out hb)
     have n1_ := aK (below_step (mvh HB.out) hb)
     clear BK146 HB
     have BK146 := n0_
     have HB := n1_
     clear n0_ n1_
     (try clear hb)
     refine hK.out _ _ ⟨(blk_cell BK146.out 0).trans rfl,(blk_cell BK146.out 1).trans rfl,(blk_cell BK146.out 2).trans rfl,(blk_cell BK146.out 3).trans rfl⟩ (fun hHeld => ?_)
     clear hK K
     refine norm_ (a' := ?_) ?_ ?_
     rotate_left
     ·show Act.put _ (some 32) _ = _
      simp only [Act.put,List.setIfInBounds_toArray,List.set_cons_zero,List.set_cons_succ,i64_w,i32_w]
      rfl
     refine pu_ 23 33 26 16777215 HT_.out ?_; refine pu_ 24 34 26 33554431 HT_.out ?_; refine pu_ 25 35 26 67108863 HT_.out ?_
     refine done_ (done_of HT_.out (by kernel_rfl)) ?_
     try go_wp2
     go_ret
     exact ⟨by first | rfl | (simp [errW_none,errW_some] <;> rfl) | (simp [*,errW_none,errW_some] <;> rfl),mvh HB.out⟩
end Go.Proofs.Ytpgecdidddoglaa.P

