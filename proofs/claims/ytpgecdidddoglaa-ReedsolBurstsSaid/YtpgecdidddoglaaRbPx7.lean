-- written by mk.sh, a program of this session, over the kit's print
import Derived.Test.YtpgecdidddoglaaRbQAux
import Derived.Test.YtpgecdidddoglaaRbPx0
import Derived.Test.YtpgecdidddoglaaRbPx5
import Derived.Test.YtpgecdidddoglaaRbPx6
namespace Go.Proofs.Ytpgecdidddoglaa.P
open Go.RowKit Go.Proofs.YtpgecdidddoglaaW.PrintWords Go.Proofs.YtpgecdidddoglaaW.PrintLast Go.Proofs.YtpgecdidddoglaaW.PrintMore
attribute [local go_sem] max2_int min2_int max_two min_two max_three min_three max_four min_four   -- for this text's walks alone
set_option linter.unusedVariables false
set_option linter.unusedSimpArgs false

def gT_Div.f (k : Nat) (a0 : GTab) (a1 : Int) (a2 : Int) : Option (Int × Int) := (gT_check.f k a0 (([a1,a2] : List Int))).bind fun t193 => (if t193 = 0 then (if a2 = 0 then (some (0,20)) else (if 0 < a0.size then ((gT_inv.f a0 a2).bind fun t194 => ((gN1.f a0 a1 t194).bind fun t195 => (some (t195,0)))) else (none))) else (some (0,t193)))
theorem gT_Div.mono : ∀ a0 a1 a2 k,LeO (gT_Div.f k a0 a1 a2) (gT_Div.f (k + 1) a0 a1 a2) := by
 intro a0 a1 a2 k
 unfold gT_Div.f
 repeat' with_reducible first
   | exact gT_check.mono _ _ _
   | exact LeO.refl _
   | exact LeO.none _
   | refine LeO.ite ?_ ?_
   | refine LeO.bind ?_ (fun _ => ?_)
def gT_Div.T6 : Bool × List (List Nat × List Nat) := (true,[([],[]),([0],[0]),([1],[1]),([2],[2]),([],[]),([],[]),([],[]),([5,6],[5,6]),([3,4,7,7],[3,4,7]),([8,8,0,1,2,3,4,5,6,7,8],[8]),([9,0,1,2,3,4,5,6,7,8,9],[])])
def gT_Div.B6 : List Nat := [0,1,3,7,0,0,0,96,255,511,1023]
theorem gT_Div.tab6 : rtab .any (opsOf Try.f49 6) = gT_Div.T6 := by kernel_rfl
theorem gT_Div.bits6 : waitsOk gT_Div.T6.2 gT_Div.B6 = true := by kernel_rfl
set_option maxHeartbeats 8000000 in
set_option maxRecDepth 100000 in
theorem gT_Div.calls (k : Nat) (A0 : Option Addr) (a0 : GTab) (a1 : Int) (a2 : Int) (r1 : Int) (r2 : Int) (w : World) (hr0 : gal_OK w A0 a0) (h : gT_Div.f k a0 a1 a2 = some (r1,r2)) :
  Calls Try.prog 49 #[.pointer A0,.int .u8 a1,.int .u8 a2] w fun e w' => e = .returned (.tuple #[.int .u8 r1,.int .i64 r2]) ∧ Below w.heap.size w w' := by
 have HR0 := Aside0.mk hr0
 clear hr0
 have HB := aK (Below.refl w.heap.size w)
 have H : ((gT_check.f k a0 (([a1,a2] : List Int))).bind fun t193 => (if t193 = 0 then (if a2 = 0 then (some (0,20)) else (if 0 < a0.size then ((gT_inv.f a0 a2).bind fun t194 => ((gN1.f a0 a1 t194).bind fun t195 => (some (t195,0)))) else (none))) else (some (0,t193)))) = some (r1,r2) := h
 clear h
 obtain ⟨y190,hy190⟩ : ∃ y_ : List Int,y_ = (([a1,a2] : List Int)) := ⟨_,rfl⟩
 replace H : ((gT_check.f k a0 y190).bind fun t193 => (if t193 = 0 then (if a2 = 0 then (some (0,20)) else (if 0 < a0.size then ((gT_inv.f a0 a2).bind fun t194 => ((gN1.f a0 a1 t194).bind fun t195 => (some (t195,0)))) else (none))) else (some (0,t193)))) = some (r1,r2) := by rw [hy190]; exact H
 have Ny190 := Aside0.mk hy190
 clear hy190
 replace H := Option.bind_eq_some_iff.mp H
 obtain ⟨t193,A40,H⟩ := H
 try dsimp only at H
 have A4 := Aside0.mk A40
 clear A40
 by_cases c5 : t193 = 0
 rotate_left
 ·rw [if_neg c5] at H
  have c5b0 : (t193 == 0) = false := beq_eq_false_iff_ne.mpr c5
  have c5b1 : (t193 != 0) = true := bne_iff_ne.mpr c5
  simp only [Option.some.injEq,Prod.mk.injEq] at H
  obtain ⟨rfl,rfl⟩ := H
  go_enter Try.func49,Try.ntmps49
  go_wp2_with (first | ((with_reducible refine gate_dst (N := 12) rfl ?_); refine Kd.R_lit (Kd.int .u8) _ 5 ?hg (N := 12) ?hd (xs := ([a1,a2] : List Int)) (inner := [.int .u8 a1,.int .u8 a2]) (ok := fun _ => True) (okp := fun _ => True) ?hr ?hp (fun _ hk => hk) trivial (Below.refl _ _) (Nat.le_refl _) (by simp) ?_; (case hd => rfl); (case hg => rfl); (case hr => first | (go_simp; done) | (go_simp; rfl)); (case hp => exact (Reps.one (show Kd.M (Kd.int .u8) _ _ _ a1 [.int .u8 a1] from rfl) (Reps.one (show Kd.M (Kd.int .u8) _ _ _ a2 [.int .u8 a2] from rfl) (Reps.none _ _)))); intro v191 w18 ho19 hb hg_ hnew_; clear hg_ hnew_; (first | rw [← Ny190.out] at ho19 | (simp only [Int.reduceToNat] at ho19; rw [← Ny190.out] at ho19)); have HO192 := aK (Kd.R_lower ho19 (below_size (mvh HB.out))); replace HB := aK (below_step (mvh HB.out) hb); clear hb ho19; obtain ⟨Ao20,co20,eo20⟩ := Kd.R_slice HO192.out; subst eo20) | (go_at_call 71; (with_reducible refine (gT_check.calls k _ a0 _ _ y190 t193 _ ?side1 ?side2 ?side3 A4.out).mono ?_); (case side1 => exact (gal_OK_below HR0.out HB.out)); (case side2 => exact mvC (Kd.R_reads' HO192.out).2.2); (case side3 => exact (Kd.R_reads' HO192.out).2.1); rintro e w' ⟨rfl,⟨nd,rfl⟩⟩))
  go_ret2
  exact ⟨by first | rfl | (simp [errW_none,errW_some] <;> rfl) | (simp [*,errW_none,errW_some] <;> rfl),mvh HB.out⟩


 rw [if_pos c5] at H
 have c5b0 : (t193 == 0) = true := beq_iff_eq.mpr c5
 have c5b1 : (t193 != 0) = false := bne_eq_false_iff_eq.mpr c5
 clear c5
 by_cases c6 : a2 = 0
 ·rw [if_pos c6] at H
  have c6b0 : (a2 == 0) = true := beq_iff_eq.mpr c6
  have c6b1 : (a2 != 0) = false := bne_eq_false_iff_eq.mpr c6
  clear c6
  simp only [Option.some.injEq,Prod.mk.injEq] at H
  obtain ⟨rfl,rfl⟩ := H
  go_enter Try.func49,Try.ntmps49
  go_wp2_with (first | ((with_reducible refine gate_dst (N := 12) rfl ?_); refine Kd.R_lit (Kd.int .u8) _ 5 ?hg (N := 12) ?hd (xs := ([a1,a2] : List Int)) (inner := [.int .u8 a1,.int .u8 a2]) (ok := fun _ => True) (okp := fun _ => True) ?hr ?hp (fun _ hk => hk) trivial (Below.refl _ _) (Nat.le_refl _) (by simp) ?_; (case hd => rfl); (case hg => rfl); (case hr => first | (go_simp; done) | (go_simp; rfl)); (case hp => exact (Reps.one (show Kd.M (Kd.int .u8) _ _ _ a1 [.int .u8 a1] from rfl) (Reps.one (show Kd.M (Kd.int .u8) _ _ _ a2 [.int .u8 a2] from rfl) (Reps.none _ _)))); intro v191 w7 ho8 hb hg_ hnew_; clear hg_ hnew_; (first | rw [← Ny190.out] at ho8 | (simp only [Int.reduceToNat] at ho8; rw [← Ny190.out] at ho8)); have HO192 := aK (Kd.R_lower ho8 (below_size (mvh HB.out))); replace HB := aK (below_step (mvh HB.out) hb); clear hb ho8; obtain ⟨Ao9,co9,eo9⟩ := Kd.R_slice HO192.out; subst eo9) | (go_at_call 71; (with_reducible refine (gT_check.calls k _ a0 _ _ y190 t193 _ ?side1 ?side2 ?side3 A4.out).mono ?_); (case side1 => exact (gal_OK_below HR0.out HB.out)); (case side2 => exact mvC (Kd.R_reads' HO192.out).2.2); (case side3 => exact (Kd.R_reads' HO192.out).2.1); rintro e w' ⟨rfl,⟨nd,rfl⟩⟩))
  go_ret2
  exact ⟨by first | rfl | (simp [errW_none,errW_some] <;> rfl) | (simp [*,errW_none,errW_some] <;> rfl),mvh HB.out⟩
 ·rw [if_neg c6] at H
  have c6b0 : (a2 == 0) = false := beq_eq_false_iff_ne.mpr c6
  have c6b1 : (a2 != 0) = true := bne_iff_ne.mpr c6
  by_cases c10 : 0 < a0.size
  rotate_left
  ·rw [if_neg c10] at H
   exact absurd H (by simp)
  rw [if_pos c10] at H
  obtain ⟨b_,p_,q_,rfl,hT_⟩ := gal_pos HR0.out c10
  have HT0 := Aside0.mk hT_
  clear hT_ c10
  replace H := Option.bind_eq_some_iff.mp H
  obtain ⟨t194,A120,H⟩ := H
  try dsimp only at H
  have A12 := Aside0.mk A120
  clear A120
  replace H := Option.bind_eq_some_iff.mp H
  obtain ⟨t195,A130,H⟩ := H
  replace H : (some (t195,0)) = some (r1,r2) := H
  have A13 := Aside0.mk A130
  clear A130
  simp only [Option.some.injEq,Prod.mk.injEq] at H
  obtain ⟨rfl,rfl⟩ := H
  go_enter Try.func49,Try.ntmps49
  try go_wp2_with (first | ((with_reducible refine gate_dst (N := 12) rfl ?_); refine Kd.R_lit (Kd.int .u8) _ 5 ?hg (N := 12) ?hd (xs := ([a1,a2] : List Int)) (inner := [.int .u8 a1,.int .u8 a2]) (ok := fun _ => True) (okp := fun _ => True) ?hr ?hp (fun _ hk => hk) trivial (Below.refl _ _) (Nat.le_refl _) (by simp) ?_; (case hd => rfl); (case hg => rfl); (case hr => first | (go_simp; done) | (go_simp; rfl)); (case hp => exact (Reps.one (show Kd.M (Kd.int .u8) _ _ _ a1 [.int .u8 a1] from rfl) (Reps.one (show Kd.M (Kd.int .u8) _ _ _ a2 [.int .u8 a2] from rfl) (Reps.none _ _)))); intro v191 w14 ho15 hb hg_ hnew_; clear hg_ hnew_; (first | rw [← Ny190.out] at ho15 | (simp only [Int.reduceToNat] at ho15; rw [← Ny190.out] at ho15)); have HO192 := aK (Kd.R_lower ho15 (below_size (mvh HB.out))); replace HB := aK (below_step (mvh HB.out) hb); clear hb ho15; obtain ⟨Ao16,co16,eo16⟩ := Kd.R_slice HO192.out; subst eo16) | (go_at_call 71; (with_reducible refine (gT_check.calls k _ a0 _ _ y190 t193 _ ?side1 ?side2 ?side3 A4.out).mono ?_); (case side1 => exact (gal_OK_below HR0.out HB.out)); (case side2 => exact mvC (Kd.R_reads' HO192.out).2.2); (case side3 => exact (Kd.R_reads' HO192.out).2.1); rintro e w' ⟨rfl,⟨nd,rfl⟩⟩))
  (try (rw [drewN_self w14]; generalize hq_ : World.drewN w14 _ = w14; have n0_ : Aside0 (Kd.R (Kd.int .u8) 5 w14 w.heap.size (fun _ => True) (.slice Ao16 y190.length co16) y190) := ⟨by rw [← hq_]; exact (mvR HO192.out)⟩; have n1_ : Aside0 (Below w.heap.size w w14) := ⟨by rw [← hq_]; exact (mvh HB.out)⟩; clear HO192 HB hq_; have HO192 := n0_; have HB := n1_; clear n0_ n1_))
  have n0_ := aK (Kd.R_drew HO192.out)
  have n1_ := aK (below_drew1 HB.out)
  clear HO192 HB
  have HO192 := n0_
  have HB := n1_
  clear n0_ n1_
  have ho11 := gal_At_mul HT0.out
  have hx11 := (HB.out.cell (World.block_lt_of_cell? w _ ho11)).trans ho11
  refine start_ (n := 11) (S := fun w' => w'.cell? ⟨b_,513,none⟩ = some (.func (.func 68) #[] #[.pointer (some ⟨p_,0,none⟩),.pointer (some ⟨q_,0,none⟩)])) (ds := []) (bts 11 0) (by kernel_rfl) rfl rfl (((HB.out.cell (World.block_lt_of_cell? w _ ho11)).trans ho11)) (fun hHeld => ?_); refine with_tabW gT_Div.tab6 gT_Div.bits6 (fun HT_ HW_ => ?_)
  generalize w14.drew = w17 at HO192 HB hHeld ⊢
  refine pu_ 0 19 11 1 HT_.out ?_; refine pu_ 1 20 11 3 HT_.out ?_; refine pu_ 2 21 11 7 HT_.out ?_; refine pu_ 4 23 11 23 HT_.out ?_; refine pu_ 5 24 11 55 HT_.out ?_; refine pu_ 6 25 11 119 HT_.out ?_
  refine take_ (i := 3) (N := some 22) (v := ?_) (a' := ?_) (bts 11 127) rfl rfl (take_ofW HT_.out HW_.out (by kernel_rfl)) (fun _ _ _ h => h) (Or.inl ⟨by rfl,?_⟩) hHeld ?_ ?_
  rotate_left
  ·intro w' s0
   go_simp
   with_reducible rfl
  rotate_left
  ·simp only [Act.put,List.setIfInBounds_toArray,List.set_cons_zero,List.set_cons_succ,i64_w,i32_w]
   rfl
  refine one_ (i := 7) (N := some 26) (bts 11 255) rfl rfl (one_of HT_.out (by kernel_rfl)) (by decide) (fun K hK => ?_)
  refine goes_ Try.func72 (by kernel_rfl) rfl #[.pointer (some ⟨b_,0,none⟩),.int .u8 a2] (by rfl) rfl rfl (by (try simp only [List.map_toArray,List.map_cons,List.map_nil]) <;> rfl) ?_
  with_reducible refine (gT_inv.calls _ a0 a2 t194 _ ?side1 A12.out).mono ?_
  (case side1 => exact (gal_OK_below HR0.out HB.out))
  rintro e w' ⟨rfl,⟨nd,rfl⟩⟩
  refine ⟨_,rfl,?_⟩
  refine hK.out _ _ (((HB.out.cell (World.block_lt_of_cell? w _ ho11)).trans ho11)) (fun hHeld => ?_)
  clear hK K
  refine norm_ (a' := ?_) ?_ ?_
  rotate_left
  ·show Act.put _ (some 26) _ = _
   simp only [Act.put,List.setIfInBounds_toArray,List.set_cons_zero,List.set_cons_succ,i64_w,i32_w]
   rfl
  refine one_ (i := 8) (N := some 27) (bts 11 511) rfl rfl (one_of HT_.out (by kernel_rfl)) (by decide) (fun K hK => ?_)
  refine goesF_ Try.func68 (by kernel_rfl) rfl #[.int .u8 a1,.int .u8 t194,.pointer (some ⟨p_,0,none⟩),.pointer (some ⟨q_,0,none⟩)] (by rfl) rfl rfl (by rfl) (by (try simp only [List.map_toArray,List.map_cons,List.map_nil]); first | done | rfl | (simp only [List.length_drop,List.length_take]; rfl) | (simp [Act.eval,IntKind.wrap_u8,IntKind.wrap_u32]; done)) ?_
  with_reducible refine (gN1.calls b_ p_ q_ a0 a1 t194 t195 _ ?side1 A13.out).mono ?_
  (case side1 => exact (gal_At_below HT0.out (mvh HB.out)))
  rintro e w' ⟨rfl,⟨nd,rfl⟩⟩
  refine ⟨_,rfl,?_⟩
  refine hK.out _ _ (((HB.out.cell (World.block_lt_of_cell? w _ ho11)).trans ho11)) (fun hHeld => ?_)
  clear hK K
  refine norm_ (a' := ?_) ?_ ?_
  rotate_left
  ·show Act.put _ (some 27) _ = _
   simp only [Act.put,List.setIfInBounds_toArray,List.set_cons_zero,List.set_cons_succ,i64_w,i32_w]
   rfl
  refine pu_ 9 6 11 1023 HT_.out ?_; refine pu_ 10 7 11 2047 HT_.out ?_
  refine done_ (done_of HT_.out (by kernel_rfl)) ?_
  try go_wp2
  go_ret2
  exact ⟨by first | rfl | (simp [errW_none,errW_some] <;> rfl) | (simp [*,errW_none,errW_some] <;> rfl),mvh HB.out⟩
def reedsol_open_2.f (k : Nat) (t : RCode) (a b : Int) : Option Int := (gT_Div.f k t.T a b).bind fun r => some r.1
theorem reedsol_open_2.mono : ∀ a0 a1 a2 k,LeO (reedsol_open_2.f k a0 a1 a2) (reedsol_open_2.f (k + 1) a0 a1 a2) := by
 intro a0 a1 a2 k
 unfold reedsol_open_2.f
 exact LeO.bind (gT_Div.mono _ _ _ _) (fun _ => LeO.refl _)
set_option maxHeartbeats 8000000 in
set_option maxRecDepth 100000 in
theorem reedsol_open_2.calls (k : Nat) (b p c d g : Nat) (a0 : RCode) (a1 a2 r : Int) (w : World) (hr0 : rs_At w b p c d g a0) (h : reedsol_open_2.f k a0 a1 a2 = some r) :
  Calls Try.prog 48 #[.int .u8 a1,.int .u8 a2,.pointer (some ⟨p,0,none⟩)] w fun e w' => e = .returned (.int .u8 r) ∧ Below w.heap.size w w' := by
 unfold reedsol_open_2.f at h
 obtain ⟨⟨x,z⟩,h1,h2⟩ := Option.bind_eq_some_iff.mp h
 obtain rfl := Option.some.inj h2
 have HA := Aside0.mk h1
 have HT := aK (rs_At_T hr0)
 have hx := rs_At_var hr0
 clear h h1 h2 hr0
 go_enter Try.func48,Try.ntmps48
 go_wp2_with (go_at_call 49; (with_reducible refine (gT_Div.calls k _ a0.T a1 a2 x z _ ?side1 HA.out).mono ?_); (case side1 => exact HT.out); rintro e w5 ⟨rfl,hb⟩; have HB := Aside0.mk hb; clear hb)
 go_ret
 exact ⟨rfl,HB.out⟩

mutual
def gT_lists.l0 : Nat → GTab → List (List Int) → List (List Int) → Int → Int → Option (Int)
 | 0,_,_,_,_,_ => none
 | k + 1,x0,x1,x12,x13,x14 => if x14 < x13 then (if 0 ≤ x14 then (if x14 < (x12.length : Int) then (if ((rd_L4 x12 x14).length : Int) > 1024 then (some 6) else (gT_lists.l0 k x0 x1 x12 x13 (wrap64 (x14 + 1)))) else (none)) else (none)) else (gT_lists.l1 k x0 x1 (x1.length : Int) 0)
def gT_lists.l1 : Nat → GTab → List (List Int) → Int → Int → Option (Int)
 | 0,_,_,_,_ => none
 | k + 1,x0,x22,x23,x24 => if x24 < x23 then (if 0 ≤ x24 then (if x24 < (x22.length : Int) then ((gT_check.f k x0 (rd_L4 x22 x24)).bind fun t199 => (if t199 = 0 then (gT_lists.l1 k x0 x22 x23 (wrap64 (x24 + 1))) else (some t199))) else (none)) else (none)) else (some 0)
end
def gT_lists.f (k : Nat) (a0 : GTab) (l1 : List (List Int)) : Option (Int) := (gT_none.f a0).bind fun t196 => (if t196 = true then (some 1) else (gT_lists.l0 k a0 l1 l1 (l1.length : Int) 0))
theorem gT_lists.mono_l : ∀ k,(∀ y0 y1 y2 y3 y4,LeO (gT_lists.l0 k y0 y1 y2 y3 y4) (gT_lists.l0 (k + 1) y0 y1 y2 y3 y4)) ∧ (∀ y0 y1 y2 y3,LeO (gT_lists.l1 k y0 y1 y2 y3) (gT_lists.l1 (k + 1) y0 y1 y2 y3))
 | 0 => ⟨fun _ _ _ _ _ r h => by simp [gT_lists.l0] at h,fun _ _ _ _ r h => by simp [gT_lists.l1] at h⟩
 | k + 1 => by
  obtain ⟨ih0,ih1⟩ := gT_lists.mono_l k
  refine ⟨?_,?_⟩
  ·intro y0 y1 y2 y3 y4
   unfold gT_lists.l0
   repeat' with_reducible first
   | exact ih0 _ _ _ _ _
   | exact ih1 _ _ _ _
   | exact gT_check.mono _ _ _
   | exact LeO.refl _
   | exact LeO.none _
   | refine LeO.ite ?_ ?_
   | refine LeO.bind ?_ (fun _ => ?_)
  ·intro y0 y1 y2 y3
   unfold gT_lists.l1
   repeat' with_reducible first
   | exact ih0 _ _ _ _ _
   | exact ih1 _ _ _ _
   | exact gT_check.mono _ _ _
   | exact LeO.refl _
   | exact LeO.none _
   | refine LeO.ite ?_ ?_
   | refine LeO.bind ?_ (fun _ => ?_)
theorem gT_lists.mono : ∀ a0 a1 k,LeO (gT_lists.f k a0 a1) (gT_lists.f (k + 1) a0 a1) := by
 intro a0 a1 k
 obtain ⟨ih0,ih1⟩ := gT_lists.mono_l k
 unfold gT_lists.f
 repeat' with_reducible first
   | exact ih0 _ _ _ _ _
   | exact ih1 _ _ _ _
   | exact gT_check.mono _ _ _
   | exact LeO.refl _
   | exact LeO.none _
   | refine LeO.ite ?_ ?_
   | refine LeO.bind ?_ (fun _ => ?_)
set_option maxHeartbeats 8000000 in
set_option maxRecDepth 100000 in
theorem gT_lists.calls (k : Nat) (A0 : Option Addr) (a0 : GTab) (A1 : Option Addr) (c1 : Nat) (l1 : List (List Int)) (r : Int) (w : World) (hr0 : gal_OK w A0 a0) (hr1 : Kd.C (Kd.slice 5 (Kd.int .u8)) w A1 l1.length l1) (hc1 : l1.length ≤ c1) (h : gT_lists.f k a0 l1 = some r) :
  Calls Try.prog 73 #[.pointer A0,.slice A1 l1.length c1] w fun e w' => e = .returned (.int .i64 r) ∧ Drawn0 w w' := by
 have HR0 := Aside0.mk hr0
 clear hr0
 have HR1 := Aside0.mk hr1
 have HC1 := Aside0.mk hc1
 clear hr1 hc1
 have H : ((gT_none.f a0).bind fun t196 => (if t196 = true then (some 1) else (gT_lists.l0 k a0 l1 l1 (l1.length : Int) 0))) = some r := h
 clear h
 replace H := Option.bind_eq_some_iff.mp H
 obtain ⟨t196,A30,H⟩ := H
 try dsimp only at H
 have A3 := Aside0.mk A30
 clear A30
 by_cases c4 : t196 = true
 ·subst c4
  have H1 : (some 1) = some r := by rw [if_pos rfl] at H; exact H
  clear H
  have H := H1
  clear H1
  obtain rfl := Option.some.inj H
  go_enter Try.func73,Try.ntmps73
  go_wp2_with (first | (go_at_call 69; (with_reducible refine (gT_none.calls _ a0 true _ ?side1 A3.out).mono ?_); (case side1 => exact HR0.out); rintro e w' ⟨rfl,⟨nd,rfl⟩⟩))
  go_ret
  exact ⟨by first | rfl | (simp; done) | (simp [*]; done) | (simp [wrap64]; done),by repeat (first | exact Drawn0.refl _ | apply Drawn0.step)⟩
 ·replace c4 := Bool.eq_false_iff.mpr c4
  subst c4
  have H1 : (gT_lists.l0 k a0 l1 l1 (l1.length : Int) 0) = some r := by rw [if_neg (show ¬ (false = true) by decide)] at H; exact H
  clear H
  have H := H1
  clear H1
  have H' := Aside0.mk H
  clear H
  go_enter Try.func73,Try.ntmps73
  go_wp2_with (first | (go_at_call 69; (with_reducible refine (gT_none.calls _ a0 false _ ?side1 A3.out).mono ?_); (case side1 => exact HR0.out); rintro e w' ⟨rfl,⟨nd,rfl⟩⟩))
  go_loopg [14] k (fun kq v14 w' => ∃ (x14_1 : Int),v14 = .int .i64 x14_1 ∧ Aside0 (gT_lists.l0 kq a0 l1 l1 (l1.length : Int) x14_1 = some r) ∧ Aside0 (kq ≤ k) ∧ Drawn0 w w')
  case atStart => exact ⟨(0),(by first | rfl | (simp; done) | (simp [*]; done) | (simp [wrap64]; done)),H',⟨Nat.le_refl _⟩,by repeat (first | exact Drawn0.refl _ | apply Drawn0.step)⟩
  case round =>
   clear H'
   (try clear c1); (try clear p2); (try clear c4)
   obtain ⟨x14_1,rfl,HA,HK1,⟨m1,rfl⟩⟩ := hrel
   cases gk with
   | zero => exact absurd HA.out (by simp [gT_lists.l0])
   | succ k1 =>
    have H := HA.out
    clear HA
    simp only [gT_lists.l0] at H
    by_cases c5 : x14_1 < (l1.length : Int)
    ·rw [if_pos c5] at H
     have c5b0 : decide (x14_1 < (l1.length : Int)) = true := decide_eq_true c5
     clear c5
     by_cases c6 : 0 ≤ x14_1
     rotate_left
     ·rw [if_neg c6] at H
      exact absurd H (by simp)
     rw [if_pos c6] at H
     have c6b0 : decide (0 ≤ x14_1) = true := decide_eq_true c6
     clear c6
     by_cases c7 : x14_1 < (l1.length : Int)
     rotate_left
     ·rw [if_neg c7] at H
      exact absurd H (by simp)
     rw [if_pos c7] at H
     have c7b0 : decide (x14_1 < (l1.length : Int)) = true := decide_eq_true c7
     clear c7
     by_cases c8 : ((rd_L4 l1 x14_1).length : Int) > 1024
     ·rw [if_pos c8] at H
      have c8b0 : decide (1024 < ((rd_L4 l1 x14_1).length : Int)) = true := decide_eq_true c8
      have c8b1 : decide (1024 < (rd_L4 l1 x14_1).length) = true := decide_eq_true (by omega)
      clear c8
      obtain rfl := Option.some.inj H
      have p197 : 0 ≤ (x14_1 : Int) := oD
      have q197 : x14_1 < (l1.length : Int) := oD
      obtain ⟨ad197,A197_0,c197_0,e197,hx197_0,hl197_0,hi197_0⟩ := at_L4 HR1.out x14_1 p197 q197
      cases e197
      have HR197_0 := Aside0.mk hi197_0
      have HC197_0 := Aside0.mk hl197_0
      clear hi197_0 hl197_0
      replace p197 := eq_true p197
      replace q197 := eq_true q197
      go_wp2
      go_ret
      exact ⟨by first | rfl | (simp; done) | (simp [*]; done) | (simp [wrap64]; done),by repeat (first | exact Drawn0.refl _ | apply Drawn0.step)⟩
     ·rw [if_neg c8] at H
      have c8b0 : decide (1024 < ((rd_L4 l1 x14_1).length : Int)) = false := decide_eq_false c8
      have c8b1 : decide (1024 < (rd_L4 l1 x14_1).length) = false := decide_eq_false (by omega)
      clear c8
      have H' := Aside0.mk H
      clear H
      have p197 : 0 ≤ (x14_1 : Int) := oD
      have q197 : x14_1 < (l1.length : Int) := oD
      obtain ⟨ad197,A197_0,c197_0,e197,hx197_0,hl197_0,hi197_0⟩ := at_L4 HR1.out x14_1 p197 q197
      cases e197
      have HR197_0 := Aside0.mk hi197_0
      have HC197_0 := Aside0.mk hl197_0
      clear hi197_0 hl197_0
      replace p197 := eq_true p197
      replace q197 := eq_true q197
      go_wp2
      go_roundg k1
      case measure => have := HK1.out; omega
      case rel => exact ⟨(wrap64 (x14_1 + 1)),(by first | rfl | (simp; done) | (simp [*]; done) | (simp [wrap64]; done)),H',⟨by have := HK1.out; omega⟩,by repeat (first | exact Drawn0.refl _ | apply Drawn0.step)⟩
    ·rw [if_neg c5] at H
     have c5b0 : decide (x14_1 < (l1.length : Int)) = false := decide_eq_false c5
     clear c5
     have H' := Aside0.mk H
     clear H
     go_wp2
     go_loopg [24] k1 (fun kq v24 w' => ∃ (x24_2 : Int),v24 = .int .i64 x24_2 ∧ Aside0 (gT_lists.l1 kq a0 l1 (l1.length : Int) x24_2 = some r) ∧ Aside0 (kq ≤ k1) ∧ Drawn0 w w')
     case atStart => exact ⟨(0),(by first | rfl | (simp; done) | (simp [*]; done) | (simp [wrap64]; done)),H',⟨Nat.le_refl _⟩,by repeat (first | exact Drawn0.refl _ | apply Drawn0.step)⟩
     case round =>
      clear H'
      (try clear c1); (try clear p1); (try clear q1); (try clear hx1); (try clear p2); (try clear c4); (try clear c5); (try clear c5b0); (try clear c6); (try clear c6b0); (try clear p6); (try clear c7); (try clear c7b0); (try clear c8); (try clear c8b0); (try clear c8b1); (try clear hx197_0); (try clear p197)
      (try clear p2); (try clear q197)
      obtain ⟨x24_2,rfl,HA,HK2,⟨m2,rfl⟩⟩ := hrel
      cases gk with
      | zero => exact absurd HA.out (by simp [gT_lists.l1])
      | succ k2 =>
       have H := HA.out
       clear HA
       simp only [gT_lists.l1] at H
       by_cases c9 : x24_2 < (l1.length : Int)
       rotate_left
       ·rw [if_neg c9] at H
        have c9b0 : decide (x24_2 < (l1.length : Int)) = false := decide_eq_false c9
        clear c9
        obtain rfl := Option.some.inj H
        go_wp2
        go_ret
        exact ⟨by first | rfl | (simp; done) | (simp [*]; done) | (simp [wrap64]; done),by repeat (first | exact Drawn0.refl _ | apply Drawn0.step)⟩


       rw [if_pos c9] at H
       have c9b0 : decide (x24_2 < (l1.length : Int)) = true := decide_eq_true c9
       clear c9
       by_cases c10 : 0 ≤ x24_2
       rotate_left
       ·rw [if_neg c10] at H
        exact absurd H (by simp)
       rw [if_pos c10] at H
       have c10b0 : decide (0 ≤ x24_2) = true := decide_eq_true c10
       clear c10
       by_cases c11 : x24_2 < (l1.length : Int)
       rotate_left
       ·rw [if_neg c11] at H
        exact absurd H (by simp)
       rw [if_pos c11] at H
       have c11b0 : decide (x24_2 < (l1.length : Int)) = true := decide_eq_true c11
       clear c11
       replace H := Option.bind_eq_some_iff.mp H
       obtain ⟨t199,A120,H⟩ := H
       try dsimp only at H
       have A12 := Aside0.mk A120
       clear A120
       by_cases c13 : t199 = 0
       rotate_left
       ·rw [if_neg c13] at H
        have c13b0 : (t199 == 0) = false := beq_eq_false_iff_ne.mpr c13
        have c13b1 : (t199 != 0) = true := bne_iff_ne.mpr c13
        obtain rfl := Option.some.inj H
        have p198 : 0 ≤ (x24_2 : Int) := oD
        have q198 : x24_2 < (l1.length : Int) := oD
        obtain ⟨ad198,A198_0,c198_0,e198,hx198_0,hl198_0,hi198_0⟩ := at_L4 HR1.out x24_2 p198 q198
        cases e198
        have HR198_0 := Aside0.mk hi198_0
        have HC198_0 := Aside0.mk hl198_0
        clear hi198_0 hl198_0
        replace p198 := eq_true p198
        replace q198 := eq_true q198
        go_wp2_with (first | (go_at_call 71; (with_reducible refine (gT_check.calls k2 _ a0 _ _ (rd_L4 l1 x24_2) t199 _ ?side1 ?side2 ?side3 A12.out).mono ?_); (case side1 => exact HR0.out); (case side2 => exact mvC HR198_0.out); (case side3 => exact HC198_0.out); rintro e w' ⟨rfl,⟨nd,rfl⟩⟩))
        go_ret
        exact ⟨by first | rfl | (simp; done) | (simp [*]; done) | (simp [wrap64]; done),by repeat (first | exact Drawn0.refl _ | apply Drawn0.step)⟩
       rw [if_pos c13] at H
       have c13b0 : (t199 == 0) = true := beq_iff_eq.mpr c13
       have c13b1 : (t199 != 0) = false := bne_eq_false_iff_eq.mpr c13
       clear c13
       have H' := Aside0.mk H
       clear H
       have p198 : 0 ≤ (x24_2 : Int) := oD
       have q198 : x24_2 < (l1.length : Int) := oD
       obtain ⟨ad198,A198_0,c198_0,e198,hx198_0,hl198_0,hi198_0⟩ := at_L4 HR1.out x24_2 p198 q198
       cases e198
       have HR198_0 := Aside0.mk hi198_0
       have HC198_0 := Aside0.mk hl198_0
       clear hi198_0 hl198_0
       replace p198 := eq_true p198
       replace q198 := eq_true q198
       go_wp2_with (first | (go_at_call 71; (with_reducible refine (gT_check.calls k2 _ a0 _ _ (rd_L4 l1 x24_2) t199 _ ?side1 ?side2 ?side3 A12.out).mono ?_); (case side1 => exact HR0.out); (case side2 => exact mvC HR198_0.out); (case side3 => exact HC198_0.out); rintro e w' ⟨rfl,⟨nd,rfl⟩⟩))
       go_roundg k2
       case measure => have := HK1.out; have := HK2.out; omega
       case rel => exact ⟨(wrap64 (x24_2 + 1)),(by first | rfl | (simp; done) | (simp [*]; done) | (simp [wrap64]; done)),H',⟨by have := HK1.out; have := HK2.out; omega⟩,by repeat (first | exact Drawn0.refl _ | apply Drawn0.step)⟩
def gT_eval.l0 : Nat → GTab → Int → Int → List Int → Int → Int → Option (Int)
 | 0,_,_,_,_,_,_ => none
 | k + 1,x0,x2,x7,x10,x11,x12 => if x12 < x11 then (if 0 ≤ x12 then (if x12 < (x10.length : Int) then (if 0 < x0.size then ((gN1.f x0 x7 x2).bind fun t201 => (gT_eval.l0 k x0 x2 (Go.bits .xor .u8 t201 (rd x10 x12)) x10 x11 (wrap64 (x12 + 1)))) else (none)) else (none)) else (none)) else (some x7)
def gT_eval.f (k : Nat) (a0 : GTab) (l1 : List Int) (a2 : Int) : Option (Int) := gT_eval.l0 k a0 a2 0 l1 (l1.length : Int) 0
theorem gT_eval.mono_l : ∀ k,(∀ y0 y1 y2 y3 y4 y5,LeO (gT_eval.l0 k y0 y1 y2 y3 y4 y5) (gT_eval.l0 (k + 1) y0 y1 y2 y3 y4 y5))
 | 0 => fun _ _ _ _ _ _ r h => by simp [gT_eval.l0] at h
 | k + 1 => by
  have ih0 := gT_eval.mono_l k
  ·intro y0 y1 y2 y3 y4 y5
   unfold gT_eval.l0
   repeat' with_reducible first
   | exact ih0 _ _ _ _ _ _
   | exact LeO.refl _
   | exact LeO.none _
   | refine LeO.ite ?_ ?_
   | refine LeO.bind ?_ (fun _ => ?_)
theorem gT_eval.mono : ∀ a0 a1 a2 k,LeO (gT_eval.f k a0 a1 a2) (gT_eval.f (k + 1) a0 a1 a2) := by
 intro a0 a1 a2 k
 have ih0 := gT_eval.mono_l k
 unfold gT_eval.f
 repeat' with_reducible first
   | exact ih0 _ _ _ _ _ _
   | exact LeO.refl _
   | exact LeO.none _
   | refine LeO.ite ?_ ?_
   | refine LeO.bind ?_ (fun _ => ?_)
set_option maxHeartbeats 8000000 in
set_option maxRecDepth 100000 in
theorem gT_eval.calls (k : Nat) (A0 : Option Addr) (a0 : GTab) (A1 : Option Addr) (c1 : Nat) (l1 : List Int) (a2 : Int) (r : Int) (w : World) (hr0 : gal_OK w A0 a0) (hr1 : Kd.C (Kd.int .u8) w A1 l1.length l1) (hc1 : l1.length ≤ c1) (h : gT_eval.f k a0 l1 a2 = some r) :
  Calls Try.prog 74 #[.pointer A0,.slice A1 l1.length c1,.int .u8 a2] w fun e w' => e = .returned (.int .u8 r) ∧ Drawn0 w w' := by
 have HR0 := Aside0.mk hr0
 clear hr0
 have HR1 := Aside0.mk hr1
 have HC1 := Aside0.mk hc1
 clear hr1 hc1
 have H : (gT_eval.l0 k a0 a2 0 l1 (l1.length : Int) 0) = some r := h
 clear h
 have H' := Aside0.mk H
 clear H
 go_enter Try.func74,Try.ntmps74
 go_wp2
 go_loopg [7,12] k (fun kq v7 v12 w' => ∃ (x7_1 : Int) (x12_1 : Int),v7 = .int .u8 x7_1 ∧ v12 = .int .i64 x12_1 ∧ Aside0 (gT_eval.l0 kq a0 a2 x7_1 l1 (l1.length : Int) x12_1 = some r) ∧ Aside0 (kq ≤ k) ∧ Drawn0 w w')
 case atStart => exact ⟨(0),(0),(by first | rfl | (simp; done) | (simp [*]; done) | (simp [wrap64]; done)),(by first | rfl | (simp; done) | (simp [*]; done) | (simp [wrap64]; done)),H',⟨Nat.le_refl _⟩,by repeat (first | exact Drawn0.refl _ | apply Drawn0.step)⟩
 case round =>
  clear H'
  (try clear c1); (try clear p2)
  obtain ⟨x7_1,x12_1,rfl,rfl,HA,HK1,⟨m1,rfl⟩⟩ := hrel
  cases gk with
  | zero => exact absurd HA.out (by simp [gT_eval.l0])
  | succ k1 =>
   have H := HA.out
   clear HA
   simp only [gT_eval.l0] at H
   by_cases c4 : x12_1 < (l1.length : Int)
   rotate_left
   ·rw [if_neg c4] at H
    have c4b0 : decide (x12_1 < (l1.length : Int)) = false := decide_eq_false c4
    clear c4
    obtain rfl := Option.some.inj H
    go_wp2
    go_ret
    exact ⟨by first | rfl | (simp; done) | (simp [*]; done) | (simp [wrap64]; done),by repeat (first | exact Drawn0.refl _ | apply Drawn0.step)⟩


   rw [if_pos c4] at H
   have c4b0 : decide (x12_1 < (l1.length : Int)) = true := decide_eq_true c4
   clear c4
   by_cases c5 : 0 ≤ x12_1
   rotate_left
   ·rw [if_neg c5] at H
    exact absurd H (by simp)
   rw [if_pos c5] at H
   have c5b0 : decide (0 ≤ x12_1) = true := decide_eq_true c5
   clear c5
   by_cases c6 : x12_1 < (l1.length : Int)
   rotate_left
   ·rw [if_neg c6] at H
    exact absurd H (by simp)
   rw [if_pos c6] at H
   have c6b0 : decide (x12_1 < (l1.length : Int)) = true := decide_eq_true c6
   clear c6
   by_cases c7 : 0 < a0.size
   rotate_left
   ·rw [if_neg c7] at H
    exact absurd H (by simp)
   rw [if_pos c7] at H
   obtain ⟨b_,p_,q_,rfl,hT_⟩ := gal_pos HR0.out c7
   have HT0 := Aside0.mk hT_
   clear hT_ c7
   replace H := Option.bind_eq_some_iff.mp H
   obtain ⟨t201,A90,H⟩ := H
   try dsimp only at H
   have A9 := Aside0.mk A90
   clear A90
   have H' := Aside0.mk H
   clear H
   have p200 : 0 ≤ (x12_1 : Int) := oD
   have q200 : x12_1 < (l1.length : Int) := oD
   obtain ⟨ad200,e200,hx200_0⟩ := Kd.at_int HR1.out x12_1 p200 q200
   cases e200
   replace p200 := eq_true p200
   replace q200 := eq_true q200
   have ho8 := gal_At_mul HT0.out
   have hx8 := ho8
   go_wp2_with (first | (go_at_call 68; (with_reducible refine (gN1.calls b_ p_ q_ a0 x7_1 a2 t201 _ ?side1 A9.out).mono ?_); (case side1 => exact HT0.out); rintro e w' ⟨rfl,⟨nd,rfl⟩⟩))
   go_roundg k1
   case measure => have := HK1.out; omega
   case rel => exact ⟨(Go.bits .xor .u8 t201 (rd l1 x12_1)),(wrap64 (x12_1 + 1)),(by first | rfl | (simp; done) | (simp [*]; done) | (simp [wrap64]; done)),(by first | rfl | (simp; done) | (simp [*]; done) | (simp [wrap64]; done)),H',⟨by have := HK1.out; omega⟩,by repeat (first | exact Drawn0.refl _ | apply Drawn0.step)⟩
def gT_Eval.f (k : Nat) (a0 : GTab) (l1 : List Int) (a2 : Int) : Option (Int × Int) := (gT_lists.f k a0 (([l1,(([a2] : List Int))] : List (List Int)))).bind fun t208 => (if t208 = 0 then ((gT_eval.f k a0 l1 a2).bind fun t209 => (some (t209,0))) else (some (0,t208)))
theorem gT_Eval.mono : ∀ a0 a1 a2 k,LeO (gT_Eval.f k a0 a1 a2) (gT_Eval.f (k + 1) a0 a1 a2) := by
 intro a0 a1 a2 k
 unfold gT_Eval.f
 repeat' with_reducible first
   | exact gT_eval.mono _ _ _ _
   | exact gT_lists.mono _ _ _
   | exact LeO.refl _
   | exact LeO.none _
   | refine LeO.ite ?_ ?_
   | refine LeO.bind ?_ (fun _ => ?_)
set_option maxHeartbeats 8000000 in
set_option maxRecDepth 100000 in
theorem gT_Eval.calls (k : Nat) (A0 : Option Addr) (a0 : GTab) (P1_ : Nat → Prop) (A1 : Option Addr) (c1 : Nat) (l1 : List Int) (a2 : Int) (r1 : Int) (r2 : Int) (w : World) (hr0 : gal_OK w A0 a0) (hs1 : Kd.V (Kd.int .u8) 5 w w.heap.size (fun k_ => P1_ k_) (.slice A1 l1.length c1) l1) (h : gT_Eval.f k a0 l1 a2 = some (r1,r2)) :
  Calls Try.prog 51 #[.pointer A0,.slice A1 l1.length c1,.int .u8 a2] w fun e w' => e = .returned (.tuple #[.int .u8 r1,.int .i64 r2]) ∧ Below w.heap.size w w' := by
 have HR0 := Aside0.mk hr0
 clear hr0
 have HO1 := aK (show Kd.V (Kd.int .u8) 5 w w.heap.size (fun k_ => (P1_ k_ ∨ w.heap.size ≤ k_)) (.slice A1 l1.length c1) l1 from Kd.V_mono hs1 (fun k_ hk => .inl hk))
 have HB := aK (Below.refl w.heap.size w)
 have H : ((gT_lists.f k a0 (([l1,(([a2] : List Int))] : List (List Int)))).bind fun t208 => (if t208 = 0 then ((gT_eval.f k a0 l1 a2).bind fun t209 => (some (t209,0))) else (some (0,t208)))) = some (r1,r2) := h
 clear h
 obtain ⟨y202,hy202⟩ : ∃ y_ : List Int,y_ = (([a2] : List Int)) := ⟨_,rfl⟩
 replace H : ((gT_lists.f k a0 (([l1,y202] : List (List Int)))).bind fun t208 => (if t208 = 0 then ((gT_eval.f k a0 l1 a2).bind fun t209 => (some (t209,0))) else (some (0,t208)))) = some (r1,r2) := by rw [hy202]; exact H
 have Ny202 := Aside0.mk hy202
 clear hy202
 obtain ⟨y205,hy205⟩ : ∃ y_ : List (List Int),y_ = (([l1,y202] : List (List Int))) := ⟨_,rfl⟩
 replace H : ((gT_lists.f k a0 y205).bind fun t208 => (if t208 = 0 then ((gT_eval.f k a0 l1 a2).bind fun t209 => (some (t209,0))) else (some (0,t208)))) = some (r1,r2) := by rw [hy205]; exact H
 have Ny205 := Aside0.mk hy205
 clear hy205
 replace H := Option.bind_eq_some_iff.mp H
 obtain ⟨t208,A40,H⟩ := H
 try dsimp only at H
 have A4 := Aside0.mk A40
 clear A40
 by_cases c5 : t208 = 0
 rotate_left
 ·rw [if_neg c5] at H
  have c5b0 : (t208 == 0) = false := beq_eq_false_iff_ne.mpr c5
  have c5b1 : (t208 != 0) = true := bne_iff_ne.mpr c5
  simp only [Option.some.injEq,Prod.mk.injEq] at H
  obtain ⟨rfl,rfl⟩ := H
  go_enter Try.func51,Try.ntmps51
  go_wp2_with (first | ((with_reducible refine gate_dst (N := 12) rfl ?_); refine Kd.R_lit (Kd.int .u8) _ 5 ?hg (N := 12) ?hd (xs := ([a2] : List Int)) (inner := [.int .u8 a2]) (ok := fun _ => True) (okp := fun _ => True) ?hr ?hp (fun _ hk => hk) trivial (Below.refl _ _) (Nat.le_refl _) (by simp) ?_; (case hd => rfl); (case hg => rfl); (case hr => first | (go_simp; done) | (go_simp; rfl)); (case hp => exact (Reps.one (show Kd.M (Kd.int .u8) _ _ _ a2 [.int .u8 a2] from rfl) (Reps.none _ _))); intro v203 w13 ho14 hb hg_ hnew_; clear hg_ hnew_; (first | rw [← Ny202.out] at ho14 | (simp only [Int.reduceToNat] at ho14; rw [← Ny202.out] at ho14)); replace HO1 := aK (Kd.V_elder' (by (with_reducible repeat (first | apply Kd.V_alloc | apply Kd.V_drewN | apply Kd.V_drew)); exact HO1.out) (Kd.R_base ho14) hb); have HO204 := aK (Kd.R_lower (Kd.R_newM (M := fun k_ => (w.heap.size ≤ k_)) ho14 (below_size (mvh HB.out)) (fun k_ h_ => h_)) (below_size (mvh HB.out))); replace HB := aK (below_step (mvh HB.out) hb); clear hb ho14; obtain ⟨Ao15,co15,eo15⟩ := Kd.R_slice HO204.out; subst eo15) | ((with_reducible refine gate_dst (N := 13) rfl ?_); refine Kd.N_lit (Kd.slice 5 (Kd.int .u8)) _ 27 ?hg (N' := 13) ?hd (xs := ([l1,y202] : List (List Int))) (inner := [.slice A1 l1.length c1,.slice Ao15 y202.length co15]) (ok := (fun k_ => (P1_ k_ ∨ w.heap.size ≤ k_))) (okp := (fun k_ => (P1_ k_ ∨ w.heap.size ≤ k_))) ?hr ?hp (fun _ hk => hk) ((show ∀ k_,w13.heap.size ≤ k_ → (fun k_ => (P1_ k_ ∨ w.heap.size ≤ k_)) k_ from fun k_ hk => (.inr (Nat.le_trans (below_size (mvh HB.out)) hk))) _ (Nat.le_refl _)) (Below.refl _ _) (Nat.le_refl _) (by simp) ?_; (case hd => rfl); (case hg => rfl); (case hr => first | (go_simp; done) | (go_simp; rfl)); (case hp => exact (Reps.one (show Kd.FK (Kd.slice 5 (Kd.int .u8)) _ _ l1 [.slice A1 l1.length c1] from (Kd.FK_slice_mk (Kd.V_reads' (Kd.V_mono (ok' := (fun k_ => (P1_ k_ ∨ w.heap.size ≤ k_))) (HO1.out) (fun k_ hk => hk.1))).2.1 (Kd.V_F (Kd.V_mono (ok' := (fun k_ => (P1_ k_ ∨ w.heap.size ≤ k_))) (HO1.out) (fun k_ hk => hk.1))))) (Reps.one (show Kd.FK (Kd.slice 5 (Kd.int .u8)) _ _ y202 [.slice Ao15 y202.length co15] from (Kd.FK_slice_mk (Kd.R_reads' (Kd.R_mono (ok' := (fun k_ => (P1_ k_ ∨ w.heap.size ≤ k_))) (HO204.out) (fun k_ hk => (.inr (hk.1))))).2.1 (Kd.R_F (Kd.R_mono (ok' := (fun k_ => (P1_ k_ ∨ w.heap.size ≤ k_))) (HO204.out) (fun k_ hk => (.inr (hk.1))))))) (Reps.none _ _)))); intro v206 w16 ho17 hb hg_ hnew_; clear hg_ hnew_; (first | rw [← Ny205.out] at ho17 | (simp only [Int.reduceToNat] at ho17; rw [← Ny205.out] at ho17)); replace HO1 := aK (Kd.V_elder' (by (with_reducible repeat (first | apply Kd.V_alloc | apply Kd.V_drewN | apply Kd.V_drew)); exact HO1.out) (Kd.N_base ho17) hb); have HO207 := aK (Kd.N_lower ho17 (below_size (mvh HB.out))); replace HB := aK (below_step (mvh HB.out) hb); clear HO204; clear hb ho17; obtain ⟨Ao18,co18,eo18⟩ := Kd.N_slice HO207.out; subst eo18) | (go_at_call 73; (with_reducible refine (gT_lists.calls k _ a0 _ _ y205 t208 _ ?side1 ?side2 ?side3 A4.out).mono ?_); (case side1 => exact (gal_OK_below HR0.out HB.out)); (case side2 => exact mvC (Kd.N_reads' HO207.out).2.2); (case side3 => exact (Kd.N_reads' HO207.out).2.1); rintro e w' ⟨rfl,⟨nd,rfl⟩⟩))
  go_ret2
  exact ⟨by first | rfl | (simp [errW_none,errW_some] <;> rfl) | (simp [*,errW_none,errW_some] <;> rfl),mvh HB.out⟩


 rw [if_pos c5] at H
 have c5b0 : (t208 == 0) = true := beq_iff_eq.mpr c5
 have c5b1 : (t208 != 0) = false := bne_eq_false_iff_eq.mpr c5
 clear c5
 replace H := Option.bind_eq_some_iff.mp H
 obtain ⟨t209,A60,H⟩ := H
 replace H : (some (t209,0)) = some (r1,r2) := H
 have A6 := Aside0.mk A60
 clear A60
 simp only [Option.some.injEq,Prod.mk.injEq] at H
 obtain ⟨rfl,rfl⟩ := H
 go_enter Try.func51,Try.ntmps51
 go_wp2_with (first | ((with_reducible refine gate_dst (N := 12) rfl ?_); refine Kd.R_lit (Kd.int .u8) _ 5 ?hg (N := 12) ?hd (xs := ([a2] : List Int)) (inner := [.int .u8 a2]) (ok := fun _ => True) (okp := fun _ => True) ?hr ?hp (fun _ hk => hk) trivial (Below.refl _ _) (Nat.le_refl _) (by simp) ?_; (case hd => rfl); (case hg => rfl); (case hr => first | (go_simp; done) | (go_simp; rfl)); (case hp => exact (Reps.one (show Kd.M (Kd.int .u8) _ _ _ a2 [.int .u8 a2] from rfl) (Reps.none _ _))); intro v203 w7 ho8 hb hg_ hnew_; clear hg_ hnew_; (first | rw [← Ny202.out] at ho8 | (simp only [Int.reduceToNat] at ho8; rw [← Ny202.out] at ho8)); replace HO1 := aK (Kd.V_elder' (by (with_reducible repeat (first | apply Kd.V_alloc | apply Kd.V_drewN | apply Kd.V_drew)); exact HO1.out) (Kd.R_base ho8) hb); have HO204 := aK (Kd.R_lower (Kd.R_newM (M := fun k_ => (w.heap.size ≤ k_)) ho8 (below_size (mvh HB.out)) (fun k_ h_ => h_)) (below_size (mvh HB.out))); replace HB := aK (below_step (mvh HB.out) hb); clear hb ho8; obtain ⟨Ao9,co9,eo9⟩ := Kd.R_slice HO204.out; subst eo9) | ((with_reducible refine gate_dst (N := 13) rfl ?_); refine Kd.N_lit (Kd.slice 5 (Kd.int .u8)) _ 27 ?hg (N' := 13) ?hd (xs := ([l1,y202] : List (List Int))) (inner := [.slice A1 l1.length c1,.slice Ao9 y202.length co9]) (ok := (fun k_ => (P1_ k_ ∨ w.heap.size ≤ k_))) (okp := (fun k_ => (P1_ k_ ∨ w.heap.size ≤ k_))) ?hr ?hp (fun _ hk => hk) ((show ∀ k_,w7.heap.size ≤ k_ → (fun k_ => (P1_ k_ ∨ w.heap.size ≤ k_)) k_ from fun k_ hk => (.inr (Nat.le_trans (below_size (mvh HB.out)) hk))) _ (Nat.le_refl _)) (Below.refl _ _) (Nat.le_refl _) (by simp) ?_; (case hd => rfl); (case hg => rfl); (case hr => first | (go_simp; done) | (go_simp; rfl)); (case hp => exact (Reps.one (show Kd.FK (Kd.slice 5 (Kd.int .u8)) _ _ l1 [.slice A1 l1.length c1] from (Kd.FK_slice_mk (Kd.V_reads' (Kd.V_mono (ok' := (fun k_ => (P1_ k_ ∨ w.heap.size ≤ k_))) (HO1.out) (fun k_ hk => hk.1))).2.1 (Kd.V_F (Kd.V_mono (ok' := (fun k_ => (P1_ k_ ∨ w.heap.size ≤ k_))) (HO1.out) (fun k_ hk => hk.1))))) (Reps.one (show Kd.FK (Kd.slice 5 (Kd.int .u8)) _ _ y202 [.slice Ao9 y202.length co9] from (Kd.FK_slice_mk (Kd.R_reads' (Kd.R_mono (ok' := (fun k_ => (P1_ k_ ∨ w.heap.size ≤ k_))) (HO204.out) (fun k_ hk => (.inr (hk.1))))).2.1 (Kd.R_F (Kd.R_mono (ok' := (fun k_ => (P1_ k_ ∨ w.heap.size ≤ k_))) (HO204.out) (fun k_ hk => (.inr (hk.1))))))) (Reps.none _ _)))); intro v206 w10 ho11 hb hg_ hnew_; clear hg_ hnew_; (first | rw [← Ny205.out] at ho11 | (simp only [Int.reduceToNat] at ho11; rw [← Ny205.out] at ho11)); replace HO1 := aK (Kd.V_elder' (by (with_reducible repeat (first | apply Kd.V_alloc | apply Kd.V_drewN | apply Kd.V_drew)); exact HO1.out) (Kd.N_base ho11) hb); have HO207 := aK (Kd.N_lower ho11 (below_size (mvh HB.out))); replace HB := aK (below_step (mvh HB.out) hb); clear HO204; clear hb ho11; obtain ⟨Ao12,co12,eo12⟩ := Kd.N_slice HO207.out; subst eo12) | (go_at_call 73; (with_reducible refine (gT_lists.calls k _ a0 _ _ y205 t208 _ ?side1 ?side2 ?side3 A4.out).mono ?_); (case side1 => exact (gal_OK_below HR0.out HB.out)); (case side2 => exact mvC (Kd.N_reads' HO207.out).2.2); (case side3 => exact (Kd.N_reads' HO207.out).2.1); rintro e w' ⟨rfl,⟨nd,rfl⟩⟩) | (go_at_call 74; (with_reducible refine (gT_eval.calls k _ a0 _ _ l1 a2 t209 _ ?side1 ?side2 ?side3 A6.out).mono ?_); (case side1 => exact (gal_OK_below HR0.out (mvh HB.out))); (case side2 => exact mvC (Kd.V_reads' HO1.out).2.2); (case side3 => exact (Kd.V_reads' HO1.out).2.1); rintro e w' ⟨rfl,⟨nd,rfl⟩⟩))
 go_ret2
 exact ⟨by first | rfl | (simp [errW_none,errW_some] <;> rfl) | (simp [*,errW_none,errW_some] <;> rfl),mvh HB.out⟩
def reedsol_open_3.f (k : Nat) (t : RCode) (l : List Int) (a : Int) : Option Int := (gT_Eval.f k t.T l a).bind fun r => some r.1
theorem reedsol_open_3.mono : ∀ a0 a1 a2 k,LeO (reedsol_open_3.f k a0 a1 a2) (reedsol_open_3.f (k + 1) a0 a1 a2) := by
 intro a0 a1 a2 k
 unfold reedsol_open_3.f
 exact LeO.bind (gT_Eval.mono _ _ _ _) (fun _ => LeO.refl _)
set_option maxHeartbeats 8000000 in
set_option maxRecDepth 100000 in
theorem reedsol_open_3.calls (k : Nat) (b p c d g : Nat) (a0 : RCode) (A1 : Option Addr) (c1 : Nat) (l1 : List Int) (a2 r : Int) (w : World) (hr0 : rs_At w b p c d g a0) (hr1 : Kd.C (Kd.int .u8) w A1 l1.length l1) (hc1 : l1.length ≤ c1) (h : reedsol_open_3.f k a0 l1 a2 = some r) :
  Calls Try.prog 50 #[.slice A1 l1.length c1,.int .u8 a2,.pointer (some ⟨p,0,none⟩)] w fun e w' => e = .returned (.int .u8 r) ∧ Below w.heap.size w w' := by
 unfold reedsol_open_3.f at h
 obtain ⟨⟨x,z⟩,h1,h2⟩ := Option.bind_eq_some_iff.mp h
 obtain rfl := Option.some.inj h2
 have HA := Aside0.mk h1
 have HT := aK (rs_At_T hr0)
 have hx := rs_At_var hr0
 have HV := aK (show Kd.V (Kd.int .u8) 5 w w.heap.size (fun k_ => k_ < w.heap.size) (.slice A1 l1.length c1) l1 from Kd.V_mk hc1 (Kd.C_F (Kd.heap_int .u8) hr1))
 clear h h1 h2 hr0 hr1 hc1
 go_enter Try.func50,Try.ntmps50
 go_wp2_with (go_at_call 51; (with_reducible refine (gT_Eval.calls k _ a0.T (fun k_ => k_ < w.heap.size) _ _ l1 a2 x z _ ?side1 ?side2 HA.out).mono ?_); (case side1 => exact HT.out); (case side2 => exact HV.out); rintro e w5 ⟨rfl,hb⟩; have HB := Aside0.mk hb; clear hb)
 go_ret
 exact ⟨rfl,HB.out⟩

def reedsol_open.f (k : Nat) (a0_0 a0_1 a0_2 a0_3 : Int) : Option (RCode × Int) :=
 (reedsol_Check.f k a0_0 a0_1 a0_2 a0_3).bind fun e => if e = 0 then ((galois_New.f k a0_0 a0_1).bind fun bt => if bt.2 = 0 then (if 0 < bt.1.size then some (⟨a0_0,a0_1,a0_2,a0_3,bt.1⟩,0) else none) else some (RCode.none,bt.2)) else some (RCode.none,e)
theorem reedsol_open.mono : ∀ a0 a1 a2 a3 k,LeO (reedsol_open.f k a0 a1 a2 a3) (reedsol_open.f (k + 1) a0 a1 a2 a3) := by
 intro a0 a1 a2 a3 k
 unfold reedsol_open.f
 refine LeO.bind (reedsol_Check.mono _ _ _ _ _) (fun _ => ?_)
 refine LeO.ite ?_ (LeO.refl _)
 exact LeO.bind (galois_New.mono _ _ _) (fun _ => LeO.refl _)
theorem rs_none_OK (w : World) : rs_OK w none RCode.none := .inl ⟨rfl,rfl⟩
set_option maxHeartbeats 8000000 in
set_option maxRecDepth 100000 in
theorem reedsol_open.calls (k : Nat) (a0_0 a0_1 a0_2 a0_3 : Int) (r1 : RCode) (r2 : Int) (w : World) (h : reedsol_open.f k a0_0 a0_1 a0_2 a0_3 = some (r1,r2)) :
  Calls Try.prog 26 #[.agg #[.int .i64 a0_0,.int .u64 a0_1,.int .i64 a0_2,.int .i64 a0_3]] w fun e w' => ∃ A_ : Option Addr,e = .returned (.tuple #[.pointer A_,.int .i64 r2]) ∧ rs_OK w' A_ r1 ∧ Below w.heap.size w w' := by
 have hu24 := Try.underlying24
 have hu26 := Try.underlying26
 have hu69 := Try.underlying66
 have HB := aK (Below.refl w.heap.size w)
 unfold reedsol_open.f at h
 obtain ⟨e,he,h⟩ := Option.bind_eq_some_iff.mp h
 have HE := Aside0.mk he
 clear he
 by_cases c0 : e = 0
 rotate_left
 ·rw [if_neg c0] at h
  simp only [Option.some.injEq,Prod.mk.injEq] at h
  obtain ⟨rfl,rfl⟩ := h
  have hz : (e != 0) = true := bne_iff_ne.mpr c0
  clear c0
  go_enter Try.func26,Try.ntmps26
  go_wp2_with (first | ((with_reducible refine gate_dst (N := 1) rfl ?_); refine box_event ?hg (N := 1) ?hd (cs := #[.int .i64 a0_0,.int .u64 a0_1,.int .i64 a0_2,.int .i64 a0_3]) (t := 26) ?hr ?_; (case hd => rfl); (case hg => rfl); (case hr => first | (go_simp; done) | (go_simp; rfl)); intro b hg_ wb hbox_ hb_; have n0_ := aK (below_step HB.out hb_); have n1_ := Aside0.mk hbox_; have n2_ := aK ((by rw [hg_]; exact below_size HB.out) : w.heap.size ≤ b); clear HB; have HB := n0_; have BKb := n1_; have GEb := n2_; clear n0_ n1_ n2_; clear hb_ hbox_ hg_; have hcb_0 : wb.cell? ⟨b,0,none⟩ = some (.int .i64 a0_0) := (blk_cell BKb.out 0).trans rfl; have hfb_0 := blk_frozen BKb.out 0; have hcb_1 : wb.cell? ⟨b,1,none⟩ = some (.int .u64 a0_1) := (blk_cell BKb.out 1).trans rfl; have hfb_1 := blk_frozen BKb.out 1; have hcb_2 : wb.cell? ⟨b,2,none⟩ = some (.int .i64 a0_2) := (blk_cell BKb.out 2).trans rfl; have hfb_2 := blk_frozen BKb.out 2; have hcb_3 : wb.cell? ⟨b,3,none⟩ = some (.int .i64 a0_3) := (blk_cell BKb.out 3).trans rfl; have hfb_3 := blk_frozen BKb.out 3) | (go_at_call 42; (with_reducible refine (reedsol_Check.calls k _ _ _ _ e _ HE.out).mono ?_); rintro e w5 ⟨rfl,hb⟩; replace HB := aK (below_step HB.out hb); clear hb))
  go_ret2
  exact ⟨none,rfl,rs_none_OK _,HB.out⟩

 rw [if_pos c0] at h
 subst c0
 obtain ⟨⟨t,z⟩,hn,h⟩ := Option.bind_eq_some_iff.mp h
 have HN := Aside0.mk hn
 clear hn
 by_cases c1 : z = 0
 rotate_left
 ·replace h := (if_neg c1).symm.trans h
  simp only [Option.some.injEq,Prod.mk.injEq] at h
  obtain ⟨rfl,rfl⟩ := h
  have hz : (z != 0) = true := bne_iff_ne.mpr c1
  clear c1
  go_enter Try.func26,Try.ntmps26
  go_wp2_with (first | ((with_reducible refine gate_dst (N := 1) rfl ?_); refine box_event ?hg (N := 1) ?hd (cs := #[.int .i64 a0_0,.int .u64 a0_1,.int .i64 a0_2,.int .i64 a0_3]) (t := 26) ?hr ?_; (case hd => rfl); (case hg => rfl); (case hr => first | (go_simp; done) | (go_simp; rfl)); intro b hg_ wb hbox_ hb_; have n0_ := aK (below_step HB.out hb_); have n1_ := Aside0.mk hbox_; have n2_ := aK ((by rw [hg_]; exact below_size HB.out) : w.heap.size ≤ b); clear HB; have HB := n0_; have BKb := n1_; have GEb := n2_; clear n0_ n1_ n2_; clear hb_ hbox_ hg_; have hcb_0 : wb.cell? ⟨b,0,none⟩ = some (.int .i64 a0_0) := (blk_cell BKb.out 0).trans rfl; have hfb_0 := blk_frozen BKb.out 0; have hcb_1 : wb.cell? ⟨b,1,none⟩ = some (.int .u64 a0_1) := (blk_cell BKb.out 1).trans rfl; have hfb_1 := blk_frozen BKb.out 1; have hcb_2 : wb.cell? ⟨b,2,none⟩ = some (.int .i64 a0_2) := (blk_cell BKb.out 2).trans rfl; have hfb_2 := blk_frozen BKb.out 2; have hcb_3 : wb.cell? ⟨b,3,none⟩ = some (.int .i64 a0_3) := (blk_cell BKb.out 3).trans rfl; have hfb_3 := blk_frozen BKb.out 3) | (go_at_call 42; (with_reducible refine (reedsol_Check.calls k _ _ _ _ 0 _ HE.out).mono ?_); rintro e w5 ⟨rfl,hb⟩; replace HB := aK (below_step HB.out hb); have n0_ := aK (blk_below BKb.out hb); clear BKb; have BKb := n0_; clear n0_ hb; have hcb_w5_0 : w5.cell? ⟨b,0,none⟩ = some (.int .i64 a0_0) := (blk_cell BKb.out 0).trans rfl; have hfb_w5_0 := blk_frozen BKb.out 0; have hcb_w5_1 : w5.cell? ⟨b,1,none⟩ = some (.int .u64 a0_1) := (blk_cell BKb.out 1).trans rfl; have hfb_w5_1 := blk_frozen BKb.out 1; have hcb_w5_2 : w5.cell? ⟨b,2,none⟩ = some (.int .i64 a0_2) := (blk_cell BKb.out 2).trans rfl; have hfb_w5_2 := blk_frozen BKb.out 2; have hcb_w5_3 : w5.cell? ⟨b,3,none⟩ = some (.int .i64 a0_3) := (blk_cell BKb.out 3).trans rfl; have hfb_w5_3 := blk_frozen BKb.out 3) | (go_at_call 43; (with_reducible refine (galois_New.calls k _ _ t z _ HN.out).mono ?_); rintro e w6 ⟨Ap,rfl,hT_,hb⟩; replace HB := aK (below_step HB.out hb); replace BKb := aK (blk_below BKb.out hb); clear hb))
  go_ret2
  exact ⟨none,rfl,rs_none_OK _,below_alloc HB.out _⟩
 subst c1
 replace h := (if_pos rfl).symm.trans h
 by_cases c2 : 0 < t.size
 rotate_left
 ·have hq : (none : Option (RCode × Int)) = some (r1,r2) := (if_neg (c := 0 < t.size) c2).symm.trans h
  cases hq
 have hq : (some ((⟨a0_0,a0_1,a0_2,a0_3,t⟩ : RCode),(0 : Int))) = some (r1,r2) := (if_pos (c := 0 < t.size) c2).symm.trans h
 simp only [Option.some.injEq,Prod.mk.injEq] at hq
 obtain ⟨rfl,rfl⟩ := hq
 clear h
 have HC2 := Aside0.mk c2
 clear c2
 go_enter Try.func26,Try.ntmps26
 go_wp2_with (first | ((with_reducible refine gate_dst (N := 1) rfl ?_); refine box_event ?hg (N := 1) ?hd (cs := #[.int .i64 a0_0,.int .u64 a0_1,.int .i64 a0_2,.int .i64 a0_3]) (t := 26) ?hr ?_; (case hd => rfl); (case hg => rfl); (case hr => first | (go_simp; done) | (go_simp; rfl)); intro b hg_ wb hbox_ hb_; have n0_ := aK (below_step HB.out hb_); have n1_ := Aside0.mk hbox_; have n2_ := aK ((by rw [hg_]; exact below_size HB.out) : w.heap.size ≤ b); clear HB; have HB := n0_; have BKb := n1_; have GEb := n2_; clear n0_ n1_ n2_; clear hb_ hbox_ hg_; have hcb_0 : wb.cell? ⟨b,0,none⟩ = some (.int .i64 a0_0) := (blk_cell BKb.out 0).trans rfl; have hfb_0 := blk_frozen BKb.out 0; have hcb_1 : wb.cell? ⟨b,1,none⟩ = some (.int .u64 a0_1) := (blk_cell BKb.out 1).trans rfl; have hfb_1 := blk_frozen BKb.out 1; have hcb_2 : wb.cell? ⟨b,2,none⟩ = some (.int .i64 a0_2) := (blk_cell BKb.out 2).trans rfl; have hfb_2 := blk_frozen BKb.out 2; have hcb_3 : wb.cell? ⟨b,3,none⟩ = some (.int .i64 a0_3) := (blk_cell BKb.out 3).trans rfl; have hfb_3 := blk_frozen BKb.out 3) | (go_at_call 42; (with_reducible refine (reedsol_Check.calls k _ _ _ _ 0 _ HE.out).mono ?_); rintro e w5 ⟨rfl,hb⟩; replace HB := aK (below_step HB.out hb); have n0_ := aK (blk_below BKb.out hb); clear BKb; have BKb := n0_; clear n0_ hb; have hcb_w5_0 : w5.cell? ⟨b,0,none⟩ = some (.int .i64 a0_0) := (blk_cell BKb.out 0).trans rfl; have hfb_w5_0 := blk_frozen BKb.out 0; have hcb_w5_1 : w5.cell? ⟨b,1,none⟩ = some (.int .u64 a0_1) := (blk_cell BKb.out 1).trans rfl; have hfb_w5_1 := blk_frozen BKb.out 1; have hcb_w5_2 : w5.cell? ⟨b,2,none⟩ = some (.int .i64 a0_2) := (blk_cell BKb.out 2).trans rfl; have hfb_w5_2 := blk_frozen BKb.out 2; have hcb_w5_3 : w5.cell? ⟨b,3,none⟩ = some (.int .i64 a0_3) := (blk_cell BKb.out 3).trans rfl; have hfb_w5_3 := blk_frozen BKb.out 3) | (go_at_call 43; (with_reducible refine (galois_New.calls k _ _ t 0 _ HN.out).mono ?_); rintro e w6 ⟨Ap,rfl,hT_,hb⟩; replace HB := aK (below_step HB.out hb); have n0_ := aK (blk_below BKb.out hb); clear BKb; have BKb := n0_; clear n0_ hb; obtain ⟨hnil_,c,d,g,rfl,hg_⟩ := (hT_.elim (fun h_ => absurd HC2.out (by have := h_.1; omega)) (fun h_ => h_) : t.nil = false ∧ ∃ c d g,Ap = some ⟨c,0,none⟩ ∧ gal_At w6 c d g t); have HNIL := Aside0.mk hnil_; have HGA := Aside0.mk hg_; clear hT_ hnil_ hg_))
 obtain ⟨W7,hW7⟩ : ∃ W7,W7 = w6.alloc (.cells #[.pointer (some ⟨c,0,none⟩)] 88) := ⟨_,rfl⟩
 obtain ⟨p,hp⟩ : ∃ p,p = w6.heap.size := ⟨_,rfl⟩
 rw [← hW7,← hp]
 have hb7 : Below w6.heap.size w6 W7 := by rw [hW7]; exact below_alloc (Below.refl _ _) _
 have BKp := aK (show W7.heap[p]? = some (.cells #[.pointer (some ⟨c,0,none⟩)] 88 (0,0)) by rw [hW7,hp]; exact blk_new w6 _)
 have BKb7 := aK (blk_below BKb.out hb7)
 have HB7 := aK (below_step HB.out hb7)
 have HG7 := aK (gal_At_below HGA.out hb7)
 have GEp : Aside0 (w.heap.size ≤ p) := ⟨by rw [hp]; exact below_size HB.out⟩
 have HSZ : Aside0 (gT_Size.f t = some (t.size : Int)) := ⟨by
  have hs := HG7.out.2.1
  have hd := HNIL.out
  unfold gT_Size.f gT_none.f
  have h0 := HC2.out
  simp [h0]
  omega⟩
 have s1 := (blk_cell BKb7.out 0).trans (show #[Value.int .i64 a0_0,.int .u64 a0_1,.int .i64 a0_2,.int .i64 a0_3][0]? = some (.int .i64 a0_0) from rfl)
 have s2 := (blk_cell BKb7.out 1).trans (show #[Value.int .i64 a0_0,.int .u64 a0_1,.int .i64 a0_2,.int .i64 a0_3][1]? = some (.int .u64 a0_1) from rfl)
 have s3 := (blk_cell BKb7.out 2).trans (show #[Value.int .i64 a0_0,.int .u64 a0_1,.int .i64 a0_2,.int .i64 a0_3][2]? = some (.int .i64 a0_2) from rfl)
 have s4 := (blk_cell BKb7.out 3).trans (show #[Value.int .i64 a0_0,.int .u64 a0_1,.int .i64 a0_2,.int .i64 a0_3][3]? = some (.int .i64 a0_3) from rfl)
 have s5 := (blk_cell BKp.out 0).trans (show #[Value.pointer (some ⟨c,0,none⟩)][0]? = some (.pointer (some ⟨c,0,none⟩)) from rfl)
 have HOK := aK (show gal_OK W7 (some ⟨c,0,none⟩) t by unfold gal_OK; exact .inr ⟨HNIL.out,c,d,g,rfl,HG7.out⟩)
 clear hW7 hp hb7 HB HGA
 refine start_ (n := 12) (S := (fun w' => w'.cell? ⟨b,0,none⟩ = some (.int .i64 a0_0) ∧ w'.cell? ⟨b,1,none⟩ = some (.int .u64 a0_1) ∧ w'.cell? ⟨b,2,none⟩ = some (.int .i64 a0_2) ∧ w'.cell? ⟨b,3,none⟩ = some (.int .i64 a0_3) ∧ w'.cell? ⟨p,0,none⟩ = some (.pointer (some ⟨c,0,none⟩)))) (ds := []) (bts 12 0) (by kernel_rfl) rfl rfl ⟨s1,s2,s3,s4,s5⟩ (fun hHeld => ?_)
 clear s1 s2 s3 s4 s5
 refine take_ (i := 0) (N := some 21) (v := ?_) (a' := ?_) (bts 12 1) rfl rfl (by kernel_rfl) (fun _ _ _ h => h) (Or.inl ⟨by rfl,?_⟩) hHeld ?_ ?_
 rotate_left
 ·rintro w' ⟨s0,s1,s2,s3,s4⟩
  go_simp
  with_reducible rfl
 rotate_left
 ·simp only [Act.put,List.setIfInBounds_toArray,List.set_cons_zero,List.set_cons_succ,i64_w,i32_w]
  rfl
 refine take_ (i := 1) (N := some 22) (v := ?_) (a' := ?_) (bts 12 3) rfl rfl (by kernel_rfl) (fun _ _ _ h => h) (Or.inl ⟨by rfl,?_⟩) hHeld ?_ ?_
 rotate_left
 ·rintro w' ⟨s0,s1,s2,s3,s4⟩
  go_simp
  with_reducible rfl
 rotate_left
 ·simp only [Act.put,List.setIfInBounds_toArray,List.set_cons_zero,List.set_cons_succ,i64_w,i32_w]
  rfl
 refine take_ (i := 3) (N := some 24) (v := ?_) (a' := ?_) (bts 12 11) rfl rfl (by kernel_rfl) (fun _ _ _ h => h) (Or.inl ⟨by rfl,?_⟩) hHeld ?_ ?_
 rotate_left
 ·rintro w' ⟨s0,s1,s2,s3,s4⟩
  go_simp
  with_reducible rfl
 rotate_left
 ·simp only [Act.put,List.setIfInBounds_toArray,List.set_cons_zero,List.set_cons_succ,i64_w,i32_w]
  rfl
 refine pure_ (i := 4) (N := some 25) (v := ?_) (a' := ?_) (bts 12 27) rfl rfl (by kernel_rfl) (fun _ _ _ h => h) (Or.inl ⟨by rfl,?_⟩) ?_ ?_
 rotate_left
 ·intro w'
  go_simp
  with_reducible rfl
 rotate_left
 ·simp only [Act.put,List.setIfInBounds_toArray,List.set_cons_zero,List.set_cons_succ,i64_w,i32_w]
  rfl
 refine pure_ (i := 5) (N := some 26) (v := ?_) (a' := ?_) (bts 12 59) rfl rfl (by kernel_rfl) (fun _ _ _ h => h) (Or.inl ⟨by rfl,?_⟩) ?_ ?_
 rotate_left
 ·intro w'
  go_simp
  with_reducible rfl
 rotate_left
 ·simp only [Act.put,List.setIfInBounds_toArray,List.set_cons_zero,List.set_cons_succ,i64_w,i32_w]
  rfl
 refine pure_ (i := 6) (N := some 27) (v := ?_) (a' := ?_) (bts 12 123) rfl rfl (by kernel_rfl) (fun _ _ _ h => h) (Or.inl ⟨by rfl,?_⟩) ?_ ?_
 rotate_left
 ·intro w'
  go_simp
  with_reducible rfl
 rotate_left
 ·simp only [Act.put,List.setIfInBounds_toArray,List.set_cons_zero,List.set_cons_succ,i64_w,i32_w]
  rfl
 refine pure_ (i := 7) (N := some 28) (v := ?_) (a' := ?_) (bts 12 251) rfl rfl (by kernel_rfl) (fun _ _ _ h => h) (Or.inl ⟨by rfl,?_⟩) ?_ ?_
 rotate_left
 ·intro w'
  go_simp
  with_reducible rfl
 rotate_left
 ·simp only [Act.put,List.setIfInBounds_toArray,List.set_cons_zero,List.set_cons_succ,i64_w,i32_w]
  rfl
 refine one_ (i := 2) (N := some 23) (bts 12 255) rfl rfl (by kernel_rfl) (by decide) (fun K hK => ?_)
 refine goes_ Try.func44 (by kernel_rfl) rfl #[.pointer (some ⟨c,0,none⟩)] (by rfl) rfl rfl (by (try simp only [List.map_toArray,List.map_cons,List.map_nil]); first | done | rfl) ?_
 with_reducible refine (gT_Size.calls _ t (t.size : Int) _ (gal_OK_drew HOK.out) HSZ.out).mono ?_
 rintro e w13 ⟨rfl,⟨nd,rfl⟩⟩
 refine ⟨_,rfl,?_⟩
 refine hK.out _ _ hHeld (fun hHeld => ?_)
 clear hK K
 refine norm_ (a' := ?_) ?_ ?_
 rotate_left
 ·show Act.put _ (some 23) _ = _
  simp only [Act.put,List.setIfInBounds_toArray,List.set_cons_zero,List.set_cons_succ,i64_w,i32_w]
  rfl
 refine pure_ (i := 8) (N := some 29) (v := ?_) (a' := ?_) (bts 12 511) rfl rfl (by kernel_rfl) (fun _ _ _ h => h) (Or.inl ⟨by rfl,?_⟩) ?_ ?_
 rotate_left
 ·intro w'
  go_simp
  with_reducible rfl
 rotate_left
 ·simp only [Act.put,List.setIfInBounds_toArray,List.set_cons_zero,List.set_cons_succ,i64_w,i32_w]
  rfl
 refine one_ (i := 9) (N := some 30) (bts 12 1023) rfl rfl (by kernel_rfl) (by decide) (fun K hK => ?_)
 refine box_step (N := 30) (cs := #[.int .i64 a0_0,.int .u64 a0_1,.int .i64 a0_2,.int .i64 a0_3,.int .i64 (t.size : Int),.func (.func 46) #[] #[.pointer (some ⟨p,0,none⟩)],.func (.func 48) #[] #[.pointer (some ⟨p,0,none⟩)],.func (.func 45) #[.pointer (some ⟨c,0,none⟩)] #[],.func (.func 50) #[] #[.pointer (some ⟨p,0,none⟩)]]) (t := 66) (by rfl) rfl (by first | (go_simp; done) | (go_simp; rfl)) ?_
 intro x hx_ wx hbx hb
 refine hK.out _ _ ⟨(hb.cell (World.block_lt_of_cell? _ _ hHeld.1)).trans hHeld.1,(hb.cell (World.block_lt_of_cell? _ _ hHeld.2.1)).trans hHeld.2.1,(hb.cell (World.block_lt_of_cell? _ _ hHeld.2.2.1)).trans hHeld.2.2.1,(hb.cell (World.block_lt_of_cell? _ _ hHeld.2.2.2.1)).trans hHeld.2.2.2.1,(hb.cell (World.block_lt_of_cell? _ _ hHeld.2.2.2.2)).trans hHeld.2.2.2.2⟩ (fun hHeld => ?_)
 clear hK K
 refine norm_ (a' := ?_) ?_ ?_
 rotate_left
 ·show Act.put _ (some 30) _ = _
  simp only [Act.put,List.setIfInBounds_toArray,List.set_cons_zero,List.set_cons_succ,i64_w,i32_w]
  rfl
 refine pure_ (i := 10) (N := some 2) (v := ?_) (a' := ?_) (bts 12 2047) rfl rfl (by kernel_rfl) (fun _ _ _ h => h) (Or.inl ⟨by rfl,?_⟩) ?_ ?_
 rotate_left
 ·intro w'
  go_simp
  with_reducible rfl
 rotate_left
 ·simp only [Act.put,List.setIfInBounds_toArray,List.set_cons_zero,List.set_cons_succ,i64_w,i32_w]
  rfl
 refine pure_ (i := 11) (N := some 3) (v := ?_) (a' := ?_) (bts 12 4095) rfl rfl (by kernel_rfl) (fun _ _ _ h => h) (Or.inl ⟨by rfl,?_⟩) ?_ ?_
 rotate_left
 ·intro w'
  go_simp
  with_reducible rfl
 rotate_left
 ·simp only [Act.put,List.setIfInBounds_toArray,List.set_cons_zero,List.set_cons_succ,i64_w,i32_w]
  rfl
 refine done_ (by kernel_rfl) ?_
 try go_wp2
 go_ret2
 have hx2 : W7.heap.size = x := hx_.symm
 have hb2 : Below (W7.drew.drewN nd).heap.size (W7.drew.drewN nd) wx := hb
 refine ⟨some ⟨W7.heap.size,0,none⟩,rfl,.inr ⟨W7.heap.size,p,c,d,g,rfl,⟨by rw [hx2]; exact hbx,blk_below (blk_drewN (blk_drew BKp.out) nd) hb2,HNIL.out,gal_At_below (show gal_At (W7.drew.drewN nd) c d g t from HG7.out) hb2⟩⟩,?_⟩
 exact below_step (pw_below_drewN (below_drew1 HB7.out) nd) hb2
end Go.Proofs.Ytpgecdidddoglaa.P

