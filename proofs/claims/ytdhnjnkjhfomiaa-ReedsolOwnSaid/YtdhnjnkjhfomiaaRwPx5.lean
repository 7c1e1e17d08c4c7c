-- written by mk.sh, a program of this session, over the kit's print
import Derived.Test.YtdhnjnkjhfomiaaRwQReg
import Derived.Test.YtdhnjnkjhfomiaaRwPx0
import Derived.Test.YtdhnjnkjhfomiaaRwPx3
namespace Go.Proofs.Ytdhnjnkjhfomiaa.P
open Go.RowKit Go.Proofs.YtdhnjnkjhfomiaaW.PrintWords Go.Proofs.YtdhnjnkjhfomiaaW.PrintLast Go.Proofs.YtdhnjnkjhfomiaaW.PrintMore
attribute [local go_sem] max2_int min2_int max_two min_two max_three min_three max_four min_four   -- for this text's walks alone
set_option linter.unusedVariables false
set_option linter.unusedSimpArgs false

def reedsol_open.f (k : Nat) (a0_0 a0_1 a0_2 a0_3 : Int) : Option (RCode × Int) :=
 (reedsol_Check.f k a0_0 a0_1 a0_2 a0_3).bind fun e => if e = 0 then ((galois_New.f k a0_0 a0_1).bind fun bt => if bt.2 = 0 then (if 0 < bt.1.size then some (⟨a0_0,a0_1,a0_2,a0_3,bt.1⟩,0) else none) else some (RCode.none,bt.2)) else some (RCode.none,e)
theorem reedsol_open.mono : ∀ a0 a1 a2 a3 k,LeO (reedsol_open.f k a0 a1 a2 a3) (reedsol_open.f (k + 1) a0 a1 a2 a3) := by
 intro a0 a1 a2 a3 k
 unfold reedsol_open.f
 refine LeO.bind (reedsol_Check.mono _ _ _ _ _) (fun _ => ?_)
 refine LeO.ite ?_ (LeO.refl _)
 exact LeO.bind (galois_New.mono _ _ _) (fun _ => LeO.refl _)
theorem rs_none_OK (w : World) : rs_OK w none RCode.none := .inl ⟨rfl,rfl⟩
set_option maxHeartbeats 8000000 in
set_option maxRecDepth 100000 in
theorem reedsol_open.calls (k : Nat) (a0_0 a0_1 a0_2 a0_3 : Int) (r1 : RCode) (r2 : Int) (w : World) (h : reedsol_open.f k a0_0 a0_1 a0_2 a0_3 = some (r1,r2)) :
  Calls Try.prog 27 #[.agg #[.int .i64 a0_0,.int .u64 a0_1,.int .i64 a0_2,.int .i64 a0_3]] w fun e w' => ∃ A_ : Option Addr,e = .returned (.tuple #[.pointer A_,.int .i64 r2]) ∧ rs_OK w' A_ r1 ∧ Below w.heap.size w w' := by
 have hu24 := Try.underlying24
 have hu26 := Try.underlying26
 have hu69 := Try.underlying69
 have HB := aK (Below.refl w.heap.size w)
 unfold reedsol_open.f at h
 obtain ⟨e,he,h⟩ := Option.bind_eq_some_iff.mp h
 have HE := Aside0.mk he
 clear he
 by_cases c0 : e = 0
 ·rw [if_pos c0] at h
  subst c0
  obtain ⟨⟨t,z⟩,hn,h⟩ := Option.bind_eq_some_iff.mp h
  have HN := Aside0.mk hn
  clear hn
  by_cases c1 : z = 0
  ·subst c1
   replace h := (if_pos rfl).symm.trans h
   by_cases c2 : 0 < t.size
   ·have hq : (some ((⟨a0_0,a0_1,a0_2,a0_3,t⟩ : RCode),(0 : Int))) = some (r1,r2) := (if_pos (c := 0 < t.size) c2).symm.trans h
    simp only [Option.some.injEq,Prod.mk.injEq] at hq
    obtain ⟨rfl,rfl⟩ := hq
    clear h
    have HC2 := Aside0.mk c2
    clear c2
    go_enter Try.func27,Try.ntmps27
    go_wp2_with (first | ((with_reducible refine gate_dst (N := 1) rfl ?_); refine box_event ?hg (N := 1) ?hd (cs := #[.int .i64 a0_0,.int .u64 a0_1,.int .i64 a0_2,.int .i64 a0_3]) (t := 26) ?hr ?_; (case hd => rfl); (case hg => rfl); (case hr => first | (go_simp; done) | (go_simp; rfl)); intro b hg_ wb hbox_ hb_; have n0_ := aK (below_step HB.out hb_); have n1_ := Aside0.mk hbox_; have n2_ := aK ((by rw [hg_]; exact below_size HB.out) : w.heap.size ≤ b); clear HB; have HB := n0_; have BKb := n1_; have GEb := n2_; clear n0_ n1_ n2_; clear hb_ hbox_ hg_; have hcb_0 : wb.cell? ⟨b,0,none⟩ = some (.int .i64 a0_0) := (blk_cell BKb.out 0).trans rfl; have hfb_0 := blk_frozen BKb.out 0; have hcb_1 : wb.cell? ⟨b,1,none⟩ = some (.int .u64 a0_1) := (blk_cell BKb.out 1).trans rfl; have hfb_1 := blk_frozen BKb.out 1; have hcb_2 : wb.cell? ⟨b,2,none⟩ = some (.int .i64 a0_2) := (blk_cell BKb.out 2).trans rfl; have hfb_2 := blk_frozen BKb.out 2; have hcb_3 : wb.cell? ⟨b,3,none⟩ = some (.int .i64 a0_3) := (blk_cell BKb.out 3).trans rfl; have hfb_3 := blk_frozen BKb.out 3) | (go_at_call 21; (with_reducible refine (reedsol_Check.calls k _ _ _ _ 0 _ HE.out).mono ?_); rintro e w5 ⟨rfl,hb⟩; have n0_ := aK (below_step HB.out hb); clear HB; have HB := n0_; clear n0_; have n0_ := aK (blk_below BKb.out hb); clear BKb; have BKb := n0_; clear n0_ hb; have hcb_w5_0 : w5.cell? ⟨b,0,none⟩ = some (.int .i64 a0_0) := (blk_cell BKb.out 0).trans rfl; have hfb_w5_0 := blk_frozen BKb.out 0; have hcb_w5_1 : w5.cell? ⟨b,1,none⟩ = some (.int .u64 a0_1) := (blk_cell BKb.out 1).trans rfl; have hfb_w5_1 := blk_frozen BKb.out 1; have hcb_w5_2 : w5.cell? ⟨b,2,none⟩ = some (.int .i64 a0_2) := (blk_cell BKb.out 2).trans rfl; have hfb_w5_2 := blk_frozen BKb.out 2; have hcb_w5_3 : w5.cell? ⟨b,3,none⟩ = some (.int .i64 a0_3) := (blk_cell BKb.out 3).trans rfl; have hfb_w5_3 := blk_frozen BKb.out 3) | (go_at_call 46; (with_reducible refine (galois_New.calls k _ _ t 0 _ HN.out).mono ?_); rintro e w6 ⟨Ap,rfl,hT_,hb⟩; have n0_ := aK (below_step HB.out hb); clear HB; have HB := n0_; clear n0_; have n0_ := aK (blk_below BKb.out hb); clear BKb; have BKb := n0_; clear n0_ hb; obtain ⟨hnil_,c,d,g,rfl,hg_⟩ := (hT_.elim (fun h_ => absurd HC2.out (by have := h_.1; omega)) (fun h_ => h_) : t.nil = false ∧ ∃ c d g,Ap = some ⟨c,0,none⟩ ∧ gal_At w6 c d g t); have HNIL := Aside0.mk hnil_; have HGA := Aside0.mk hg_; clear hT_ hnil_ hg_))
    obtain ⟨W7,hW7⟩ : ∃ W7,W7 = w6.alloc (.cells #[.pointer (some ⟨c,0,none⟩)] 80) := ⟨_,rfl⟩
    obtain ⟨p,hp⟩ : ∃ p,p = w6.heap.size := ⟨_,rfl⟩
    rw [← hW7,← hp]
    have hb7 : Below w6.heap.size w6 W7 := by rw [hW7]; exact below_alloc (Below.refl _ _) _
    have BKp := aK (show W7.heap[p]? = some (.cells #[.pointer (some ⟨c,0,none⟩)] 80 (0,0)) by rw [hW7,hp]; exact blk_new w6 _)
    have BKb7 := aK (blk_below BKb.out hb7)
    have HB7 := aK (below_step HB.out hb7)
    have HG7 := aK (gal_At_below HGA.out hb7)
    have GEp : Aside0 (w.heap.size ≤ p) := ⟨by rw [hp]; exact below_size HB.out⟩
    have HSZ : Aside0 (gT_Size.f t = some (t.size : Int)) := ⟨by
     have hs := HG7.out.2.1
     have hd := HNIL.out
     unfold gT_Size.f gT_none.f
     have h0 := HC2.out
     simp [h0]
     omega⟩
    have s1 := (blk_cell BKb7.out 0).trans (show #[Value.int .i64 a0_0,.int .u64 a0_1,.int .i64 a0_2,.int .i64 a0_3][0]? = some (.int .i64 a0_0) from rfl)
    have s2 := (blk_cell BKb7.out 1).trans (show #[Value.int .i64 a0_0,.int .u64 a0_1,.int .i64 a0_2,.int .i64 a0_3][1]? = some (.int .u64 a0_1) from rfl)
    have s3 := (blk_cell BKb7.out 2).trans (show #[Value.int .i64 a0_0,.int .u64 a0_1,.int .i64 a0_2,.int .i64 a0_3][2]? = some (.int .i64 a0_2) from rfl)
    have s4 := (blk_cell BKb7.out 3).trans (show #[Value.int .i64 a0_0,.int .u64 a0_1,.int .i64 a0_2,.int .i64 a0_3][3]? = some (.int .i64 a0_3) from rfl)
    have s5 := (blk_cell BKp.out 0).trans (show #[Value.pointer (some ⟨c,0,none⟩)][0]? = some (.pointer (some ⟨c,0,none⟩)) from rfl)
    have HOK := aK (show gal_OK W7 (some ⟨c,0,none⟩) t by unfold gal_OK; exact .inr ⟨HNIL.out,c,d,g,rfl,HG7.out⟩)
    clear hW7 hp hb7 HB HGA
    refine start_ (n := 12) (S := (fun w' => w'.cell? ⟨b,0,none⟩ = some (.int .i64 a0_0) ∧ w'.cell? ⟨b,1,none⟩ = some (.int .u64 a0_1) ∧ w'.cell? ⟨b,2,none⟩ = some (.int .i64 a0_2) ∧ w'.cell? ⟨b,3,none⟩ = some (.int .i64 a0_3) ∧ w'.cell? ⟨p,0,none⟩ = some (.pointer (some ⟨c,0,none⟩)))) (ds := []) #[false,false,false,false,false,false,false,false,false,false,false,false] (by kernel_rfl) rfl rfl ⟨s1,s2,s3,s4,s5⟩ (fun hHeld => ?_)
    clear s1 s2 s3 s4 s5
    refine take_ (i := 0) (N := some 21) (v := ?_) (a' := ?_) (bl 12 1) rfl rfl (by kernel_rfl) (fun _ _ _ h => h) (Or.inl ⟨by rfl,?_⟩) hHeld ?_ ?_
    rotate_left
    ·rintro w' ⟨s0,s1,s2,s3,s4⟩
     go_simp
     with_reducible rfl
    rotate_left
    ·simp only [Act.put,List.setIfInBounds_toArray,List.set_cons_zero,List.set_cons_succ,i64_w,i32_w]
     rfl
    refine take_ (i := 1) (N := some 22) (v := ?_) (a' := ?_) (bl 12 3) rfl rfl (by kernel_rfl) (fun _ _ _ h => h) (Or.inl ⟨by rfl,?_⟩) hHeld ?_ ?_
    rotate_left
    ·rintro w' ⟨s0,s1,s2,s3,s4⟩
     go_simp
     with_reducible rfl
    rotate_left
    ·simp only [Act.put,List.setIfInBounds_toArray,List.set_cons_zero,List.set_cons_succ,i64_w,i32_w]
     rfl
    refine take_ (i := 3) (N := some 24) (v := ?_) (a' := ?_) (bl 12 11) rfl rfl (by kernel_rfl) (fun _ _ _ h => h) (Or.inl ⟨by rfl,?_⟩) hHeld ?_ ?_
    rotate_left
    ·rintro w' ⟨s0,s1,s2,s3,s4⟩
     go_simp
     with_reducible rfl
    rotate_left
    ·simp only [Act.put,List.setIfInBounds_toArray,List.set_cons_zero,List.set_cons_succ,i64_w,i32_w]
     rfl
    refine pure_ (i := 4) (N := some 25) (v := ?_) (a' := ?_) (bl 12 27) rfl rfl (by kernel_rfl) (fun _ _ _ h => h) (Or.inl ⟨by rfl,?_⟩) ?_ ?_
    rotate_left
    ·intro w'
     go_simp
     with_reducible rfl
    rotate_left
    ·simp only [Act.put,List.setIfInBounds_toArray,List.set_cons_zero,List.set_cons_succ,i64_w,i32_w]
     rfl
    refine pure_ (i := 5) (N := some 26) (v := ?_) (a' := ?_) (bl 12 59) rfl rfl (by kernel_rfl) (fun _ _ _ h => h) (Or.inl ⟨by rfl,?_⟩) ?_ ?_
    rotate_left
    ·intro w'
     go_simp
     with_reducible rfl
    rotate_left
    ·simp only [Act.put,List.setIfInBounds_toArray,List.set_cons_zero,List.set_cons_succ,i64_w,i32_w]
     rfl
    refine pure_ (i := 6) (N := some 27) (v := ?_) (a' := ?_) (bl 12 123) rfl rfl (by kernel_rfl) (fun _ _ _ h => h) (Or.inl ⟨by rfl,?_⟩) ?_ ?_
    rotate_left
    ·intro w'
     go_simp
     with_reducible rfl
    rotate_left
    ·simp only [Act.put,List.setIfInBounds_toArray,List.set_cons_zero,List.set_cons_succ,i64_w,i32_w]
     rfl
    refine pure_ (i := 7) (N := some 28) (v := ?_) (a' := ?_) (bl 12 251) rfl rfl (by kernel_rfl) (fun _ _ _ h => h) (Or.inl ⟨by rfl,?_⟩) ?_ ?_
    rotate_left
    ·intro w'
     go_simp
     with_reducible rfl
    rotate_left
    ·simp only [Act.put,List.setIfInBounds_toArray,List.set_cons_zero,List.set_cons_succ,i64_w,i32_w]
     rfl
    refine one_ (i := 2) (N := some 23) (bl 12 255) rfl rfl (by kernel_rfl) (by decide) (fun K hK => ?_)
    refine goes_ Try.func47 (by kernel_rfl) rfl #[.pointer (some ⟨c,0,none⟩)] (by rfl) rfl rfl (by (try simp only [List.map_toArray,List.map_cons,List.map_nil]); first | done | rfl) ?_
    with_reducible refine (gT_Size.calls _ t (t.size : Int) _ (gal_OK_drew HOK.out) HSZ.out).mono ?_
    rintro e w13 ⟨rfl,⟨nd,rfl⟩⟩
    refine ⟨_,rfl,?_⟩
    refine hK.out _ _ hHeld (fun hHeld => ?_)
    clear hK K
    refine norm_ (a' := ?_) ?_ ?_
    rotate_left
    ·show Act.put _ (some 23) _ = _
     simp only [Act.put,List.setIfInBounds_toArray,List.set_cons_zero,List.set_cons_succ,i64_w,i32_w]
     rfl
    refine pure_ (i := 8) (N := some 29) (v := ?_) (a' := ?_) (bl 12 511) rfl rfl (by kernel_rfl) (fun _ _ _ h => h) (Or.inl ⟨by rfl,?_⟩) ?_ ?_
    rotate_left
    ·intro w'
     go_simp
     with_reducible rfl
    rotate_left
    ·simp only [Act.put,List.setIfInBounds_toArray,List.set_cons_zero,List.set_cons_succ,i64_w,i32_w]
     rfl
    refine one_ (i := 9) (N := some 30) (bl 12 1023) rfl rfl (by kernel_rfl) (by decide) (fun K hK => ?_)
    refine box_step (N := 30) (cs := #[.int .i64 a0_0,.int .u64 a0_1,.int .i64 a0_2,.int .i64 a0_3,.int .i64 (t.size : Int),.func (.func 49) #[] #[.pointer (some ⟨p,0,none⟩)],.func (.func 51) #[] #[.pointer (some ⟨p,0,none⟩)],.func (.func 48) #[.pointer (some ⟨c,0,none⟩)] #[],.func (.func 53) #[] #[.pointer (some ⟨p,0,none⟩)]]) (t := 69) (by rfl) rfl (by first | (go_simp; done) | (go_simp; rfl)) ?_
    intro x hx_ wx hbx hb
    refine hK.out _ _ ⟨(hb.cell (World.block_lt_of_cell? _ _ hHeld.1)).trans hHeld.1,(hb.cell (World.block_lt_of_cell? _ _ hHeld.2.1)).trans hHeld.2.1,(hb.cell (World.block_lt_of_cell? _ _ hHeld.2.2.1)).trans hHeld.2.2.1,(hb.cell (World.block_lt_of_cell? _ _ hHeld.2.2.2.1)).trans hHeld.2.2.2.1,(hb.cell (World.block_lt_of_cell? _ _ hHeld.2.2.2.2)).trans hHeld.2.2.2.2⟩ (fun hHeld => ?_)
    clear hK K
    refine norm_ (a' := ?_) ?_ ?_
    rotate_left
    ·show Act.put _ (some 30) _ = _
     simp only [Act.put,List.setIfInBounds_toArray,List.set_cons_zero,List.set_cons_succ,i64_w,i32_w]
     rfl
    refine pure_ (i := 10) (N := some 2) (v := ?_) (a' := ?_) (bl 12 2047) rfl rfl (by kernel_rfl) (fun _ _ _ h => h) (Or.inl ⟨by rfl,?_⟩) ?_ ?_
    rotate_left
    ·intro w'
     go_simp
     with_reducible rfl
    rotate_left
    ·simp only [Act.put,List.setIfInBounds_toArray,List.set_cons_zero,List.set_cons_succ,i64_w,i32_w]
     rfl
    refine pure_ (i := 11) (N := some 3) (v := ?_) (a' := ?_) (bl 12 4095) rfl rfl (by kernel_rfl) (fun _ _ _ h => h) (Or.inl ⟨by rfl,?_⟩) ?_ ?_
    rotate_left
    ·intro w'
     go_simp
     with_reducible rfl
    rotate_left
    ·simp only [Act.put,List.setIfInBounds_toArray,List.set_cons_zero,List.set_cons_succ,i64_w,i32_w]
     rfl
    refine done_ (by kernel_rfl) ?_
    try go_wp2
    go_ret2
    have hx2 : W7.heap.size = x := hx_.symm
    have hb2 : Below (W7.drew.drewN nd).heap.size (W7.drew.drewN nd) wx := hb
    refine ⟨some ⟨W7.heap.size,0,none⟩,rfl,.inr ⟨W7.heap.size,p,c,d,g,rfl,⟨by rw [hx2]; exact hbx,blk_below (blk_drewN (blk_drew BKp.out) nd) hb2,HNIL.out,gal_At_below (show gal_At (W7.drew.drewN nd) c d g t from HG7.out) hb2⟩⟩,?_⟩
    exact below_step (pw_below_drewN (below_drew1 HB7.out) nd) hb2
   ·have hq : (none : Option (RCode × Int)) = some (r1,r2) := (if_neg (c := 0 < t.size) c2).symm.trans h
    cases hq
  ·replace h := (if_neg c1).symm.trans h
   simp only [Option.some.injEq,Prod.mk.injEq] at h
   obtain ⟨rfl,rfl⟩ := h
   have hz : (z != 0) = true := bne_iff_ne.mpr c1
   clear c1
   go_enter Try.func27,Try.ntmps27
   go_wp2_with (first | ((with_reducible refine gate_dst (N := 1) rfl ?_); refine box_event ?hg (N := 1) ?hd (cs := #[.int .i64 a0_0,.int .u64 a0_1,.int .i64 a0_2,.int .i64 a0_3]) (t := 26) ?hr ?_; (case hd => rfl); (case hg => rfl); (case hr => first | (go_simp; done) | (go_simp; rfl)); intro b hg_ wb hbox_ hb_; have n0_ := aK (below_step HB.out hb_); have n1_ := Aside0.mk hbox_; have n2_ := aK ((by rw [hg_]; exact below_size HB.out) : w.heap.size ≤ b); clear HB; have HB := n0_; have BKb := n1_; have GEb := n2_; clear n0_ n1_ n2_; clear hb_ hbox_ hg_; have hcb_0 : wb.cell? ⟨b,0,none⟩ = some (.int .i64 a0_0) := (blk_cell BKb.out 0).trans rfl; have hfb_0 := blk_frozen BKb.out 0; have hcb_1 : wb.cell? ⟨b,1,none⟩ = some (.int .u64 a0_1) := (blk_cell BKb.out 1).trans rfl; have hfb_1 := blk_frozen BKb.out 1; have hcb_2 : wb.cell? ⟨b,2,none⟩ = some (.int .i64 a0_2) := (blk_cell BKb.out 2).trans rfl; have hfb_2 := blk_frozen BKb.out 2; have hcb_3 : wb.cell? ⟨b,3,none⟩ = some (.int .i64 a0_3) := (blk_cell BKb.out 3).trans rfl; have hfb_3 := blk_frozen BKb.out 3) | (go_at_call 21; (with_reducible refine (reedsol_Check.calls k _ _ _ _ 0 _ HE.out).mono ?_); rintro e w5 ⟨rfl,hb⟩; have n0_ := aK (below_step HB.out hb); clear HB; have HB := n0_; clear n0_; have n0_ := aK (blk_below BKb.out hb); clear BKb; have BKb := n0_; clear n0_ hb; have hcb_w5_0 : w5.cell? ⟨b,0,none⟩ = some (.int .i64 a0_0) := (blk_cell BKb.out 0).trans rfl; have hfb_w5_0 := blk_frozen BKb.out 0; have hcb_w5_1 : w5.cell? ⟨b,1,none⟩ = some (.int .u64 a0_1) := (blk_cell BKb.out 1).trans rfl; have hfb_w5_1 := blk_frozen BKb.out 1; have hcb_w5_2 : w5.cell? ⟨b,2,none⟩ = some (.int .i64 a0_2) := (blk_cell BKb.out 2).trans rfl; have hfb_w5_2 := blk_frozen BKb.out 2; have hcb_w5_3 : w5.cell? ⟨b,3,none⟩ = some (.int .i64 a0_3) := (blk_cell BKb.out 3).trans rfl; have hfb_w5_3 := blk_frozen BKb.out 3) | (go_at_call 46; (with_reducible refine (galois_New.calls k _ _ t z _ HN.out).mono ?_); rintro e w6 ⟨Ap,rfl,hT_,hb⟩; have n0_ := aK (below_step HB.out hb); clear HB; have HB := n0_; clear n0_; have n0_ := aK (blk_below BKb.out hb); clear BKb; have BKb := n0_; clear n0_; clear hb))
   go_ret2
   exact ⟨none,rfl,rs_none_OK _,below_alloc HB.out _⟩
 ·rw [if_neg c0] at h
  simp only [Option.some.injEq,Prod.mk.injEq] at h
  obtain ⟨rfl,rfl⟩ := h
  have hz : (e != 0) = true := bne_iff_ne.mpr c0
  clear c0
  go_enter Try.func27,Try.ntmps27
  go_wp2_with (first | ((with_reducible refine gate_dst (N := 1) rfl ?_); refine box_event ?hg (N := 1) ?hd (cs := #[.int .i64 a0_0,.int .u64 a0_1,.int .i64 a0_2,.int .i64 a0_3]) (t := 26) ?hr ?_; (case hd => rfl); (case hg => rfl); (case hr => first | (go_simp; done) | (go_simp; rfl)); intro b hg_ wb hbox_ hb_; have n0_ := aK (below_step HB.out hb_); have n1_ := Aside0.mk hbox_; have n2_ := aK ((by rw [hg_]; exact below_size HB.out) : w.heap.size ≤ b); clear HB; have HB := n0_; have BKb := n1_; have GEb := n2_; clear n0_ n1_ n2_; clear hb_ hbox_ hg_; have hcb_0 : wb.cell? ⟨b,0,none⟩ = some (.int .i64 a0_0) := (blk_cell BKb.out 0).trans rfl; have hfb_0 := blk_frozen BKb.out 0; have hcb_1 : wb.cell? ⟨b,1,none⟩ = some (.int .u64 a0_1) := (blk_cell BKb.out 1).trans rfl; have hfb_1 := blk_frozen BKb.out 1; have hcb_2 : wb.cell? ⟨b,2,none⟩ = some (.int .i64 a0_2) := (blk_cell BKb.out 2).trans rfl; have hfb_2 := blk_frozen BKb.out 2; have hcb_3 : wb.cell? ⟨b,3,none⟩ = some (.int .i64 a0_3) := (blk_cell BKb.out 3).trans rfl; have hfb_3 := blk_frozen BKb.out 3) | (go_at_call 21; (with_reducible refine (reedsol_Check.calls k _ _ _ _ e _ HE.out).mono ?_); rintro e w5 ⟨rfl,hb⟩; have n0_ := aK (below_step HB.out hb); clear HB; have HB := n0_; clear n0_; clear hb))
  go_ret2
  exact ⟨none,rfl,rs_none_OK _,HB.out⟩

def reedsol_code_right.l0 : Nat → RCode → List Int → Int → Int → Option (Bool)
 | 0,_,_,_,_ => none
 | k + 1,x0,x7,x8,x9 => if x9 < x8 then (if 0 ≤ x9 then (if x9 < (x7.length : Int) then (if 0 < x0.size then (if (wrap64 (rd x7 x9)) ≥ (x0.size : Int) then (some false) else (reedsol_code_right.l0 k x0 x7 x8 (wrap64 (x9 + 1)))) else (none)) else (none)) else (none)) else (some true)
def reedsol_code_right.f (k : Nat) (a0 : RCode) (l1 : List Int) : Option (Bool) := reedsol_code_right.l0 k a0 l1 (l1.length : Int) 0
theorem reedsol_code_right.mono_l : ∀ k,(∀ y0 y1 y2 y3,LeO (reedsol_code_right.l0 k y0 y1 y2 y3) (reedsol_code_right.l0 (k + 1) y0 y1 y2 y3))
 | 0 => fun _ _ _ _ r h => by simp [reedsol_code_right.l0] at h
 | k + 1 => by
  have ih0 := reedsol_code_right.mono_l k
  ·intro y0 y1 y2 y3
   unfold reedsol_code_right.l0
   repeat' first
   | (with_reducible exact ih0 _ _ _ _)
   | (with_reducible exact LeO.refl _)
   | (with_reducible exact LeO.none _)
   | (with_reducible refine LeO.ite ?_ ?_)
   | (with_reducible refine LeO.bind ?_ (fun _ => ?_))
   | exact ih0 _ _ _ _
   | exact LeO.none _
   | refine LeO.ite ?_ ?_
   | refine LeO.bind ?_ (fun _ => ?_)
theorem reedsol_code_right.mono : ∀ a0 a1 k,LeO (reedsol_code_right.f k a0 a1) (reedsol_code_right.f (k + 1) a0 a1) := by
 intro a0 a1 k
 have ih0 := reedsol_code_right.mono_l k
 unfold reedsol_code_right.f
 repeat' first
   | (with_reducible exact ih0 _ _ _ _)
   | (with_reducible exact LeO.refl _)
   | (with_reducible exact LeO.none _)
   | (with_reducible refine LeO.ite ?_ ?_)
   | (with_reducible refine LeO.bind ?_ (fun _ => ?_))
   | exact ih0 _ _ _ _
   | exact LeO.none _
   | refine LeO.ite ?_ ?_
   | refine LeO.bind ?_ (fun _ => ?_)
set_option maxHeartbeats 8000000 in
set_option maxRecDepth 100000 in
theorem reedsol_code_right.calls (k : Nat) (A0 : Option Addr) (a0 : RCode) (A1 : Option Addr) (c1 : Nat) (l1 : List Int) (r : Bool) (w : World) (hr0 : rs_OK w A0 a0) (hr1 : Kd.C (Kd.int .u8) w A1 l1.length l1) (hc1 : l1.length ≤ c1) (h : reedsol_code_right.f k a0 l1 = some r) :
  Calls Try.prog 34 #[.pointer A0,.slice A1 l1.length c1] w fun e w' => e = .returned (.bool r) ∧ Drawn0 w w' := by
 have HR0 := Aside0.mk hr0
 clear hr0
 have HR1 := Aside0.mk hr1
 have HC1 := Aside0.mk hc1
 clear hr1 hc1
 have H : (reedsol_code_right.l0 k a0 l1 (l1.length : Int) 0) = some r := h
 clear h
 have H' := Aside0.mk H
 clear H
 go_enter Try.func34,Try.ntmps34
 go_wp2
 go_loopg [9] k (fun kq v9 w' => ∃ (x9_1 : Int),v9 = .int .i64 x9_1 ∧ Aside0 (reedsol_code_right.l0 kq a0 l1 (l1.length : Int) x9_1 = some r) ∧ Aside0 (kq ≤ k) ∧ Drawn0 w w')
 case atStart => exact ⟨(0),(by first | rfl | (simp; done) | (simp [*]; done) | (simp [wrap64]; done)),H',⟨Nat.le_refl _⟩,by repeat (first | exact Drawn0.refl _ | apply Drawn0.step)⟩
 case round =>
  clear H'
  (try clear c1); (try clear p2)
  obtain ⟨x9_1,rfl,HA,HK1,⟨m1,rfl⟩⟩ := hrel
  cases gk with
  | zero => exact absurd HA.out (by simp [reedsol_code_right.l0])
  | succ k1 =>
   have H := HA.out
   clear HA
   simp only [reedsol_code_right.l0] at H
   by_cases c3 : x9_1 < (l1.length : Int)
   ·rw [if_pos c3] at H
    have c3b0 : decide (x9_1 < (l1.length : Int)) = true := decide_eq_true c3
    clear c3
    by_cases c4 : 0 ≤ x9_1
    ·rw [if_pos c4] at H
     have c4b0 : decide (0 ≤ x9_1) = true := decide_eq_true c4
     clear c4
     by_cases c5 : x9_1 < (l1.length : Int)
     ·rw [if_pos c5] at H
      have c5b0 : decide (x9_1 < (l1.length : Int)) = true := decide_eq_true c5
      clear c5
      by_cases c6 : 0 < a0.size
      ·rw [if_pos c6] at H
       obtain ⟨b_,p_,c_,d_,g_,rfl,hT_⟩ := rs_pos HR0.out c6
       have HT0 := Aside0.mk hT_
       clear hT_ c6
       by_cases c8 : (wrap64 (rd l1 x9_1)) ≥ (a0.size : Int)
       ·rw [if_pos c8] at H
        have c8b0 : decide ((a0.size : Int) ≤ (wrap64 (rd l1 x9_1))) = true := decide_eq_true c8
        clear c8
        obtain rfl := Option.some.inj H
        have p161 : 0 ≤ (x9_1 : Int) := of_decide_eq_true (by first | (with_reducible assumption) | assumption)
        have q161 : x9_1 < (l1.length : Int) := of_decide_eq_true (by first | (with_reducible assumption) | assumption)
        obtain ⟨ad161,e161,hx161_0⟩ := Kd.at_int HR1.out x9_1 p161 q161
        cases e161
        replace p161 := eq_true p161
        replace q161 := eq_true q161
        have ho7 := rs_At_size HT0.out
        have hx7 := ho7
        go_wp2
        go_ret
        exact ⟨by first | rfl | (simp; done) | (simp [*]; done) | (simp [wrap64]; done),by repeat (first | exact Drawn0.refl _ | apply Drawn0.step)⟩
       ·rw [if_neg c8] at H
        have c8b0 : decide ((a0.size : Int) ≤ (wrap64 (rd l1 x9_1))) = false := decide_eq_false c8
        clear c8
        have H' := Aside0.mk H
        clear H
        have p161 : 0 ≤ (x9_1 : Int) := of_decide_eq_true (by first | (with_reducible assumption) | assumption)
        have q161 : x9_1 < (l1.length : Int) := of_decide_eq_true (by first | (with_reducible assumption) | assumption)
        obtain ⟨ad161,e161,hx161_0⟩ := Kd.at_int HR1.out x9_1 p161 q161
        cases e161
        replace p161 := eq_true p161
        replace q161 := eq_true q161
        have ho7 := rs_At_size HT0.out
        have hx7 := ho7
        go_wp2
        go_roundg k1
        case measure => have := HK1.out; omega
        case rel => exact ⟨(wrap64 (x9_1 + 1)),(by first | rfl | (simp; done) | (simp [*]; done) | (simp [wrap64]; done)),H',⟨by have := HK1.out; omega⟩,by repeat (first | exact Drawn0.refl _ | apply Drawn0.step)⟩
      ·rw [if_neg c6] at H
       exact absurd H (by simp)
     ·rw [if_neg c5] at H
      exact absurd H (by simp)
    ·rw [if_neg c4] at H
     exact absurd H (by simp)
   ·rw [if_neg c3] at H
    have c3b0 : decide (x9_1 < (l1.length : Int)) = false := decide_eq_false c3
    clear c3
    obtain rfl := Option.some.inj H
    go_wp2
    go_ret
    exact ⟨by first | rfl | (simp; done) | (simp [*]; done) | (simp [wrap64]; done),by repeat (first | exact Drawn0.refl _ | apply Drawn0.step)⟩

def reedsol_code_fits.f (k : Nat) (a0 : RCode) (l1 : List Int) : Option (Int) := if 0 < a0.size then (if (l1.length : Int) < a0.Par then (some 5) else (if (l1.length : Int) > (wrap64 ((a0.size : Int) - 1)) then (some 6) else ((reedsol_code_right.f k a0 l1).bind fun t162 => (if t162 = true then (some 0) else (some 11))))) else (none)
theorem reedsol_code_fits.mono : ∀ a0 a1 k,LeO (reedsol_code_fits.f k a0 a1) (reedsol_code_fits.f (k + 1) a0 a1) := by
 intro a0 a1 k
 unfold reedsol_code_fits.f
 repeat' first
   | (with_reducible exact reedsol_code_right.mono _ _ _)
   | (with_reducible exact LeO.refl _)
   | (with_reducible exact LeO.none _)
   | (with_reducible refine LeO.ite ?_ ?_)
   | (with_reducible refine LeO.bind ?_ (fun _ => ?_))
   | exact reedsol_code_right.mono _ _ _
   | exact LeO.none _
   | refine LeO.ite ?_ ?_
   | refine LeO.bind ?_ (fun _ => ?_)
set_option maxHeartbeats 8000000 in
set_option maxRecDepth 100000 in
theorem reedsol_code_fits.calls (k : Nat) (A0 : Option Addr) (a0 : RCode) (A1 : Option Addr) (c1 : Nat) (l1 : List Int) (r : Int) (w : World) (hr0 : rs_OK w A0 a0) (hr1 : Kd.C (Kd.int .u8) w A1 l1.length l1) (hc1 : l1.length ≤ c1) (h : reedsol_code_fits.f k a0 l1 = some r) :
  Calls Try.prog 28 #[.pointer A0,.slice A1 l1.length c1] w fun e w' => e = .returned (.int .i64 r) ∧ Drawn0 w w' := by
 have HR0 := Aside0.mk hr0
 clear hr0
 have HR1 := Aside0.mk hr1
 have HC1 := Aside0.mk hc1
 clear hr1 hc1
 have H : (if 0 < a0.size then (if (l1.length : Int) < a0.Par then (some 5) else (if (l1.length : Int) > (wrap64 ((a0.size : Int) - 1)) then (some 6) else ((reedsol_code_right.f k a0 l1).bind fun t162 => (if t162 = true then (some 0) else (some 11))))) else (none)) = some r := h
 clear h
 by_cases c3 : 0 < a0.size
 ·rw [if_pos c3] at H
  obtain ⟨b_,p_,c_,d_,g_,rfl,hT_⟩ := rs_pos HR0.out c3
  have HT0 := Aside0.mk hT_
  clear hT_ c3
  by_cases c5 : (l1.length : Int) < a0.Par
  ·rw [if_pos c5] at H
   have c5b0 : decide ((l1.length : Int) < a0.Par) = true := decide_eq_true c5
   clear c5
   obtain rfl := Option.some.inj H
   have ho4 := rs_At_Par HT0.out
   have hx4 := ho4
   go_enter Try.func28,Try.ntmps28
   go_wp2
   go_ret
   exact ⟨by first | rfl | (simp; done) | (simp [*]; done) | (simp [wrap64]; done),by repeat (first | exact Drawn0.refl _ | apply Drawn0.step)⟩
  ·rw [if_neg c5] at H
   have c5b0 : decide ((l1.length : Int) < a0.Par) = false := decide_eq_false c5
   clear c5
   by_cases c7 : (l1.length : Int) > (wrap64 ((a0.size : Int) - 1))
   ·rw [if_pos c7] at H
    have c7b0 : decide ((wrap64 ((a0.size : Int) - 1)) < (l1.length : Int)) = true := decide_eq_true c7
    clear c7
    obtain rfl := Option.some.inj H
    have ho4 := rs_At_Par HT0.out
    have hx4 := ho4
    have ho6 := rs_At_size HT0.out
    have hx6 := ho6
    go_enter Try.func28,Try.ntmps28
    go_wp2
    go_ret
    exact ⟨by first | rfl | (simp; done) | (simp [*]; done) | (simp [wrap64]; done),by repeat (first | exact Drawn0.refl _ | apply Drawn0.step)⟩
   ·rw [if_neg c7] at H
    have c7b0 : decide ((wrap64 ((a0.size : Int) - 1)) < (l1.length : Int)) = false := decide_eq_false c7
    clear c7
    replace H := Option.bind_eq_some_iff.mp H
    obtain ⟨t162,A80,H⟩ := H
    replace H : (if t162 = true then (some 0) else (some 11)) = some r := H
    have A8 := Aside0.mk A80
    clear A80
    by_cases c9 : t162 = true
    ·subst c9
     have H1 : (some 0) = some r := by rw [if_pos rfl] at H; exact H
     clear H
     have H := H1
     clear H1
     obtain rfl := Option.some.inj H
     have ho4 := rs_At_Par HT0.out
     have hx4 := ho4
     have ho6 := rs_At_size HT0.out
     have hx6 := ho6
     go_enter Try.func28,Try.ntmps28
     go_wp2_with (first | ((with_reducible refine gate_callee (f := 34) rfl ?_); refine goesL_ (some 26) rfl rfl Try.func34 (by kernel_rfl) rfl #[.pointer (some ⟨b_,0,none⟩),.slice A1 l1.length c1] rfl (by (try simp only [List.map_toArray,List.map_cons,List.map_nil]) <;> rfl) ?_; (with_reducible refine (reedsol_code_right.calls k _ a0 _ _ l1 true _ ?side1 ?side2 ?side3 A8.out).mono ?_); (case side1 => exact HR0.out); (case side2 => repeat (first | exact HR1.out | (with_reducible refine Kd.C_alloc ?_ _) | (with_reducible refine Kd.C_drewN ?_ _) | (with_reducible refine Kd.C_drew ?_))); (case side3 => exact HC1.out); rintro e w' ⟨rfl,⟨nd,rfl⟩⟩; refine ⟨_,rfl,?_⟩))
     go_ret
     exact ⟨by first | rfl | (simp; done) | (simp [*]; done) | (simp [wrap64]; done),by repeat (first | exact Drawn0.refl _ | apply Drawn0.step)⟩
    ·replace c9 := Bool.eq_false_iff.mpr c9
     subst c9
     have H1 : (some 11) = some r := by rw [if_neg (show ¬ (false = true) by decide)] at H; exact H
     clear H
     have H := H1
     clear H1
     obtain rfl := Option.some.inj H
     have ho4 := rs_At_Par HT0.out
     have hx4 := ho4
     have ho6 := rs_At_size HT0.out
     have hx6 := ho6
     go_enter Try.func28,Try.ntmps28
     go_wp2_with (first | ((with_reducible refine gate_callee (f := 34) rfl ?_); refine goesL_ (some 26) rfl rfl Try.func34 (by kernel_rfl) rfl #[.pointer (some ⟨b_,0,none⟩),.slice A1 l1.length c1] rfl (by (try simp only [List.map_toArray,List.map_cons,List.map_nil]) <;> rfl) ?_; (with_reducible refine (reedsol_code_right.calls k _ a0 _ _ l1 false _ ?side1 ?side2 ?side3 A8.out).mono ?_); (case side1 => exact HR0.out); (case side2 => repeat (first | exact HR1.out | (with_reducible refine Kd.C_alloc ?_ _) | (with_reducible refine Kd.C_drewN ?_ _) | (with_reducible refine Kd.C_drew ?_))); (case side3 => exact HC1.out); rintro e w' ⟨rfl,⟨nd,rfl⟩⟩; refine ⟨_,rfl,?_⟩))
     go_ret
     exact ⟨by first | rfl | (simp; done) | (simp [*]; done) | (simp [wrap64]; done),by repeat (first | exact Drawn0.refl _ | apply Drawn0.step)⟩
 ·rw [if_neg c3] at H
  exact absurd H (by simp)

end Go.Proofs.Ytdhnjnkjhfomiaa.P

