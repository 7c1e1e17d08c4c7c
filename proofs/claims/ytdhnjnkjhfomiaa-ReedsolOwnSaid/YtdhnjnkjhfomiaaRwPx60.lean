import Derived.Test.YtdhnjnkjhfomiaaRwQEv
import Derived.Test.YtdhnjnkjhfomiaaRwQBase
import Derived.Test.YtdhnjnkjhfomiaaRwPx0
import Derived.Test.YtdhnjnkjhfomiaaRwPx1
import Derived.Test.YtdhnjnkjhfomiaaRwPx3
import Derived.Test.YtdhnjnkjhfomiaaRwPx5
import Derived.Test.YtdhnjnkjhfomiaaRwPx6
import Derived.Test.YtdhnjnkjhfomiaaRwPx11
import Derived.Test.YtdhnjnkjhfomiaaRwPx12
import Derived.Test.YtdhnjnkjhfomiaaRwPx13
import Derived.Test.YtdhnjnkjhfomiaaRwPx14
import Derived.Test.YtdhnjnkjhfomiaaRwPx17
import Derived.Test.YtdhnjnkjhfomiaaRwPx18
import Derived.Test.YtdhnjnkjhfomiaaRwQVstr
-- written by mk.sh, a program of this session, over the kit's print
namespace Go.Proofs.Ytdhnjnkjhfomiaa.P
open Go.RowKit Go.Proofs.YtdhnjnkjhfomiaaW.PrintWords Go.Proofs.YtdhnjnkjhfomiaaW.PrintLast Go.Proofs.YtdhnjnkjhfomiaaW.PrintMore
attribute [local go_sem] max2_int min2_int max_two min_two max_three min_three max_four min_four   -- for this text's walks alone
set_option linter.unusedVariables false
set_option linter.unusedSimpArgs false

def l4_knows.f (k : Nat)  : Option (Bool) := (l4_Plain.f).bind fun bt432 => ((reedsol_Encode.f k bt432.1 bt432.2.1 bt432.2.2.1 bt432.2.2.2 (([1,0] : List Int))).bind fun bt439 => ((l4_Plain.f).bind fun bt443 => ((reedsol_Decode.f k bt443.1 bt443.2.1 bt443.2.2.1 bt443.2.2.2 (([1,0,5,1] : List Int)) ([] : List Int)).bind fun bt450 => ((l4_num.f bt439.2).bind fun t455 => ((l4_num.f bt450.2.2).bind fun t456 => (if (wrap64 (t455 + t456)) = 0 then (if (strOfNums bt439.1).toList = ([1,0,1,1] : List UInt8) then (if (strOfNums bt450.1).toList = ([1,0] : List UInt8) then (some (bt450.2.1 == 1)) else (some false)) else (some false)) else (some false)))))))
theorem l4_knows.mono : ∀ k,LeO (l4_knows.f k ) (l4_knows.f (k + 1) ) := by
 intro  k
 unfold l4_knows.f
 repeat' first
   | (with_reducible exact reedsol_Decode.mono _ _ _ _ _ _ _)
   | (with_reducible exact reedsol_Encode.mono _ _ _ _ _ _)
   | (with_reducible exact LeO.refl _)
   | (with_reducible exact LeO.none _)
   | (with_reducible refine LeO.ite ?_ ?_)
   | (with_reducible refine LeO.bind ?_ (fun _ => ?_))
section
open Go.Proofs.YtdhnjnkjhfomiaaW.Q
set_option maxRecDepth 100000 in
theorem l4_knows.ev : Ev (fun k => l4_knows.f k) true := Ev.of (fun k => l4_knows.mono k) (k := 300) (by decide +kernel)
theorem l4_knows.is_true {k : Nat} {r : Bool} (h : l4_knows.f k = some r) : r = true := by
 obtain ⟨K,hK⟩ := Ev.both l4_knows.ev (Ev.of (fun k => l4_knows.mono k) h)
 obtain ⟨h1,h2⟩ := hK K (Nat.le_refl _)
 exact (Option.some.inj (h1.symm.trans h2)).symm
end
theorem l4_knows.no_false {r : Bool} {G : Prop} (hr : r = true) (h : some false = some r) : G := by
 subst hr
 cases h
set_option maxHeartbeats 8000000 in
set_option maxRecDepth 100000 in
theorem l4_knows.calls1 (k : Nat)  (r : Bool) (hr9_ : r = true) (w : World) (h : l4_knows.f k  = some r) :
  Calls Try.prog 16 #[] w fun e w' => e = .returned (.bool r) ∧ Below w.heap.size w w' := by
 have HR9_ := Aside0.mk hr9_
 clear hr9_
 have HB := aK (Below.refl w.heap.size w)
 have H : ((l4_Plain.f).bind fun bt432 => ((reedsol_Encode.f k bt432.1 bt432.2.1 bt432.2.2.1 bt432.2.2.2 (([1,0] : List Int))).bind fun bt439 => ((l4_Plain.f).bind fun bt443 => ((reedsol_Decode.f k bt443.1 bt443.2.1 bt443.2.2.1 bt443.2.2.2 (([1,0,5,1] : List Int)) ([] : List Int)).bind fun bt450 => ((l4_num.f bt439.2).bind fun t455 => ((l4_num.f bt450.2.2).bind fun t456 => (if (wrap64 (t455 + t456)) = 0 then (if (strOfNums bt439.1).toList = ([1,0,1,1] : List UInt8) then (if (strOfNums bt450.1).toList = ([1,0] : List UInt8) then (some (bt450.2.1 == 1)) else (some false)) else (some false)) else (some false)))))))) = some r := h
 clear h
 replace H := Option.bind_eq_some_iff.mp H
 obtain ⟨⟨t432,t433,t434,t435⟩,A10,H⟩ := H
 try dsimp only at H
 have A1 := Aside0.mk A10
 clear A10
 obtain ⟨y436,hy436⟩ : ∃ y_ : List Int,y_ = (([1,0] : List Int)) := ⟨_,rfl⟩
 replace H : ((reedsol_Encode.f k t432 t433 t434 t435 y436).bind fun bt439 => ((l4_Plain.f).bind fun bt443 => ((reedsol_Decode.f k bt443.1 bt443.2.1 bt443.2.2.1 bt443.2.2.2 (([1,0,5,1] : List Int)) ([] : List Int)).bind fun bt450 => ((l4_num.f bt439.2).bind fun t455 => ((l4_num.f bt450.2.2).bind fun t456 => (if (wrap64 (t455 + t456)) = 0 then (if (strOfNums bt439.1).toList = ([1,0,1,1] : List UInt8) then (if (strOfNums bt450.1).toList = ([1,0] : List UInt8) then (some (bt450.2.1 == 1)) else (some false)) else (some false)) else (some false))))))) = some r := by rw [hy436]; exact H
 have Ny436 := Aside0.mk hy436
 clear hy436
 replace H := Option.bind_eq_some_iff.mp H
 obtain ⟨⟨t439,t442⟩,A20,H⟩ := H
 try dsimp only at H
 have A2 := Aside0.mk A20
 clear A20
 replace H := Option.bind_eq_some_iff.mp H
 obtain ⟨⟨t443,t444,t445,t446⟩,A30,H⟩ := H
 try dsimp only at H
 have A3 := Aside0.mk A30
 clear A30
 obtain ⟨y447,hy447⟩ : ∃ y_ : List Int,y_ = (([1,0,5,1] : List Int)) := ⟨_,rfl⟩
 replace H : ((reedsol_Decode.f k t443 t444 t445 t446 y447 ([] : List Int)).bind fun bt450 => ((l4_num.f t442).bind fun t455 => ((l4_num.f bt450.2.2).bind fun t456 => (if (wrap64 (t455 + t456)) = 0 then (if (strOfNums t439).toList = ([1,0,1,1] : List UInt8) then (if (strOfNums bt450.1).toList = ([1,0] : List UInt8) then (some (bt450.2.1 == 1)) else (some false)) else (some false)) else (some false))))) = some r := by rw [hy447]; exact H
 have Ny447 := Aside0.mk hy447
 clear hy447
 replace H := Option.bind_eq_some_iff.mp H
 obtain ⟨⟨t450,t453,t454⟩,A40,H⟩ := H
 try dsimp only at H
 have A4 := Aside0.mk A40
 clear A40
 replace H := Option.bind_eq_some_iff.mp H
 obtain ⟨t455,A50,H⟩ := H
 try dsimp only at H
 have A5 := Aside0.mk A50
 clear A50
 replace H := Option.bind_eq_some_iff.mp H
 obtain ⟨t456,A60,H⟩ := H
 try dsimp only at H
 have A6 := Aside0.mk A60
 clear A60
 by_cases c7 : (wrap64 (t455 + t456)) = 0
 ·rw [if_pos c7] at H
  have c7b0 : ((wrap64 (t455 + t456)) == 0) = true := beq_iff_eq.mpr c7
  have c7b1 : ((wrap64 (t455 + t456)) != 0) = false := bne_eq_false_iff_eq.mpr c7
  clear c7
  by_cases c8 : (strOfNums t439).toList = ([1,0,1,1] : List UInt8)
  ·rw [if_pos c8] at H
   have c8b0 : ((strOfNums t439).toList == ([1,0,1,1] : List UInt8)) = true := beq_iff_eq.mpr c8
   have c8b1 : ((strOfNums t439).toList != ([1,0,1,1] : List UInt8)) = false := bne_eq_false_iff_eq.mpr c8
   clear c8
   by_cases c9 : (strOfNums t450).toList = ([1,0] : List UInt8)
   ·rw [if_pos c9] at H
    have c9b0 : ((strOfNums t450).toList == ([1,0] : List UInt8)) = true := beq_iff_eq.mpr c9
    have c9b1 : ((strOfNums t450).toList != ([1,0] : List UInt8)) = false := bne_eq_false_iff_eq.mpr c9
    clear c9
    obtain rfl := Option.some.inj H
    go_enter Try.func16,Try.ntmps16
    go_wp2_with (first | ((with_reducible refine gate_callee (f := 32) rfl ?_); refine goesL_ (some 7) rfl rfl Try.func32 (by kernel_rfl) rfl #[] rfl (by (try simp only [List.map_toArray,List.map_cons,List.map_nil]) <;> rfl) ?_; (with_reducible refine (l4_Plain.calls  t432 t433 t434 t435 _ A1.out).mono ?_); rintro e w10 ⟨rfl,hb⟩; refine ⟨_,rfl,?_⟩; have n0_ := aK (below_step (mvh HB.out) hb); clear HB; have HB := n0_; clear n0_; (try clear hb)) | ((with_reducible refine gate_dst (N := 8) rfl ?_); refine Kd.R_lit (Kd.int .u8) _ 5 ?hg (N := 8) ?hd (xs := ([1,0] : List Int)) (inner := [.int .u8 1,.int .u8 0]) (ok := fun _ => True) (okp := fun _ => True) ?hr ?hp (fun _ hk => hk) trivial (Below.refl _ _) (Nat.le_refl _) (by simp) ?_; (case hd => rfl); (case hg => rfl); (case hr => first | (go_simp; done) | (go_simp; rfl)); (case hp => exact (Reps.one (show Kd.M (Kd.int .u8) _ _ _ 1 [.int .u8 1] from rfl) (Reps.one (show Kd.M (Kd.int .u8) _ _ _ 0 [.int .u8 0] from rfl) (Reps.none _ _)))); intro v437 w11 ho12 hb hg_ hnew_; clear hg_ hnew_; (first | rw [← Ny436.out] at ho12 | (simp only [Int.reduceToNat] at ho12; rw [← Ny436.out] at ho12)); have n0_ := aK (Kd.R_lower ho12 (below_size (mvh HB.out))); have n1_ := aK (below_step (mvh HB.out) hb); clear HB; have HO438 := n0_; have HB := n1_; clear n0_ n1_; clear hb ho12; obtain ⟨Ao13,co13,eo13⟩ := Kd.R_slice HO438.out; subst eo13) | ((with_reducible refine gate_callee (f := 18) rfl ?_); refine goesL_ (some 9) rfl rfl Try.func18 (by kernel_rfl) rfl #[.agg #[.int .i64 t432,.int .u64 t433,.int .i64 t434,.int .i64 t435],.slice Ao13 y436.length co13] rfl (by (try simp only [List.map_toArray,List.map_cons,List.map_nil]) <;> rfl) ?_; (with_reducible refine (reedsol_Encode.calls k t432 t433 t434 t435 _ _ y436 t439 t442 _ ?side1 ?side2 A2.out).mono ?_); (case side1 => exact mvC (Kd.R_reads' HO438.out).2.2); (case side2 => exact (Kd.R_reads' HO438.out).2.1); rintro e w14 ⟨v440,rfl,ho0,hb⟩; refine ⟨_,rfl,?_⟩; have n0_ := aK (Kd.R_elder' (mvR HO438.out) (Kd.R_base ho0) hb); have n1_ := aK (Kd.R_lower (Kd.R_new' ho0 (Kd.R_lt (mvR HO438.out))) (below_size (mvh HB.out))); have n2_ := aK (below_step (mvh HB.out) hb); clear HO438 HB; have HO438 := n0_; have HO441 := n1_; have HB := n2_; clear n0_ n1_ n2_; (try clear hb); (try clear ho0)) | ((with_reducible refine gate_callee (f := 32) rfl ?_); refine goesL_ (some 13) rfl rfl Try.func32 (by kernel_rfl) rfl #[] rfl (by (try simp only [List.map_toArray,List.map_cons,List.map_nil]) <;> rfl) ?_; (with_reducible refine (l4_Plain.calls  t443 t444 t445 t446 _ A3.out).mono ?_); rintro e w15 ⟨rfl,hb⟩; refine ⟨_,rfl,?_⟩; have n0_ := aK (Kd.R_below (mvR HO438.out) hb); have n1_ := aK (Kd.R_below (mvR HO441.out) hb); have n2_ := aK (below_step (mvh HB.out) hb); clear HO438 HO441 HB; have HO438 := n0_; have HO441 := n1_; have HB := n2_; clear n0_ n1_ n2_; (try clear hb)) | ((with_reducible refine gate_dst (N := 14) rfl ?_); refine Kd.R_lit (Kd.int .u8) _ 5 ?hg (N := 14) ?hd (xs := ([1,0,5,1] : List Int)) (inner := [.int .u8 1,.int .u8 0,.int .u8 5,.int .u8 1]) (ok := fun _ => True) (okp := fun _ => True) ?hr ?hp (fun _ hk => hk) trivial (Below.refl _ _) (Nat.le_refl _) (by simp) ?_; (case hd => rfl); (case hg => rfl); (case hr => first | (go_simp; done) | (go_simp; rfl)); (case hp => exact (Reps.one (show Kd.M (Kd.int .u8) _ _ _ 1 [.int .u8 1] from rfl) (Reps.one (show Kd.M (Kd.int .u8) _ _ _ 0 [.int .u8 0] from rfl) (Reps.one (show Kd.M (Kd.int .u8) _ _ _ 5 [.int .u8 5] from rfl) (Reps.one (show Kd.M (Kd.int .u8) _ _ _ 1 [.int .u8 1] from rfl) (Reps.none _ _)))))); intro v448 w16 ho17 hb hg_ hnew_; clear hg_ hnew_; (first | rw [← Ny447.out] at ho17 | (simp only [Int.reduceToNat] at ho17; rw [← Ny447.out] at ho17)); have n0_ := aK (Kd.R_elder' (mvR HO438.out) (Kd.R_base ho17) hb); have n1_ := aK (Kd.R_elder' (mvR HO441.out) (Kd.R_base ho17) hb); have n2_ := aK (Kd.R_lower (Kd.R_new' (Kd.R_new' ho17 (Kd.R_lt (mvR HO438.out))) (Kd.R_lt (mvR HO441.out))) (below_size (mvh HB.out))); have n3_ := aK (below_step (mvh HB.out) hb); clear HO438 HO441 HB; have HO438 := n0_; have HO441 := n1_; have HO449 := n2_; have HB := n3_; clear n0_ n1_ n2_ n3_; clear hb ho17; obtain ⟨Ao18,co18,eo18⟩ := Kd.R_slice HO449.out; subst eo18) | ((with_reducible refine gate_callee (f := 25) rfl ?_); refine goesL_ (some 15) rfl rfl Try.func25 (by kernel_rfl) rfl #[.agg #[.int .i64 t443,.int .u64 t444,.int .i64 t445,.int .i64 t446],.slice Ao18 y447.length co18,.slice none 0 0] rfl (by (try simp only [List.map_toArray,List.map_cons,List.map_nil]) <;> rfl) ?_; (refine (reedsol_Decode.calls k t443 t444 t445 t446 _ _ y447 _ _ ([] : List Int) t450 t453 t454 _ ?side1 ?side2 ?side3 ?side4 A4.out).mono ?_); (case side1 => exact mvC (Kd.R_reads' HO449.out).2.2); (case side2 => exact (Kd.R_reads' HO449.out).2.1); (case side3 => exact Kd.C_nil _ _); (case side4 => exact Nat.le_refl _); rintro e w19 ⟨v451,rfl,ho0,hb⟩; refine ⟨_,rfl,?_⟩; have n0_ := aK (Kd.R_below (mvR HO438.out) hb); have n1_ := aK (Kd.R_below (mvR HO441.out) hb); have n2_ := aK (Kd.R_below (mvR HO449.out) hb); have n3_ := aK (Kd.V_lower (Kd.V_mono (ok' := fun k_ => some k_ ≠ (.slice Ao13 y436.length co13 : Value).ownBlock ∧ some k_ ≠ (v440 : Value).ownBlock ∧ some k_ ≠ (.slice Ao18 y447.length co18 : Value).ownBlock) ho0 (fun k_ hk_ => ⟨(Kd.fresh' (Kd.R_lt (mvR HO438.out)) k_ hk_),(Kd.fresh' (Kd.R_lt (mvR HO441.out)) k_ hk_),(Kd.fresh' (Kd.R_lt (mvR HO449.out)) k_ hk_)⟩)) (below_size (mvh HB.out))); have n4_ := aK (below_step (mvh HB.out) hb); clear HO438 HO441 HO449 HB; have HO438 := n0_; have HO441 := n1_; have HO449 := n2_; have HO452 := n3_; have HB := n4_; clear n0_ n1_ n2_ n3_ n4_; (try clear hb); (try clear ho0)) | ((with_reducible refine gate_callee (f := 14) rfl ?_); refine goesL_ (some 20) rfl rfl Try.func14 (by kernel_rfl) rfl #[.int .i64 t442] rfl (by (try simp only [List.map_toArray,List.map_cons,List.map_nil]) <;> rfl) ?_; (with_reducible refine (l4_num.calls t442 t455 _ A5.out).mono ?_); rintro e w' ⟨rfl,⟨nd,rfl⟩⟩; refine ⟨_,rfl,?_⟩) | ((with_reducible refine gate_callee (f := 14) rfl ?_); refine goesL_ (some 22) rfl rfl Try.func14 (by kernel_rfl) rfl #[.int .i64 t454] rfl (by (try simp only [List.map_toArray,List.map_cons,List.map_nil]) <;> rfl) ?_; (with_reducible refine (l4_num.calls t454 t456 _ A6.out).mono ?_); rintro e w' ⟨rfl,⟨nd,rfl⟩⟩; refine ⟨_,rfl,?_⟩; have hcv20 := own_string (P := Try.prog) Try.underlying27 Try.underlying5 Try.underlying9 (Kd.own_of_R HO441.out); have hcv21 := fun n_ => own_string (P := Try.prog) Try.underlying27 Try.underlying5 Try.underlying9 (Kd.own_of_R (Kd.R_drewN HO441.out n_)); have hcv22 := V_string (P := Try.prog) Try.underlying27 Try.underlying5 Try.underlying9 HO452.out; have hcv23 := fun n_ => V_string (P := Try.prog) Try.underlying27 Try.underlying5 Try.underlying9 (Kd.V_drewN HO452.out n_)))
    go_ret
    exact ⟨by first | rfl | (simp [errW_none,errW_some] <;> rfl) | (simp [*,errW_none,errW_some] <;> rfl),mvh HB.out⟩
   ·rw [if_neg c9] at H
    exact l4_knows.no_false HR9_.out H
  ·rw [if_neg c8] at H
   exact l4_knows.no_false HR9_.out H
 ·rw [if_neg c7] at H
  exact l4_knows.no_false HR9_.out H
theorem l4_knows.calls (k : Nat)  (r : Bool) (w : World) (h : l4_knows.f k  = some r) :
  Calls Try.prog 16 #[] w fun e w' => e = .returned (.bool r) ∧ Below w.heap.size w w' :=
 l4_knows.calls1 k r (l4_knows.is_true h) w h

end Go.Proofs.Ytdhnjnkjhfomiaa.P

