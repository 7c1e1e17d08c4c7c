import Derived.Test.YtpgecdidddoglaaRbQAux
import Derived.Test.YtpgecdidddoglaaRbPx0
import Derived.Test.YtpgecdidddoglaaRbPx6
import Derived.Test.YtpgecdidddoglaaRbPx7
import Derived.Test.YtpgecdidddoglaaRbPx9
import Derived.Test.YtpgecdidddoglaaRbPx10
import Derived.Test.YtpgecdidddoglaaRbPx15
import Derived.Test.YtpgecdidddoglaaRbPx16
-- written by mk.sh, a program of this session, over the kit's print
namespace Go.Proofs.Ytpgecdidddoglaa.P
open Go.RowKit Go.Proofs.YtpgecdidddoglaaW.PrintWords Go.Proofs.YtpgecdidddoglaaW.PrintLast Go.Proofs.YtpgecdidddoglaaW.PrintMore
attribute [local go_sem] max2_int min2_int max_two min_two max_three min_three max_four min_four   -- for this text's walks alone
set_option linter.unusedVariables false
set_option linter.unusedSimpArgs false

def l4_knows.f (k : Nat)  : Option (Bool) := (l4_Plain.f).bind fun bt381 => ((reedsol_Encode.f k bt381.1 bt381.2.1 bt381.2.2.1 bt381.2.2.2 (([1,0] : List Int))).bind fun bt388 => ((l4_Plain.f).bind fun bt392 => ((reedsol_Decode.f k bt392.1 bt392.2.1 bt392.2.2.1 bt392.2.2.2 (([1,0,5,1] : List Int)) ([] : List Int)).bind fun bt399 => ((l4_num.f bt388.2).bind fun t404 => ((l4_num.f bt399.2.2).bind fun t405 => (if (wrap64 (t404 + t405)) = 0 then (if (strOfNums bt388.1).toList = ([1,0,1,1] : List UInt8) then (if (strOfNums bt399.1).toList = ([1,0] : List UInt8) then (some (bt399.2.1 == 1)) else (some false)) else (some false)) else (some false)))))))
theorem l4_knows.mono : ∀ k,LeO (l4_knows.f k ) (l4_knows.f (k + 1) ) := by
 intro  k
 unfold l4_knows.f
 repeat' with_reducible first
   | exact reedsol_Decode.mono _ _ _ _ _ _ _
   | exact reedsol_Encode.mono _ _ _ _ _ _
   | exact LeO.refl _
   | exact LeO.none _
   | refine LeO.ite ?_ ?_
   | refine LeO.bind ?_ (fun _ => ?_)
section
open Go.Proofs.YtpgecdidddoglaaW.Q
set_option maxRecDepth 100000 in
theorem l4_knows.ev : Ev (fun k => l4_knows.f k) true := Ev.of (fun k => l4_knows.mono k) (k := 300) (by decide +kernel)
theorem l4_knows.is_true {k : Nat} {r : Bool} (h : l4_knows.f k = some r) : r = true := by
 obtain ⟨K,hK⟩ := Ev.both l4_knows.ev (Ev.of (fun k => l4_knows.mono k) h)
 obtain ⟨h1,h2⟩ := hK K (Nat.le_refl _)
 exact (Option.some.inj (h1.symm.trans h2)).symm
end
theorem l4_knows.no_false {r : Bool} {G : Prop} (hr : r = true) (h : some false = some r) : G := by
 subst hr
 cases h
set_option maxHeartbeats 8000000 in
set_option maxRecDepth 100000 in
theorem l4_knows.calls1 (k : Nat)  (r : Bool) (hr9_ : r = true) (w : World) (h : l4_knows.f k  = some r) :
  Calls Try.prog 8 #[] w fun e w' => e = .returned (.bool r) ∧ Below w.heap.size w w' := by
 have HR9_ := Aside0.mk hr9_
 clear hr9_
 have HB := aK (Below.refl w.heap.size w)
 have H : ((l4_Plain.f).bind fun bt381 => ((reedsol_Encode.f k bt381.1 bt381.2.1 bt381.2.2.1 bt381.2.2.2 (([1,0] : List Int))).bind fun bt388 => ((l4_Plain.f).bind fun bt392 => ((reedsol_Decode.f k bt392.1 bt392.2.1 bt392.2.2.1 bt392.2.2.2 (([1,0,5,1] : List Int)) ([] : List Int)).bind fun bt399 => ((l4_num.f bt388.2).bind fun t404 => ((l4_num.f bt399.2.2).bind fun t405 => (if (wrap64 (t404 + t405)) = 0 then (if (strOfNums bt388.1).toList = ([1,0,1,1] : List UInt8) then (if (strOfNums bt399.1).toList = ([1,0] : List UInt8) then (some (bt399.2.1 == 1)) else (some false)) else (some false)) else (some false)))))))) = some r := h
 clear h
 replace H := Option.bind_eq_some_iff.mp H
 obtain ⟨⟨t381,t382,t383,t384⟩,A10,H⟩ := H
 try dsimp only at H
 have A1 := Aside0.mk A10
 clear A10
 obtain ⟨y385,hy385⟩ : ∃ y_ : List Int,y_ = (([1,0] : List Int)) := ⟨_,rfl⟩
 replace H : ((reedsol_Encode.f k t381 t382 t383 t384 y385).bind fun bt388 => ((l4_Plain.f).bind fun bt392 => ((reedsol_Decode.f k bt392.1 bt392.2.1 bt392.2.2.1 bt392.2.2.2 (([1,0,5,1] : List Int)) ([] : List Int)).bind fun bt399 => ((l4_num.f bt388.2).bind fun t404 => ((l4_num.f bt399.2.2).bind fun t405 => (if (wrap64 (t404 + t405)) = 0 then (if (strOfNums bt388.1).toList = ([1,0,1,1] : List UInt8) then (if (strOfNums bt399.1).toList = ([1,0] : List UInt8) then (some (bt399.2.1 == 1)) else (some false)) else (some false)) else (some false))))))) = some r := by rw [hy385]; exact H
 have Ny385 := Aside0.mk hy385
 clear hy385
 replace H := Option.bind_eq_some_iff.mp H
 obtain ⟨⟨t388,t391⟩,A20,H⟩ := H
 try dsimp only at H
 have A2 := Aside0.mk A20
 clear A20
 replace H := Option.bind_eq_some_iff.mp H
 obtain ⟨⟨t392,t393,t394,t395⟩,A30,H⟩ := H
 try dsimp only at H
 have A3 := Aside0.mk A30
 clear A30
 obtain ⟨y396,hy396⟩ : ∃ y_ : List Int,y_ = (([1,0,5,1] : List Int)) := ⟨_,rfl⟩
 replace H : ((reedsol_Decode.f k t392 t393 t394 t395 y396 ([] : List Int)).bind fun bt399 => ((l4_num.f t391).bind fun t404 => ((l4_num.f bt399.2.2).bind fun t405 => (if (wrap64 (t404 + t405)) = 0 then (if (strOfNums t388).toList = ([1,0,1,1] : List UInt8) then (if (strOfNums bt399.1).toList = ([1,0] : List UInt8) then (some (bt399.2.1 == 1)) else (some false)) else (some false)) else (some false))))) = some r := by rw [hy396]; exact H
 have Ny396 := Aside0.mk hy396
 clear hy396
 replace H := Option.bind_eq_some_iff.mp H
 obtain ⟨⟨t399,t402,t403⟩,A40,H⟩ := H
 try dsimp only at H
 have A4 := Aside0.mk A40
 clear A40
 replace H := Option.bind_eq_some_iff.mp H
 obtain ⟨t404,A50,H⟩ := H
 try dsimp only at H
 have A5 := Aside0.mk A50
 clear A50
 replace H := Option.bind_eq_some_iff.mp H
 obtain ⟨t405,A60,H⟩ := H
 try dsimp only at H
 have A6 := Aside0.mk A60
 clear A60
 by_cases c7 : (wrap64 (t404 + t405)) = 0
 ·rw [if_pos c7] at H
  have c7b0 : ((wrap64 (t404 + t405)) == 0) = true := beq_iff_eq.mpr c7
  have c7b1 : ((wrap64 (t404 + t405)) != 0) = false := bne_eq_false_iff_eq.mpr c7
  clear c7
  by_cases c8 : (strOfNums t388).toList = ([1,0,1,1] : List UInt8)
  ·rw [if_pos c8] at H
   have c8b0 : ((strOfNums t388).toList == ([1,0,1,1] : List UInt8)) = true := beq_iff_eq.mpr c8
   have c8b1 : ((strOfNums t388).toList != ([1,0,1,1] : List UInt8)) = false := bne_eq_false_iff_eq.mpr c8
   clear c8
   by_cases c9 : (strOfNums t399).toList = ([1,0] : List UInt8)
   ·rw [if_pos c9] at H
    have c9b0 : ((strOfNums t399).toList == ([1,0] : List UInt8)) = true := beq_iff_eq.mpr c9
    have c9b1 : ((strOfNums t399).toList != ([1,0] : List UInt8)) = false := bne_eq_false_iff_eq.mpr c9
    clear c9
    obtain rfl := Option.some.inj H
    go_enter Try.func8,Try.ntmps8
    go_wp2_with (first | ((with_reducible refine gate_callee (f := 25) rfl ?_); refine goesL_ (some 7) rfl rfl Try.func25 (by kernel_rfl) rfl #[] rfl (by (try simp only [List.map_toArray,List.map_cons,List.map_nil]) <;> rfl) ?_; (with_reducible refine (l4_Plain.calls  t381 t382 t383 t384 _ A1.out).mono ?_); rintro e w10 ⟨rfl,hb⟩; refine ⟨_,rfl,?_⟩; replace HB := aK (below_step (mvh HB.out) hb); (try clear hb)) | ((with_reducible refine gate_dst (N := 8) rfl ?_); refine Kd.R_lit (Kd.int .u8) _ 5 ?hg (N := 8) ?hd (xs := ([1,0] : List Int)) (inner := [.int .u8 1,.int .u8 0]) (ok := fun _ => True) (okp := fun _ => True) ?hr ?hp (fun _ hk => hk) trivial (Below.refl _ _) (Nat.le_refl _) (by simp) ?_; (case hd => rfl); (case hg => rfl); (case hr => first | (go_simp; done) | (go_simp; rfl)); (case hp => exact (Reps.one (show Kd.M (Kd.int .u8) _ _ _ 1 [.int .u8 1] from rfl) (Reps.one (show Kd.M (Kd.int .u8) _ _ _ 0 [.int .u8 0] from rfl) (Reps.none _ _)))); intro v386 w11 ho12 hb hg_ hnew_; clear hg_ hnew_; (first | rw [← Ny385.out] at ho12 | (simp only [Int.reduceToNat] at ho12; rw [← Ny385.out] at ho12)); have HO387 := aK (Kd.R_lower ho12 (below_size (mvh HB.out))); replace HB := aK (below_step (mvh HB.out) hb); clear hb ho12; obtain ⟨Ao13,co13,eo13⟩ := Kd.R_slice HO387.out; subst eo13) | ((with_reducible refine gate_callee (f := 10) rfl ?_); refine goesL_ (some 9) rfl rfl Try.func10 (by kernel_rfl) rfl #[.agg #[.int .i64 t381,.int .u64 t382,.int .i64 t383,.int .i64 t384],.slice Ao13 y385.length co13] rfl (by (try simp only [List.map_toArray,List.map_cons,List.map_nil]) <;> rfl) ?_; (with_reducible refine (reedsol_Encode.calls k t381 t382 t383 t384 _ _ y385 t388 t391 _ ?side1 ?side2 A2.out).mono ?_); (case side1 => exact mvC (Kd.R_reads' HO387.out).2.2); (case side2 => exact (Kd.R_reads' HO387.out).2.1); rintro e w14 ⟨v389,rfl,ho0,hb⟩; refine ⟨_,rfl,?_⟩; have HO390 := aK (Kd.R_lower (Kd.R_new' ho0 (Kd.R_lt (mvR HO387.out))) (below_size (mvh HB.out))); replace HO387 := aK (Kd.R_elder' (mvR HO387.out) (Kd.R_base ho0) hb); replace HB := aK (below_step (mvh HB.out) hb); (try clear hb); (try clear ho0)) | ((with_reducible refine gate_callee (f := 25) rfl ?_); refine goesL_ (some 13) rfl rfl Try.func25 (by kernel_rfl) rfl #[] rfl (by (try simp only [List.map_toArray,List.map_cons,List.map_nil]) <;> rfl) ?_; (with_reducible refine (l4_Plain.calls  t392 t393 t394 t395 _ A3.out).mono ?_); rintro e w15 ⟨rfl,hb⟩; refine ⟨_,rfl,?_⟩; replace HO387 := aK (Kd.R_below (mvR HO387.out) hb); replace HO390 := aK (Kd.R_below (mvR HO390.out) hb); replace HB := aK (below_step (mvh HB.out) hb); (try clear hb)) | ((with_reducible refine gate_dst (N := 14) rfl ?_); refine Kd.R_lit (Kd.int .u8) _ 5 ?hg (N := 14) ?hd (xs := ([1,0,5,1] : List Int)) (inner := [.int .u8 1,.int .u8 0,.int .u8 5,.int .u8 1]) (ok := fun _ => True) (okp := fun _ => True) ?hr ?hp (fun _ hk => hk) trivial (Below.refl _ _) (Nat.le_refl _) (by simp) ?_; (case hd => rfl); (case hg => rfl); (case hr => first | (go_simp; done) | (go_simp; rfl)); (case hp => exact (Reps.one (show Kd.M (Kd.int .u8) _ _ _ 1 [.int .u8 1] from rfl) (Reps.one (show Kd.M (Kd.int .u8) _ _ _ 0 [.int .u8 0] from rfl) (Reps.one (show Kd.M (Kd.int .u8) _ _ _ 5 [.int .u8 5] from rfl) (Reps.one (show Kd.M (Kd.int .u8) _ _ _ 1 [.int .u8 1] from rfl) (Reps.none _ _)))))); intro v397 w16 ho17 hb hg_ hnew_; clear hg_ hnew_; (first | rw [← Ny396.out] at ho17 | (simp only [Int.reduceToNat] at ho17; rw [← Ny396.out] at ho17)); have HO398 := aK (Kd.R_lower (Kd.R_new' (Kd.R_new' ho17 (Kd.R_lt (mvR HO387.out))) (Kd.R_lt (mvR HO390.out))) (below_size (mvh HB.out))); replace HO387 := aK (Kd.R_elder' (mvR HO387.out) (Kd.R_base ho17) hb); replace HO390 := aK (Kd.R_elder' (mvR HO390.out) (Kd.R_base ho17) hb); replace HB := aK (below_step (mvh HB.out) hb); clear hb ho17; obtain ⟨Ao18,co18,eo18⟩ := Kd.R_slice HO398.out; subst eo18) | ((with_reducible refine gate_callee (f := 13) rfl ?_); refine goesL_ (some 15) rfl rfl Try.func13 (by kernel_rfl) rfl #[.agg #[.int .i64 t392,.int .u64 t393,.int .i64 t394,.int .i64 t395],.slice Ao18 y396.length co18,.slice none 0 0] rfl (by (try simp only [List.map_toArray,List.map_cons,List.map_nil]) <;> rfl) ?_; (refine (reedsol_Decode.calls k t392 t393 t394 t395 _ _ y396 _ _ ([] : List Int) t399 t402 t403 _ ?side1 ?side2 ?side3 ?side4 A4.out).mono ?_); (case side1 => exact mvC (Kd.R_reads' HO398.out).2.2); (case side2 => exact (Kd.R_reads' HO398.out).2.1); (case side3 => exact Kd.C_nil _ _); (case side4 => exact Nat.le_refl _); rintro e w19 ⟨v400,rfl,ho0,hb⟩; refine ⟨_,rfl,?_⟩; have HO401 := aK (Kd.V_lower (Kd.V_mono (ok' := fun k_ => some k_ ≠ (.slice Ao13 y385.length co13 : Value).ownBlock ∧ some k_ ≠ (v389 : Value).ownBlock ∧ some k_ ≠ (.slice Ao18 y396.length co18 : Value).ownBlock) ho0 (fun k_ hk_ => ⟨(Kd.fresh' (Kd.R_lt (mvR HO387.out)) k_ hk_),(Kd.fresh' (Kd.R_lt (mvR HO390.out)) k_ hk_),(Kd.fresh' (Kd.R_lt (mvR HO398.out)) k_ hk_)⟩)) (below_size (mvh HB.out))); replace HO387 := aK (Kd.R_below (mvR HO387.out) hb); replace HO390 := aK (Kd.R_below (mvR HO390.out) hb); replace HO398 := aK (Kd.R_below (mvR HO398.out) hb); replace HB := aK (below_step (mvh HB.out) hb); (try clear hb); (try clear ho0)) | ((with_reducible refine gate_callee (f := 11) rfl ?_); refine goesL_ (some 20) rfl rfl Try.func11 (by kernel_rfl) rfl #[.int .i64 t391] rfl (by (try simp only [List.map_toArray,List.map_cons,List.map_nil]) <;> rfl) ?_; (with_reducible refine (l4_num.calls t391 t404 _ A5.out).mono ?_); rintro e w' ⟨rfl,⟨nd,rfl⟩⟩; refine ⟨_,rfl,?_⟩) | ((with_reducible refine gate_callee (f := 11) rfl ?_); refine goesL_ (some 22) rfl rfl Try.func11 (by kernel_rfl) rfl #[.int .i64 t403] rfl (by (try simp only [List.map_toArray,List.map_cons,List.map_nil]) <;> rfl) ?_; (with_reducible refine (l4_num.calls t403 t405 _ A6.out).mono ?_); rintro e w' ⟨rfl,⟨nd,rfl⟩⟩; refine ⟨_,rfl,?_⟩; have hcv20 := own_string (P := Try.prog) Try.underlying27 Try.underlying5 Try.underlying9 (Kd.own_of_R HO390.out); have hcv21 := fun n_ => own_string (P := Try.prog) Try.underlying27 Try.underlying5 Try.underlying9 (Kd.own_of_R (Kd.R_drewN HO390.out n_)); have hcv22 := V_string (P := Try.prog) Try.underlying27 Try.underlying5 Try.underlying9 HO401.out; have hcv23 := fun n_ => V_string (P := Try.prog) Try.underlying27 Try.underlying5 Try.underlying9 (Kd.V_drewN HO401.out n_)))
    go_ret
    exact ⟨by first | rfl | (simp [errW_none,errW_some] <;> rfl) | (simp [*,errW_none,errW_some] <;> rfl),mvh HB.out⟩
   ·rw [if_neg c9] at H
    exact l4_knows.no_false HR9_.out H
  ·rw [if_neg c8] at H
   exact l4_knows.no_false HR9_.out H
 ·rw [if_neg c7] at H
  exact l4_knows.no_false HR9_.out H
theorem l4_knows.calls (k : Nat)  (r : Bool) (w : World) (h : l4_knows.f k  = some r) :
  Calls Try.prog 8 #[] w fun e w' => e = .returned (.bool r) ∧ Below w.heap.size w w' :=
 l4_knows.calls1 k r (l4_knows.is_true h) w h

end Go.Proofs.Ytpgecdidddoglaa.P

