-- written by mk.sh, a program of this session, over the kit's print
import Derived.Test.YtjdkamhnbheofaaGpPx0
import Derived.Test.YtjdkamhnbheofaaGpPx1
import Derived.Test.YtjdkamhnbheofaaGpPx2
import Derived.Test.YtjdkamhnbheofaaGpPx3
import Derived.Test.YtjdkamhnbheofaaGpPx5
import Derived.Test.YtjdkamhnbheofaaGpPx6
namespace Go.Proofs.Ytjdkamhnbheofaa.P
open Go.RowKit Go.Proofs.YtjdkamhnbheofaaW.PrintWords Go.Proofs.YtjdkamhnbheofaaW.PrintLast Go.Proofs.YtjdkamhnbheofaaW.PrintMore
attribute [local go_sem] max2_int min2_int max_two min_two max_three min_three max_four min_four   -- for this text's walks alone
set_option linter.unusedVariables false
set_option linter.unusedSimpArgs false

def l3_live.j0 : Nat → GTab → Bool → Option (Bool)
 | 0, _, _ => none
 | k + 1, x1, x20 => if x20 = true then (some false) else ((gT_Mul.f k x1 2 4).bind fun bt216 => ((gT_Times.f k x1 (([1, 2] : List Int)) (([1, 3] : List Int))).bind fun bt224 => ((gT_Log.f k x1 3).bind fun bt228 => ((l3_num.f bt216.2).bind fun t230 => (if t230 = 0 then (if bt216.1 = 3 then ((l3_num.f bt224.2).bind fun t231 => (if t231 = 0 then ((l3_same.f bt224.1 (([1, 1, 6] : List Int))).bind fun t235 => (if t235 = true then ((l3_num.f bt228.2).bind fun t236 => (if t236 = 0 then (some (bt228.1 == 3)) else (some false))) else (some false))) else (some false))) else (some false)) else (some false))))))
def l3_live.f (k : Nat)  : Option (Bool) := (l3_eight.f).bind fun bt209 => ((galois_New.f k bt209.1 bt209.2).bind fun bt211 => ((l3_num.f bt211.2).bind fun t215 => (if t215 = 0 then (if bt211.1.nil = true then (l3_live.j0 k bt211.1 true) else (l3_live.j0 k bt211.1 false)) else (l3_live.j0 k bt211.1 true))))
theorem l3_live.mono_l : ∀ k, (∀ y0 y1, LeO (l3_live.j0 k y0 y1) (l3_live.j0 (k + 1) y0 y1))
 | 0 => fun _ _ r h => by simp [l3_live.j0] at h
 | k + 1 => by
  have ih0 := l3_live.mono_l k
  ·intro y0 y1
   unfold l3_live.j0
   repeat' first
   | (with_reducible exact ih0 _ _)
   | (with_reducible exact galois_New.mono _ _ _)
   | (with_reducible exact gT_Log.mono _ _ _)
   | (with_reducible exact gT_Mul.mono _ _ _ _)
   | (with_reducible exact gT_Times.mono _ _ _ _)
   | (with_reducible exact LeO.refl _)
   | (with_reducible exact LeO.none _)
   | (with_reducible refine LeO.ite ?_ ?_)
   | (with_reducible refine LeO.bind ?_ (fun _ => ?_))
theorem l3_live.mono : ∀ k, LeO (l3_live.f k ) (l3_live.f (k + 1) ) := by
 intro  k
 have ih0 := l3_live.mono_l k
 unfold l3_live.f
 repeat' first
   | (with_reducible exact ih0 _ _)
   | (with_reducible exact galois_New.mono _ _ _)
   | (with_reducible exact gT_Log.mono _ _ _)
   | (with_reducible exact gT_Mul.mono _ _ _ _)
   | (with_reducible exact gT_Times.mono _ _ _ _)
   | (with_reducible exact LeO.refl _)
   | (with_reducible exact LeO.none _)
   | (with_reducible refine LeO.ite ?_ ?_)
   | (with_reducible refine LeO.bind ?_ (fun _ => ?_))
set_option maxHeartbeats 8000000 in
set_option maxRecDepth 100000 in
theorem l3_live.calls (k : Nat)  (r : Bool) (w : World) (h : l3_live.f k  = some r) :
  Calls Try.prog 38 #[] w fun e w' => e = .returned (.bool r) ∧ Below w.heap.size w w' := by
 have HB := aK (Below.refl w.heap.size w)
 have H : ((l3_eight.f).bind fun bt209 => ((galois_New.f k bt209.1 bt209.2).bind fun bt211 => ((l3_num.f bt211.2).bind fun t215 => (if t215 = 0 then (if bt211.1.nil = true then (l3_live.j0 k bt211.1 true) else (l3_live.j0 k bt211.1 false)) else (l3_live.j0 k bt211.1 true))))) = some r := h
 clear h
 replace H := Option.bind_eq_some_iff.mp H
 obtain ⟨⟨t209, t210⟩, A10, H⟩ := H
 try dsimp only at H
 have A1 := Aside0.mk A10
 clear A10
 replace H := Option.bind_eq_some_iff.mp H
 obtain ⟨⟨t211, t214⟩, A20, H⟩ := H
 try dsimp only at H
 have A2 := Aside0.mk A20
 clear A20
 have HC3 := Aside0.mk H
 clear H
 go_enter Try.func38, Try.ntmps38
 go_upto_region 2 with (first | (go_at_call 61; (with_reducible refine (l3_eight.calls  t209 t210 _ A1.out).mono ?_); rintro e w4 ⟨rfl, hb⟩; have n0_ := aK (below_step (mvh HB.out) hb); clear HB; have HB := n0_; clear n0_; (try clear hb)) | (go_at_call 35; (with_reducible refine (galois_New.calls k t209 t210 t211 t214 _ A2.out).mono ?_); rintro e w ⟨Ap212, rfl, hT_, hb⟩; have n0_ := aK (Below.refl w.heap.size w); have n1_ := aK (below_step (mvh HB.out) hb); clear HB; have HB := n0_; have HB00 := n1_; clear n0_ n1_; have HT213 := Aside0.mk hT_; clear hb hT_))
 (try simp only [Act.put, List.setIfInBounds_toArray, List.set_cons_zero, List.set_cons_succ])
 go_cut [20] (fun v20 wc => ∃ (kq : Nat) (x20_2 : Bool), v20 = .bool x20_2 ∧ Aside0 (l3_live.j0 kq t211 x20_2 = some r) ∧ Aside0 (kq ≤ k) ∧ Aside0 (Below w.heap.size w wc))
 case first =>
  have H := HC3.out
  clear HC3
  replace H := Option.bind_eq_some_iff.mp H
  obtain ⟨t215, A60, H⟩ := H
  try dsimp only at H
  have A6 := Aside0.mk A60
  clear A60
  by_cases c7 : t215 = 0
  rotate_left
  ·rw [if_neg c7] at H
   have c7b0 : (t215 == 0) = false := beq_eq_false_iff_ne.mpr c7
   have c7b1 : (t215 != 0) = true := bne_iff_ne.mpr c7
   (first | rw [c7b0] | (simp only [i64_w, i32_w]; rw [c7b0]) | rw [c7b1] | skip)
   have H' := Aside0.mk H
   clear H
   go_wp2_with (first | (go_at_call 13; (with_reducible refine (l3_num.calls t214 t215 _ A6.out).mono ?_); rintro e w' ⟨rfl, ⟨nd, rfl⟩⟩))
   go_meet
   case rel => exact ⟨_, (true), (by first | rfl | (simp; done) | (simp [*]; done) | (simp [wrap64]; done)), H', ⟨by first | omega | exact Nat.le_refl _⟩, ⟨mvh HB.out⟩⟩
  rw [if_pos c7] at H
  have c7b0 : (t215 == 0) = true := beq_iff_eq.mpr c7
  have c7b1 : (t215 != 0) = false := bne_eq_false_iff_eq.mpr c7
  clear c7
  (first | rw [c7b0] | (simp only [i64_w, i32_w]; rw [c7b0]) | rw [c7b1] | skip)
  by_cases c8 : t211.nil = true
  ·rw [if_pos c8] at H
   obtain rfl := gal_nil HT213.out c8
   clear c8
   have H' := Aside0.mk H
   clear H
   go_wp2_with (first | (go_at_call 13; (with_reducible refine (l3_num.calls t214 t215 _ A6.out).mono ?_); rintro e w' ⟨rfl, ⟨nd, rfl⟩⟩))
   go_meet
   case rel => exact ⟨_, (true), (by first | rfl | (simp; done) | (simp [*]; done) | (simp [wrap64]; done)), H', ⟨by first | omega | exact Nat.le_refl _⟩, ⟨mvh HB.out⟩⟩
  ·rw [if_neg c8] at H
   obtain ⟨Ap212_, rfl⟩ := gal_some HT213.out c8
   clear c8
   have H' := Aside0.mk H
   clear H
   go_wp2_with (first | (go_at_call 13; (with_reducible refine (l3_num.calls t214 t215 _ A6.out).mono ?_); rintro e w' ⟨rfl, ⟨nd, rfl⟩⟩))
   go_meet
   case rel => exact ⟨_, (false), (by first | rfl | (simp; done) | (simp [*]; done) | (simp [wrap64]; done)), H', ⟨by first | omega | exact Nat.le_refl _⟩, ⟨mvh HB.out⟩⟩
 case rest =>
  clear HC3
  (try clear c1); (try clear p2); (try clear c3); (try clear c6); (try clear p6); (try clear c7); (try clear c7b0); (try clear c7b1); (try clear c8)
  obtain ⟨kq, x20_2, rfl, HA, HJ2, HB⟩ := hcut
  cases kq with
  | zero => exact absurd HA.out (by simp [l3_live.j0])
  | succ kj2 =>
   have H := HA.out
   clear HA
   simp only [l3_live.j0] at H
   by_cases c9 : x20_2 = true
   ·subst c9
    have H1 : (some false) = some r := by rw [if_pos rfl] at H; exact H
    clear H
    have H := H1
    clear H1
    obtain rfl := Option.some.inj H
    go_wp2
    go_ret
    exact ⟨by first | rfl | (simp [errW_none, errW_some] <;> rfl) | (simp [*, errW_none, errW_some] <;> rfl), below_step HB00.out (mvh HB.out)⟩
   ·replace c9 := Bool.eq_false_iff.mpr c9
    subst c9
    have H1 : ((gT_Mul.f kj2 t211 2 4).bind fun bt216 => ((gT_Times.f kj2 t211 (([1, 2] : List Int)) (([1, 3] : List Int))).bind fun bt224 => ((gT_Log.f kj2 t211 3).bind fun bt228 => ((l3_num.f bt216.2).bind fun t230 => (if t230 = 0 then (if bt216.1 = 3 then ((l3_num.f bt224.2).bind fun t231 => (if t231 = 0 then ((l3_same.f bt224.1 (([1, 1, 6] : List Int))).bind fun t235 => (if t235 = true then ((l3_num.f bt228.2).bind fun t236 => (if t236 = 0 then (some (bt228.1 == 3)) else (some false))) else (some false))) else (some false))) else (some false)) else (some false)))))) = some r := by rw [if_neg (show ¬ (false = true) by decide)] at H; exact H
    clear H
    have H := H1
    clear H1
    replace H := Option.bind_eq_some_iff.mp H
    obtain ⟨⟨t216, t217⟩, A100, H⟩ := H
    try dsimp only at H
    have A10 := Aside0.mk A100
    clear A100
    obtain ⟨y218, hy218⟩ : ∃ y_ : List Int, y_ = (([1, 2] : List Int)) := ⟨_, rfl⟩
    replace H : ((gT_Times.f kj2 t211 y218 (([1, 3] : List Int))).bind fun bt224 => ((gT_Log.f kj2 t211 3).bind fun bt228 => ((l3_num.f t217).bind fun t230 => (if t230 = 0 then (if t216 = 3 then ((l3_num.f bt224.2).bind fun t231 => (if t231 = 0 then ((l3_same.f bt224.1 (([1, 1, 6] : List Int))).bind fun t235 => (if t235 = true then ((l3_num.f bt228.2).bind fun t236 => (if t236 = 0 then (some (bt228.1 == 3)) else (some false))) else (some false))) else (some false))) else (some false)) else (some false))))) = some r := by rw [hy218]; exact H
    have Ny218 := Aside0.mk hy218
    clear hy218
    obtain ⟨y221, hy221⟩ : ∃ y_ : List Int, y_ = (([1, 3] : List Int)) := ⟨_, rfl⟩
    replace H : ((gT_Times.f kj2 t211 y218 y221).bind fun bt224 => ((gT_Log.f kj2 t211 3).bind fun bt228 => ((l3_num.f t217).bind fun t230 => (if t230 = 0 then (if t216 = 3 then ((l3_num.f bt224.2).bind fun t231 => (if t231 = 0 then ((l3_same.f bt224.1 (([1, 1, 6] : List Int))).bind fun t235 => (if t235 = true then ((l3_num.f bt228.2).bind fun t236 => (if t236 = 0 then (some (bt228.1 == 3)) else (some false))) else (some false))) else (some false))) else (some false)) else (some false))))) = some r := by rw [hy221]; exact H
    have Ny221 := Aside0.mk hy221
    clear hy221
    replace H := Option.bind_eq_some_iff.mp H
    obtain ⟨⟨t224, t227⟩, A110, H⟩ := H
    try dsimp only at H
    have A11 := Aside0.mk A110
    clear A110
    replace H := Option.bind_eq_some_iff.mp H
    obtain ⟨⟨t228, t229⟩, A120, H⟩ := H
    try dsimp only at H
    have A12 := Aside0.mk A120
    clear A120
    replace H := Option.bind_eq_some_iff.mp H
    obtain ⟨t230, A130, H⟩ := H
    try dsimp only at H
    have A13 := Aside0.mk A130
    clear A130
    by_cases c14 : t230 = 0
    rotate_left
    ·rw [if_neg c14] at H
     have c14b0 : (t230 == 0) = false := beq_eq_false_iff_ne.mpr c14
     have c14b1 : (t230 != 0) = true := bne_iff_ne.mpr c14
     obtain rfl := Option.some.inj H
     go_wp2_with (first | (go_at_call 62; (with_reducible refine (gT_Mul.calls kj2 _ t211 2 4 t216 t217 _ ?side1 A10.out).mono ?_); (case side1 => exact (gal_OK_below HT213.out HB.out)); rintro e w79 ⟨rfl, hb⟩; have n0_ := aK (below_step (mvh HB.out) hb); clear HB; have HB := n0_; clear n0_; (try clear hb)) | ((with_reducible refine gate_dst (N := 28) rfl ?_); (try (refine gate_guard (by rfl) ?_; dsimp only)); refine Kd.R_lit (Kd.int .u8) _ 5 ?hg (N := 28) ?hd (xs := ([1, 2] : List Int)) (inner := [.int .u8 1, .int .u8 2]) (ok := fun _ => True) (okp := fun _ => True) ?hr ?hp (fun _ hk => hk) trivial (Below.refl _ _) (Nat.le_refl _) (by simp) ?_; (case hd => rfl); (case hg => rfl); (case hr => first | (go_simp; done) | (go_simp; rfl)); (case hp => exact (Reps.one (show Kd.M (Kd.int .u8) _ _ _ 1 [.int .u8 1] from rfl) (Reps.one (show Kd.M (Kd.int .u8) _ _ _ 2 [.int .u8 2] from rfl) (Reps.none _ _)))); intro v219 w80 ho81 hb hg_ hnew_; clear hg_ hnew_; (first | rw [← Ny218.out] at ho81 | (simp only [Int.reduceToNat] at ho81; rw [← Ny218.out] at ho81)); have n0_ := aK (Kd.R_lower ho81 (below_size (mvh HB.out))); have n1_ := aK (below_step (mvh HB.out) hb); clear HB; have HO220 := n0_; have HB := n1_; clear n0_ n1_; clear hb ho81) | ((with_reducible refine gate_dst (N := 29) rfl ?_); (try (refine gate_guard (by rfl) ?_; dsimp only)); refine Kd.R_lit (Kd.int .u8) _ 5 ?hg (N := 29) ?hd (xs := ([1, 3] : List Int)) (inner := [.int .u8 1, .int .u8 3]) (ok := fun _ => True) (okp := fun _ => True) ?hr ?hp (fun _ hk => hk) trivial (Below.refl _ _) (Nat.le_refl _) (by simp) ?_; (case hd => rfl); (case hg => rfl); (case hr => first | (go_simp; done) | (go_simp; rfl)); (case hp => exact (Reps.one (show Kd.M (Kd.int .u8) _ _ _ 1 [.int .u8 1] from rfl) (Reps.one (show Kd.M (Kd.int .u8) _ _ _ 3 [.int .u8 3] from rfl) (Reps.none _ _)))); intro v222 w82 ho83 hb hg_ hnew_; clear hg_ hnew_; (first | rw [← Ny221.out] at ho83 | (simp only [Int.reduceToNat] at ho83; rw [← Ny221.out] at ho83)); have n0_ := aK (Kd.R_elder' (mvR HO220.out) (Kd.R_base ho83) hb); have n1_ := aK (Kd.R_lower (Kd.R_new' ho83 (Kd.R_lt (mvR HO220.out))) (below_size (mvh HB.out))); have n2_ := aK (below_step (mvh HB.out) hb); clear HO220 HB; have HO220 := n0_; have HO223 := n1_; have HB := n2_; clear n0_ n1_ n2_; clear hb ho83; obtain ⟨Ao84, co84, eo84⟩ := Kd.R_slice HO220.out; subst eo84; obtain ⟨Ao85, co85, eo85⟩ := Kd.R_slice HO223.out; subst eo85) | (go_at_call 18; (with_reducible refine (gT_Times.calls kj2 _ t211 (fun k_ => some k_ = (.slice Ao84 y218.length co84 : Value).ownBlock) _ _ y218 (fun k_ => some k_ = (.slice Ao85 y221.length co85 : Value).ownBlock) _ _ y221 t224 t227 _ ?side1 ?side2 ?side3 A11.out).mono ?_); (case side1 => exact (gal_OK_below HT213.out HB.out)); (case side2 => exact Kd.R_V (Kd.R_tight rfl (HO220.out))); (case side3 => exact Kd.R_V (Kd.R_tight rfl (HO223.out))); rintro e w86 ⟨v225, rfl, ho0, hb⟩; have n0_ := aK (Kd.R_elder' (mvR HO220.out) (Kd.R_base ho0) hb); have n1_ := aK (Kd.R_elder' (mvR HO223.out) (Kd.R_base ho0) hb); have n2_ := aK (Kd.R_lower (Kd.R_new' (Kd.R_new' (Kd.R_mono (ok' := fun k_ => True) ho0 (fun _ hk_ => trivial)) (Kd.R_lt (mvR HO220.out))) (Kd.R_lt (mvR HO223.out))) (below_size (mvh HB.out))); have n3_ := aK (below_step (mvh HB.out) hb); clear HO220 HO223 HB; have HO220 := n0_; have HO223 := n1_; have HO226 := n2_; have HB := n3_; clear n0_ n1_ n2_ n3_; (try clear hb); (try clear ho0)) | (go_at_call 63; (with_reducible refine (gT_Log.calls kj2 _ t211 3 t228 t229 _ ?side1 A12.out).mono ?_); (case side1 => exact (gal_OK_below HT213.out HB.out)); rintro e w87 ⟨rfl, hb⟩; have n0_ := aK (Kd.R_below (mvR HO220.out) hb); have n1_ := aK (Kd.R_below (mvR HO223.out) hb); have n2_ := aK (Kd.R_below (mvR HO226.out) hb); have n3_ := aK (below_step (mvh HB.out) hb); clear HO220 HO223 HO226 HB; have HO220 := n0_; have HO223 := n1_; have HO226 := n2_; have HB := n3_; clear n0_ n1_ n2_ n3_; (try clear hb)) | (go_at_call 13; (with_reducible refine (l3_num.calls t217 t230 _ A13.out).mono ?_); rintro e w' ⟨rfl, ⟨nd, rfl⟩⟩))
     go_ret
     exact ⟨by first | rfl | (simp [errW_none, errW_some] <;> rfl) | (simp [*, errW_none, errW_some] <;> rfl), below_step HB00.out (mvh HB.out)⟩

    rw [if_pos c14] at H
    have c14b0 : (t230 == 0) = true := beq_iff_eq.mpr c14
    have c14b1 : (t230 != 0) = false := bne_eq_false_iff_eq.mpr c14
    clear c14
    by_cases c15 : t216 = 3
    rotate_left
    ·rw [if_neg c15] at H
     have c15b0 : (t216 == 3) = false := beq_eq_false_iff_ne.mpr c15
     have c15b1 : (t216 != 3) = true := bne_iff_ne.mpr c15
     obtain rfl := Option.some.inj H
     go_wp2_with (first | (go_at_call 62; (with_reducible refine (gT_Mul.calls kj2 _ t211 2 4 t216 t217 _ ?side1 A10.out).mono ?_); (case side1 => exact (gal_OK_below HT213.out HB.out)); rintro e w70 ⟨rfl, hb⟩; have n0_ := aK (below_step (mvh HB.out) hb); clear HB; have HB := n0_; clear n0_; (try clear hb)) | ((with_reducible refine gate_dst (N := 28) rfl ?_); (try (refine gate_guard (by rfl) ?_; dsimp only)); refine Kd.R_lit (Kd.int .u8) _ 5 ?hg (N := 28) ?hd (xs := ([1, 2] : List Int)) (inner := [.int .u8 1, .int .u8 2]) (ok := fun _ => True) (okp := fun _ => True) ?hr ?hp (fun _ hk => hk) trivial (Below.refl _ _) (Nat.le_refl _) (by simp) ?_; (case hd => rfl); (case hg => rfl); (case hr => first | (go_simp; done) | (go_simp; rfl)); (case hp => exact (Reps.one (show Kd.M (Kd.int .u8) _ _ _ 1 [.int .u8 1] from rfl) (Reps.one (show Kd.M (Kd.int .u8) _ _ _ 2 [.int .u8 2] from rfl) (Reps.none _ _)))); intro v219 w71 ho72 hb hg_ hnew_; clear hg_ hnew_; (first | rw [← Ny218.out] at ho72 | (simp only [Int.reduceToNat] at ho72; rw [← Ny218.out] at ho72)); have n0_ := aK (Kd.R_lower ho72 (below_size (mvh HB.out))); have n1_ := aK (below_step (mvh HB.out) hb); clear HB; have HO220 := n0_; have HB := n1_; clear n0_ n1_; clear hb ho72) | ((with_reducible refine gate_dst (N := 29) rfl ?_); (try (refine gate_guard (by rfl) ?_; dsimp only)); refine Kd.R_lit (Kd.int .u8) _ 5 ?hg (N := 29) ?hd (xs := ([1, 3] : List Int)) (inner := [.int .u8 1, .int .u8 3]) (ok := fun _ => True) (okp := fun _ => True) ?hr ?hp (fun _ hk => hk) trivial (Below.refl _ _) (Nat.le_refl _) (by simp) ?_; (case hd => rfl); (case hg => rfl); (case hr => first | (go_simp; done) | (go_simp; rfl)); (case hp => exact (Reps.one (show Kd.M (Kd.int .u8) _ _ _ 1 [.int .u8 1] from rfl) (Reps.one (show Kd.M (Kd.int .u8) _ _ _ 3 [.int .u8 3] from rfl) (Reps.none _ _)))); intro v222 w73 ho74 hb hg_ hnew_; clear hg_ hnew_; (first | rw [← Ny221.out] at ho74 | (simp only [Int.reduceToNat] at ho74; rw [← Ny221.out] at ho74)); have n0_ := aK (Kd.R_elder' (mvR HO220.out) (Kd.R_base ho74) hb); have n1_ := aK (Kd.R_lower (Kd.R_new' ho74 (Kd.R_lt (mvR HO220.out))) (below_size (mvh HB.out))); have n2_ := aK (below_step (mvh HB.out) hb); clear HO220 HB; have HO220 := n0_; have HO223 := n1_; have HB := n2_; clear n0_ n1_ n2_; clear hb ho74; obtain ⟨Ao75, co75, eo75⟩ := Kd.R_slice HO220.out; subst eo75; obtain ⟨Ao76, co76, eo76⟩ := Kd.R_slice HO223.out; subst eo76) | (go_at_call 18; (with_reducible refine (gT_Times.calls kj2 _ t211 (fun k_ => some k_ = (.slice Ao75 y218.length co75 : Value).ownBlock) _ _ y218 (fun k_ => some k_ = (.slice Ao76 y221.length co76 : Value).ownBlock) _ _ y221 t224 t227 _ ?side1 ?side2 ?side3 A11.out).mono ?_); (case side1 => exact (gal_OK_below HT213.out HB.out)); (case side2 => exact Kd.R_V (Kd.R_tight rfl (HO220.out))); (case side3 => exact Kd.R_V (Kd.R_tight rfl (HO223.out))); rintro e w77 ⟨v225, rfl, ho0, hb⟩; have n0_ := aK (Kd.R_elder' (mvR HO220.out) (Kd.R_base ho0) hb); have n1_ := aK (Kd.R_elder' (mvR HO223.out) (Kd.R_base ho0) hb); have n2_ := aK (Kd.R_lower (Kd.R_new' (Kd.R_new' (Kd.R_mono (ok' := fun k_ => True) ho0 (fun _ hk_ => trivial)) (Kd.R_lt (mvR HO220.out))) (Kd.R_lt (mvR HO223.out))) (below_size (mvh HB.out))); have n3_ := aK (below_step (mvh HB.out) hb); clear HO220 HO223 HB; have HO220 := n0_; have HO223 := n1_; have HO226 := n2_; have HB := n3_; clear n0_ n1_ n2_ n3_; (try clear hb); (try clear ho0)) | (go_at_call 63; (with_reducible refine (gT_Log.calls kj2 _ t211 3 t228 t229 _ ?side1 A12.out).mono ?_); (case side1 => exact (gal_OK_below HT213.out HB.out)); rintro e w78 ⟨rfl, hb⟩; have n0_ := aK (Kd.R_below (mvR HO220.out) hb); have n1_ := aK (Kd.R_below (mvR HO223.out) hb); have n2_ := aK (Kd.R_below (mvR HO226.out) hb); have n3_ := aK (below_step (mvh HB.out) hb); clear HO220 HO223 HO226 HB; have HO220 := n0_; have HO223 := n1_; have HO226 := n2_; have HB := n3_; clear n0_ n1_ n2_ n3_; (try clear hb)) | (go_at_call 13; (with_reducible refine (l3_num.calls t217 t230 _ A13.out).mono ?_); rintro e w' ⟨rfl, ⟨nd, rfl⟩⟩))
     go_ret
     exact ⟨by first | rfl | (simp [errW_none, errW_some] <;> rfl) | (simp [*, errW_none, errW_some] <;> rfl), below_step HB00.out (mvh HB.out)⟩
    rw [if_pos c15] at H
    have c15b0 : (t216 == 3) = true := beq_iff_eq.mpr c15
    have c15b1 : (t216 != 3) = false := bne_eq_false_iff_eq.mpr c15
    clear c15
    replace H := Option.bind_eq_some_iff.mp H
    obtain ⟨t231, A160, H⟩ := H
    try dsimp only at H
    have A16 := Aside0.mk A160
    clear A160
    by_cases c17 : t231 = 0
    rotate_left
    ·rw [if_neg c17] at H
     have c17b0 : (t231 == 0) = false := beq_eq_false_iff_ne.mpr c17
     have c17b1 : (t231 != 0) = true := bne_iff_ne.mpr c17
     obtain rfl := Option.some.inj H
     go_wp2_with (first | (go_at_call 62; (with_reducible refine (gT_Mul.calls kj2 _ t211 2 4 t216 t217 _ ?side1 A10.out).mono ?_); (case side1 => exact (gal_OK_below HT213.out HB.out)); rintro e w61 ⟨rfl, hb⟩; have n0_ := aK (below_step (mvh HB.out) hb); clear HB; have HB := n0_; clear n0_; (try clear hb)) | ((with_reducible refine gate_dst (N := 28) rfl ?_); (try (refine gate_guard (by rfl) ?_; dsimp only)); refine Kd.R_lit (Kd.int .u8) _ 5 ?hg (N := 28) ?hd (xs := ([1, 2] : List Int)) (inner := [.int .u8 1, .int .u8 2]) (ok := fun _ => True) (okp := fun _ => True) ?hr ?hp (fun _ hk => hk) trivial (Below.refl _ _) (Nat.le_refl _) (by simp) ?_; (case hd => rfl); (case hg => rfl); (case hr => first | (go_simp; done) | (go_simp; rfl)); (case hp => exact (Reps.one (show Kd.M (Kd.int .u8) _ _ _ 1 [.int .u8 1] from rfl) (Reps.one (show Kd.M (Kd.int .u8) _ _ _ 2 [.int .u8 2] from rfl) (Reps.none _ _)))); intro v219 w62 ho63 hb hg_ hnew_; clear hg_ hnew_; (first | rw [← Ny218.out] at ho63 | (simp only [Int.reduceToNat] at ho63; rw [← Ny218.out] at ho63)); have n0_ := aK (Kd.R_lower ho63 (below_size (mvh HB.out))); have n1_ := aK (below_step (mvh HB.out) hb); clear HB; have HO220 := n0_; have HB := n1_; clear n0_ n1_; clear hb ho63) | ((with_reducible refine gate_dst (N := 29) rfl ?_); (try (refine gate_guard (by rfl) ?_; dsimp only)); refine Kd.R_lit (Kd.int .u8) _ 5 ?hg (N := 29) ?hd (xs := ([1, 3] : List Int)) (inner := [.int .u8 1, .int .u8 3]) (ok := fun _ => True) (okp := fun _ => True) ?hr ?hp (fun _ hk => hk) trivial (Below.refl _ _) (Nat.le_refl _) (by simp) ?_; (case hd => rfl); (case hg => rfl); (case hr => first | (go_simp; done) | (go_simp; rfl)); (case hp => exact (Reps.one (show Kd.M (Kd.int .u8) _ _ _ 1 [.int .u8 1] from rfl) (Reps.one (show Kd.M (Kd.int .u8) _ _ _ 3 [.int .u8 3] from rfl) (Reps.none _ _)))); intro v222 w64 ho65 hb hg_ hnew_; clear hg_ hnew_; (first | rw [← Ny221.out] at ho65 | (simp only [Int.reduceToNat] at ho65; rw [← Ny221.out] at ho65)); have n0_ := aK (Kd.R_elder' (mvR HO220.out) (Kd.R_base ho65) hb); have n1_ := aK (Kd.R_lower (Kd.R_new' ho65 (Kd.R_lt (mvR HO220.out))) (below_size (mvh HB.out))); have n2_ := aK (below_step (mvh HB.out) hb); clear HO220 HB; have HO220 := n0_; have HO223 := n1_; have HB := n2_; clear n0_ n1_ n2_; clear hb ho65; obtain ⟨Ao66, co66, eo66⟩ := Kd.R_slice HO220.out; subst eo66; obtain ⟨Ao67, co67, eo67⟩ := Kd.R_slice HO223.out; subst eo67) | (go_at_call 18; (with_reducible refine (gT_Times.calls kj2 _ t211 (fun k_ => some k_ = (.slice Ao66 y218.length co66 : Value).ownBlock) _ _ y218 (fun k_ => some k_ = (.slice Ao67 y221.length co67 : Value).ownBlock) _ _ y221 t224 t227 _ ?side1 ?side2 ?side3 A11.out).mono ?_); (case side1 => exact (gal_OK_below HT213.out HB.out)); (case side2 => exact Kd.R_V (Kd.R_tight rfl (HO220.out))); (case side3 => exact Kd.R_V (Kd.R_tight rfl (HO223.out))); rintro e w68 ⟨v225, rfl, ho0, hb⟩; have n0_ := aK (Kd.R_elder' (mvR HO220.out) (Kd.R_base ho0) hb); have n1_ := aK (Kd.R_elder' (mvR HO223.out) (Kd.R_base ho0) hb); have n2_ := aK (Kd.R_lower (Kd.R_new' (Kd.R_new' (Kd.R_mono (ok' := fun k_ => True) ho0 (fun _ hk_ => trivial)) (Kd.R_lt (mvR HO220.out))) (Kd.R_lt (mvR HO223.out))) (below_size (mvh HB.out))); have n3_ := aK (below_step (mvh HB.out) hb); clear HO220 HO223 HB; have HO220 := n0_; have HO223 := n1_; have HO226 := n2_; have HB := n3_; clear n0_ n1_ n2_ n3_; (try clear hb); (try clear ho0)) | (go_at_call 63; (with_reducible refine (gT_Log.calls kj2 _ t211 3 t228 t229 _ ?side1 A12.out).mono ?_); (case side1 => exact (gal_OK_below HT213.out HB.out)); rintro e w69 ⟨rfl, hb⟩; have n0_ := aK (Kd.R_below (mvR HO220.out) hb); have n1_ := aK (Kd.R_below (mvR HO223.out) hb); have n2_ := aK (Kd.R_below (mvR HO226.out) hb); have n3_ := aK (below_step (mvh HB.out) hb); clear HO220 HO223 HO226 HB; have HO220 := n0_; have HO223 := n1_; have HO226 := n2_; have HB := n3_; clear n0_ n1_ n2_ n3_; (try clear hb)) | (go_at_call 13; (with_reducible refine (l3_num.calls t217 t230 _ A13.out).mono ?_); rintro e w' ⟨rfl, ⟨nd, rfl⟩⟩) | (go_at_call 13; (with_reducible refine (l3_num.calls t227 t231 _ A16.out).mono ?_); rintro e w' ⟨rfl, ⟨nd, rfl⟩⟩))
     go_ret
     exact ⟨by first | rfl | (simp [errW_none, errW_some] <;> rfl) | (simp [*, errW_none, errW_some] <;> rfl), below_step HB00.out (mvh HB.out)⟩
    rw [if_pos c17] at H
    have c17b0 : (t231 == 0) = true := beq_iff_eq.mpr c17
    have c17b1 : (t231 != 0) = false := bne_eq_false_iff_eq.mpr c17
    clear c17
    obtain ⟨y232, hy232⟩ : ∃ y_ : List Int, y_ = (([1, 1, 6] : List Int)) := ⟨_, rfl⟩
    replace H : ((l3_same.f t224 y232).bind fun t235 => (if t235 = true then ((l3_num.f t229).bind fun t236 => (if t236 = 0 then (some (t228 == 3)) else (some false))) else (some false))) = some r := by rw [hy232]; exact H
    have Ny232 := Aside0.mk hy232
    clear hy232
    replace H := Option.bind_eq_some_iff.mp H
    obtain ⟨t235, A180, H⟩ := H
    try dsimp only at H
    have A18 := Aside0.mk A180
    clear A180
    by_cases c19 : t235 = true
    rotate_left
    ·replace c19 := Bool.eq_false_iff.mpr c19
     subst c19
     have H1 : (some false) = some r := by rw [if_neg (show ¬ (false = true) by decide)] at H; exact H
     clear H
     have H := H1
     clear H1
     obtain rfl := Option.some.inj H
     go_wp2_with (first | (go_at_call 62; (with_reducible refine (gT_Mul.calls kj2 _ t211 2 4 t216 t217 _ ?side1 A10.out).mono ?_); (case side1 => exact (gal_OK_below HT213.out HB.out)); rintro e w48 ⟨rfl, hb⟩; have n0_ := aK (below_step (mvh HB.out) hb); clear HB; have HB := n0_; clear n0_; (try clear hb)) | ((with_reducible refine gate_dst (N := 28) rfl ?_); (try (refine gate_guard (by rfl) ?_; dsimp only)); refine Kd.R_lit (Kd.int .u8) _ 5 ?hg (N := 28) ?hd (xs := ([1, 2] : List Int)) (inner := [.int .u8 1, .int .u8 2]) (ok := fun _ => True) (okp := fun _ => True) ?hr ?hp (fun _ hk => hk) trivial (Below.refl _ _) (Nat.le_refl _) (by simp) ?_; (case hd => rfl); (case hg => rfl); (case hr => first | (go_simp; done) | (go_simp; rfl)); (case hp => exact (Reps.one (show Kd.M (Kd.int .u8) _ _ _ 1 [.int .u8 1] from rfl) (Reps.one (show Kd.M (Kd.int .u8) _ _ _ 2 [.int .u8 2] from rfl) (Reps.none _ _)))); intro v219 w49 ho50 hb hg_ hnew_; clear hg_ hnew_; (first | rw [← Ny218.out] at ho50 | (simp only [Int.reduceToNat] at ho50; rw [← Ny218.out] at ho50)); have n0_ := aK (Kd.R_lower ho50 (below_size (mvh HB.out))); have n1_ := aK (below_step (mvh HB.out) hb); clear HB; have HO220 := n0_; have HB := n1_; clear n0_ n1_; clear hb ho50) | ((with_reducible refine gate_dst (N := 29) rfl ?_); (try (refine gate_guard (by rfl) ?_; dsimp only)); refine Kd.R_lit (Kd.int .u8) _ 5 ?hg (N := 29) ?hd (xs := ([1, 3] : List Int)) (inner := [.int .u8 1, .int .u8 3]) (ok := fun _ => True) (okp := fun _ => True) ?hr ?hp (fun _ hk => hk) trivial (Below.refl _ _) (Nat.le_refl _) (by simp) ?_; (case hd => rfl); (case hg => rfl); (case hr => first | (go_simp; done) | (go_simp; rfl)); (case hp => exact (Reps.one (show Kd.M (Kd.int .u8) _ _ _ 1 [.int .u8 1] from rfl) (Reps.one (show Kd.M (Kd.int .u8) _ _ _ 3 [.int .u8 3] from rfl) (Reps.none _ _)))); intro v222 w51 ho52 hb hg_ hnew_; clear hg_ hnew_; (first | rw [← Ny221.out] at ho52 | (simp only [Int.reduceToNat] at ho52; rw [← Ny221.out] at ho52)); have n0_ := aK (Kd.R_elder' (mvR HO220.out) (Kd.R_base ho52) hb); have n1_ := aK (Kd.R_lower (Kd.R_new' ho52 (Kd.R_lt (mvR HO220.out))) (below_size (mvh HB.out))); have n2_ := aK (below_step (mvh HB.out) hb); clear HO220 HB; have HO220 := n0_; have HO223 := n1_; have HB := n2_; clear n0_ n1_ n2_; clear hb ho52; obtain ⟨Ao53, co53, eo53⟩ := Kd.R_slice HO220.out; subst eo53; obtain ⟨Ao54, co54, eo54⟩ := Kd.R_slice HO223.out; subst eo54) | (go_at_call 18; (with_reducible refine (gT_Times.calls kj2 _ t211 (fun k_ => some k_ = (.slice Ao53 y218.length co53 : Value).ownBlock) _ _ y218 (fun k_ => some k_ = (.slice Ao54 y221.length co54 : Value).ownBlock) _ _ y221 t224 t227 _ ?side1 ?side2 ?side3 A11.out).mono ?_); (case side1 => exact (gal_OK_below HT213.out HB.out)); (case side2 => exact Kd.R_V (Kd.R_tight rfl (HO220.out))); (case side3 => exact Kd.R_V (Kd.R_tight rfl (HO223.out))); rintro e w55 ⟨v225, rfl, ho0, hb⟩; have n0_ := aK (Kd.R_elder' (mvR HO220.out) (Kd.R_base ho0) hb); have n1_ := aK (Kd.R_elder' (mvR HO223.out) (Kd.R_base ho0) hb); have n2_ := aK (Kd.R_lower (Kd.R_new' (Kd.R_new' (Kd.R_mono (ok' := fun k_ => True) ho0 (fun _ hk_ => trivial)) (Kd.R_lt (mvR HO220.out))) (Kd.R_lt (mvR HO223.out))) (below_size (mvh HB.out))); have n3_ := aK (below_step (mvh HB.out) hb); clear HO220 HO223 HB; have HO220 := n0_; have HO223 := n1_; have HO226 := n2_; have HB := n3_; clear n0_ n1_ n2_ n3_; (try clear hb); (try clear ho0)) | (go_at_call 63; (with_reducible refine (gT_Log.calls kj2 _ t211 3 t228 t229 _ ?side1 A12.out).mono ?_); (case side1 => exact (gal_OK_below HT213.out HB.out)); rintro e w56 ⟨rfl, hb⟩; have n0_ := aK (Kd.R_below (mvR HO220.out) hb); have n1_ := aK (Kd.R_below (mvR HO223.out) hb); have n2_ := aK (Kd.R_below (mvR HO226.out) hb); have n3_ := aK (below_step (mvh HB.out) hb); clear HO220 HO223 HO226 HB; have HO220 := n0_; have HO223 := n1_; have HO226 := n2_; have HB := n3_; clear n0_ n1_ n2_ n3_; (try clear hb)) | (go_at_call 13; (with_reducible refine (l3_num.calls t217 t230 _ A13.out).mono ?_); rintro e w' ⟨rfl, ⟨nd, rfl⟩⟩) | (go_at_call 13; (with_reducible refine (l3_num.calls t227 t231 _ A16.out).mono ?_); rintro e w' ⟨rfl, ⟨nd, rfl⟩⟩) | ((with_reducible refine gate_dst (N := 52) rfl ?_); (try (refine gate_guard (by rfl) ?_; dsimp only)); refine Kd.R_lit (Kd.int .u8) _ 5 ?hg (N := 52) ?hd (xs := ([1, 1, 6] : List Int)) (inner := [.int .u8 1, .int .u8 1, .int .u8 6]) (ok := fun _ => True) (okp := fun _ => True) ?hr ?hp (fun _ hk => hk) trivial (Below.refl _ _) (Nat.le_refl _) (by simp) ?_; (case hd => rfl); (case hg => rfl); (case hr => first | (go_simp; done) | (go_simp; rfl)); (case hp => exact (Reps.one (show Kd.M (Kd.int .u8) _ _ _ 1 [.int .u8 1] from rfl) (Reps.one (show Kd.M (Kd.int .u8) _ _ _ 1 [.int .u8 1] from rfl) (Reps.one (show Kd.M (Kd.int .u8) _ _ _ 6 [.int .u8 6] from rfl) (Reps.none _ _))))); intro v233 w57 ho58 hb hg_ hnew_; clear hg_ hnew_; (first | rw [← Ny232.out] at ho58 | (simp only [Int.reduceToNat] at ho58; rw [← Ny232.out] at ho58)); have n0_ := aK (Kd.R_elder' (mvR HO220.out) (Kd.R_base ho58) hb); have n1_ := aK (Kd.R_elder' (mvR HO223.out) (Kd.R_base ho58) hb); have n2_ := aK (Kd.R_elder' (mvR HO226.out) (Kd.R_base ho58) hb); have n3_ := aK (Kd.R_lower (Kd.R_new' (Kd.R_new' (Kd.R_new' ho58 (Kd.R_lt (mvR HO220.out))) (Kd.R_lt (mvR HO223.out))) (Kd.R_lt (mvR HO226.out))) (below_size (mvh HB.out))); have n4_ := aK (below_step (mvh HB.out) hb); clear HO220 HO223 HO226 HB; have HO220 := n0_; have HO223 := n1_; have HO226 := n2_; have HO234 := n3_; have HB := n4_; clear n0_ n1_ n2_ n3_ n4_; clear hb ho58; obtain ⟨Ao59, co59, eo59⟩ := Kd.R_slice HO226.out; subst eo59; obtain ⟨Ao60, co60, eo60⟩ := Kd.R_slice HO234.out; subst eo60) | (go_at_call 12; (with_reducible refine (l3_same.calls _ _ t224 _ _ y232 false _ ?side1 ?side2 ?side3 ?side4 A18.out).mono ?_); (case side1 => exact mvC (Kd.R_reads' HO226.out).2.2); (case side2 => exact (Kd.R_reads' HO226.out).2.1); (case side3 => exact mvC (Kd.R_reads' HO234.out).2.2); (case side4 => exact (Kd.R_reads' HO234.out).2.1); rintro e w' ⟨rfl, ⟨nd, rfl⟩⟩))
     go_ret
     exact ⟨by first | rfl | (simp [errW_none, errW_some] <;> rfl) | (simp [*, errW_none, errW_some] <;> rfl), below_step HB00.out (mvh HB.out)⟩
    subst c19
    have H1 : ((l3_num.f t229).bind fun t236 => (if t236 = 0 then (some (t228 == 3)) else (some false))) = some r := by rw [if_pos rfl] at H; exact H
    clear H
    have H := H1
    clear H1
    replace H := Option.bind_eq_some_iff.mp H
    obtain ⟨t236, A200, H⟩ := H
    try dsimp only at H
    have A20 := Aside0.mk A200
    clear A200
    by_cases c21 : t236 = 0
    rotate_left
    ·rw [if_neg c21] at H
     have c21b0 : (t236 == 0) = false := beq_eq_false_iff_ne.mpr c21
     have c21b1 : (t236 != 0) = true := bne_iff_ne.mpr c21
     obtain rfl := Option.some.inj H
     go_wp2_with (first | (go_at_call 62; (with_reducible refine (gT_Mul.calls kj2 _ t211 2 4 t216 t217 _ ?side1 A10.out).mono ?_); (case side1 => exact (gal_OK_below HT213.out HB.out)); rintro e w35 ⟨rfl, hb⟩; have n0_ := aK (below_step (mvh HB.out) hb); clear HB; have HB := n0_; clear n0_; (try clear hb)) | ((with_reducible refine gate_dst (N := 28) rfl ?_); (try (refine gate_guard (by rfl) ?_; dsimp only)); refine Kd.R_lit (Kd.int .u8) _ 5 ?hg (N := 28) ?hd (xs := ([1, 2] : List Int)) (inner := [.int .u8 1, .int .u8 2]) (ok := fun _ => True) (okp := fun _ => True) ?hr ?hp (fun _ hk => hk) trivial (Below.refl _ _) (Nat.le_refl _) (by simp) ?_; (case hd => rfl); (case hg => rfl); (case hr => first | (go_simp; done) | (go_simp; rfl)); (case hp => exact (Reps.one (show Kd.M (Kd.int .u8) _ _ _ 1 [.int .u8 1] from rfl) (Reps.one (show Kd.M (Kd.int .u8) _ _ _ 2 [.int .u8 2] from rfl) (Reps.none _ _)))); intro v219 w36 ho37 hb hg_ hnew_; clear hg_ hnew_; (first | rw [← Ny218.out] at ho37 | (simp only [Int.reduceToNat] at ho37; rw [← Ny218.out] at ho37)); have n0_ := aK (Kd.R_lower ho37 (below_size (mvh HB.out))); have n1_ := aK (below_step (mvh HB.out) hb); clear HB; have HO220 := n0_; have HB := n1_; clear n0_ n1_; clear hb ho37) | ((with_reducible refine gate_dst (N := 29) rfl ?_); (try (refine gate_guard (by rfl) ?_; dsimp only)); refine Kd.R_lit (Kd.int .u8) _ 5 ?hg (N := 29) ?hd (xs := ([1, 3] : List Int)) (inner := [.int .u8 1, .int .u8 3]) (ok := fun _ => True) (okp := fun _ => True) ?hr ?hp (fun _ hk => hk) trivial (Below.refl _ _) (Nat.le_refl _) (by simp) ?_; (case hd => rfl); (case hg => rfl); (case hr => first | (go_simp; done) | (go_simp; rfl)); (case hp => exact (Reps.one (show Kd.M (Kd.int .u8) _ _ _ 1 [.int .u8 1] from rfl) (Reps.one (show Kd.M (Kd.int .u8) _ _ _ 3 [.int .u8 3] from rfl) (Reps.none _ _)))); intro v222 w38 ho39 hb hg_ hnew_; clear hg_ hnew_; (first | rw [← Ny221.out] at ho39 | (simp only [Int.reduceToNat] at ho39; rw [← Ny221.out] at ho39)); have n0_ := aK (Kd.R_elder' (mvR HO220.out) (Kd.R_base ho39) hb); have n1_ := aK (Kd.R_lower (Kd.R_new' ho39 (Kd.R_lt (mvR HO220.out))) (below_size (mvh HB.out))); have n2_ := aK (below_step (mvh HB.out) hb); clear HO220 HB; have HO220 := n0_; have HO223 := n1_; have HB := n2_; clear n0_ n1_ n2_; clear hb ho39; obtain ⟨Ao40, co40, eo40⟩ := Kd.R_slice HO220.out; subst eo40; obtain ⟨Ao41, co41, eo41⟩ := Kd.R_slice HO223.out; subst eo41) | (go_at_call 18; (with_reducible refine (gT_Times.calls kj2 _ t211 (fun k_ => some k_ = (.slice Ao40 y218.length co40 : Value).ownBlock) _ _ y218 (fun k_ => some k_ = (.slice Ao41 y221.length co41 : Value).ownBlock) _ _ y221 t224 t227 _ ?side1 ?side2 ?side3 A11.out).mono ?_); (case side1 => exact (gal_OK_below HT213.out HB.out)); (case side2 => exact Kd.R_V (Kd.R_tight rfl (HO220.out))); (case side3 => exact Kd.R_V (Kd.R_tight rfl (HO223.out))); rintro e w42 ⟨v225, rfl, ho0, hb⟩; have n0_ := aK (Kd.R_elder' (mvR HO220.out) (Kd.R_base ho0) hb); have n1_ := aK (Kd.R_elder' (mvR HO223.out) (Kd.R_base ho0) hb); have n2_ := aK (Kd.R_lower (Kd.R_new' (Kd.R_new' (Kd.R_mono (ok' := fun k_ => True) ho0 (fun _ hk_ => trivial)) (Kd.R_lt (mvR HO220.out))) (Kd.R_lt (mvR HO223.out))) (below_size (mvh HB.out))); have n3_ := aK (below_step (mvh HB.out) hb); clear HO220 HO223 HB; have HO220 := n0_; have HO223 := n1_; have HO226 := n2_; have HB := n3_; clear n0_ n1_ n2_ n3_; (try clear hb); (try clear ho0)) | (go_at_call 63; (with_reducible refine (gT_Log.calls kj2 _ t211 3 t228 t229 _ ?side1 A12.out).mono ?_); (case side1 => exact (gal_OK_below HT213.out HB.out)); rintro e w43 ⟨rfl, hb⟩; have n0_ := aK (Kd.R_below (mvR HO220.out) hb); have n1_ := aK (Kd.R_below (mvR HO223.out) hb); have n2_ := aK (Kd.R_below (mvR HO226.out) hb); have n3_ := aK (below_step (mvh HB.out) hb); clear HO220 HO223 HO226 HB; have HO220 := n0_; have HO223 := n1_; have HO226 := n2_; have HB := n3_; clear n0_ n1_ n2_ n3_; (try clear hb)) | (go_at_call 13; (with_reducible refine (l3_num.calls t217 t230 _ A13.out).mono ?_); rintro e w' ⟨rfl, ⟨nd, rfl⟩⟩) | (go_at_call 13; (with_reducible refine (l3_num.calls t227 t231 _ A16.out).mono ?_); rintro e w' ⟨rfl, ⟨nd, rfl⟩⟩) | ((with_reducible refine gate_dst (N := 52) rfl ?_); (try (refine gate_guard (by rfl) ?_; dsimp only)); refine Kd.R_lit (Kd.int .u8) _ 5 ?hg (N := 52) ?hd (xs := ([1, 1, 6] : List Int)) (inner := [.int .u8 1, .int .u8 1, .int .u8 6]) (ok := fun _ => True) (okp := fun _ => True) ?hr ?hp (fun _ hk => hk) trivial (Below.refl _ _) (Nat.le_refl _) (by simp) ?_; (case hd => rfl); (case hg => rfl); (case hr => first | (go_simp; done) | (go_simp; rfl)); (case hp => exact (Reps.one (show Kd.M (Kd.int .u8) _ _ _ 1 [.int .u8 1] from rfl) (Reps.one (show Kd.M (Kd.int .u8) _ _ _ 1 [.int .u8 1] from rfl) (Reps.one (show Kd.M (Kd.int .u8) _ _ _ 6 [.int .u8 6] from rfl) (Reps.none _ _))))); intro v233 w44 ho45 hb hg_ hnew_; clear hg_ hnew_; (first | rw [← Ny232.out] at ho45 | (simp only [Int.reduceToNat] at ho45; rw [← Ny232.out] at ho45)); have n0_ := aK (Kd.R_elder' (mvR HO220.out) (Kd.R_base ho45) hb); have n1_ := aK (Kd.R_elder' (mvR HO223.out) (Kd.R_base ho45) hb); have n2_ := aK (Kd.R_elder' (mvR HO226.out) (Kd.R_base ho45) hb); have n3_ := aK (Kd.R_lower (Kd.R_new' (Kd.R_new' (Kd.R_new' ho45 (Kd.R_lt (mvR HO220.out))) (Kd.R_lt (mvR HO223.out))) (Kd.R_lt (mvR HO226.out))) (below_size (mvh HB.out))); have n4_ := aK (below_step (mvh HB.out) hb); clear HO220 HO223 HO226 HB; have HO220 := n0_; have HO223 := n1_; have HO226 := n2_; have HO234 := n3_; have HB := n4_; clear n0_ n1_ n2_ n3_ n4_; clear hb ho45; obtain ⟨Ao46, co46, eo46⟩ := Kd.R_slice HO226.out; subst eo46; obtain ⟨Ao47, co47, eo47⟩ := Kd.R_slice HO234.out; subst eo47) | (go_at_call 12; (with_reducible refine (l3_same.calls _ _ t224 _ _ y232 true _ ?side1 ?side2 ?side3 ?side4 A18.out).mono ?_); (case side1 => exact mvC (Kd.R_reads' HO226.out).2.2); (case side2 => exact (Kd.R_reads' HO226.out).2.1); (case side3 => exact mvC (Kd.R_reads' HO234.out).2.2); (case side4 => exact (Kd.R_reads' HO234.out).2.1); rintro e w' ⟨rfl, ⟨nd, rfl⟩⟩) | (go_at_call 13; (with_reducible refine (l3_num.calls t229 t236 _ A20.out).mono ?_); rintro e w' ⟨rfl, ⟨nd, rfl⟩⟩))
     go_ret
     exact ⟨by first | rfl | (simp [errW_none, errW_some] <;> rfl) | (simp [*, errW_none, errW_some] <;> rfl), below_step HB00.out (mvh HB.out)⟩
    rw [if_pos c21] at H
    have c21b0 : (t236 == 0) = true := beq_iff_eq.mpr c21
    have c21b1 : (t236 != 0) = false := bne_eq_false_iff_eq.mpr c21
    clear c21
    obtain rfl := Option.some.inj H
    go_wp2_with (first | (go_at_call 62; (with_reducible refine (gT_Mul.calls kj2 _ t211 2 4 t216 t217 _ ?side1 A10.out).mono ?_); (case side1 => exact (gal_OK_below HT213.out HB.out)); rintro e w22 ⟨rfl, hb⟩; have n0_ := aK (below_step (mvh HB.out) hb); clear HB; have HB := n0_; clear n0_; (try clear hb)) | ((with_reducible refine gate_dst (N := 28) rfl ?_); (try (refine gate_guard (by rfl) ?_; dsimp only)); refine Kd.R_lit (Kd.int .u8) _ 5 ?hg (N := 28) ?hd (xs := ([1, 2] : List Int)) (inner := [.int .u8 1, .int .u8 2]) (ok := fun _ => True) (okp := fun _ => True) ?hr ?hp (fun _ hk => hk) trivial (Below.refl _ _) (Nat.le_refl _) (by simp) ?_; (case hd => rfl); (case hg => rfl); (case hr => first | (go_simp; done) | (go_simp; rfl)); (case hp => exact (Reps.one (show Kd.M (Kd.int .u8) _ _ _ 1 [.int .u8 1] from rfl) (Reps.one (show Kd.M (Kd.int .u8) _ _ _ 2 [.int .u8 2] from rfl) (Reps.none _ _)))); intro v219 w23 ho24 hb hg_ hnew_; clear hg_ hnew_; (first | rw [← Ny218.out] at ho24 | (simp only [Int.reduceToNat] at ho24; rw [← Ny218.out] at ho24)); have n0_ := aK (Kd.R_lower ho24 (below_size (mvh HB.out))); have n1_ := aK (below_step (mvh HB.out) hb); clear HB; have HO220 := n0_; have HB := n1_; clear n0_ n1_; clear hb ho24) | ((with_reducible refine gate_dst (N := 29) rfl ?_); (try (refine gate_guard (by rfl) ?_; dsimp only)); refine Kd.R_lit (Kd.int .u8) _ 5 ?hg (N := 29) ?hd (xs := ([1, 3] : List Int)) (inner := [.int .u8 1, .int .u8 3]) (ok := fun _ => True) (okp := fun _ => True) ?hr ?hp (fun _ hk => hk) trivial (Below.refl _ _) (Nat.le_refl _) (by simp) ?_; (case hd => rfl); (case hg => rfl); (case hr => first | (go_simp; done) | (go_simp; rfl)); (case hp => exact (Reps.one (show Kd.M (Kd.int .u8) _ _ _ 1 [.int .u8 1] from rfl) (Reps.one (show Kd.M (Kd.int .u8) _ _ _ 3 [.int .u8 3] from rfl) (Reps.none _ _)))); intro v222 w25 ho26 hb hg_ hnew_; clear hg_ hnew_; (first | rw [← Ny221.out] at ho26 | (simp only [Int.reduceToNat] at ho26; rw [← Ny221.out] at ho26)); have n0_ := aK (Kd.R_elder' (mvR HO220.out) (Kd.R_base ho26) hb); have n1_ := aK (Kd.R_lower (Kd.R_new' ho26 (Kd.R_lt (mvR HO220.out))) (below_size (mvh HB.out))); have n2_ := aK (below_step (mvh HB.out) hb); clear HO220 HB; have HO220 := n0_; have HO223 := n1_; have HB := n2_; clear n0_ n1_ n2_; clear hb ho26; obtain ⟨Ao27, co27, eo27⟩ := Kd.R_slice HO220.out; subst eo27; obtain ⟨Ao28, co28, eo28⟩ := Kd.R_slice HO223.out; subst eo28) | (go_at_call 18; (with_reducible refine (gT_Times.calls kj2 _ t211 (fun k_ => some k_ = (.slice Ao27 y218.length co27 : Value).ownBlock) _ _ y218 (fun k_ => some k_ = (.slice Ao28 y221.length co28 : Value).ownBlock) _ _ y221 t224 t227 _ ?side1 ?side2 ?side3 A11.out).mono ?_); (case side1 => exact (gal_OK_below HT213.out HB.out)); (case side2 => exact Kd.R_V (Kd.R_tight rfl (HO220.out))); (case side3 => exact Kd.R_V (Kd.R_tight rfl (HO223.out))); rintro e w29 ⟨v225, rfl, ho0, hb⟩; have n0_ := aK (Kd.R_elder' (mvR HO220.out) (Kd.R_base ho0) hb); have n1_ := aK (Kd.R_elder' (mvR HO223.out) (Kd.R_base ho0) hb); have n2_ := aK (Kd.R_lower (Kd.R_new' (Kd.R_new' (Kd.R_mono (ok' := fun k_ => True) ho0 (fun _ hk_ => trivial)) (Kd.R_lt (mvR HO220.out))) (Kd.R_lt (mvR HO223.out))) (below_size (mvh HB.out))); have n3_ := aK (below_step (mvh HB.out) hb); clear HO220 HO223 HB; have HO220 := n0_; have HO223 := n1_; have HO226 := n2_; have HB := n3_; clear n0_ n1_ n2_ n3_; (try clear hb); (try clear ho0)) | (go_at_call 63; (with_reducible refine (gT_Log.calls kj2 _ t211 3 t228 t229 _ ?side1 A12.out).mono ?_); (case side1 => exact (gal_OK_below HT213.out HB.out)); rintro e w30 ⟨rfl, hb⟩; have n0_ := aK (Kd.R_below (mvR HO220.out) hb); have n1_ := aK (Kd.R_below (mvR HO223.out) hb); have n2_ := aK (Kd.R_below (mvR HO226.out) hb); have n3_ := aK (below_step (mvh HB.out) hb); clear HO220 HO223 HO226 HB; have HO220 := n0_; have HO223 := n1_; have HO226 := n2_; have HB := n3_; clear n0_ n1_ n2_ n3_; (try clear hb)) | (go_at_call 13; (with_reducible refine (l3_num.calls t217 t230 _ A13.out).mono ?_); rintro e w' ⟨rfl, ⟨nd, rfl⟩⟩) | (go_at_call 13; (with_reducible refine (l3_num.calls t227 t231 _ A16.out).mono ?_); rintro e w' ⟨rfl, ⟨nd, rfl⟩⟩) | ((with_reducible refine gate_dst (N := 52) rfl ?_); (try (refine gate_guard (by rfl) ?_; dsimp only)); refine Kd.R_lit (Kd.int .u8) _ 5 ?hg (N := 52) ?hd (xs := ([1, 1, 6] : List Int)) (inner := [.int .u8 1, .int .u8 1, .int .u8 6]) (ok := fun _ => True) (okp := fun _ => True) ?hr ?hp (fun _ hk => hk) trivial (Below.refl _ _) (Nat.le_refl _) (by simp) ?_; (case hd => rfl); (case hg => rfl); (case hr => first | (go_simp; done) | (go_simp; rfl)); (case hp => exact (Reps.one (show Kd.M (Kd.int .u8) _ _ _ 1 [.int .u8 1] from rfl) (Reps.one (show Kd.M (Kd.int .u8) _ _ _ 1 [.int .u8 1] from rfl) (Reps.one (show Kd.M (Kd.int .u8) _ _ _ 6 [.int .u8 6] from rfl) (Reps.none _ _))))); intro v233 w31 ho32 hb hg_ hnew_; clear hg_ hnew_; (first | rw [← Ny232.out] at ho32 | (simp only [Int.reduceToNat] at ho32; rw [← Ny232.out] at ho32)); have n0_ := aK (Kd.R_elder' (mvR HO220.out) (Kd.R_base ho32) hb); have n1_ := aK (Kd.R_elder' (mvR HO223.out) (Kd.R_base ho32) hb); have n2_ := aK (Kd.R_elder' (mvR HO226.out) (Kd.R_base ho32) hb); have n3_ := aK (Kd.R_lower (Kd.R_new' (Kd.R_new' (Kd.R_new' ho32 (Kd.R_lt (mvR HO220.out))) (Kd.R_lt (mvR HO223.out))) (Kd.R_lt (mvR HO226.out))) (below_size (mvh HB.out))); have n4_ := aK (below_step (mvh HB.out) hb); clear HO220 HO223 HO226 HB; have HO220 := n0_; have HO223 := n1_; have HO226 := n2_; have HO234 := n3_; have HB := n4_; clear n0_ n1_ n2_ n3_ n4_; clear hb ho32; obtain ⟨Ao33, co33, eo33⟩ := Kd.R_slice HO226.out; subst eo33; obtain ⟨Ao34, co34, eo34⟩ := Kd.R_slice HO234.out; subst eo34) | (go_at_call 12; (with_reducible refine (l3_same.calls _ _ t224 _ _ y232 true _ ?side1 ?side2 ?side3 ?side4 A18.out).mono ?_); (case side1 => exact mvC (Kd.R_reads' HO226.out).2.2); (case side2 => exact (Kd.R_reads' HO226.out).2.1); (case side3 => exact mvC (Kd.R_reads' HO234.out).2.2); (case side4 => exact (Kd.R_reads' HO234.out).2.1); rintro e w' ⟨rfl, ⟨nd, rfl⟩⟩) | (go_at_call 13; (with_reducible refine (l3_num.calls t229 t236 _ A20.out).mono ?_); rintro e w' ⟨rfl, ⟨nd, rfl⟩⟩))
    go_ret
    exact ⟨by first | rfl | (simp [errW_none, errW_some] <;> rfl) | (simp [*, errW_none, errW_some] <;> rfl), below_step HB00.out (mvh HB.out)⟩
def l3_made.f (k : Nat) (a0_0 : Int) (a0_1 : Int) : Option (GTab × Bool × Bool) := (galois_New.f k a0_0 a0_1).bind fun bt238 => ((r3_Check.f k a0_0 a0_1).bind fun t242 => ((l3_num.f bt238.2).bind fun t243 => (if t243 = t242 then ((galois_Check.f k a0_0 a0_1).bind fun t244 => ((l3_num.f t244).bind fun t245 => (if t245 = t242 then (if bt238.1.nil = true then (if (false == (t242 == 0)) = true then ((l3_live.f k).bind fun t246 => (some (bt238.1, (t242 == 0), t246))) else (some (bt238.1, (t242 == 0), false))) else (if (true == (t242 == 0)) = true then ((l3_live.f k).bind fun t247 => (some (bt238.1, (t242 == 0), t247))) else (some (bt238.1, (t242 == 0), false)))) else (some (bt238.1, (t242 == 0), false))))) else (some (bt238.1, (t242 == 0), false)))))
theorem l3_made.mono : ∀ a0 a1 k, LeO (l3_made.f k a0 a1) (l3_made.f (k + 1) a0 a1) := by
 intro a0 a1 k
 unfold l3_made.f
 repeat' first
   | (with_reducible exact galois_Check.mono _ _ _)
   | (with_reducible exact galois_New.mono _ _ _)
   | (with_reducible exact l3_live.mono _)
   | (with_reducible exact r3_Check.mono _ _ _)
   | (with_reducible exact LeO.refl _)
   | (with_reducible exact LeO.none _)
   | (with_reducible refine LeO.ite ?_ ?_)
   | (with_reducible refine LeO.bind ?_ (fun _ => ?_))
set_option maxHeartbeats 8000000 in
set_option maxRecDepth 100000 in
theorem l3_made.calls (k : Nat) (a0_0 : Int) (a0_1 : Int) (r1 : GTab) (r2 : Bool) (r3 : Bool) (w : World) (h : l3_made.f k a0_0 a0_1 = some (r1, r2, r3)) :
  Calls Try.prog 8 #[.agg #[.int .i64 a0_0, .int .u64 a0_1]] w fun e w' => ∃ A0_ : Option Addr, e = .returned (.tuple #[.pointer A0_, .bool r2, .bool r3]) ∧ gal_OK w' A0_ r1 ∧ Below w.heap.size w w' := by
 have hu24 := Try.underlying24
 have HB := aK (Below.refl w.heap.size w)
 have H : ((galois_New.f k a0_0 a0_1).bind fun bt238 => ((r3_Check.f k a0_0 a0_1).bind fun t242 => ((l3_num.f bt238.2).bind fun t243 => (if t243 = t242 then ((galois_Check.f k a0_0 a0_1).bind fun t244 => ((l3_num.f t244).bind fun t245 => (if t245 = t242 then (if bt238.1.nil = true then (if (false == (t242 == 0)) = true then ((l3_live.f k).bind fun t246 => (some (bt238.1, (t242 == 0), t246))) else (some (bt238.1, (t242 == 0), false))) else (if (true == (t242 == 0)) = true then ((l3_live.f k).bind fun t247 => (some (bt238.1, (t242 == 0), t247))) else (some (bt238.1, (t242 == 0), false)))) else (some (bt238.1, (t242 == 0), false))))) else (some (bt238.1, (t242 == 0), false)))))) = some (r1, r2, r3) := h
 clear h
 replace H := Option.bind_eq_some_iff.mp H
 obtain ⟨⟨t238, t241⟩, A20, H⟩ := H
 try dsimp only at H
 have A2 := Aside0.mk A20
 clear A20
 replace H := Option.bind_eq_some_iff.mp H
 obtain ⟨t242, A30, H⟩ := H
 try dsimp only at H
 have A3 := Aside0.mk A30
 clear A30
 replace H := Option.bind_eq_some_iff.mp H
 obtain ⟨t243, A40, H⟩ := H
 try dsimp only at H
 have A4 := Aside0.mk A40
 clear A40
 by_cases c5 : t243 = t242
 rotate_left
 ·rw [if_neg c5] at H
  have c5b0 : (t243 == t242) = false := beq_eq_false_iff_ne.mpr c5
  have c5b1 : (t243 != t242) = true := bne_iff_ne.mpr c5
  simp only [Option.some.injEq, Prod.mk.injEq] at H
  obtain ⟨rfl, rfl, rfl⟩ := H
  go_enter Try.func8, Try.ntmps8
  go_wp2_with (first | ((with_reducible refine gate_dst (N := 1) rfl ?_); refine box_event ?hg (N := 1) ?hd (cs := #[.int .i64 a0_0, .int .u64 a0_1]) (t := 24) ?hr ?_; (case hd => rfl); (case hg => rfl); (case hr => first | (go_simp; done) | (go_simp; rfl)); intro gb237 hg w51 hbox hb; have n0_ := aK (below_step (mvh HB.out) hb); have n1_ := aK (hbox); have n2_ := aK ((by rw [hg]; exact (below_size (mvh HB.out)) : w.heap.size ≤ gb237)); have n3_ := aK ((by rw [hg]; exact (below_size (mvh HB.out)) : w.heap.size ≤ gb237)); clear HB; have HB := n0_; have BK237 := n1_; have GW237 := n2_; have GE237 := n3_; clear n0_ n1_ n2_ n3_; clear hb hbox hg; obtain ⟨hcz52_0, hcz52_1, hfz52_0, hfz52_1⟩ := cf2 BK237.out) | (go_at_call 35; (with_reducible refine (galois_New.calls k a0_0 a0_1 t238 t241 _ A2.out).mono ?_); rintro e w ⟨Ap239, rfl, hT_, hb⟩; have n0_ := aK (kb BK237.out hb); have n1_ := aK (Below.refl w.heap.size w); have n2_ := aK (below_step (mvh HB.out) hb); clear BK237 HB; have BK237 := n0_; have HB := n1_; have HB00 := n2_; clear n0_ n1_ n2_; have HT240 := Aside0.mk hT_; clear hb hT_; obtain ⟨hcz54_0, hcz54_1, hfz54_0, hfz54_1⟩ := cf2 BK237.out) | (go_at_call 36; (with_reducible refine (r3_Check.calls k a0_0 a0_1 t242 _ A3.out).mono ?_); rintro e w55 ⟨rfl, hb⟩; have n0_ := aK (kb BK237.out hb); have n1_ := aK (below_step (mvh HB.out) hb); clear BK237 HB; have BK237 := n0_; have HB := n1_; clear n0_ n1_; (try clear hb)) | (go_at_call 13; (with_reducible refine (l3_num.calls t241 t243 _ A4.out).mono ?_); rintro e w' ⟨rfl, ⟨nd, rfl⟩⟩))
  go_ret3
  exact ⟨_, by first | rfl | (simp [errW_none, errW_some] <;> rfl) | (simp [*, errW_none, errW_some] <;> rfl), (gal_OK_below HT240.out (mvh HB.out)), below_step HB00.out (mvh HB.out)⟩

 rw [if_pos c5] at H
 have c5b0 : (t243 == t242) = true := beq_iff_eq.mpr c5
 have c5b1 : (t243 != t242) = false := bne_eq_false_iff_eq.mpr c5
 clear c5
 replace H := Option.bind_eq_some_iff.mp H
 obtain ⟨t244, A60, H⟩ := H
 try dsimp only at H
 have A6 := Aside0.mk A60
 clear A60
 replace H := Option.bind_eq_some_iff.mp H
 obtain ⟨t245, A70, H⟩ := H
 try dsimp only at H
 have A7 := Aside0.mk A70
 clear A70
 by_cases c8 : t245 = t242
 rotate_left
 ·rw [if_neg c8] at H
  have c8b0 : (t245 == t242) = false := beq_eq_false_iff_ne.mpr c8
  have c8b1 : (t245 != t242) = true := bne_iff_ne.mpr c8
  simp only [Option.some.injEq, Prod.mk.injEq] at H
  obtain ⟨rfl, rfl, rfl⟩ := H
  go_enter Try.func8, Try.ntmps8
  go_wp2_with (first | ((with_reducible refine gate_dst (N := 1) rfl ?_); refine box_event ?hg (N := 1) ?hd (cs := #[.int .i64 a0_0, .int .u64 a0_1]) (t := 24) ?hr ?_; (case hd => rfl); (case hg => rfl); (case hr => first | (go_simp; done) | (go_simp; rfl)); intro gb237 hg w44 hbox hb; have n0_ := aK (below_step (mvh HB.out) hb); have n1_ := aK (hbox); have n2_ := aK ((by rw [hg]; exact (below_size (mvh HB.out)) : w.heap.size ≤ gb237)); have n3_ := aK ((by rw [hg]; exact (below_size (mvh HB.out)) : w.heap.size ≤ gb237)); clear HB; have HB := n0_; have BK237 := n1_; have GW237 := n2_; have GE237 := n3_; clear n0_ n1_ n2_ n3_; clear hb hbox hg; obtain ⟨hcz45_0, hcz45_1, hfz45_0, hfz45_1⟩ := cf2 BK237.out) | (go_at_call 35; (with_reducible refine (galois_New.calls k a0_0 a0_1 t238 t241 _ A2.out).mono ?_); rintro e w ⟨Ap239, rfl, hT_, hb⟩; have n0_ := aK (kb BK237.out hb); have n1_ := aK (Below.refl w.heap.size w); have n2_ := aK (below_step (mvh HB.out) hb); clear BK237 HB; have BK237 := n0_; have HB := n1_; have HB00 := n2_; clear n0_ n1_ n2_; have HT240 := Aside0.mk hT_; clear hb hT_; obtain ⟨hcz47_0, hcz47_1, hfz47_0, hfz47_1⟩ := cf2 BK237.out) | (go_at_call 36; (with_reducible refine (r3_Check.calls k a0_0 a0_1 t242 _ A3.out).mono ?_); rintro e w48 ⟨rfl, hb⟩; have n0_ := aK (kb BK237.out hb); have n1_ := aK (below_step (mvh HB.out) hb); clear BK237 HB; have BK237 := n0_; have HB := n1_; clear n0_ n1_; (try clear hb)) | (go_at_call 13; (with_reducible refine (l3_num.calls t241 t243 _ A4.out).mono ?_); rintro e w' ⟨rfl, ⟨nd, rfl⟩⟩; obtain ⟨hcz49_0, hcz49_1, hfz49_0, hfz49_1⟩ := cf2 BK237.out) | (go_at_call 37; (with_reducible refine (galois_Check.calls k a0_0 a0_1 t244 _ A6.out).mono ?_); rintro e w50 ⟨rfl, hb⟩; have n0_ := aK (kb BK237.out hb); have n1_ := aK (below_step (mvh HB.out) hb); clear BK237 HB; have BK237 := n0_; have HB := n1_; clear n0_ n1_; (try clear hb)) | (go_at_call 13; (with_reducible refine (l3_num.calls t244 t245 _ A7.out).mono ?_); rintro e w' ⟨rfl, ⟨nd, rfl⟩⟩))
  go_ret3
  exact ⟨_, by first | rfl | (simp [errW_none, errW_some] <;> rfl) | (simp [*, errW_none, errW_some] <;> rfl), (gal_OK_below HT240.out (mvh HB.out)), below_step HB00.out (mvh HB.out)⟩
 rw [if_pos c8] at H
 have c8b0 : (t245 == t242) = true := beq_iff_eq.mpr c8
 have c8b1 : (t245 != t242) = false := bne_eq_false_iff_eq.mpr c8
 clear c8
 by_cases c9 : t238.nil = true
 ·rw [if_pos c9] at H
  have LMc9 := Aside0.mk c9
  clear c9
  by_cases c10 : (false == (t242 == 0)) = true
  rotate_left
  ·rw [if_neg c10] at H
   have c10b0 : (false == (t242 == 0)) = false := by simpa using c10
   (try (have c10b1 : decide (false = (t242 == 0)) = false := by simpa using c10))
   (try (have c10b2 : (false == (t242 == 0)) = false := by simpa using c10))
   (try (have c10b3 : ¬ (false = (t242 == 0)) := by simpa using c10))
   clear c10
   simp only [Option.some.injEq, Prod.mk.injEq] at H
   obtain ⟨rfl, rfl, rfl⟩ := H
   go_enter Try.func8, Try.ntmps8
   go_wp2_with (first | ((with_reducible refine gate_dst (N := 1) rfl ?_); refine box_event ?hg (N := 1) ?hd (cs := #[.int .i64 a0_0, .int .u64 a0_1]) (t := 24) ?hr ?_; (case hd => rfl); (case hg => rfl); (case hr => first | (go_simp; done) | (go_simp; rfl)); intro gb237 hg w20 hbox hb; have n0_ := aK (below_step (mvh HB.out) hb); have n1_ := aK (hbox); have n2_ := aK ((by rw [hg]; exact (below_size (mvh HB.out)) : w.heap.size ≤ gb237)); have n3_ := aK ((by rw [hg]; exact (below_size (mvh HB.out)) : w.heap.size ≤ gb237)); clear HB; have HB := n0_; have BK237 := n1_; have GW237 := n2_; have GE237 := n3_; clear n0_ n1_ n2_ n3_; clear hb hbox hg; obtain ⟨hcz21_0, hcz21_1, hfz21_0, hfz21_1⟩ := cf2 BK237.out) | (go_at_call 35; (with_reducible refine (galois_New.calls k a0_0 a0_1 t238 t241 _ A2.out).mono ?_); rintro e w ⟨Ap239, rfl, hT_, hb⟩; obtain rfl := gal_nil hT_ LMc9.out; have n0_ := aK (kb BK237.out hb); have n1_ := aK (Below.refl w.heap.size w); have n2_ := aK (below_step (mvh HB.out) hb); clear BK237 HB; have BK237 := n0_; have HB := n1_; have HB00 := n2_; clear n0_ n1_ n2_; have HT240 := Aside0.mk hT_; clear hb hT_; obtain ⟨hcz23_0, hcz23_1, hfz23_0, hfz23_1⟩ := cf2 BK237.out) | (go_at_call 36; (with_reducible refine (r3_Check.calls k a0_0 a0_1 t242 _ A3.out).mono ?_); rintro e w24 ⟨rfl, hb⟩; have n0_ := aK (kb BK237.out hb); have n1_ := aK (below_step (mvh HB.out) hb); clear BK237 HB; have BK237 := n0_; have HB := n1_; clear n0_ n1_; (try clear hb)) | (go_at_call 13; (with_reducible refine (l3_num.calls t241 t243 _ A4.out).mono ?_); rintro e w' ⟨rfl, ⟨nd, rfl⟩⟩; obtain ⟨hcz25_0, hcz25_1, hfz25_0, hfz25_1⟩ := cf2 BK237.out) | (go_at_call 37; (with_reducible refine (galois_Check.calls k a0_0 a0_1 t244 _ A6.out).mono ?_); rintro e w26 ⟨rfl, hb⟩; have n0_ := aK (kb BK237.out hb); have n1_ := aK (below_step (mvh HB.out) hb); clear BK237 HB; have BK237 := n0_; have HB := n1_; clear n0_ n1_; (try clear hb)) | (go_at_call 13; (with_reducible refine (l3_num.calls t244 t245 _ A7.out).mono ?_); rintro e w' ⟨rfl, ⟨nd, rfl⟩⟩))
   go_ret3
   exact ⟨_, by first | rfl | (simp [errW_none, errW_some] <;> rfl) | (simp [*, errW_none, errW_some] <;> rfl), (gal_OK_below HT240.out (mvh HB.out)), below_step HB00.out (mvh HB.out)⟩
  rw [if_pos c10] at H
  have c10b0 : (false == (t242 == 0)) = true := c10
  (try (have c10b1 : decide (false = (t242 == 0)) = true := by simpa using c10))
  (try (have c10b2 : (false == (t242 == 0)) = true := by simpa using c10))
  clear c10
  replace H := Option.bind_eq_some_iff.mp H
  obtain ⟨t246, A110, H⟩ := H
  try dsimp only at H
  have A11 := Aside0.mk A110
  clear A110
  simp only [Option.some.injEq, Prod.mk.injEq] at H
  obtain ⟨rfl, rfl, rfl⟩ := H
  go_enter Try.func8, Try.ntmps8
  go_wp2_with (first | ((with_reducible refine gate_dst (N := 1) rfl ?_); refine box_event ?hg (N := 1) ?hd (cs := #[.int .i64 a0_0, .int .u64 a0_1]) (t := 24) ?hr ?_; (case hd => rfl); (case hg => rfl); (case hr => first | (go_simp; done) | (go_simp; rfl)); intro gb237 hg w12 hbox hb; have n0_ := aK (below_step (mvh HB.out) hb); have n1_ := aK (hbox); have n2_ := aK ((by rw [hg]; exact (below_size (mvh HB.out)) : w.heap.size ≤ gb237)); have n3_ := aK ((by rw [hg]; exact (below_size (mvh HB.out)) : w.heap.size ≤ gb237)); clear HB; have HB := n0_; have BK237 := n1_; have GW237 := n2_; have GE237 := n3_; clear n0_ n1_ n2_ n3_; clear hb hbox hg; obtain ⟨hcz13_0, hcz13_1, hfz13_0, hfz13_1⟩ := cf2 BK237.out) | (go_at_call 35; (with_reducible refine (galois_New.calls k a0_0 a0_1 t238 t241 _ A2.out).mono ?_); rintro e w ⟨Ap239, rfl, hT_, hb⟩; obtain rfl := gal_nil hT_ LMc9.out; have n0_ := aK (kb BK237.out hb); have n1_ := aK (Below.refl w.heap.size w); have n2_ := aK (below_step (mvh HB.out) hb); clear BK237 HB; have BK237 := n0_; have HB := n1_; have HB00 := n2_; clear n0_ n1_ n2_; have HT240 := Aside0.mk hT_; clear hb hT_; obtain ⟨hcz15_0, hcz15_1, hfz15_0, hfz15_1⟩ := cf2 BK237.out) | (go_at_call 36; (with_reducible refine (r3_Check.calls k a0_0 a0_1 t242 _ A3.out).mono ?_); rintro e w16 ⟨rfl, hb⟩; have n0_ := aK (kb BK237.out hb); have n1_ := aK (below_step (mvh HB.out) hb); clear BK237 HB; have BK237 := n0_; have HB := n1_; clear n0_ n1_; (try clear hb)) | (go_at_call 13; (with_reducible refine (l3_num.calls t241 t243 _ A4.out).mono ?_); rintro e w' ⟨rfl, ⟨nd, rfl⟩⟩; obtain ⟨hcz17_0, hcz17_1, hfz17_0, hfz17_1⟩ := cf2 BK237.out) | (go_at_call 37; (with_reducible refine (galois_Check.calls k a0_0 a0_1 t244 _ A6.out).mono ?_); rintro e w18 ⟨rfl, hb⟩; have n0_ := aK (kb BK237.out hb); have n1_ := aK (below_step (mvh HB.out) hb); clear BK237 HB; have BK237 := n0_; have HB := n1_; clear n0_ n1_; (try clear hb)) | (go_at_call 13; (with_reducible refine (l3_num.calls t244 t245 _ A7.out).mono ?_); rintro e w' ⟨rfl, ⟨nd, rfl⟩⟩) | (go_at_call 38; (with_reducible refine (l3_live.calls k  t246 _ A11.out).mono ?_); rintro e w19 ⟨rfl, hb⟩; have n0_ := aK (kb BK237.out hb); have n1_ := aK (below_step (mvh HB.out) hb); clear BK237 HB; have BK237 := n0_; have HB := n1_; clear n0_ n1_; (try clear hb)))
  go_ret3
  exact ⟨_, by first | rfl | (simp [errW_none, errW_some] <;> rfl) | (simp [*, errW_none, errW_some] <;> rfl), (gal_OK_below HT240.out (mvh HB.out)), below_step HB00.out (mvh HB.out)⟩
 ·rw [if_neg c9] at H
  have LMc9 := Aside0.mk c9
  clear c9
  by_cases c27 : (true == (t242 == 0)) = true
  rotate_left
  ·rw [if_neg c27] at H
   have c27b0 : (true == (t242 == 0)) = false := by simpa using c27
   (try (have c27b1 : decide (true = (t242 == 0)) = false := by simpa using c27))
   (try (have c27b2 : (true == (t242 == 0)) = false := by simpa using c27))
   (try (have c27b3 : ¬ (true = (t242 == 0)) := by simpa using c27))
   clear c27
   simp only [Option.some.injEq, Prod.mk.injEq] at H
   obtain ⟨rfl, rfl, rfl⟩ := H
   go_enter Try.func8, Try.ntmps8
   go_wp2_with (first | ((with_reducible refine gate_dst (N := 1) rfl ?_); refine box_event ?hg (N := 1) ?hd (cs := #[.int .i64 a0_0, .int .u64 a0_1]) (t := 24) ?hr ?_; (case hd => rfl); (case hg => rfl); (case hr => first | (go_simp; done) | (go_simp; rfl)); intro gb237 hg w37 hbox hb; have n0_ := aK (below_step (mvh HB.out) hb); have n1_ := aK (hbox); have n2_ := aK ((by rw [hg]; exact (below_size (mvh HB.out)) : w.heap.size ≤ gb237)); have n3_ := aK ((by rw [hg]; exact (below_size (mvh HB.out)) : w.heap.size ≤ gb237)); clear HB; have HB := n0_; have BK237 := n1_; have GW237 := n2_; have GE237 := n3_; clear n0_ n1_ n2_ n3_; clear hb hbox hg; obtain ⟨hcz38_0, hcz38_1, hfz38_0, hfz38_1⟩ := cf2 BK237.out) | (go_at_call 35; (with_reducible refine (galois_New.calls k a0_0 a0_1 t238 t241 _ A2.out).mono ?_); rintro e w ⟨Ap239, rfl, hT_, hb⟩; obtain ⟨Ap239_, rfl⟩ := gal_some hT_ LMc9.out; have n0_ := aK (kb BK237.out hb); have n1_ := aK (Below.refl w.heap.size w); have n2_ := aK (below_step (mvh HB.out) hb); clear BK237 HB; have BK237 := n0_; have HB := n1_; have HB00 := n2_; clear n0_ n1_ n2_; have HT240 := Aside0.mk hT_; clear hb hT_; obtain ⟨hcz40_0, hcz40_1, hfz40_0, hfz40_1⟩ := cf2 BK237.out) | (go_at_call 36; (with_reducible refine (r3_Check.calls k a0_0 a0_1 t242 _ A3.out).mono ?_); rintro e w41 ⟨rfl, hb⟩; have n0_ := aK (kb BK237.out hb); have n1_ := aK (below_step (mvh HB.out) hb); clear BK237 HB; have BK237 := n0_; have HB := n1_; clear n0_ n1_; (try clear hb)) | (go_at_call 13; (with_reducible refine (l3_num.calls t241 t243 _ A4.out).mono ?_); rintro e w' ⟨rfl, ⟨nd, rfl⟩⟩; obtain ⟨hcz42_0, hcz42_1, hfz42_0, hfz42_1⟩ := cf2 BK237.out) | (go_at_call 37; (with_reducible refine (galois_Check.calls k a0_0 a0_1 t244 _ A6.out).mono ?_); rintro e w43 ⟨rfl, hb⟩; have n0_ := aK (kb BK237.out hb); have n1_ := aK (below_step (mvh HB.out) hb); clear BK237 HB; have BK237 := n0_; have HB := n1_; clear n0_ n1_; (try clear hb)) | (go_at_call 13; (with_reducible refine (l3_num.calls t244 t245 _ A7.out).mono ?_); rintro e w' ⟨rfl, ⟨nd, rfl⟩⟩))
   go_ret3
   exact ⟨_, by first | rfl | (simp [errW_none, errW_some] <;> rfl) | (simp [*, errW_none, errW_some] <;> rfl), (gal_OK_below HT240.out (mvh HB.out)), below_step HB00.out (mvh HB.out)⟩
  rw [if_pos c27] at H
  have c27b0 : (true == (t242 == 0)) = true := c27
  (try (have c27b1 : decide (true = (t242 == 0)) = true := by simpa using c27))
  (try (have c27b2 : (true == (t242 == 0)) = true := by simpa using c27))
  clear c27
  replace H := Option.bind_eq_some_iff.mp H
  obtain ⟨t247, A280, H⟩ := H
  try dsimp only at H
  have A28 := Aside0.mk A280
  clear A280
  simp only [Option.some.injEq, Prod.mk.injEq] at H
  obtain ⟨rfl, rfl, rfl⟩ := H
  go_enter Try.func8, Try.ntmps8
  go_wp2_with (first | ((with_reducible refine gate_dst (N := 1) rfl ?_); refine box_event ?hg (N := 1) ?hd (cs := #[.int .i64 a0_0, .int .u64 a0_1]) (t := 24) ?hr ?_; (case hd => rfl); (case hg => rfl); (case hr => first | (go_simp; done) | (go_simp; rfl)); intro gb237 hg w29 hbox hb; have n0_ := aK (below_step (mvh HB.out) hb); have n1_ := aK (hbox); have n2_ := aK ((by rw [hg]; exact (below_size (mvh HB.out)) : w.heap.size ≤ gb237)); have n3_ := aK ((by rw [hg]; exact (below_size (mvh HB.out)) : w.heap.size ≤ gb237)); clear HB; have HB := n0_; have BK237 := n1_; have GW237 := n2_; have GE237 := n3_; clear n0_ n1_ n2_ n3_; clear hb hbox hg; obtain ⟨hcz30_0, hcz30_1, hfz30_0, hfz30_1⟩ := cf2 BK237.out) | (go_at_call 35; (with_reducible refine (galois_New.calls k a0_0 a0_1 t238 t241 _ A2.out).mono ?_); rintro e w ⟨Ap239, rfl, hT_, hb⟩; obtain ⟨Ap239_, rfl⟩ := gal_some hT_ LMc9.out; have n0_ := aK (kb BK237.out hb); have n1_ := aK (Below.refl w.heap.size w); have n2_ := aK (below_step (mvh HB.out) hb); clear BK237 HB; have BK237 := n0_; have HB := n1_; have HB00 := n2_; clear n0_ n1_ n2_; have HT240 := Aside0.mk hT_; clear hb hT_; obtain ⟨hcz32_0, hcz32_1, hfz32_0, hfz32_1⟩ := cf2 BK237.out) | (go_at_call 36; (with_reducible refine (r3_Check.calls k a0_0 a0_1 t242 _ A3.out).mono ?_); rintro e w33 ⟨rfl, hb⟩; have n0_ := aK (kb BK237.out hb); have n1_ := aK (below_step (mvh HB.out) hb); clear BK237 HB; have BK237 := n0_; have HB := n1_; clear n0_ n1_; (try clear hb)) | (go_at_call 13; (with_reducible refine (l3_num.calls t241 t243 _ A4.out).mono ?_); rintro e w' ⟨rfl, ⟨nd, rfl⟩⟩; obtain ⟨hcz34_0, hcz34_1, hfz34_0, hfz34_1⟩ := cf2 BK237.out) | (go_at_call 37; (with_reducible refine (galois_Check.calls k a0_0 a0_1 t244 _ A6.out).mono ?_); rintro e w35 ⟨rfl, hb⟩; have n0_ := aK (kb BK237.out hb); have n1_ := aK (below_step (mvh HB.out) hb); clear BK237 HB; have BK237 := n0_; have HB := n1_; clear n0_ n1_; (try clear hb)) | (go_at_call 13; (with_reducible refine (l3_num.calls t244 t245 _ A7.out).mono ?_); rintro e w' ⟨rfl, ⟨nd, rfl⟩⟩) | (go_at_call 38; (with_reducible refine (l3_live.calls k  t247 _ A28.out).mono ?_); rintro e w36 ⟨rfl, hb⟩; have n0_ := aK (kb BK237.out hb); have n1_ := aK (below_step (mvh HB.out) hb); clear BK237 HB; have BK237 := n0_; have HB := n1_; clear n0_ n1_; (try clear hb)))
  go_ret3
  exact ⟨_, by first | rfl | (simp [errW_none, errW_some] <;> rfl) | (simp [*, errW_none, errW_some] <;> rfl), (gal_OK_below HT240.out (mvh HB.out)), below_step HB00.out (mvh HB.out)⟩
def r3_Trim.l0 : Nat → List Int → Option (List Int)
 | 0, _ => none
 | k + 1, x0 => if (x0.length : Int) > 0 then (if 0 < (x0.length : Int) then (if (rd x0 0) = 0 then (if 1 ≤ (x0.length : Int) then (r3_Trim.l0 k (x0.drop 1)) else (none)) else ((some (([] : List Int) : List Int)).bind fun y254 => (if y254.length + x0.length < 140737488355328 then (some (y254 ++ x0)) else (none)))) else (none)) else ((some (([] : List Int) : List Int)).bind fun y260 => (if y260.length + x0.length < 140737488355328 then (some (y260 ++ x0)) else (none)))
def r3_Trim.f (k : Nat) (l0 : List Int) : Option (List Int) := r3_Trim.l0 k l0
theorem r3_Trim.mono_l : ∀ k, (∀ y0, LeO (r3_Trim.l0 k y0) (r3_Trim.l0 (k + 1) y0))
 | 0 => fun _ r h => by simp [r3_Trim.l0] at h
 | k + 1 => by
  have ih0 := r3_Trim.mono_l k
  ·intro y0
   unfold r3_Trim.l0
   repeat' first
   | (with_reducible exact ih0 _)
   | (with_reducible exact LeO.refl _)
   | (with_reducible exact LeO.none _)
   | (with_reducible refine LeO.ite ?_ ?_)
   | (with_reducible refine LeO.bind ?_ (fun _ => ?_))
theorem r3_Trim.mono : ∀ a0 k, LeO (r3_Trim.f k a0) (r3_Trim.f (k + 1) a0) := by
 intro a0 k
 have ih0 := r3_Trim.mono_l k
 unfold r3_Trim.f
 repeat' first
   | (with_reducible exact ih0 _)
   | (with_reducible exact LeO.refl _)
   | (with_reducible exact LeO.none _)
   | (with_reducible refine LeO.ite ?_ ?_)
   | (with_reducible refine LeO.bind ?_ (fun _ => ?_))
set_option maxHeartbeats 8000000 in
set_option maxRecDepth 100000 in
theorem r3_Trim.calls (k : Nat) (P0_ : Nat → Prop) (A0 : Option Addr) (c0 : Nat) (l0 : List Int) (r : List Int) (w : World) (hs0 : Kd.V (Kd.int .u8) 5 w w.heap.size (fun k_ => P0_ k_) (.slice A0 l0.length c0) l0) (h : r3_Trim.f k l0 = some r) :
  Calls Try.prog 16 #[.slice A0 l0.length c0] w fun e w' => ∃ v0_ : Value, e = .returned (v0_) ∧ Kd.R (Kd.int .u8) 5 w' w.heap.size (fun k_ => (w.heap.size ≤ k_)) v0_ r ∧ Below w.heap.size w w' := by
 have HO0 := aK (show Kd.V (Kd.int .u8) 5 w w.heap.size (fun k_ => (P0_ k_ ∨ w.heap.size ≤ k_)) (.slice A0 l0.length c0) l0 from Kd.V_mono hs0 (fun k_ hk => .inl hk))
 have HB := aK (Below.refl w.heap.size w)
 have H : (r3_Trim.l0 k l0) = some r := h
 clear h
 have H' := Aside0.mk H
 clear H
 go_enter Try.func16, Try.ntmps16
 go_wp2
 go_loopg [0] k (fun kq v0 w' => ∃ (x0_1 : List Int), Aside0 (r3_Trim.l0 kq x0_1 = some r) ∧ Aside0 (kq ≤ k) ∧ Aside0 (Kd.V (Kd.int .u8) 5 w' w.heap.size (fun k_ => (P0_ k_ ∨ w.heap.size ≤ k_)) v0 x0_1) ∧ Aside0 (Below w.heap.size w w'))
 case atStart => exact ⟨(l0), H', ⟨Nat.le_refl _⟩, ⟨by (with_reducible repeat (first | apply Kd.V_alloc | apply Kd.V_drewN | apply Kd.V_drew)); exact HO0.out⟩, ⟨mvh HB.out⟩⟩
 case round =>
  clear H'
  try clear c1
  obtain ⟨x0_1, HA, HK1, HO_0, HB⟩ := hrel
  cases gk with
  | zero => exact absurd HA.out (by simp [r3_Trim.l0])
  | succ k1 =>
   have H := HA.out
   clear HA
   simp only [r3_Trim.l0] at H
   by_cases c2 : (x0_1.length : Int) > 0
   rotate_left
   ·rw [if_neg c2] at H
    have c2b0 : decide (0 < (x0_1.length : Int)) = false := decide_eq_false c2
    have c2b1 : decide (0 < x0_1.length) = false := decide_eq_false (by omega)
    clear c2
    obtain ⟨y260, hy260⟩ : ∃ y_ : List Int, y_ = (([] : List Int)) := ⟨_, rfl⟩
    replace H : (if y260.length + x0_1.length < 140737488355328 then (some (y260 ++ x0_1)) else (none)) = some r := by rw [hy260]; exact H
    have Ny260 := Aside0.mk hy260
    clear hy260
    by_cases c13 : y260.length + x0_1.length < 140737488355328
    rotate_left
    ·rw [if_neg c13] at H
     exact absurd H (by simp)

    rw [if_pos c13] at H
    have LMc13 := Aside0.mk c13
    clear c13
    obtain ⟨y263, hy263⟩ : ∃ y_ : List Int, y_ = (y260 ++ x0_1) := ⟨_, rfl⟩
    replace H : (some y263) = some r := by rw [hy263]; exact H
    have Ny263 := Aside0.mk hy263
    clear hy263
    obtain rfl := Option.some.inj H
    obtain ⟨Ao14, co14, eo14⟩ := Kd.V_slice HO_0.out
    subst eo14
    go_wp2_with (first | ((with_reducible refine gate_dst (N := 14) rfl ?_); refine Kd.R_lit (Kd.int .u8) _ 5 ?hg (N := 14) ?hd (xs := ([] : List Int)) (inner := []) (ok := fun _ => True) (okp := fun _ => True) ?hr ?hp (fun _ hk => hk) trivial (Below.refl _ _) (Nat.le_refl _) (by simp) ?_; (case hd => rfl); (case hg => rfl); (case hr => first | (go_simp; done) | (go_simp; rfl)); (case hp => exact (Reps.none _ _)); intro v261 w15 ho16 hb hg_ hnew_; clear hg_ hnew_; (first | rw [← Ny260.out] at ho16 | (simp only [Int.reduceToNat] at ho16; rw [← Ny260.out] at ho16)); have n0_ := aK (Kd.V_elder' (by (with_reducible repeat (first | apply Kd.V_alloc | apply Kd.V_drewN | apply Kd.V_drew)); exact HO_0.out) (Kd.R_base ho16) hb); have n1_ := aK (Kd.R_lower (Kd.R_newM (M := fun k_ => (w.heap.size ≤ k_)) ho16 (below_size (mvh HB.out)) (fun k_ h_ => h_)) (below_size (mvh HB.out))); have n2_ := aK (below_step (mvh HB.out) hb); clear HO_0 HB; have HO_0 := n0_; have HO262 := n1_; have HB := n2_; clear n0_ n1_ n2_; clear hb ho16) | ((with_reducible refine gate_builtin (b := .append) (xs := #[.tmp 14, .tmp 15]) rfl ?_); at_builtin; refine Kd.R_append_rows (Kd.int .u8) (w0 := w) w.heap.size rfl (.tmp 14) (.tmp 15) 25 5 (.int .u8 0) 1 rfl Try.underlying25 info5 rfl (by decide) (by omega) v261 y260 x0_1 _ _ _ (fun k_ => (w.heap.size ≤ k_)) (fun _ => False) rfl rfl ?aO ?aR (fun _ _ h => h) (fun _ h => h.elim) ?aF ?aB ?aS ?aL ?_; (case aR => repeat (first | exact (Kd.V_reads' HO_0.out).2.2 | (with_reducible refine Kd.C_alloc ?_ _) | (with_reducible refine Kd.C_drewN ?_ _) | (with_reducible refine Kd.C_drew ?_))); (case aB => exact (mvh HB.out)); (case aF => exact (fun k_ hk => (Nat.le_trans (below_size (mvh HB.out)) hk))); (case aO => exact (by (with_reducible repeat (first | apply Kd.R_alloc | apply Kd.R_drewN | apply Kd.R_drew)); exact Kd.R_mono HO262.out (fun _ hk => hk.1))); (case aS => exact (below_size (mvh HB.out))); (case aL => have := LMc13.out; omega); intro v264 w17 ho hb hg hat; rw [← Ny263.out] at ho; have n0_ := aK (Kd.V_afterv (ok := (fun k_ => (P0_ k_ ∨ w.heap.size ≤ k_))) (by (with_reducible repeat (first | apply Kd.V_alloc | apply Kd.V_drewN | apply Kd.V_drew)); exact HO_0.out) hg hat); have n1_ := aK (hb); have n2_ := aK (ho); clear HO_0 HB HO262; have HO_0 := n0_; have HB := n1_; have HO265 := n2_; clear n0_ n1_ n2_; clear ho hb hg hat))
    go_ret
    exact ⟨_, by first | rfl | (simp [errW_none, errW_some] <;> rfl) | (simp [*, errW_none, errW_some] <;> rfl), by (with_reducible repeat (first | apply Kd.R_alloc | apply Kd.R_drewN | apply Kd.R_drew)); exact HO265.out, mvh HB.out⟩
   rw [if_pos c2] at H
   have c2b0 : decide (0 < (x0_1.length : Int)) = true := decide_eq_true c2
   have c2b1 : decide (0 < x0_1.length) = true := decide_eq_true (by omega)
   clear c2
   by_cases c3 : 0 < (x0_1.length : Int)
   rotate_left
   ·rw [if_neg c3] at H
    exact absurd H (by simp)
   rw [if_pos c3] at H
   have c3b0 : decide (0 < (x0_1.length : Int)) = true := decide_eq_true c3
   have c3b1 : decide (0 < x0_1.length) = true := decide_eq_true (by omega)
   clear c3
   by_cases c4 : (rd x0_1 0) = 0
   rotate_left
   ·rw [if_neg c4] at H
    have c4b0 : ((rd x0_1 0) == 0) = false := beq_eq_false_iff_ne.mpr c4
    have c4b1 : ((rd x0_1 0) != 0) = true := bne_iff_ne.mpr c4
    obtain ⟨y254, hy254⟩ : ∃ y_ : List Int, y_ = (([] : List Int)) := ⟨_, rfl⟩
    replace H : (if y254.length + x0_1.length < 140737488355328 then (some (y254 ++ x0_1)) else (none)) = some r := by rw [hy254]; exact H
    have Ny254 := Aside0.mk hy254
    clear hy254
    by_cases c8 : y254.length + x0_1.length < 140737488355328
    rotate_left
    ·rw [if_neg c8] at H
     exact absurd H (by simp)
    rw [if_pos c8] at H
    have LMc8 := Aside0.mk c8
    clear c8
    obtain ⟨y257, hy257⟩ : ∃ y_ : List Int, y_ = (y254 ++ x0_1) := ⟨_, rfl⟩
    replace H : (some y257) = some r := by rw [hy257]; exact H
    have Ny257 := Aside0.mk hy257
    clear hy257
    obtain rfl := Option.some.inj H
    obtain ⟨Ao9, co9, eo9⟩ := Kd.V_slice HO_0.out
    subst eo9
    have p248 : 0 ≤ (0 : Int) := (by omega)
    have q248 : 0 < (x0_1.length : Int) := of_decide_eq_true (by first | (with_reducible assumption) | assumption)
    obtain ⟨ad248, e248, hx248_0⟩ := Kd.at_int (Kd.V_reads' HO_0.out).2.2 0 p248 q248
    cases e248
    have qi248 : (0 < x0_1.length) = True := eq_true (by omega)
    (try rw [show ((0 : Int)).toNat = 0 from rfl] at hx248_0)
    (try rw [Addr.add_zero'] at hx248_0)
    replace p248 := eq_true p248
    replace q248 := eq_true q248
    go_wp2_with (first | ((with_reducible refine gate_dst (N := 14) rfl ?_); refine Kd.R_lit (Kd.int .u8) _ 5 ?hg (N := 14) ?hd (xs := ([] : List Int)) (inner := []) (ok := fun _ => True) (okp := fun _ => True) ?hr ?hp (fun _ hk => hk) trivial (Below.refl _ _) (Nat.le_refl _) (by simp) ?_; (case hd => rfl); (case hg => rfl); (case hr => first | (go_simp; done) | (go_simp; rfl)); (case hp => exact (Reps.none _ _)); intro v255 w10 ho11 hb hg_ hnew_; clear hg_ hnew_; (first | rw [← Ny254.out] at ho11 | (simp only [Int.reduceToNat] at ho11; rw [← Ny254.out] at ho11)); have n0_ := aK (Kd.V_elder' (by (with_reducible repeat (first | apply Kd.V_alloc | apply Kd.V_drewN | apply Kd.V_drew)); exact HO_0.out) (Kd.R_base ho11) hb); have n1_ := aK (Kd.R_lower (Kd.R_newM (M := fun k_ => (w.heap.size ≤ k_)) ho11 (below_size (mvh HB.out)) (fun k_ h_ => h_)) (below_size (mvh HB.out))); have n2_ := aK (below_step (mvh HB.out) hb); clear HO_0 HB; have HO_0 := n0_; have HO256 := n1_; have HB := n2_; clear n0_ n1_ n2_; clear hb ho11) | ((with_reducible refine gate_builtin (b := .append) (xs := #[.tmp 14, .tmp 15]) rfl ?_); at_builtin; refine Kd.R_append_rows (Kd.int .u8) (w0 := w) w.heap.size rfl (.tmp 14) (.tmp 15) 25 5 (.int .u8 0) 1 rfl Try.underlying25 info5 rfl (by decide) (by omega) v255 y254 x0_1 _ _ _ (fun k_ => (w.heap.size ≤ k_)) (fun _ => False) rfl rfl ?aO ?aR (fun _ _ h => h) (fun _ h => h.elim) ?aF ?aB ?aS ?aL ?_; (case aR => repeat (first | exact (Kd.V_reads' HO_0.out).2.2 | (with_reducible refine Kd.C_alloc ?_ _) | (with_reducible refine Kd.C_drewN ?_ _) | (with_reducible refine Kd.C_drew ?_))); (case aB => exact (mvh HB.out)); (case aF => exact (fun k_ hk => (Nat.le_trans (below_size (mvh HB.out)) hk))); (case aO => exact (by (with_reducible repeat (first | apply Kd.R_alloc | apply Kd.R_drewN | apply Kd.R_drew)); exact Kd.R_mono HO256.out (fun _ hk => hk.1))); (case aS => exact (below_size (mvh HB.out))); (case aL => have := LMc8.out; omega); intro v258 w12 ho hb hg hat; rw [← Ny257.out] at ho; have n0_ := aK (Kd.V_afterv (ok := (fun k_ => (P0_ k_ ∨ w.heap.size ≤ k_))) (by (with_reducible repeat (first | apply Kd.V_alloc | apply Kd.V_drewN | apply Kd.V_drew)); exact HO_0.out) hg hat); have n1_ := aK (hb); have n2_ := aK (ho); clear HO_0 HB HO256; have HO_0 := n0_; have HB := n1_; have HO259 := n2_; clear n0_ n1_ n2_; clear ho hb hg hat))
    go_ret
    exact ⟨_, by first | rfl | (simp [errW_none, errW_some] <;> rfl) | (simp [*, errW_none, errW_some] <;> rfl), by (with_reducible repeat (first | apply Kd.R_alloc | apply Kd.R_drewN | apply Kd.R_drew)); exact HO259.out, mvh HB.out⟩
   rw [if_pos c4] at H
   have c4b0 : ((rd x0_1 0) == 0) = true := beq_iff_eq.mpr c4
   have c4b1 : ((rd x0_1 0) != 0) = false := bne_eq_false_iff_eq.mpr c4
   clear c4
   by_cases c5 : 1 ≤ (x0_1.length : Int)
   rotate_left
   ·rw [if_neg c5] at H
    exact absurd H (by simp)
   rw [if_pos c5] at H
   have c5b0 := eq_true c5
   have c5b1 : decide (1 ≤ (x0_1.length : Int)) = true := decide_eq_true c5
   clear c5
   obtain ⟨y249, hy249⟩ : ∃ y_ : List Int, y_ = (x0_1.drop 1) := ⟨_, rfl⟩
   replace H : (r3_Trim.l0 k1 y249) = some r := by rw [hy249]; exact H
   have Ny249 := Aside0.mk hy249
   clear hy249
   have H' := Aside0.mk H
   clear H
   obtain ⟨Ao6, co6, eo6⟩ := Kd.V_slice HO_0.out
   subst eo6
   have p248 : 0 ≤ (0 : Int) := (by omega)
   have q248 : 0 < (x0_1.length : Int) := of_decide_eq_true (by first | (with_reducible assumption) | assumption)
   obtain ⟨ad248, e248, hx248_0⟩ := Kd.at_int (Kd.V_reads' HO_0.out).2.2 0 p248 q248
   cases e248
   have qi248 : (0 < x0_1.length) = True := eq_true (by omega)
   (try rw [show ((0 : Int)).toNat = 0 from rfl] at hx248_0)
   (try rw [Addr.add_zero'] at hx248_0)
   replace p248 := eq_true p248
   replace q248 := eq_true q248
   have q7 : (1 : Int) ≤ ((x0_1.length : Int) : Int) := of_decide_eq_true (by first | (with_reducible assumption) | assumption)
   obtain ⟨i07, hi07, _, hsz7, _⟩ := info_parts info5
   have hroom7 : x0_1.length ≤ co6 := (Kd.V_reads' HO_0.out).2.1
   have hC7 : Kd.F (Kd.int .u8) _ _ (some ad248) x0_1.length x0_1 := (Kd.V_at (base := w.heap.size) HO_0.out).2.2
   have hcut7 := cut_from (P := Try.prog) 25 5 .i64 Try.underlying25 hi07 1 hsz7 (some ad248) x0_1.length co6 1 (by omega) q7
   have hr7 := Kd.F_cut (m := (1 : Int).toNat) (c := co6) hC7 (by omega) hroom7
   obtain ⟨A7, hA7⟩ : ∃ A1, A1 = (if co6 = (1 : Int).toNat then (some ad248) else ((some ad248) : Option Addr).map (·.add ((1 : Int).toNat * 1))) := ⟨_, rfl⟩
   obtain ⟨c7, hc7⟩ : ∃ c1, c1 = co6 - (1 : Int).toNat := ⟨_, rfl⟩
   have hy7 : y249.length = x0_1.length - (1 : Int).toNat := (by rw [Ny249.out, List.length_drop] <;> omega)
   rw [show (x0_1).drop (1 : Int).toNat = y249 from Ny249.out.symm] at hr7
   replace hr7 : Kd.F (Kd.int .u8) _ _ A7 y249.length y249 := (by rw [hA7]; exact hr7)
   rw [← hy7, ← hA7, ← hc7] at hcut7
   have HO253 := aK (show Kd.V (Kd.int .u8) 5 _ w.heap.size _ (.slice A7 y249.length c7) y249 from Kd.V_mk (by rw [hy7, hc7]; exact Nat.sub_le_sub_right hroom7 _) hr7)
   have HC253 := aK (show y249.length ≤ c7 from by rw [hy7, hc7]; exact Nat.sub_le_sub_right hroom7 _)
   clear hr7 hC7 hroom7 hi07 hsz7 hc7
   have KY7 := Aside0.mk hy7
   have KA7 := Aside0.mk hA7
   clear hy7 hA7
   replace q7 := eq_true q7
   go_wp2
   go_roundg k1
   case measure => have := HK1.out; omega
   case rel => exact ⟨(y249), H', ⟨by have := HK1.out; omega⟩, ⟨by (with_reducible repeat (first | apply Kd.V_alloc | apply Kd.V_drewN | apply Kd.V_drew)); exact HO253.out⟩, ⟨mvh HB.out⟩⟩
def r3_Size.f (a0_0 : Int) (a0_1 : Int) : Option (Int) := if 0 ≤ (IntKind.u64.wrap (a0_0)) then (some (shl .i64 1 (IntKind.u64.wrap (a0_0)))) else (none)
set_option maxHeartbeats 8000000 in
set_option maxRecDepth 100000 in
theorem r3_Size.calls (a0_0 : Int) (a0_1 : Int) (r : Int) (w : World) (h : r3_Size.f a0_0 a0_1 = some r) :
  Calls Try.prog 34 #[.agg #[.int .i64 a0_0, .int .u64 a0_1]] w fun e w' => e = .returned (.int .i64 r) ∧ Below w.heap.size w w' := by
 have hu24 := Try.underlying24
 have HB := aK (Below.refl w.heap.size w)
 have H : (if 0 ≤ (IntKind.u64.wrap (a0_0)) then (some (shl .i64 1 (IntKind.u64.wrap (a0_0)))) else (none)) = some r := h
 clear h
 obtain ⟨ji2, hji2⟩ : ∃ j_ : Int, (IntKind.u64.wrap (a0_0)) = j_ := ⟨_, rfl⟩
 first | rw [hji2] at H | simp only [hji2] at H
 by_cases c3 : 0 ≤ (ji2)
 rotate_left
 ·rw [if_neg c3] at H
  exact absurd H (by simp)


 rw [if_pos c3] at H
 have c3b0 := eq_true c3
 have c3b1 : decide (0 ≤ (ji2)) = true := decide_eq_true c3
 clear c3
 obtain ⟨ji4, hji4⟩ : ∃ j_ : Int, (shl .i64 1 (ji2)) = j_ := ⟨_, rfl⟩
 first | rw [hji4] at H | simp only [hji4] at H
 have hji4_ : (IntKind.i64.wrap (1 * 2 ^ min (ji2).toNat 64)) = ji4 := hji4
 have hji4z : (ji2) ≤ 64 → (IntKind.i64.wrap (1 * 2 ^ (ji2).toNat)) = ji4 := shl_small hji4
 have hji4u : (IntKind.i64.wrap (2 ^ min (ji2).toNat 64)) = ji4 := by have h_ := hji4_; rw [Int.one_mul] at h_; exact h_
 have hji4v : (ji2) ≤ 64 → (IntKind.i64.wrap (2 ^ (ji2).toNat)) = ji4 := fun hle_ => by have h_ := hji4z hle_; rw [Int.one_mul] at h_; exact h_
 have hji4y : (wrap64 (1 * 2 ^ min (ji2).toNat 64)) = ji4 := (i64_w _).symm.trans hji4_
 have hji4x : (ji2) ≤ 64 → (wrap64 (1 * 2 ^ (ji2).toNat)) = ji4 := fun h_ => (i64_w _).symm.trans (hji4z h_)
 obtain rfl := Option.some.inj H
 go_enter Try.func34, Try.ntmps34
 go_wp2_with (first | ((with_reducible refine gate_dst (N := 1) rfl ?_); refine box_event ?hg (N := 1) ?hd (cs := #[.int .i64 a0_0, .int .u64 a0_1]) (t := 24) ?hr ?_; (case hd => rfl); (case hg => rfl); (case hr => first | (go_simp; done) | (go_simp; rfl)); intro gb266 hg w5 hbox hb; have n0_ := aK (below_step (mvh HB.out) hb); have n1_ := aK (hbox); have n2_ := aK ((by rw [hg]; exact (below_size (mvh HB.out)) : w.heap.size ≤ gb266)); have n3_ := aK ((by rw [hg]; exact (below_size (mvh HB.out)) : w.heap.size ≤ gb266)); clear HB; have HB := n0_; have BK266 := n1_; have GW266 := n2_; have GE266 := n3_; clear n0_ n1_ n2_ n3_; clear hb hbox hg; obtain ⟨hcz6_0, hcz6_1, hfz6_0, hfz6_1⟩ := cf2 BK266.out))
 go_ret
 exact ⟨by first | rfl | (simp [errW_none, errW_some] <;> rfl) | (simp only [← hji2, ← hji4]; first | rfl | (simp [errW_none, errW_some] <;> rfl)) | (simp [*, errW_none, errW_some] <;> rfl), mvh HB.out⟩
end Go.Proofs.Ytjdkamhnbheofaa.P

-- squeezed
