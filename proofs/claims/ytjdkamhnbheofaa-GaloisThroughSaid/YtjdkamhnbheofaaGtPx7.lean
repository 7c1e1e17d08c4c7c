-- written by mk.sh, a program of this session, over the kit's print
import Derived.Test.YtjdkamhnbheofaaGtPx0
import Derived.Test.YtjdkamhnbheofaaGtPx1
import Derived.Test.YtjdkamhnbheofaaGtPx2
import Derived.Test.YtjdkamhnbheofaaGtPx3
import Derived.Test.YtjdkamhnbheofaaGtPx5
import Derived.Test.YtjdkamhnbheofaaGtPx6
namespace Go.Proofs.Ytjdkamhnbheofaa.P
open Go.RowKit Go.Proofs.YtjdkamhnbheofaaW.PrintWords Go.Proofs.YtjdkamhnbheofaaW.PrintLast Go.Proofs.YtjdkamhnbheofaaW.PrintMore
attribute [local go_sem] max2_int min2_int max_two min_two max_three min_three max_four min_four   -- for this text's walks alone
set_option linter.unusedVariables false
set_option linter.unusedSimpArgs false

/-! ### outpostlaw32_live: function 38 -/
def outpostlaw32_live.j0 : Nat → GTab → Bool → Option (Bool)
 | 0, _, _ => none
 | k + 1, x1, x20 => if x20 = true then (some false) else ((galois_Tables_Mul.f k x1 2 4).bind fun bt216 => ((galois_Tables_Times.f k x1 (([1, 2] : List Int)) (([1, 3] : List Int))).bind fun bt224 => ((galois_Tables_Log.f k x1 3).bind fun bt228 => ((outpostlaw32_num.f bt216.2).bind fun t230 => (if t230 = 0 then (if bt216.1 = 3 then ((outpostlaw32_num.f bt224.2).bind fun t231 => (if t231 = 0 then ((outpostlaw32_same.f bt224.1 (([1, 1, 6] : List Int))).bind fun t235 => (if t235 = true then ((outpostlaw32_num.f bt228.2).bind fun t236 => (if t236 = 0 then (some (bt228.1 == 3)) else (some false))) else (some false))) else (some false))) else (some false)) else (some false))))))
def outpostlaw32_live.f (k : Nat)  : Option (Bool) := (outpostlaw32_eight.f).bind fun bt209 => ((galois_New.f k bt209.1 bt209.2).bind fun bt211 => ((outpostlaw32_num.f bt211.2).bind fun t215 => (if t215 = 0 then (if bt211.1.nil = true then (outpostlaw32_live.j0 k bt211.1 true) else (outpostlaw32_live.j0 k bt211.1 false)) else (outpostlaw32_live.j0 k bt211.1 true))))
theorem outpostlaw32_live.mono_l : ∀ k, (∀ y0 y1, LeO (outpostlaw32_live.j0 k y0 y1) (outpostlaw32_live.j0 (k + 1) y0 y1))
 | 0 => fun _ _ r h => by simp [outpostlaw32_live.j0] at h
 | k + 1 => by
  have ih0 := outpostlaw32_live.mono_l k
  ·intro y0 y1
   unfold outpostlaw32_live.j0
   repeat' first
   | (with_reducible exact ih0 _ _)
   | (with_reducible exact galois_New.mono _ _ _)
   | (with_reducible exact galois_Tables_Log.mono _ _ _)
   | (with_reducible exact galois_Tables_Mul.mono _ _ _ _)
   | (with_reducible exact galois_Tables_Times.mono _ _ _ _)
   | (with_reducible exact LeO.refl _)
   | (with_reducible exact LeO.none _)
   | (with_reducible refine LeO.ite ?_ ?_)
   | (with_reducible refine LeO.bind ?_ (fun _ => ?_))
   | exact ih0 _ _
   | exact galois_New.mono _ _ _
   | exact galois_Tables_Log.mono _ _ _
   | exact galois_Tables_Mul.mono _ _ _ _
   | exact galois_Tables_Times.mono _ _ _ _
   | exact LeO.none _
   | refine LeO.ite ?_ ?_
   | refine LeO.bind ?_ (fun _ => ?_)
theorem outpostlaw32_live.mono : ∀ k, LeO (outpostlaw32_live.f k ) (outpostlaw32_live.f (k + 1) ) := by
 intro  k
 have ih0 := outpostlaw32_live.mono_l k
 unfold outpostlaw32_live.f
 repeat' first
   | (with_reducible exact ih0 _ _)
   | (with_reducible exact galois_New.mono _ _ _)
   | (with_reducible exact galois_Tables_Log.mono _ _ _)
   | (with_reducible exact galois_Tables_Mul.mono _ _ _ _)
   | (with_reducible exact galois_Tables_Times.mono _ _ _ _)
   | (with_reducible exact LeO.refl _)
   | (with_reducible exact LeO.none _)
   | (with_reducible refine LeO.ite ?_ ?_)
   | (with_reducible refine LeO.bind ?_ (fun _ => ?_))
   | exact ih0 _ _
   | exact galois_New.mono _ _ _
   | exact galois_Tables_Log.mono _ _ _
   | exact galois_Tables_Mul.mono _ _ _ _
   | exact galois_Tables_Times.mono _ _ _ _
   | exact LeO.none _
   | refine LeO.ite ?_ ?_
   | refine LeO.bind ?_ (fun _ => ?_)
set_option maxHeartbeats 8000000 in
set_option maxRecDepth 100000 in
theorem outpostlaw32_live.calls (k : Nat)  (r : Bool) (w : World) (h : outpostlaw32_live.f k  = some r) :
  Calls Try.prog 38 #[] w fun e w' => e = .returned (.bool r) ∧ Below w.heap.size w w' := by
 have HB := aK (Below.refl w.heap.size w)
 have H : ((outpostlaw32_eight.f).bind fun bt209 => ((galois_New.f k bt209.1 bt209.2).bind fun bt211 => ((outpostlaw32_num.f bt211.2).bind fun t215 => (if t215 = 0 then (if bt211.1.nil = true then (outpostlaw32_live.j0 k bt211.1 true) else (outpostlaw32_live.j0 k bt211.1 false)) else (outpostlaw32_live.j0 k bt211.1 true))))) = some r := h
 clear h
 replace H := Option.bind_eq_some_iff.mp H
 obtain ⟨⟨t209, t210⟩, A10, H⟩ := H
 replace H : ((galois_New.f k t209 t210).bind fun bt211 => ((outpostlaw32_num.f bt211.2).bind fun t215 => (if t215 = 0 then (if bt211.1.nil = true then (outpostlaw32_live.j0 k bt211.1 true) else (outpostlaw32_live.j0 k bt211.1 false)) else (outpostlaw32_live.j0 k bt211.1 true)))) = some r := H
 have A1 := Aside0.mk A10
 clear A10
 replace H := Option.bind_eq_some_iff.mp H
 obtain ⟨⟨t211, t214⟩, A20, H⟩ := H
 replace H : ((outpostlaw32_num.f t214).bind fun t215 => (if t215 = 0 then (if t211.nil = true then (outpostlaw32_live.j0 k t211 true) else (outpostlaw32_live.j0 k t211 false)) else (outpostlaw32_live.j0 k t211 true))) = some r := H
 have A2 := Aside0.mk A20
 clear A20
 have HC3 := Aside0.mk H
 clear H
 go_enter Try.func38, Try.ntmps38
 go_upto_region 2 with (first | ((with_reducible refine gate_callee (f := 61) rfl ?_); refine goesL_ (some 10) rfl rfl Try.func61 (by kernel_rfl) rfl #[] rfl (by (try simp only [List.map_toArray, List.map_cons, List.map_nil]) <;> rfl) ?_; (with_reducible refine (outpostlaw32_eight.calls  t209 t210 _ A1.out).mono ?_); rintro e w4 ⟨rfl, hb⟩; refine ⟨_, rfl, ?_⟩; have n0_ := aK (below_step (mvh HB.out) hb); clear HB; have HB := n0_; clear n0_; (try clear hb)) | ((with_reducible refine gate_callee (f := 35) rfl ?_); refine goesL_ (some 11) rfl rfl Try.func35 (by kernel_rfl) rfl #[.agg #[.int .i64 t209, .int .u64 t210]] rfl (by (try simp only [List.map_toArray, List.map_cons, List.map_nil]) <;> rfl) ?_; (with_reducible refine (galois_New.calls k t209 t210 t211 t214 _ A2.out).mono ?_); rintro e w ⟨Ap212, rfl, hT_, hb⟩; refine ⟨_, rfl, ?_⟩; have n0_ := aK (Below.refl w.heap.size w); have n1_ := aK (below_step (mvh HB.out) hb); clear HB; have HB := n0_; have HB00 := n1_; clear n0_ n1_; have HT213 := Aside0.mk hT_; clear hb hT_))
 (try simp only [Act.put, List.setIfInBounds_toArray, List.set_cons_zero, List.set_cons_succ])
 go_cut [20] (fun v20 wc => ∃ (kq : Nat) (x20_2 : Bool), v20 = .bool x20_2 ∧ Aside0 (outpostlaw32_live.j0 kq t211 x20_2 = some r) ∧ Aside0 (kq ≤ k) ∧ Aside0 (Below w.heap.size w wc))
 case first =>
  have H := HC3.out
  clear HC3
  replace H := Option.bind_eq_some_iff.mp H
  obtain ⟨t215, A60, H⟩ := H
  replace H : (if t215 = 0 then (if t211.nil = true then (outpostlaw32_live.j0 k t211 true) else (outpostlaw32_live.j0 k t211 false)) else (outpostlaw32_live.j0 k t211 true)) = some r := H
  have A6 := Aside0.mk A60
  clear A60
  by_cases c7 : t215 = 0
  ·rw [if_pos c7] at H
   have c7b0 : (t215 == 0) = true := beq_iff_eq.mpr c7
   have c7b1 : (t215 != 0) = false := bne_eq_false_iff_eq.mpr c7
   clear c7
   (first | rw [c7b0] | (simp only [i64_w, i32_w]; rw [c7b0]) | rw [c7b1] | skip)
   by_cases c8 : t211.nil = true
   ·rw [if_pos c8] at H
    obtain rfl := gal_nil HT213.out c8
    clear c8
    have H' := Aside0.mk H
    clear H
    go_wp2_with (first | ((with_reducible refine gate_callee (f := 13) rfl ?_); refine goesL_ (some 15) rfl rfl Try.func13 (by kernel_rfl) rfl #[.int .i64 t214] rfl (by (try simp only [List.map_toArray, List.map_cons, List.map_nil]) <;> rfl) ?_; (with_reducible refine (outpostlaw32_num.calls t214 t215 _ A6.out).mono ?_); rintro e w' ⟨rfl, ⟨nd, rfl⟩⟩; refine ⟨_, rfl, ?_⟩))
    go_meet
    case rel => exact ⟨_, (true), (by first | rfl | (simp; done) | (simp [*]; done) | (simp [wrap64]; done)), H', ⟨by first | omega | exact Nat.le_refl _⟩, ⟨mvh HB.out⟩⟩
   ·rw [if_neg c8] at H
    obtain ⟨Ap212_, rfl⟩ := gal_some HT213.out c8
    clear c8
    have H' := Aside0.mk H
    clear H
    go_wp2_with (first | ((with_reducible refine gate_callee (f := 13) rfl ?_); refine goesL_ (some 15) rfl rfl Try.func13 (by kernel_rfl) rfl #[.int .i64 t214] rfl (by (try simp only [List.map_toArray, List.map_cons, List.map_nil]) <;> rfl) ?_; (with_reducible refine (outpostlaw32_num.calls t214 t215 _ A6.out).mono ?_); rintro e w' ⟨rfl, ⟨nd, rfl⟩⟩; refine ⟨_, rfl, ?_⟩))
    go_meet
    case rel => exact ⟨_, (false), (by first | rfl | (simp; done) | (simp [*]; done) | (simp [wrap64]; done)), H', ⟨by first | omega | exact Nat.le_refl _⟩, ⟨mvh HB.out⟩⟩
  ·rw [if_neg c7] at H
   have c7b0 : (t215 == 0) = false := beq_eq_false_iff_ne.mpr c7
   have c7b1 : (t215 != 0) = true := bne_iff_ne.mpr c7
   (first | rw [c7b0] | (simp only [i64_w, i32_w]; rw [c7b0]) | rw [c7b1] | skip)
   have H' := Aside0.mk H
   clear H
   go_wp2_with (first | ((with_reducible refine gate_callee (f := 13) rfl ?_); refine goesL_ (some 15) rfl rfl Try.func13 (by kernel_rfl) rfl #[.int .i64 t214] rfl (by (try simp only [List.map_toArray, List.map_cons, List.map_nil]) <;> rfl) ?_; (with_reducible refine (outpostlaw32_num.calls t214 t215 _ A6.out).mono ?_); rintro e w' ⟨rfl, ⟨nd, rfl⟩⟩; refine ⟨_, rfl, ?_⟩))
   go_meet
   case rel => exact ⟨_, (true), (by first | rfl | (simp; done) | (simp [*]; done) | (simp [wrap64]; done)), H', ⟨by first | omega | exact Nat.le_refl _⟩, ⟨mvh HB.out⟩⟩
 case rest =>
  clear HC3
  (try clear c1); (try clear p2); (try clear c3); (try clear c6); (try clear p6); (try clear c7); (try clear c7b0); (try clear c7b1); (try clear c8)
  obtain ⟨kq, x20_2, rfl, HA, HJ2, HB⟩ := hcut
  cases kq with
  | zero => exact absurd HA.out (by simp [outpostlaw32_live.j0])
  | succ kj2 =>
   have H := HA.out
   clear HA
   simp only [outpostlaw32_live.j0] at H
   by_cases c9 : x20_2 = true
   ·subst c9
    have H1 : (some false) = some r := by rw [if_pos rfl] at H; exact H
    clear H
    have H := H1
    clear H1
    obtain rfl := Option.some.inj H
    go_wp2
    go_ret
    exact ⟨by first | rfl | (simp [errW_none, errW_some] <;> rfl) | (simp [*, errW_none, errW_some] <;> rfl), below_step HB00.out (mvh HB.out)⟩
   ·replace c9 := Bool.eq_false_iff.mpr c9
    subst c9
    have H1 : ((galois_Tables_Mul.f kj2 t211 2 4).bind fun bt216 => ((galois_Tables_Times.f kj2 t211 (([1, 2] : List Int)) (([1, 3] : List Int))).bind fun bt224 => ((galois_Tables_Log.f kj2 t211 3).bind fun bt228 => ((outpostlaw32_num.f bt216.2).bind fun t230 => (if t230 = 0 then (if bt216.1 = 3 then ((outpostlaw32_num.f bt224.2).bind fun t231 => (if t231 = 0 then ((outpostlaw32_same.f bt224.1 (([1, 1, 6] : List Int))).bind fun t235 => (if t235 = true then ((outpostlaw32_num.f bt228.2).bind fun t236 => (if t236 = 0 then (some (bt228.1 == 3)) else (some false))) else (some false))) else (some false))) else (some false)) else (some false)))))) = some r := by rw [if_neg (show ¬ (false = true) by decide)] at H; exact H
    clear H
    have H := H1
    clear H1
    replace H := Option.bind_eq_some_iff.mp H
    obtain ⟨⟨t216, t217⟩, A100, H⟩ := H
    replace H : ((galois_Tables_Times.f kj2 t211 (([1, 2] : List Int)) (([1, 3] : List Int))).bind fun bt224 => ((galois_Tables_Log.f kj2 t211 3).bind fun bt228 => ((outpostlaw32_num.f t217).bind fun t230 => (if t230 = 0 then (if t216 = 3 then ((outpostlaw32_num.f bt224.2).bind fun t231 => (if t231 = 0 then ((outpostlaw32_same.f bt224.1 (([1, 1, 6] : List Int))).bind fun t235 => (if t235 = true then ((outpostlaw32_num.f bt228.2).bind fun t236 => (if t236 = 0 then (some (bt228.1 == 3)) else (some false))) else (some false))) else (some false))) else (some false)) else (some false))))) = some r := H
    have A10 := Aside0.mk A100
    clear A100
    obtain ⟨y218, hy218⟩ : ∃ y_ : List Int, y_ = (([1, 2] : List Int)) := ⟨_, rfl⟩
    replace H : ((galois_Tables_Times.f kj2 t211 y218 (([1, 3] : List Int))).bind fun bt224 => ((galois_Tables_Log.f kj2 t211 3).bind fun bt228 => ((outpostlaw32_num.f t217).bind fun t230 => (if t230 = 0 then (if t216 = 3 then ((outpostlaw32_num.f bt224.2).bind fun t231 => (if t231 = 0 then ((outpostlaw32_same.f bt224.1 (([1, 1, 6] : List Int))).bind fun t235 => (if t235 = true then ((outpostlaw32_num.f bt228.2).bind fun t236 => (if t236 = 0 then (some (bt228.1 == 3)) else (some false))) else (some false))) else (some false))) else (some false)) else (some false))))) = some r := by first | (rw [hy218]; with_reducible exact H) | (have H2_ := (Option.bind_some _ _).symm.trans H; rw [hy218]; with_reducible exact H2_) | (have H2_ := (Option.bind_some _ _).symm.trans H; with_reducible exact H2_) | with_reducible exact H | (rw [hy218]; exact H) | exact H
    have Ny218 := Aside0.mk hy218
    clear hy218
    obtain ⟨y221, hy221⟩ : ∃ y_ : List Int, y_ = (([1, 3] : List Int)) := ⟨_, rfl⟩
    replace H : ((galois_Tables_Times.f kj2 t211 y218 y221).bind fun bt224 => ((galois_Tables_Log.f kj2 t211 3).bind fun bt228 => ((outpostlaw32_num.f t217).bind fun t230 => (if t230 = 0 then (if t216 = 3 then ((outpostlaw32_num.f bt224.2).bind fun t231 => (if t231 = 0 then ((outpostlaw32_same.f bt224.1 (([1, 1, 6] : List Int))).bind fun t235 => (if t235 = true then ((outpostlaw32_num.f bt228.2).bind fun t236 => (if t236 = 0 then (some (bt228.1 == 3)) else (some false))) else (some false))) else (some false))) else (some false)) else (some false))))) = some r := by first | (rw [hy221]; with_reducible exact H) | (have H2_ := (Option.bind_some _ _).symm.trans H; rw [hy221]; with_reducible exact H2_) | (have H2_ := (Option.bind_some _ _).symm.trans H; with_reducible exact H2_) | with_reducible exact H | (rw [hy221]; exact H) | exact H
    have Ny221 := Aside0.mk hy221
    clear hy221
    replace H := Option.bind_eq_some_iff.mp H
    obtain ⟨⟨t224, t227⟩, A110, H⟩ := H
    replace H : ((galois_Tables_Log.f kj2 t211 3).bind fun bt228 => ((outpostlaw32_num.f t217).bind fun t230 => (if t230 = 0 then (if t216 = 3 then ((outpostlaw32_num.f t227).bind fun t231 => (if t231 = 0 then ((outpostlaw32_same.f t224 (([1, 1, 6] : List Int))).bind fun t235 => (if t235 = true then ((outpostlaw32_num.f bt228.2).bind fun t236 => (if t236 = 0 then (some (bt228.1 == 3)) else (some false))) else (some false))) else (some false))) else (some false)) else (some false)))) = some r := H
    have A11 := Aside0.mk A110
    clear A110
    replace H := Option.bind_eq_some_iff.mp H
    obtain ⟨⟨t228, t229⟩, A120, H⟩ := H
    replace H : ((outpostlaw32_num.f t217).bind fun t230 => (if t230 = 0 then (if t216 = 3 then ((outpostlaw32_num.f t227).bind fun t231 => (if t231 = 0 then ((outpostlaw32_same.f t224 (([1, 1, 6] : List Int))).bind fun t235 => (if t235 = true then ((outpostlaw32_num.f t229).bind fun t236 => (if t236 = 0 then (some (t228 == 3)) else (some false))) else (some false))) else (some false))) else (some false)) else (some false))) = some r := H
    have A12 := Aside0.mk A120
    clear A120
    replace H := Option.bind_eq_some_iff.mp H
    obtain ⟨t230, A130, H⟩ := H
    replace H : (if t230 = 0 then (if t216 = 3 then ((outpostlaw32_num.f t227).bind fun t231 => (if t231 = 0 then ((outpostlaw32_same.f t224 (([1, 1, 6] : List Int))).bind fun t235 => (if t235 = true then ((outpostlaw32_num.f t229).bind fun t236 => (if t236 = 0 then (some (t228 == 3)) else (some false))) else (some false))) else (some false))) else (some false)) else (some false)) = some r := H
    have A13 := Aside0.mk A130
    clear A130
    by_cases c14 : t230 = 0
    ·rw [if_pos c14] at H
     have c14b0 : (t230 == 0) = true := beq_iff_eq.mpr c14
     have c14b1 : (t230 != 0) = false := bne_eq_false_iff_eq.mpr c14
     clear c14
     by_cases c15 : t216 = 3
     ·rw [if_pos c15] at H
      have c15b0 : (t216 == 3) = true := beq_iff_eq.mpr c15
      have c15b1 : (t216 != 3) = false := bne_eq_false_iff_eq.mpr c15
      clear c15
      replace H := Option.bind_eq_some_iff.mp H
      obtain ⟨t231, A160, H⟩ := H
      replace H : (if t231 = 0 then ((outpostlaw32_same.f t224 (([1, 1, 6] : List Int))).bind fun t235 => (if t235 = true then ((outpostlaw32_num.f t229).bind fun t236 => (if t236 = 0 then (some (t228 == 3)) else (some false))) else (some false))) else (some false)) = some r := H
      have A16 := Aside0.mk A160
      clear A160
      by_cases c17 : t231 = 0
      ·rw [if_pos c17] at H
       have c17b0 : (t231 == 0) = true := beq_iff_eq.mpr c17
       have c17b1 : (t231 != 0) = false := bne_eq_false_iff_eq.mpr c17
       clear c17
       obtain ⟨y232, hy232⟩ : ∃ y_ : List Int, y_ = (([1, 1, 6] : List Int)) := ⟨_, rfl⟩
       replace H : ((outpostlaw32_same.f t224 y232).bind fun t235 => (if t235 = true then ((outpostlaw32_num.f t229).bind fun t236 => (if t236 = 0 then (some (t228 == 3)) else (some false))) else (some false))) = some r := by first | (rw [hy232]; with_reducible exact H) | (have H2_ := (Option.bind_some _ _).symm.trans H; rw [hy232]; with_reducible exact H2_) | (have H2_ := (Option.bind_some _ _).symm.trans H; with_reducible exact H2_) | with_reducible exact H | (rw [hy232]; exact H) | exact H
       have Ny232 := Aside0.mk hy232
       clear hy232
       replace H := Option.bind_eq_some_iff.mp H
       obtain ⟨t235, A180, H⟩ := H
       replace H : (if t235 = true then ((outpostlaw32_num.f t229).bind fun t236 => (if t236 = 0 then (some (t228 == 3)) else (some false))) else (some false)) = some r := H
       have A18 := Aside0.mk A180
       clear A180
       by_cases c19 : t235 = true
       ·subst c19
        have H1 : ((outpostlaw32_num.f t229).bind fun t236 => (if t236 = 0 then (some (t228 == 3)) else (some false))) = some r := by rw [if_pos rfl] at H; exact H
        clear H
        have H := H1
        clear H1
        replace H := Option.bind_eq_some_iff.mp H
        obtain ⟨t236, A200, H⟩ := H
        replace H : (if t236 = 0 then (some (t228 == 3)) else (some false)) = some r := H
        have A20 := Aside0.mk A200
        clear A200
        by_cases c21 : t236 = 0
        ·rw [if_pos c21] at H
         have c21b0 : (t236 == 0) = true := beq_iff_eq.mpr c21
         have c21b1 : (t236 != 0) = false := bne_eq_false_iff_eq.mpr c21
         clear c21
         obtain rfl := Option.some.inj H
         go_wp2_with (first | ((with_reducible refine gate_callee (f := 62) rfl ?_); refine goesL_ (some 23) rfl rfl Try.func62 (by kernel_rfl) rfl #[.pointer Ap212, .int .u8 2, .int .u8 4] rfl (by (try simp only [List.map_toArray, List.map_cons, List.map_nil]) <;> rfl) ?_; (with_reducible refine (galois_Tables_Mul.calls kj2 _ t211 2 4 t216 t217 _ ?side1 A10.out).mono ?_); (case side1 => exact (gal_OK_below HT213.out HB.out)); rintro e w22 ⟨rfl, hb⟩; refine ⟨_, rfl, ?_⟩; have n0_ := aK (below_step (mvh HB.out) hb); clear HB; have HB := n0_; clear n0_; (try clear hb)) | ((with_reducible refine gate_dst (N := 28) rfl ?_); (try (refine gate_guard (by rfl) ?_; dsimp only)); refine Kd.R_lit (Kd.int .u8) _ 5 ?hg (N := 28) ?hd (xs := ([1, 2] : List Int)) (inner := [.int .u8 1, .int .u8 2]) (ok := fun _ => True) (okp := fun _ => True) ?hr ?hp (fun _ hk => hk) trivial (Below.refl _ _) (Nat.le_refl _) (by simp) ?_; (case hd => rfl); (case hg => rfl); (case hr => first | (go_simp; done) | (go_simp; rfl)); (case hp => exact (Reps.one (show Kd.M (Kd.int .u8) _ _ _ 1 [.int .u8 1] from rfl) (Reps.one (show Kd.M (Kd.int .u8) _ _ _ 2 [.int .u8 2] from rfl) (Reps.none _ _)))); intro v219 w23 ho24 hb hg_ hnew_; clear hg_ hnew_; (first | rw [← Ny218.out] at ho24 | (simp only [Int.reduceToNat] at ho24; rw [← Ny218.out] at ho24)); have n0_ := aK (Kd.R_lower ho24 (below_size (mvh HB.out))); have n1_ := aK (below_step (mvh HB.out) hb); clear HB; have HO220 := n0_; have HB := n1_; clear n0_ n1_; clear hb ho24) | ((with_reducible refine gate_dst (N := 29) rfl ?_); (try (refine gate_guard (by rfl) ?_; dsimp only)); refine Kd.R_lit (Kd.int .u8) _ 5 ?hg (N := 29) ?hd (xs := ([1, 3] : List Int)) (inner := [.int .u8 1, .int .u8 3]) (ok := fun _ => True) (okp := fun _ => True) ?hr ?hp (fun _ hk => hk) trivial (Below.refl _ _) (Nat.le_refl _) (by simp) ?_; (case hd => rfl); (case hg => rfl); (case hr => first | (go_simp; done) | (go_simp; rfl)); (case hp => exact (Reps.one (show Kd.M (Kd.int .u8) _ _ _ 1 [.int .u8 1] from rfl) (Reps.one (show Kd.M (Kd.int .u8) _ _ _ 3 [.int .u8 3] from rfl) (Reps.none _ _)))); intro v222 w25 ho26 hb hg_ hnew_; clear hg_ hnew_; (first | rw [← Ny221.out] at ho26 | (simp only [Int.reduceToNat] at ho26; rw [← Ny221.out] at ho26)); have n0_ := aK (Kd.R_elder' (mvR HO220.out) (Kd.R_base ho26) hb); have n1_ := aK (Kd.R_lower (Kd.R_new' ho26 (Kd.R_lt (mvR HO220.out))) (below_size (mvh HB.out))); have n2_ := aK (below_step (mvh HB.out) hb); clear HO220 HB; have HO220 := n0_; have HO223 := n1_; have HB := n2_; clear n0_ n1_ n2_; clear hb ho26; obtain ⟨Ao27, co27, eo27⟩ := Kd.R_slice HO220.out; subst eo27; obtain ⟨Ao28, co28, eo28⟩ := Kd.R_slice HO223.out; subst eo28) | ((with_reducible refine gate_callee (f := 18) rfl ?_); refine goesL_ (some 30) rfl rfl Try.func18 (by kernel_rfl) rfl #[.pointer Ap212, .slice Ao27 y218.length co27, .slice Ao28 y221.length co28] rfl (by (try simp only [List.map_toArray, List.map_cons, List.map_nil]) <;> rfl) ?_; (with_reducible refine (galois_Tables_Times.calls kj2 _ t211 (fun k_ => some k_ = (.slice Ao27 y218.length co27 : Value).ownBlock) _ _ y218 (fun k_ => some k_ = (.slice Ao28 y221.length co28 : Value).ownBlock) _ _ y221 t224 t227 _ ?side1 ?side2 ?side3 A11.out).mono ?_); (case side1 => exact (gal_OK_below HT213.out HB.out)); (case side2 => exact Kd.R_V (Kd.R_tight rfl (HO220.out))); (case side3 => exact Kd.R_V (Kd.R_tight rfl (HO223.out))); rintro e w29 ⟨v225, rfl, ho0, hb⟩; refine ⟨_, rfl, ?_⟩; have n0_ := aK (Kd.R_elder' (mvR HO220.out) (Kd.R_base ho0) hb); have n1_ := aK (Kd.R_elder' (mvR HO223.out) (Kd.R_base ho0) hb); have n2_ := aK (Kd.R_lower (Kd.R_new' (Kd.R_new' (Kd.R_mono (ok' := fun k_ => True) ho0 (fun _ hk_ => trivial)) (Kd.R_lt (mvR HO220.out))) (Kd.R_lt (mvR HO223.out))) (below_size (mvh HB.out))); have n3_ := aK (below_step (mvh HB.out) hb); clear HO220 HO223 HB; have HO220 := n0_; have HO223 := n1_; have HO226 := n2_; have HB := n3_; clear n0_ n1_ n2_ n3_; (try clear hb); (try clear ho0)) | ((with_reducible refine gate_callee (f := 63) rfl ?_); refine goesL_ (some 35) rfl rfl Try.func63 (by kernel_rfl) rfl #[.pointer Ap212, .int .u8 3] rfl (by (try simp only [List.map_toArray, List.map_cons, List.map_nil]) <;> rfl) ?_; (with_reducible refine (galois_Tables_Log.calls kj2 _ t211 3 t228 t229 _ ?side1 A12.out).mono ?_); (case side1 => exact (gal_OK_below HT213.out HB.out)); rintro e w30 ⟨rfl, hb⟩; refine ⟨_, rfl, ?_⟩; have n0_ := aK (Kd.R_below (mvR HO220.out) hb); have n1_ := aK (Kd.R_below (mvR HO223.out) hb); have n2_ := aK (Kd.R_below (mvR HO226.out) hb); have n3_ := aK (below_step (mvh HB.out) hb); clear HO220 HO223 HO226 HB; have HO220 := n0_; have HO223 := n1_; have HO226 := n2_; have HB := n3_; clear n0_ n1_ n2_ n3_; (try clear hb)) | ((with_reducible refine gate_callee (f := 13) rfl ?_); refine goesL_ (some 39) rfl rfl Try.func13 (by kernel_rfl) rfl #[.int .i64 t217] rfl (by (try simp only [List.map_toArray, List.map_cons, List.map_nil]) <;> rfl) ?_; (with_reducible refine (outpostlaw32_num.calls t217 t230 _ A13.out).mono ?_); rintro e w' ⟨rfl, ⟨nd, rfl⟩⟩; refine ⟨_, rfl, ?_⟩) | (go_at_call 13; (with_reducible refine (outpostlaw32_num.calls t227 t231 _ A16.out).mono ?_); rintro e w' ⟨rfl, ⟨nd, rfl⟩⟩) | ((with_reducible refine gate_dst (N := 52) rfl ?_); (try (refine gate_guard (by rfl) ?_; dsimp only)); refine Kd.R_lit (Kd.int .u8) _ 5 ?hg (N := 52) ?hd (xs := ([1, 1, 6] : List Int)) (inner := [.int .u8 1, .int .u8 1, .int .u8 6]) (ok := fun _ => True) (okp := fun _ => True) ?hr ?hp (fun _ hk => hk) trivial (Below.refl _ _) (Nat.le_refl _) (by simp) ?_; (case hd => rfl); (case hg => rfl); (case hr => first | (go_simp; done) | (go_simp; rfl)); (case hp => exact (Reps.one (show Kd.M (Kd.int .u8) _ _ _ 1 [.int .u8 1] from rfl) (Reps.one (show Kd.M (Kd.int .u8) _ _ _ 1 [.int .u8 1] from rfl) (Reps.one (show Kd.M (Kd.int .u8) _ _ _ 6 [.int .u8 6] from rfl) (Reps.none _ _))))); intro v233 w31 ho32 hb hg_ hnew_; clear hg_ hnew_; (first | rw [← Ny232.out] at ho32 | (simp only [Int.reduceToNat] at ho32; rw [← Ny232.out] at ho32)); have n0_ := aK (Kd.R_elder' (mvR HO220.out) (Kd.R_base ho32) hb); have n1_ := aK (Kd.R_elder' (mvR HO223.out) (Kd.R_base ho32) hb); have n2_ := aK (Kd.R_elder' (mvR HO226.out) (Kd.R_base ho32) hb); have n3_ := aK (Kd.R_lower (Kd.R_new' (Kd.R_new' (Kd.R_new' ho32 (Kd.R_lt (mvR HO220.out))) (Kd.R_lt (mvR HO223.out))) (Kd.R_lt (mvR HO226.out))) (below_size (mvh HB.out))); have n4_ := aK (below_step (mvh HB.out) hb); clear HO220 HO223 HO226 HB; have HO220 := n0_; have HO223 := n1_; have HO226 := n2_; have HO234 := n3_; have HB := n4_; clear n0_ n1_ n2_ n3_ n4_; clear hb ho32; obtain ⟨Ao33, co33, eo33⟩ := Kd.R_slice HO226.out; subst eo33; obtain ⟨Ao34, co34, eo34⟩ := Kd.R_slice HO234.out; subst eo34) | (go_at_call 12; (with_reducible refine (outpostlaw32_same.calls _ _ t224 _ _ y232 true _ ?side1 ?side2 ?side3 ?side4 A18.out).mono ?_); (case side1 => repeat (first | exact (Kd.R_reads' HO226.out).2.2 | (with_reducible refine Kd.C_alloc ?_ _) | (with_reducible refine Kd.C_drewN ?_ _) | (with_reducible refine Kd.C_drew ?_))); (case side2 => exact (Kd.R_reads' HO226.out).2.1); (case side3 => repeat (first | exact (Kd.R_reads' HO234.out).2.2 | (with_reducible refine Kd.C_alloc ?_ _) | (with_reducible refine Kd.C_drewN ?_ _) | (with_reducible refine Kd.C_drew ?_))); (case side4 => exact (Kd.R_reads' HO234.out).2.1); rintro e w' ⟨rfl, ⟨nd, rfl⟩⟩) | (go_at_call 13; (with_reducible refine (outpostlaw32_num.calls t229 t236 _ A20.out).mono ?_); rintro e w' ⟨rfl, ⟨nd, rfl⟩⟩))
         go_ret
         exact ⟨by first | rfl | (simp [errW_none, errW_some] <;> rfl) | (simp [*, errW_none, errW_some] <;> rfl), below_step HB00.out (mvh HB.out)⟩
        ·rw [if_neg c21] at H
         have c21b0 : (t236 == 0) = false := beq_eq_false_iff_ne.mpr c21
         have c21b1 : (t236 != 0) = true := bne_iff_ne.mpr c21
         obtain rfl := Option.some.inj H
         go_wp2_with (first | ((with_reducible refine gate_callee (f := 62) rfl ?_); refine goesL_ (some 23) rfl rfl Try.func62 (by kernel_rfl) rfl #[.pointer Ap212, .int .u8 2, .int .u8 4] rfl (by (try simp only [List.map_toArray, List.map_cons, List.map_nil]) <;> rfl) ?_; (with_reducible refine (galois_Tables_Mul.calls kj2 _ t211 2 4 t216 t217 _ ?side1 A10.out).mono ?_); (case side1 => exact (gal_OK_below HT213.out HB.out)); rintro e w35 ⟨rfl, hb⟩; refine ⟨_, rfl, ?_⟩; have n0_ := aK (below_step (mvh HB.out) hb); clear HB; have HB := n0_; clear n0_; (try clear hb)) | ((with_reducible refine gate_dst (N := 28) rfl ?_); (try (refine gate_guard (by rfl) ?_; dsimp only)); refine Kd.R_lit (Kd.int .u8) _ 5 ?hg (N := 28) ?hd (xs := ([1, 2] : List Int)) (inner := [.int .u8 1, .int .u8 2]) (ok := fun _ => True) (okp := fun _ => True) ?hr ?hp (fun _ hk => hk) trivial (Below.refl _ _) (Nat.le_refl _) (by simp) ?_; (case hd => rfl); (case hg => rfl); (case hr => first | (go_simp; done) | (go_simp; rfl)); (case hp => exact (Reps.one (show Kd.M (Kd.int .u8) _ _ _ 1 [.int .u8 1] from rfl) (Reps.one (show Kd.M (Kd.int .u8) _ _ _ 2 [.int .u8 2] from rfl) (Reps.none _ _)))); intro v219 w36 ho37 hb hg_ hnew_; clear hg_ hnew_; (first | rw [← Ny218.out] at ho37 | (simp only [Int.reduceToNat] at ho37; rw [← Ny218.out] at ho37)); have n0_ := aK (Kd.R_lower ho37 (below_size (mvh HB.out))); have n1_ := aK (below_step (mvh HB.out) hb); clear HB; have HO220 := n0_; have HB := n1_; clear n0_ n1_; clear hb ho37) | ((with_reducible refine gate_dst (N := 29) rfl ?_); (try (refine gate_guard (by rfl) ?_; dsimp only)); refine Kd.R_lit (Kd.int .u8) _ 5 ?hg (N := 29) ?hd (xs := ([1, 3] : List Int)) (inner := [.int .u8 1, .int .u8 3]) (ok := fun _ => True) (okp := fun _ => True) ?hr ?hp (fun _ hk => hk) trivial (Below.refl _ _) (Nat.le_refl _) (by simp) ?_; (case hd => rfl); (case hg => rfl); (case hr => first | (go_simp; done) | (go_simp; rfl)); (case hp => exact (Reps.one (show Kd.M (Kd.int .u8) _ _ _ 1 [.int .u8 1] from rfl) (Reps.one (show Kd.M (Kd.int .u8) _ _ _ 3 [.int .u8 3] from rfl) (Reps.none _ _)))); intro v222 w38 ho39 hb hg_ hnew_; clear hg_ hnew_; (first | rw [← Ny221.out] at ho39 | (simp only [Int.reduceToNat] at ho39; rw [← Ny221.out] at ho39)); have n0_ := aK (Kd.R_elder' (mvR HO220.out) (Kd.R_base ho39) hb); have n1_ := aK (Kd.R_lower (Kd.R_new' ho39 (Kd.R_lt (mvR HO220.out))) (below_size (mvh HB.out))); have n2_ := aK (below_step (mvh HB.out) hb); clear HO220 HB; have HO220 := n0_; have HO223 := n1_; have HB := n2_; clear n0_ n1_ n2_; clear hb ho39; obtain ⟨Ao40, co40, eo40⟩ := Kd.R_slice HO220.out; subst eo40; obtain ⟨Ao41, co41, eo41⟩ := Kd.R_slice HO223.out; subst eo41) | ((with_reducible refine gate_callee (f := 18) rfl ?_); refine goesL_ (some 30) rfl rfl Try.func18 (by kernel_rfl) rfl #[.pointer Ap212, .slice Ao40 y218.length co40, .slice Ao41 y221.length co41] rfl (by (try simp only [List.map_toArray, List.map_cons, List.map_nil]) <;> rfl) ?_; (with_reducible refine (galois_Tables_Times.calls kj2 _ t211 (fun k_ => some k_ = (.slice Ao40 y218.length co40 : Value).ownBlock) _ _ y218 (fun k_ => some k_ = (.slice Ao41 y221.length co41 : Value).ownBlock) _ _ y221 t224 t227 _ ?side1 ?side2 ?side3 A11.out).mono ?_); (case side1 => exact (gal_OK_below HT213.out HB.out)); (case side2 => exact Kd.R_V (Kd.R_tight rfl (HO220.out))); (case side3 => exact Kd.R_V (Kd.R_tight rfl (HO223.out))); rintro e w42 ⟨v225, rfl, ho0, hb⟩; refine ⟨_, rfl, ?_⟩; have n0_ := aK (Kd.R_elder' (mvR HO220.out) (Kd.R_base ho0) hb); have n1_ := aK (Kd.R_elder' (mvR HO223.out) (Kd.R_base ho0) hb); have n2_ := aK (Kd.R_lower (Kd.R_new' (Kd.R_new' (Kd.R_mono (ok' := fun k_ => True) ho0 (fun _ hk_ => trivial)) (Kd.R_lt (mvR HO220.out))) (Kd.R_lt (mvR HO223.out))) (below_size (mvh HB.out))); have n3_ := aK (below_step (mvh HB.out) hb); clear HO220 HO223 HB; have HO220 := n0_; have HO223 := n1_; have HO226 := n2_; have HB := n3_; clear n0_ n1_ n2_ n3_; (try clear hb); (try clear ho0)) | ((with_reducible refine gate_callee (f := 63) rfl ?_); refine goesL_ (some 35) rfl rfl Try.func63 (by kernel_rfl) rfl #[.pointer Ap212, .int .u8 3] rfl (by (try simp only [List.map_toArray, List.map_cons, List.map_nil]) <;> rfl) ?_; (with_reducible refine (galois_Tables_Log.calls kj2 _ t211 3 t228 t229 _ ?side1 A12.out).mono ?_); (case side1 => exact (gal_OK_below HT213.out HB.out)); rintro e w43 ⟨rfl, hb⟩; refine ⟨_, rfl, ?_⟩; have n0_ := aK (Kd.R_below (mvR HO220.out) hb); have n1_ := aK (Kd.R_below (mvR HO223.out) hb); have n2_ := aK (Kd.R_below (mvR HO226.out) hb); have n3_ := aK (below_step (mvh HB.out) hb); clear HO220 HO223 HO226 HB; have HO220 := n0_; have HO223 := n1_; have HO226 := n2_; have HB := n3_; clear n0_ n1_ n2_ n3_; (try clear hb)) | ((with_reducible refine gate_callee (f := 13) rfl ?_); refine goesL_ (some 39) rfl rfl Try.func13 (by kernel_rfl) rfl #[.int .i64 t217] rfl (by (try simp only [List.map_toArray, List.map_cons, List.map_nil]) <;> rfl) ?_; (with_reducible refine (outpostlaw32_num.calls t217 t230 _ A13.out).mono ?_); rintro e w' ⟨rfl, ⟨nd, rfl⟩⟩; refine ⟨_, rfl, ?_⟩) | (go_at_call 13; (with_reducible refine (outpostlaw32_num.calls t227 t231 _ A16.out).mono ?_); rintro e w' ⟨rfl, ⟨nd, rfl⟩⟩) | ((with_reducible refine gate_dst (N := 52) rfl ?_); (try (refine gate_guard (by rfl) ?_; dsimp only)); refine Kd.R_lit (Kd.int .u8) _ 5 ?hg (N := 52) ?hd (xs := ([1, 1, 6] : List Int)) (inner := [.int .u8 1, .int .u8 1, .int .u8 6]) (ok := fun _ => True) (okp := fun _ => True) ?hr ?hp (fun _ hk => hk) trivial (Below.refl _ _) (Nat.le_refl _) (by simp) ?_; (case hd => rfl); (case hg => rfl); (case hr => first | (go_simp; done) | (go_simp; rfl)); (case hp => exact (Reps.one (show Kd.M (Kd.int .u8) _ _ _ 1 [.int .u8 1] from rfl) (Reps.one (show Kd.M (Kd.int .u8) _ _ _ 1 [.int .u8 1] from rfl) (Reps.one (show Kd.M (Kd.int .u8) _ _ _ 6 [.int .u8 6] from rfl) (Reps.none _ _))))); intro v233 w44 ho45 hb hg_ hnew_; clear hg_ hnew_; (first | rw [← Ny232.out] at ho45 | (simp only [Int.reduceToNat] at ho45; rw [← Ny232.out] at ho45)); have n0_ := aK (Kd.R_elder' (mvR HO220.out) (Kd.R_base ho45) hb); have n1_ := aK (Kd.R_elder' (mvR HO223.out) (Kd.R_base ho45) hb); have n2_ := aK (Kd.R_elder' (mvR HO226.out) (Kd.R_base ho45) hb); have n3_ := aK (Kd.R_lower (Kd.R_new' (Kd.R_new' (Kd.R_new' ho45 (Kd.R_lt (mvR HO220.out))) (Kd.R_lt (mvR HO223.out))) (Kd.R_lt (mvR HO226.out))) (below_size (mvh HB.out))); have n4_ := aK (below_step (mvh HB.out) hb); clear HO220 HO223 HO226 HB; have HO220 := n0_; have HO223 := n1_; have HO226 := n2_; have HO234 := n3_; have HB := n4_; clear n0_ n1_ n2_ n3_ n4_; clear hb ho45; obtain ⟨Ao46, co46, eo46⟩ := Kd.R_slice HO226.out; subst eo46; obtain ⟨Ao47, co47, eo47⟩ := Kd.R_slice HO234.out; subst eo47) | (go_at_call 12; (with_reducible refine (outpostlaw32_same.calls _ _ t224 _ _ y232 true _ ?side1 ?side2 ?side3 ?side4 A18.out).mono ?_); (case side1 => repeat (first | exact (Kd.R_reads' HO226.out).2.2 | (with_reducible refine Kd.C_alloc ?_ _) | (with_reducible refine Kd.C_drewN ?_ _) | (with_reducible refine Kd.C_drew ?_))); (case side2 => exact (Kd.R_reads' HO226.out).2.1); (case side3 => repeat (first | exact (Kd.R_reads' HO234.out).2.2 | (with_reducible refine Kd.C_alloc ?_ _) | (with_reducible refine Kd.C_drewN ?_ _) | (with_reducible refine Kd.C_drew ?_))); (case side4 => exact (Kd.R_reads' HO234.out).2.1); rintro e w' ⟨rfl, ⟨nd, rfl⟩⟩) | (go_at_call 13; (with_reducible refine (outpostlaw32_num.calls t229 t236 _ A20.out).mono ?_); rintro e w' ⟨rfl, ⟨nd, rfl⟩⟩))
         go_ret
         exact ⟨by first | rfl | (simp [errW_none, errW_some] <;> rfl) | (simp [*, errW_none, errW_some] <;> rfl), below_step HB00.out (mvh HB.out)⟩
       ·replace c19 := Bool.eq_false_iff.mpr c19
        subst c19
        have H1 : (some false) = some r := by rw [if_neg (show ¬ (false = true) by decide)] at H; exact H
        clear H
        have H := H1
        clear H1
        obtain rfl := Option.some.inj H
        go_wp2_with (first | ((with_reducible refine gate_callee (f := 62) rfl ?_); refine goesL_ (some 23) rfl rfl Try.func62 (by kernel_rfl) rfl #[.pointer Ap212, .int .u8 2, .int .u8 4] rfl (by (try simp only [List.map_toArray, List.map_cons, List.map_nil]) <;> rfl) ?_; (with_reducible refine (galois_Tables_Mul.calls kj2 _ t211 2 4 t216 t217 _ ?side1 A10.out).mono ?_); (case side1 => exact (gal_OK_below HT213.out HB.out)); rintro e w48 ⟨rfl, hb⟩; refine ⟨_, rfl, ?_⟩; have n0_ := aK (below_step (mvh HB.out) hb); clear HB; have HB := n0_; clear n0_; (try clear hb)) | ((with_reducible refine gate_dst (N := 28) rfl ?_); (try (refine gate_guard (by rfl) ?_; dsimp only)); refine Kd.R_lit (Kd.int .u8) _ 5 ?hg (N := 28) ?hd (xs := ([1, 2] : List Int)) (inner := [.int .u8 1, .int .u8 2]) (ok := fun _ => True) (okp := fun _ => True) ?hr ?hp (fun _ hk => hk) trivial (Below.refl _ _) (Nat.le_refl _) (by simp) ?_; (case hd => rfl); (case hg => rfl); (case hr => first | (go_simp; done) | (go_simp; rfl)); (case hp => exact (Reps.one (show Kd.M (Kd.int .u8) _ _ _ 1 [.int .u8 1] from rfl) (Reps.one (show Kd.M (Kd.int .u8) _ _ _ 2 [.int .u8 2] from rfl) (Reps.none _ _)))); intro v219 w49 ho50 hb hg_ hnew_; clear hg_ hnew_; (first | rw [← Ny218.out] at ho50 | (simp only [Int.reduceToNat] at ho50; rw [← Ny218.out] at ho50)); have n0_ := aK (Kd.R_lower ho50 (below_size (mvh HB.out))); have n1_ := aK (below_step (mvh HB.out) hb); clear HB; have HO220 := n0_; have HB := n1_; clear n0_ n1_; clear hb ho50) | ((with_reducible refine gate_dst (N := 29) rfl ?_); (try (refine gate_guard (by rfl) ?_; dsimp only)); refine Kd.R_lit (Kd.int .u8) _ 5 ?hg (N := 29) ?hd (xs := ([1, 3] : List Int)) (inner := [.int .u8 1, .int .u8 3]) (ok := fun _ => True) (okp := fun _ => True) ?hr ?hp (fun _ hk => hk) trivial (Below.refl _ _) (Nat.le_refl _) (by simp) ?_; (case hd => rfl); (case hg => rfl); (case hr => first | (go_simp; done) | (go_simp; rfl)); (case hp => exact (Reps.one (show Kd.M (Kd.int .u8) _ _ _ 1 [.int .u8 1] from rfl) (Reps.one (show Kd.M (Kd.int .u8) _ _ _ 3 [.int .u8 3] from rfl) (Reps.none _ _)))); intro v222 w51 ho52 hb hg_ hnew_; clear hg_ hnew_; (first | rw [← Ny221.out] at ho52 | (simp only [Int.reduceToNat] at ho52; rw [← Ny221.out] at ho52)); have n0_ := aK (Kd.R_elder' (mvR HO220.out) (Kd.R_base ho52) hb); have n1_ := aK (Kd.R_lower (Kd.R_new' ho52 (Kd.R_lt (mvR HO220.out))) (below_size (mvh HB.out))); have n2_ := aK (below_step (mvh HB.out) hb); clear HO220 HB; have HO220 := n0_; have HO223 := n1_; have HB := n2_; clear n0_ n1_ n2_; clear hb ho52; obtain ⟨Ao53, co53, eo53⟩ := Kd.R_slice HO220.out; subst eo53; obtain ⟨Ao54, co54, eo54⟩ := Kd.R_slice HO223.out; subst eo54) | ((with_reducible refine gate_callee (f := 18) rfl ?_); refine goesL_ (some 30) rfl rfl Try.func18 (by kernel_rfl) rfl #[.pointer Ap212, .slice Ao53 y218.length co53, .slice Ao54 y221.length co54] rfl (by (try simp only [List.map_toArray, List.map_cons, List.map_nil]) <;> rfl) ?_; (with_reducible refine (galois_Tables_Times.calls kj2 _ t211 (fun k_ => some k_ = (.slice Ao53 y218.length co53 : Value).ownBlock) _ _ y218 (fun k_ => some k_ = (.slice Ao54 y221.length co54 : Value).ownBlock) _ _ y221 t224 t227 _ ?side1 ?side2 ?side3 A11.out).mono ?_); (case side1 => exact (gal_OK_below HT213.out HB.out)); (case side2 => exact Kd.R_V (Kd.R_tight rfl (HO220.out))); (case side3 => exact Kd.R_V (Kd.R_tight rfl (HO223.out))); rintro e w55 ⟨v225, rfl, ho0, hb⟩; refine ⟨_, rfl, ?_⟩; have n0_ := aK (Kd.R_elder' (mvR HO220.out) (Kd.R_base ho0) hb); have n1_ := aK (Kd.R_elder' (mvR HO223.out) (Kd.R_base ho0) hb); have n2_ := aK (Kd.R_lower (Kd.R_new' (Kd.R_new' (Kd.R_mono (ok' := fun k_ => True) ho0 (fun _ hk_ => trivial)) (Kd.R_lt (mvR HO220.out))) (Kd.R_lt (mvR HO223.out))) (below_size (mvh HB.out))); have n3_ := aK (below_step (mvh HB.out) hb); clear HO220 HO223 HB; have HO220 := n0_; have HO223 := n1_; have HO226 := n2_; have HB := n3_; clear n0_ n1_ n2_ n3_; (try clear hb); (try clear ho0)) | ((with_reducible refine gate_callee (f := 63) rfl ?_); refine goesL_ (some 35) rfl rfl Try.func63 (by kernel_rfl) rfl #[.pointer Ap212, .int .u8 3] rfl (by (try simp only [List.map_toArray, List.map_cons, List.map_nil]) <;> rfl) ?_; (with_reducible refine (galois_Tables_Log.calls kj2 _ t211 3 t228 t229 _ ?side1 A12.out).mono ?_); (case side1 => exact (gal_OK_below HT213.out HB.out)); rintro e w56 ⟨rfl, hb⟩; refine ⟨_, rfl, ?_⟩; have n0_ := aK (Kd.R_below (mvR HO220.out) hb); have n1_ := aK (Kd.R_below (mvR HO223.out) hb); have n2_ := aK (Kd.R_below (mvR HO226.out) hb); have n3_ := aK (below_step (mvh HB.out) hb); clear HO220 HO223 HO226 HB; have HO220 := n0_; have HO223 := n1_; have HO226 := n2_; have HB := n3_; clear n0_ n1_ n2_ n3_; (try clear hb)) | ((with_reducible refine gate_callee (f := 13) rfl ?_); refine goesL_ (some 39) rfl rfl Try.func13 (by kernel_rfl) rfl #[.int .i64 t217] rfl (by (try simp only [List.map_toArray, List.map_cons, List.map_nil]) <;> rfl) ?_; (with_reducible refine (outpostlaw32_num.calls t217 t230 _ A13.out).mono ?_); rintro e w' ⟨rfl, ⟨nd, rfl⟩⟩; refine ⟨_, rfl, ?_⟩) | (go_at_call 13; (with_reducible refine (outpostlaw32_num.calls t227 t231 _ A16.out).mono ?_); rintro e w' ⟨rfl, ⟨nd, rfl⟩⟩) | ((with_reducible refine gate_dst (N := 52) rfl ?_); (try (refine gate_guard (by rfl) ?_; dsimp only)); refine Kd.R_lit (Kd.int .u8) _ 5 ?hg (N := 52) ?hd (xs := ([1, 1, 6] : List Int)) (inner := [.int .u8 1, .int .u8 1, .int .u8 6]) (ok := fun _ => True) (okp := fun _ => True) ?hr ?hp (fun _ hk => hk) trivial (Below.refl _ _) (Nat.le_refl _) (by simp) ?_; (case hd => rfl); (case hg => rfl); (case hr => first | (go_simp; done) | (go_simp; rfl)); (case hp => exact (Reps.one (show Kd.M (Kd.int .u8) _ _ _ 1 [.int .u8 1] from rfl) (Reps.one (show Kd.M (Kd.int .u8) _ _ _ 1 [.int .u8 1] from rfl) (Reps.one (show Kd.M (Kd.int .u8) _ _ _ 6 [.int .u8 6] from rfl) (Reps.none _ _))))); intro v233 w57 ho58 hb hg_ hnew_; clear hg_ hnew_; (first | rw [← Ny232.out] at ho58 | (simp only [Int.reduceToNat] at ho58; rw [← Ny232.out] at ho58)); have n0_ := aK (Kd.R_elder' (mvR HO220.out) (Kd.R_base ho58) hb); have n1_ := aK (Kd.R_elder' (mvR HO223.out) (Kd.R_base ho58) hb); have n2_ := aK (Kd.R_elder' (mvR HO226.out) (Kd.R_base ho58) hb); have n3_ := aK (Kd.R_lower (Kd.R_new' (Kd.R_new' (Kd.R_new' ho58 (Kd.R_lt (mvR HO220.out))) (Kd.R_lt (mvR HO223.out))) (Kd.R_lt (mvR HO226.out))) (below_size (mvh HB.out))); have n4_ := aK (below_step (mvh HB.out) hb); clear HO220 HO223 HO226 HB; have HO220 := n0_; have HO223 := n1_; have HO226 := n2_; have HO234 := n3_; have HB := n4_; clear n0_ n1_ n2_ n3_ n4_; clear hb ho58; obtain ⟨Ao59, co59, eo59⟩ := Kd.R_slice HO226.out; subst eo59; obtain ⟨Ao60, co60, eo60⟩ := Kd.R_slice HO234.out; subst eo60) | (go_at_call 12; (with_reducible refine (outpostlaw32_same.calls _ _ t224 _ _ y232 false _ ?side1 ?side2 ?side3 ?side4 A18.out).mono ?_); (case side1 => repeat (first | exact (Kd.R_reads' HO226.out).2.2 | (with_reducible refine Kd.C_alloc ?_ _) | (with_reducible refine Kd.C_drewN ?_ _) | (with_reducible refine Kd.C_drew ?_))); (case side2 => exact (Kd.R_reads' HO226.out).2.1); (case side3 => repeat (first | exact (Kd.R_reads' HO234.out).2.2 | (with_reducible refine Kd.C_alloc ?_ _) | (with_reducible refine Kd.C_drewN ?_ _) | (with_reducible refine Kd.C_drew ?_))); (case side4 => exact (Kd.R_reads' HO234.out).2.1); rintro e w' ⟨rfl, ⟨nd, rfl⟩⟩))
        go_ret
        exact ⟨by first | rfl | (simp [errW_none, errW_some] <;> rfl) | (simp [*, errW_none, errW_some] <;> rfl), below_step HB00.out (mvh HB.out)⟩
      ·rw [if_neg c17] at H
       have c17b0 : (t231 == 0) = false := beq_eq_false_iff_ne.mpr c17
       have c17b1 : (t231 != 0) = true := bne_iff_ne.mpr c17
       obtain rfl := Option.some.inj H
       go_wp2_with (first | ((with_reducible refine gate_callee (f := 62) rfl ?_); refine goesL_ (some 23) rfl rfl Try.func62 (by kernel_rfl) rfl #[.pointer Ap212, .int .u8 2, .int .u8 4] rfl (by (try simp only [List.map_toArray, List.map_cons, List.map_nil]) <;> rfl) ?_; (with_reducible refine (galois_Tables_Mul.calls kj2 _ t211 2 4 t216 t217 _ ?side1 A10.out).mono ?_); (case side1 => exact (gal_OK_below HT213.out HB.out)); rintro e w61 ⟨rfl, hb⟩; refine ⟨_, rfl, ?_⟩; have n0_ := aK (below_step (mvh HB.out) hb); clear HB; have HB := n0_; clear n0_; (try clear hb)) | ((with_reducible refine gate_dst (N := 28) rfl ?_); (try (refine gate_guard (by rfl) ?_; dsimp only)); refine Kd.R_lit (Kd.int .u8) _ 5 ?hg (N := 28) ?hd (xs := ([1, 2] : List Int)) (inner := [.int .u8 1, .int .u8 2]) (ok := fun _ => True) (okp := fun _ => True) ?hr ?hp (fun _ hk => hk) trivial (Below.refl _ _) (Nat.le_refl _) (by simp) ?_; (case hd => rfl); (case hg => rfl); (case hr => first | (go_simp; done) | (go_simp; rfl)); (case hp => exact (Reps.one (show Kd.M (Kd.int .u8) _ _ _ 1 [.int .u8 1] from rfl) (Reps.one (show Kd.M (Kd.int .u8) _ _ _ 2 [.int .u8 2] from rfl) (Reps.none _ _)))); intro v219 w62 ho63 hb hg_ hnew_; clear hg_ hnew_; (first | rw [← Ny218.out] at ho63 | (simp only [Int.reduceToNat] at ho63; rw [← Ny218.out] at ho63)); have n0_ := aK (Kd.R_lower ho63 (below_size (mvh HB.out))); have n1_ := aK (below_step (mvh HB.out) hb); clear HB; have HO220 := n0_; have HB := n1_; clear n0_ n1_; clear hb ho63) | ((with_reducible refine gate_dst (N := 29) rfl ?_); (try (refine gate_guard (by rfl) ?_; dsimp only)); refine Kd.R_lit (Kd.int .u8) _ 5 ?hg (N := 29) ?hd (xs := ([1, 3] : List Int)) (inner := [.int .u8 1, .int .u8 3]) (ok := fun _ => True) (okp := fun _ => True) ?hr ?hp (fun _ hk => hk) trivial (Below.refl _ _) (Nat.le_refl _) (by simp) ?_; (case hd => rfl); (case hg => rfl); (case hr => first | (go_simp; done) | (go_simp; rfl)); (case hp => exact (Reps.one (show Kd.M (Kd.int .u8) _ _ _ 1 [.int .u8 1] from rfl) (Reps.one (show Kd.M (Kd.int .u8) _ _ _ 3 [.int .u8 3] from rfl) (Reps.none _ _)))); intro v222 w64 ho65 hb hg_ hnew_; clear hg_ hnew_; (first | rw [← Ny221.out] at ho65 | (simp only [Int.reduceToNat] at ho65; rw [← Ny221.out] at ho65)); have n0_ := aK (Kd.R_elder' (mvR HO220.out) (Kd.R_base ho65) hb); have n1_ := aK (Kd.R_lower (Kd.R_new' ho65 (Kd.R_lt (mvR HO220.out))) (below_size (mvh HB.out))); have n2_ := aK (below_step (mvh HB.out) hb); clear HO220 HB; have HO220 := n0_; have HO223 := n1_; have HB := n2_; clear n0_ n1_ n2_; clear hb ho65; obtain ⟨Ao66, co66, eo66⟩ := Kd.R_slice HO220.out; subst eo66; obtain ⟨Ao67, co67, eo67⟩ := Kd.R_slice HO223.out; subst eo67) | ((with_reducible refine gate_callee (f := 18) rfl ?_); refine goesL_ (some 30) rfl rfl Try.func18 (by kernel_rfl) rfl #[.pointer Ap212, .slice Ao66 y218.length co66, .slice Ao67 y221.length co67] rfl (by (try simp only [List.map_toArray, List.map_cons, List.map_nil]) <;> rfl) ?_; (with_reducible refine (galois_Tables_Times.calls kj2 _ t211 (fun k_ => some k_ = (.slice Ao66 y218.length co66 : Value).ownBlock) _ _ y218 (fun k_ => some k_ = (.slice Ao67 y221.length co67 : Value).ownBlock) _ _ y221 t224 t227 _ ?side1 ?side2 ?side3 A11.out).mono ?_); (case side1 => exact (gal_OK_below HT213.out HB.out)); (case side2 => exact Kd.R_V (Kd.R_tight rfl (HO220.out))); (case side3 => exact Kd.R_V (Kd.R_tight rfl (HO223.out))); rintro e w68 ⟨v225, rfl, ho0, hb⟩; refine ⟨_, rfl, ?_⟩; have n0_ := aK (Kd.R_elder' (mvR HO220.out) (Kd.R_base ho0) hb); have n1_ := aK (Kd.R_elder' (mvR HO223.out) (Kd.R_base ho0) hb); have n2_ := aK (Kd.R_lower (Kd.R_new' (Kd.R_new' (Kd.R_mono (ok' := fun k_ => True) ho0 (fun _ hk_ => trivial)) (Kd.R_lt (mvR HO220.out))) (Kd.R_lt (mvR HO223.out))) (below_size (mvh HB.out))); have n3_ := aK (below_step (mvh HB.out) hb); clear HO220 HO223 HB; have HO220 := n0_; have HO223 := n1_; have HO226 := n2_; have HB := n3_; clear n0_ n1_ n2_ n3_; (try clear hb); (try clear ho0)) | ((with_reducible refine gate_callee (f := 63) rfl ?_); refine goesL_ (some 35) rfl rfl Try.func63 (by kernel_rfl) rfl #[.pointer Ap212, .int .u8 3] rfl (by (try simp only [List.map_toArray, List.map_cons, List.map_nil]) <;> rfl) ?_; (with_reducible refine (galois_Tables_Log.calls kj2 _ t211 3 t228 t229 _ ?side1 A12.out).mono ?_); (case side1 => exact (gal_OK_below HT213.out HB.out)); rintro e w69 ⟨rfl, hb⟩; refine ⟨_, rfl, ?_⟩; have n0_ := aK (Kd.R_below (mvR HO220.out) hb); have n1_ := aK (Kd.R_below (mvR HO223.out) hb); have n2_ := aK (Kd.R_below (mvR HO226.out) hb); have n3_ := aK (below_step (mvh HB.out) hb); clear HO220 HO223 HO226 HB; have HO220 := n0_; have HO223 := n1_; have HO226 := n2_; have HB := n3_; clear n0_ n1_ n2_ n3_; (try clear hb)) | ((with_reducible refine gate_callee (f := 13) rfl ?_); refine goesL_ (some 39) rfl rfl Try.func13 (by kernel_rfl) rfl #[.int .i64 t217] rfl (by (try simp only [List.map_toArray, List.map_cons, List.map_nil]) <;> rfl) ?_; (with_reducible refine (outpostlaw32_num.calls t217 t230 _ A13.out).mono ?_); rintro e w' ⟨rfl, ⟨nd, rfl⟩⟩; refine ⟨_, rfl, ?_⟩) | (go_at_call 13; (with_reducible refine (outpostlaw32_num.calls t227 t231 _ A16.out).mono ?_); rintro e w' ⟨rfl, ⟨nd, rfl⟩⟩))
       go_ret
       exact ⟨by first | rfl | (simp [errW_none, errW_some] <;> rfl) | (simp [*, errW_none, errW_some] <;> rfl), below_step HB00.out (mvh HB.out)⟩
     ·rw [if_neg c15] at H
      have c15b0 : (t216 == 3) = false := beq_eq_false_iff_ne.mpr c15
      have c15b1 : (t216 != 3) = true := bne_iff_ne.mpr c15
      obtain rfl := Option.some.inj H
      go_wp2_with (first | ((with_reducible refine gate_callee (f := 62) rfl ?_); refine goesL_ (some 23) rfl rfl Try.func62 (by kernel_rfl) rfl #[.pointer Ap212, .int .u8 2, .int .u8 4] rfl (by (try simp only [List.map_toArray, List.map_cons, List.map_nil]) <;> rfl) ?_; (with_reducible refine (galois_Tables_Mul.calls kj2 _ t211 2 4 t216 t217 _ ?side1 A10.out).mono ?_); (case side1 => exact (gal_OK_below HT213.out HB.out)); rintro e w70 ⟨rfl, hb⟩; refine ⟨_, rfl, ?_⟩; have n0_ := aK (below_step (mvh HB.out) hb); clear HB; have HB := n0_; clear n0_; (try clear hb)) | ((with_reducible refine gate_dst (N := 28) rfl ?_); (try (refine gate_guard (by rfl) ?_; dsimp only)); refine Kd.R_lit (Kd.int .u8) _ 5 ?hg (N := 28) ?hd (xs := ([1, 2] : List Int)) (inner := [.int .u8 1, .int .u8 2]) (ok := fun _ => True) (okp := fun _ => True) ?hr ?hp (fun _ hk => hk) trivial (Below.refl _ _) (Nat.le_refl _) (by simp) ?_; (case hd => rfl); (case hg => rfl); (case hr => first | (go_simp; done) | (go_simp; rfl)); (case hp => exact (Reps.one (show Kd.M (Kd.int .u8) _ _ _ 1 [.int .u8 1] from rfl) (Reps.one (show Kd.M (Kd.int .u8) _ _ _ 2 [.int .u8 2] from rfl) (Reps.none _ _)))); intro v219 w71 ho72 hb hg_ hnew_; clear hg_ hnew_; (first | rw [← Ny218.out] at ho72 | (simp only [Int.reduceToNat] at ho72; rw [← Ny218.out] at ho72)); have n0_ := aK (Kd.R_lower ho72 (below_size (mvh HB.out))); have n1_ := aK (below_step (mvh HB.out) hb); clear HB; have HO220 := n0_; have HB := n1_; clear n0_ n1_; clear hb ho72) | ((with_reducible refine gate_dst (N := 29) rfl ?_); (try (refine gate_guard (by rfl) ?_; dsimp only)); refine Kd.R_lit (Kd.int .u8) _ 5 ?hg (N := 29) ?hd (xs := ([1, 3] : List Int)) (inner := [.int .u8 1, .int .u8 3]) (ok := fun _ => True) (okp := fun _ => True) ?hr ?hp (fun _ hk => hk) trivial (Below.refl _ _) (Nat.le_refl _) (by simp) ?_; (case hd => rfl); (case hg => rfl); (case hr => first | (go_simp; done) | (go_simp; rfl)); (case hp => exact (Reps.one (show Kd.M (Kd.int .u8) _ _ _ 1 [.int .u8 1] from rfl) (Reps.one (show Kd.M (Kd.int .u8) _ _ _ 3 [.int .u8 3] from rfl) (Reps.none _ _)))); intro v222 w73 ho74 hb hg_ hnew_; clear hg_ hnew_; (first | rw [← Ny221.out] at ho74 | (simp only [Int.reduceToNat] at ho74; rw [← Ny221.out] at ho74)); have n0_ := aK (Kd.R_elder' (mvR HO220.out) (Kd.R_base ho74) hb); have n1_ := aK (Kd.R_lower (Kd.R_new' ho74 (Kd.R_lt (mvR HO220.out))) (below_size (mvh HB.out))); have n2_ := aK (below_step (mvh HB.out) hb); clear HO220 HB; have HO220 := n0_; have HO223 := n1_; have HB := n2_; clear n0_ n1_ n2_; clear hb ho74; obtain ⟨Ao75, co75, eo75⟩ := Kd.R_slice HO220.out; subst eo75; obtain ⟨Ao76, co76, eo76⟩ := Kd.R_slice HO223.out; subst eo76) | ((with_reducible refine gate_callee (f := 18) rfl ?_); refine goesL_ (some 30) rfl rfl Try.func18 (by kernel_rfl) rfl #[.pointer Ap212, .slice Ao75 y218.length co75, .slice Ao76 y221.length co76] rfl (by (try simp only [List.map_toArray, List.map_cons, List.map_nil]) <;> rfl) ?_; (with_reducible refine (galois_Tables_Times.calls kj2 _ t211 (fun k_ => some k_ = (.slice Ao75 y218.length co75 : Value).ownBlock) _ _ y218 (fun k_ => some k_ = (.slice Ao76 y221.length co76 : Value).ownBlock) _ _ y221 t224 t227 _ ?side1 ?side2 ?side3 A11.out).mono ?_); (case side1 => exact (gal_OK_below HT213.out HB.out)); (case side2 => exact Kd.R_V (Kd.R_tight rfl (HO220.out))); (case side3 => exact Kd.R_V (Kd.R_tight rfl (HO223.out))); rintro e w77 ⟨v225, rfl, ho0, hb⟩; refine ⟨_, rfl, ?_⟩; have n0_ := aK (Kd.R_elder' (mvR HO220.out) (Kd.R_base ho0) hb); have n1_ := aK (Kd.R_elder' (mvR HO223.out) (Kd.R_base ho0) hb); have n2_ := aK (Kd.R_lower (Kd.R_new' (Kd.R_new' (Kd.R_mono (ok' := fun k_ => True) ho0 (fun _ hk_ => trivial)) (Kd.R_lt (mvR HO220.out))) (Kd.R_lt (mvR HO223.out))) (below_size (mvh HB.out))); have n3_ := aK (below_step (mvh HB.out) hb); clear HO220 HO223 HB; have HO220 := n0_; have HO223 := n1_; have HO226 := n2_; have HB := n3_; clear n0_ n1_ n2_ n3_; (try clear hb); (try clear ho0)) | ((with_reducible refine gate_callee (f := 63) rfl ?_); refine goesL_ (some 35) rfl rfl Try.func63 (by kernel_rfl) rfl #[.pointer Ap212, .int .u8 3] rfl (by (try simp only [List.map_toArray, List.map_cons, List.map_nil]) <;> rfl) ?_; (with_reducible refine (galois_Tables_Log.calls kj2 _ t211 3 t228 t229 _ ?side1 A12.out).mono ?_); (case side1 => exact (gal_OK_below HT213.out HB.out)); rintro e w78 ⟨rfl, hb⟩; refine ⟨_, rfl, ?_⟩; have n0_ := aK (Kd.R_below (mvR HO220.out) hb); have n1_ := aK (Kd.R_below (mvR HO223.out) hb); have n2_ := aK (Kd.R_below (mvR HO226.out) hb); have n3_ := aK (below_step (mvh HB.out) hb); clear HO220 HO223 HO226 HB; have HO220 := n0_; have HO223 := n1_; have HO226 := n2_; have HB := n3_; clear n0_ n1_ n2_ n3_; (try clear hb)) | ((with_reducible refine gate_callee (f := 13) rfl ?_); refine goesL_ (some 39) rfl rfl Try.func13 (by kernel_rfl) rfl #[.int .i64 t217] rfl (by (try simp only [List.map_toArray, List.map_cons, List.map_nil]) <;> rfl) ?_; (with_reducible refine (outpostlaw32_num.calls t217 t230 _ A13.out).mono ?_); rintro e w' ⟨rfl, ⟨nd, rfl⟩⟩; refine ⟨_, rfl, ?_⟩))
      go_ret
      exact ⟨by first | rfl | (simp [errW_none, errW_some] <;> rfl) | (simp [*, errW_none, errW_some] <;> rfl), below_step HB00.out (mvh HB.out)⟩
    ·rw [if_neg c14] at H
     have c14b0 : (t230 == 0) = false := beq_eq_false_iff_ne.mpr c14
     have c14b1 : (t230 != 0) = true := bne_iff_ne.mpr c14
     obtain rfl := Option.some.inj H
     go_wp2_with (first | ((with_reducible refine gate_callee (f := 62) rfl ?_); refine goesL_ (some 23) rfl rfl Try.func62 (by kernel_rfl) rfl #[.pointer Ap212, .int .u8 2, .int .u8 4] rfl (by (try simp only [List.map_toArray, List.map_cons, List.map_nil]) <;> rfl) ?_; (with_reducible refine (galois_Tables_Mul.calls kj2 _ t211 2 4 t216 t217 _ ?side1 A10.out).mono ?_); (case side1 => exact (gal_OK_below HT213.out HB.out)); rintro e w79 ⟨rfl, hb⟩; refine ⟨_, rfl, ?_⟩; have n0_ := aK (below_step (mvh HB.out) hb); clear HB; have HB := n0_; clear n0_; (try clear hb)) | ((with_reducible refine gate_dst (N := 28) rfl ?_); (try (refine gate_guard (by rfl) ?_; dsimp only)); refine Kd.R_lit (Kd.int .u8) _ 5 ?hg (N := 28) ?hd (xs := ([1, 2] : List Int)) (inner := [.int .u8 1, .int .u8 2]) (ok := fun _ => True) (okp := fun _ => True) ?hr ?hp (fun _ hk => hk) trivial (Below.refl _ _) (Nat.le_refl _) (by simp) ?_; (case hd => rfl); (case hg => rfl); (case hr => first | (go_simp; done) | (go_simp; rfl)); (case hp => exact (Reps.one (show Kd.M (Kd.int .u8) _ _ _ 1 [.int .u8 1] from rfl) (Reps.one (show Kd.M (Kd.int .u8) _ _ _ 2 [.int .u8 2] from rfl) (Reps.none _ _)))); intro v219 w80 ho81 hb hg_ hnew_; clear hg_ hnew_; (first | rw [← Ny218.out] at ho81 | (simp only [Int.reduceToNat] at ho81; rw [← Ny218.out] at ho81)); have n0_ := aK (Kd.R_lower ho81 (below_size (mvh HB.out))); have n1_ := aK (below_step (mvh HB.out) hb); clear HB; have HO220 := n0_; have HB := n1_; clear n0_ n1_; clear hb ho81) | ((with_reducible refine gate_dst (N := 29) rfl ?_); (try (refine gate_guard (by rfl) ?_; dsimp only)); refine Kd.R_lit (Kd.int .u8) _ 5 ?hg (N := 29) ?hd (xs := ([1, 3] : List Int)) (inner := [.int .u8 1, .int .u8 3]) (ok := fun _ => True) (okp := fun _ => True) ?hr ?hp (fun _ hk => hk) trivial (Below.refl _ _) (Nat.le_refl _) (by simp) ?_; (case hd => rfl); (case hg => rfl); (case hr => first | (go_simp; done) | (go_simp; rfl)); (case hp => exact (Reps.one (show Kd.M (Kd.int .u8) _ _ _ 1 [.int .u8 1] from rfl) (Reps.one (show Kd.M (Kd.int .u8) _ _ _ 3 [.int .u8 3] from rfl) (Reps.none _ _)))); intro v222 w82 ho83 hb hg_ hnew_; clear hg_ hnew_; (first | rw [← Ny221.out] at ho83 | (simp only [Int.reduceToNat] at ho83; rw [← Ny221.out] at ho83)); have n0_ := aK (Kd.R_elder' (mvR HO220.out) (Kd.R_base ho83) hb); have n1_ := aK (Kd.R_lower (Kd.R_new' ho83 (Kd.R_lt (mvR HO220.out))) (below_size (mvh HB.out))); have n2_ := aK (below_step (mvh HB.out) hb); clear HO220 HB; have HO220 := n0_; have HO223 := n1_; have HB := n2_; clear n0_ n1_ n2_; clear hb ho83; obtain ⟨Ao84, co84, eo84⟩ := Kd.R_slice HO220.out; subst eo84; obtain ⟨Ao85, co85, eo85⟩ := Kd.R_slice HO223.out; subst eo85) | ((with_reducible refine gate_callee (f := 18) rfl ?_); refine goesL_ (some 30) rfl rfl Try.func18 (by kernel_rfl) rfl #[.pointer Ap212, .slice Ao84 y218.length co84, .slice Ao85 y221.length co85] rfl (by (try simp only [List.map_toArray, List.map_cons, List.map_nil]) <;> rfl) ?_; (with_reducible refine (galois_Tables_Times.calls kj2 _ t211 (fun k_ => some k_ = (.slice Ao84 y218.length co84 : Value).ownBlock) _ _ y218 (fun k_ => some k_ = (.slice Ao85 y221.length co85 : Value).ownBlock) _ _ y221 t224 t227 _ ?side1 ?side2 ?side3 A11.out).mono ?_); (case side1 => exact (gal_OK_below HT213.out HB.out)); (case side2 => exact Kd.R_V (Kd.R_tight rfl (HO220.out))); (case side3 => exact Kd.R_V (Kd.R_tight rfl (HO223.out))); rintro e w86 ⟨v225, rfl, ho0, hb⟩; refine ⟨_, rfl, ?_⟩; have n0_ := aK (Kd.R_elder' (mvR HO220.out) (Kd.R_base ho0) hb); have n1_ := aK (Kd.R_elder' (mvR HO223.out) (Kd.R_base ho0) hb); have n2_ := aK (Kd.R_lower (Kd.R_new' (Kd.R_new' (Kd.R_mono (ok' := fun k_ => True) ho0 (fun _ hk_ => trivial)) (Kd.R_lt (mvR HO220.out))) (Kd.R_lt (mvR HO223.out))) (below_size (mvh HB.out))); have n3_ := aK (below_step (mvh HB.out) hb); clear HO220 HO223 HB; have HO220 := n0_; have HO223 := n1_; have HO226 := n2_; have HB := n3_; clear n0_ n1_ n2_ n3_; (try clear hb); (try clear ho0)) | ((with_reducible refine gate_callee (f := 63) rfl ?_); refine goesL_ (some 35) rfl rfl Try.func63 (by kernel_rfl) rfl #[.pointer Ap212, .int .u8 3] rfl (by (try simp only [List.map_toArray, List.map_cons, List.map_nil]) <;> rfl) ?_; (with_reducible refine (galois_Tables_Log.calls kj2 _ t211 3 t228 t229 _ ?side1 A12.out).mono ?_); (case side1 => exact (gal_OK_below HT213.out HB.out)); rintro e w87 ⟨rfl, hb⟩; refine ⟨_, rfl, ?_⟩; have n0_ := aK (Kd.R_below (mvR HO220.out) hb); have n1_ := aK (Kd.R_below (mvR HO223.out) hb); have n2_ := aK (Kd.R_below (mvR HO226.out) hb); have n3_ := aK (below_step (mvh HB.out) hb); clear HO220 HO223 HO226 HB; have HO220 := n0_; have HO223 := n1_; have HO226 := n2_; have HB := n3_; clear n0_ n1_ n2_ n3_; (try clear hb)) | ((with_reducible refine gate_callee (f := 13) rfl ?_); refine goesL_ (some 39) rfl rfl Try.func13 (by kernel_rfl) rfl #[.int .i64 t217] rfl (by (try simp only [List.map_toArray, List.map_cons, List.map_nil]) <;> rfl) ?_; (with_reducible refine (outpostlaw32_num.calls t217 t230 _ A13.out).mono ?_); rintro e w' ⟨rfl, ⟨nd, rfl⟩⟩; refine ⟨_, rfl, ?_⟩))
     go_ret
     exact ⟨by first | rfl | (simp [errW_none, errW_some] <;> rfl) | (simp [*, errW_none, errW_some] <;> rfl), below_step HB00.out (mvh HB.out)⟩

/-! ### outpostlaw32_made: function 8 -/
def outpostlaw32_made.f (k : Nat) (a0_0 : Int) (a0_1 : Int) : Option (GTab × Bool × Bool) := (galois_New.f k a0_0 a0_1).bind fun bt238 => ((outpostref32_Check.f k a0_0 a0_1).bind fun t242 => ((outpostlaw32_num.f bt238.2).bind fun t243 => (if t243 = t242 then ((galois_Check.f k a0_0 a0_1).bind fun t244 => ((outpostlaw32_num.f t244).bind fun t245 => (if t245 = t242 then (if bt238.1.nil = true then (if (false == (t242 == 0)) = true then ((outpostlaw32_live.f k).bind fun t246 => (some (bt238.1, (t242 == 0), t246))) else (some (bt238.1, (t242 == 0), false))) else (if (true == (t242 == 0)) = true then ((outpostlaw32_live.f k).bind fun t247 => (some (bt238.1, (t242 == 0), t247))) else (some (bt238.1, (t242 == 0), false)))) else (some (bt238.1, (t242 == 0), false))))) else (some (bt238.1, (t242 == 0), false)))))
theorem outpostlaw32_made.mono : ∀ a0 a1 k, LeO (outpostlaw32_made.f k a0 a1) (outpostlaw32_made.f (k + 1) a0 a1) := by
 intro a0 a1 k
 unfold outpostlaw32_made.f
 repeat' first
   | (with_reducible exact galois_Check.mono _ _ _)
   | (with_reducible exact galois_New.mono _ _ _)
   | (with_reducible exact outpostlaw32_live.mono _)
   | (with_reducible exact outpostref32_Check.mono _ _ _)
   | (with_reducible exact LeO.refl _)
   | (with_reducible exact LeO.none _)
   | (with_reducible refine LeO.ite ?_ ?_)
   | (with_reducible refine LeO.bind ?_ (fun _ => ?_))
   | exact galois_Check.mono _ _ _
   | exact galois_New.mono _ _ _
   | exact outpostlaw32_live.mono _
   | exact outpostref32_Check.mono _ _ _
   | exact LeO.none _
   | refine LeO.ite ?_ ?_
   | refine LeO.bind ?_ (fun _ => ?_)
set_option maxHeartbeats 8000000 in
set_option maxRecDepth 100000 in
theorem outpostlaw32_made.calls (k : Nat) (a0_0 : Int) (a0_1 : Int) (r1 : GTab) (r2 : Bool) (r3 : Bool) (w : World) (h : outpostlaw32_made.f k a0_0 a0_1 = some (r1, r2, r3)) :
  Calls Try.prog 8 #[.agg #[.int .i64 a0_0, .int .u64 a0_1]] w fun e w' => ∃ A0_ : Option Addr, e = .returned (.tuple #[.pointer A0_, .bool r2, .bool r3]) ∧ gal_OK w' A0_ r1 ∧ Below w.heap.size w w' := by
 have hu24 := Try.underlying24
 have HB := aK (Below.refl w.heap.size w)
 have H : ((galois_New.f k a0_0 a0_1).bind fun bt238 => ((outpostref32_Check.f k a0_0 a0_1).bind fun t242 => ((outpostlaw32_num.f bt238.2).bind fun t243 => (if t243 = t242 then ((galois_Check.f k a0_0 a0_1).bind fun t244 => ((outpostlaw32_num.f t244).bind fun t245 => (if t245 = t242 then (if bt238.1.nil = true then (if (false == (t242 == 0)) = true then ((outpostlaw32_live.f k).bind fun t246 => (some (bt238.1, (t242 == 0), t246))) else (some (bt238.1, (t242 == 0), false))) else (if (true == (t242 == 0)) = true then ((outpostlaw32_live.f k).bind fun t247 => (some (bt238.1, (t242 == 0), t247))) else (some (bt238.1, (t242 == 0), false)))) else (some (bt238.1, (t242 == 0), false))))) else (some (bt238.1, (t242 == 0), false)))))) = some (r1, r2, r3) := h
 clear h
 replace H := Option.bind_eq_some_iff.mp H
 obtain ⟨⟨t238, t241⟩, A20, H⟩ := H
 replace H : ((outpostref32_Check.f k a0_0 a0_1).bind fun t242 => ((outpostlaw32_num.f t241).bind fun t243 => (if t243 = t242 then ((galois_Check.f k a0_0 a0_1).bind fun t244 => ((outpostlaw32_num.f t244).bind fun t245 => (if t245 = t242 then (if t238.nil = true then (if (false == (t242 == 0)) = true then ((outpostlaw32_live.f k).bind fun t246 => (some (t238, (t242 == 0), t246))) else (some (t238, (t242 == 0), false))) else (if (true == (t242 == 0)) = true then ((outpostlaw32_live.f k).bind fun t247 => (some (t238, (t242 == 0), t247))) else (some (t238, (t242 == 0), false)))) else (some (t238, (t242 == 0), false))))) else (some (t238, (t242 == 0), false))))) = some (r1, r2, r3) := H
 have A2 := Aside0.mk A20
 clear A20
 replace H := Option.bind_eq_some_iff.mp H
 obtain ⟨t242, A30, H⟩ := H
 replace H : ((outpostlaw32_num.f t241).bind fun t243 => (if t243 = t242 then ((galois_Check.f k a0_0 a0_1).bind fun t244 => ((outpostlaw32_num.f t244).bind fun t245 => (if t245 = t242 then (if t238.nil = true then (if (false == (t242 == 0)) = true then ((outpostlaw32_live.f k).bind fun t246 => (some (t238, (t242 == 0), t246))) else (some (t238, (t242 == 0), false))) else (if (true == (t242 == 0)) = true then ((outpostlaw32_live.f k).bind fun t247 => (some (t238, (t242 == 0), t247))) else (some (t238, (t242 == 0), false)))) else (some (t238, (t242 == 0), false))))) else (some (t238, (t242 == 0), false)))) = some (r1, r2, r3) := H
 have A3 := Aside0.mk A30
 clear A30
 replace H := Option.bind_eq_some_iff.mp H
 obtain ⟨t243, A40, H⟩ := H
 replace H : (if t243 = t242 then ((galois_Check.f k a0_0 a0_1).bind fun t244 => ((outpostlaw32_num.f t244).bind fun t245 => (if t245 = t242 then (if t238.nil = true then (if (false == (t242 == 0)) = true then ((outpostlaw32_live.f k).bind fun t246 => (some (t238, (t242 == 0), t246))) else (some (t238, (t242 == 0), false))) else (if (true == (t242 == 0)) = true then ((outpostlaw32_live.f k).bind fun t247 => (some (t238, (t242 == 0), t247))) else (some (t238, (t242 == 0), false)))) else (some (t238, (t242 == 0), false))))) else (some (t238, (t242 == 0), false))) = some (r1, r2, r3) := H
 have A4 := Aside0.mk A40
 clear A40
 by_cases c5 : t243 = t242
 ·rw [if_pos c5] at H
  have c5b0 : (t243 == t242) = true := beq_iff_eq.mpr c5
  have c5b1 : (t243 != t242) = false := bne_eq_false_iff_eq.mpr c5
  clear c5
  replace H := Option.bind_eq_some_iff.mp H
  obtain ⟨t244, A60, H⟩ := H
  replace H : ((outpostlaw32_num.f t244).bind fun t245 => (if t245 = t242 then (if t238.nil = true then (if (false == (t242 == 0)) = true then ((outpostlaw32_live.f k).bind fun t246 => (some (t238, (t242 == 0), t246))) else (some (t238, (t242 == 0), false))) else (if (true == (t242 == 0)) = true then ((outpostlaw32_live.f k).bind fun t247 => (some (t238, (t242 == 0), t247))) else (some (t238, (t242 == 0), false)))) else (some (t238, (t242 == 0), false)))) = some (r1, r2, r3) := H
  have A6 := Aside0.mk A60
  clear A60
  replace H := Option.bind_eq_some_iff.mp H
  obtain ⟨t245, A70, H⟩ := H
  replace H : (if t245 = t242 then (if t238.nil = true then (if (false == (t242 == 0)) = true then ((outpostlaw32_live.f k).bind fun t246 => (some (t238, (t242 == 0), t246))) else (some (t238, (t242 == 0), false))) else (if (true == (t242 == 0)) = true then ((outpostlaw32_live.f k).bind fun t247 => (some (t238, (t242 == 0), t247))) else (some (t238, (t242 == 0), false)))) else (some (t238, (t242 == 0), false))) = some (r1, r2, r3) := H
  have A7 := Aside0.mk A70
  clear A70
  by_cases c8 : t245 = t242
  ·rw [if_pos c8] at H
   have c8b0 : (t245 == t242) = true := beq_iff_eq.mpr c8
   have c8b1 : (t245 != t242) = false := bne_eq_false_iff_eq.mpr c8
   clear c8
   by_cases c9 : t238.nil = true
   ·rw [if_pos c9] at H
    have LMc9 := Aside0.mk c9
    clear c9
    by_cases c10 : (false == (t242 == 0)) = true
    ·rw [if_pos c10] at H
     have c10b0 : (false == (t242 == 0)) = true := c10
     (try (have c10b1 : decide (false = (t242 == 0)) = true := by simpa using c10))
     (try (have c10b2 : (false == (t242 == 0)) = true := by simpa using c10))
     clear c10
     replace H := Option.bind_eq_some_iff.mp H
     obtain ⟨t246, A110, H⟩ := H
     replace H : (some (t238, (t242 == 0), t246)) = some (r1, r2, r3) := H
     have A11 := Aside0.mk A110
     clear A110
     simp only [Option.some.injEq, Prod.mk.injEq] at H
     obtain ⟨rfl, rfl, rfl⟩ := H
     go_enter Try.func8, Try.ntmps8
     go_wp2_with (first | ((with_reducible refine gate_dst (N := 1) rfl ?_); refine box_event ?hg (N := 1) ?hd (cs := #[.int .i64 a0_0, .int .u64 a0_1]) (t := 24) ?hr ?_; (case hd => rfl); (case hg => rfl); (case hr => first | (go_simp; done) | (go_simp; rfl)); intro gb237 hg w12 hbox hb; have n0_ := aK (below_step (mvh HB.out) hb); have n1_ := aK (hbox); have n2_ := aK ((by rw [hg]; exact (below_size (mvh HB.out)) : w.heap.size ≤ gb237)); have n3_ := aK ((by rw [hg]; exact (below_size (mvh HB.out)) : w.heap.size ≤ gb237)); clear HB; have HB := n0_; have BK237 := n1_; have GW237 := n2_; have GE237 := n3_; clear n0_ n1_ n2_ n3_; clear hb hbox hg; obtain ⟨hcz13_0, hcz13_1, hfz13_0, hfz13_1⟩ := cf2 BK237.out) | ((with_reducible refine gate_callee (f := 35) rfl ?_); refine goesL_ (some 10) rfl rfl Try.func35 (by kernel_rfl) rfl #[.agg #[.int .i64 a0_0, .int .u64 a0_1]] rfl (by (try simp only [List.map_toArray, List.map_cons, List.map_nil]) <;> rfl) ?_; (with_reducible refine (galois_New.calls k a0_0 a0_1 t238 t241 _ A2.out).mono ?_); rintro e w ⟨Ap239, rfl, hT_, hb⟩; refine ⟨_, rfl, ?_⟩; obtain rfl := gal_nil hT_ LMc9.out; have n0_ := aK (kb BK237.out hb); have n1_ := aK (Below.refl w.heap.size w); have n2_ := aK (below_step (by repeat (first | (with_reducible first | exact HB.out | apply hA | apply hN | apply hD | refine below_set ?_ GE237.out) | exact HB.out)) hb); clear BK237 HB; have BK237 := n0_; have HB := n1_; have HB00 := n2_; clear n0_ n1_ n2_; have HT240 := Aside0.mk hT_; clear hb hT_; obtain ⟨hcz15_0, hcz15_1, hfz15_0, hfz15_1⟩ := cf2 BK237.out) | ((with_reducible refine gate_callee (f := 36) rfl ?_); refine goesL_ (some 14) rfl rfl Try.func36 (by kernel_rfl) rfl #[.agg #[.int .i64 a0_0, .int .u64 a0_1]] rfl (by (try simp only [List.map_toArray, List.map_cons, List.map_nil]) <;> rfl) ?_; (with_reducible refine (outpostref32_Check.calls k a0_0 a0_1 t242 _ A3.out).mono ?_); rintro e w16 ⟨rfl, hb⟩; refine ⟨_, rfl, ?_⟩; have n0_ := aK (kb BK237.out hb); have n1_ := aK (below_step (by repeat (first | (with_reducible first | exact HB.out | apply hA | apply hN | apply hD | refine below_set ?_ GE237.out) | exact HB.out)) hb); clear BK237 HB; have BK237 := n0_; have HB := n1_; clear n0_ n1_; (try clear hb)) | ((with_reducible refine gate_callee (f := 13) rfl ?_); refine goesL_ (some 19) rfl rfl Try.func13 (by kernel_rfl) rfl #[.int .i64 t241] rfl (by (try simp only [List.map_toArray, List.map_cons, List.map_nil]) <;> rfl) ?_; (with_reducible refine (outpostlaw32_num.calls t241 t243 _ A4.out).mono ?_); rintro e w' ⟨rfl, ⟨nd, rfl⟩⟩; refine ⟨_, rfl, ?_⟩; obtain ⟨hcz17_0, hcz17_1, hfz17_0, hfz17_1⟩ := cf2 BK237.out) | (go_at_call 37; (with_reducible refine (galois_Check.calls k a0_0 a0_1 t244 _ A6.out).mono ?_); rintro e w18 ⟨rfl, hb⟩; have n0_ := aK (kb BK237.out hb); have n1_ := aK (below_step (by repeat (first | (with_reducible first | exact HB.out | apply hA | apply hN | apply hD | refine below_set ?_ GE237.out) | exact HB.out)) hb); clear BK237 HB; have BK237 := n0_; have HB := n1_; clear n0_ n1_; (try clear hb)) | (go_at_call 13; (with_reducible refine (outpostlaw32_num.calls t244 t245 _ A7.out).mono ?_); rintro e w' ⟨rfl, ⟨nd, rfl⟩⟩) | (go_at_call 38; (with_reducible refine (outpostlaw32_live.calls k  t246 _ A11.out).mono ?_); rintro e w19 ⟨rfl, hb⟩; have n0_ := aK (kb BK237.out hb); have n1_ := aK (below_step (by repeat (first | (with_reducible first | exact HB.out | apply hA | apply hN | apply hD | refine below_set ?_ GE237.out) | exact HB.out)) hb); clear BK237 HB; have BK237 := n0_; have HB := n1_; clear n0_ n1_; (try clear hb)))
     go_ret3
     exact ⟨_, by first | rfl | (simp [errW_none, errW_some] <;> rfl) | (simp [*, errW_none, errW_some] <;> rfl), (gal_OK_below HT240.out (by repeat (first | (with_reducible first | exact HB.out | apply hA | apply hN | apply hD | refine below_set ?_ GE237.out) | exact HB.out))), below_step HB00.out (by repeat (first | (with_reducible first | exact HB.out | apply hA | apply hN | apply hD | refine below_set ?_ GE237.out) | exact HB.out))⟩
    ·rw [if_neg c10] at H
     have c10b0 : (false == (t242 == 0)) = false := by simpa using c10
     (try (have c10b1 : decide (false = (t242 == 0)) = false := by simpa using c10))
     (try (have c10b2 : (false == (t242 == 0)) = false := by simpa using c10))
     (try (have c10b3 : ¬ (false = (t242 == 0)) := by simpa using c10))
     clear c10
     simp only [Option.some.injEq, Prod.mk.injEq] at H
     obtain ⟨rfl, rfl, rfl⟩ := H
     go_enter Try.func8, Try.ntmps8
     go_wp2_with (first | ((with_reducible refine gate_dst (N := 1) rfl ?_); refine box_event ?hg (N := 1) ?hd (cs := #[.int .i64 a0_0, .int .u64 a0_1]) (t := 24) ?hr ?_; (case hd => rfl); (case hg => rfl); (case hr => first | (go_simp; done) | (go_simp; rfl)); intro gb237 hg w20 hbox hb; have n0_ := aK (below_step (mvh HB.out) hb); have n1_ := aK (hbox); have n2_ := aK ((by rw [hg]; exact (below_size (mvh HB.out)) : w.heap.size ≤ gb237)); have n3_ := aK ((by rw [hg]; exact (below_size (mvh HB.out)) : w.heap.size ≤ gb237)); clear HB; have HB := n0_; have BK237 := n1_; have GW237 := n2_; have GE237 := n3_; clear n0_ n1_ n2_ n3_; clear hb hbox hg; obtain ⟨hcz21_0, hcz21_1, hfz21_0, hfz21_1⟩ := cf2 BK237.out) | ((with_reducible refine gate_callee (f := 35) rfl ?_); refine goesL_ (some 10) rfl rfl Try.func35 (by kernel_rfl) rfl #[.agg #[.int .i64 a0_0, .int .u64 a0_1]] rfl (by (try simp only [List.map_toArray, List.map_cons, List.map_nil]) <;> rfl) ?_; (with_reducible refine (galois_New.calls k a0_0 a0_1 t238 t241 _ A2.out).mono ?_); rintro e w ⟨Ap239, rfl, hT_, hb⟩; refine ⟨_, rfl, ?_⟩; obtain rfl := gal_nil hT_ LMc9.out; have n0_ := aK (kb BK237.out hb); have n1_ := aK (Below.refl w.heap.size w); have n2_ := aK (below_step (by repeat (first | (with_reducible first | exact HB.out | apply hA | apply hN | apply hD | refine below_set ?_ GE237.out) | exact HB.out)) hb); clear BK237 HB; have BK237 := n0_; have HB := n1_; have HB00 := n2_; clear n0_ n1_ n2_; have HT240 := Aside0.mk hT_; clear hb hT_; obtain ⟨hcz23_0, hcz23_1, hfz23_0, hfz23_1⟩ := cf2 BK237.out) | ((with_reducible refine gate_callee (f := 36) rfl ?_); refine goesL_ (some 14) rfl rfl Try.func36 (by kernel_rfl) rfl #[.agg #[.int .i64 a0_0, .int .u64 a0_1]] rfl (by (try simp only [List.map_toArray, List.map_cons, List.map_nil]) <;> rfl) ?_; (with_reducible refine (outpostref32_Check.calls k a0_0 a0_1 t242 _ A3.out).mono ?_); rintro e w24 ⟨rfl, hb⟩; refine ⟨_, rfl, ?_⟩; have n0_ := aK (kb BK237.out hb); have n1_ := aK (below_step (by repeat (first | (with_reducible first | exact HB.out | apply hA | apply hN | apply hD | refine below_set ?_ GE237.out) | exact HB.out)) hb); clear BK237 HB; have BK237 := n0_; have HB := n1_; clear n0_ n1_; (try clear hb)) | ((with_reducible refine gate_callee (f := 13) rfl ?_); refine goesL_ (some 19) rfl rfl Try.func13 (by kernel_rfl) rfl #[.int .i64 t241] rfl (by (try simp only [List.map_toArray, List.map_cons, List.map_nil]) <;> rfl) ?_; (with_reducible refine (outpostlaw32_num.calls t241 t243 _ A4.out).mono ?_); rintro e w' ⟨rfl, ⟨nd, rfl⟩⟩; refine ⟨_, rfl, ?_⟩; obtain ⟨hcz25_0, hcz25_1, hfz25_0, hfz25_1⟩ := cf2 BK237.out) | (go_at_call 37; (with_reducible refine (galois_Check.calls k a0_0 a0_1 t244 _ A6.out).mono ?_); rintro e w26 ⟨rfl, hb⟩; have n0_ := aK (kb BK237.out hb); have n1_ := aK (below_step (by repeat (first | (with_reducible first | exact HB.out | apply hA | apply hN | apply hD | refine below_set ?_ GE237.out) | exact HB.out)) hb); clear BK237 HB; have BK237 := n0_; have HB := n1_; clear n0_ n1_; (try clear hb)) | (go_at_call 13; (with_reducible refine (outpostlaw32_num.calls t244 t245 _ A7.out).mono ?_); rintro e w' ⟨rfl, ⟨nd, rfl⟩⟩))
     go_ret3
     exact ⟨_, by first | rfl | (simp [errW_none, errW_some] <;> rfl) | (simp [*, errW_none, errW_some] <;> rfl), (gal_OK_below HT240.out (by repeat (first | (with_reducible first | exact HB.out | apply hA | apply hN | apply hD | refine below_set ?_ GE237.out) | exact HB.out))), below_step HB00.out (by repeat (first | (with_reducible first | exact HB.out | apply hA | apply hN | apply hD | refine below_set ?_ GE237.out) | exact HB.out))⟩
   ·rw [if_neg c9] at H
    have LMc9 := Aside0.mk c9
    clear c9
    by_cases c27 : (true == (t242 == 0)) = true
    ·rw [if_pos c27] at H
     have c27b0 : (true == (t242 == 0)) = true := c27
     (try (have c27b1 : decide (true = (t242 == 0)) = true := by simpa using c27))
     (try (have c27b2 : (true == (t242 == 0)) = true := by simpa using c27))
     clear c27
     replace H := Option.bind_eq_some_iff.mp H
     obtain ⟨t247, A280, H⟩ := H
     replace H : (some (t238, (t242 == 0), t247)) = some (r1, r2, r3) := H
     have A28 := Aside0.mk A280
     clear A280
     simp only [Option.some.injEq, Prod.mk.injEq] at H
     obtain ⟨rfl, rfl, rfl⟩ := H
     go_enter Try.func8, Try.ntmps8
     go_wp2_with (first | ((with_reducible refine gate_dst (N := 1) rfl ?_); refine box_event ?hg (N := 1) ?hd (cs := #[.int .i64 a0_0, .int .u64 a0_1]) (t := 24) ?hr ?_; (case hd => rfl); (case hg => rfl); (case hr => first | (go_simp; done) | (go_simp; rfl)); intro gb237 hg w29 hbox hb; have n0_ := aK (below_step (mvh HB.out) hb); have n1_ := aK (hbox); have n2_ := aK ((by rw [hg]; exact (below_size (mvh HB.out)) : w.heap.size ≤ gb237)); have n3_ := aK ((by rw [hg]; exact (below_size (mvh HB.out)) : w.heap.size ≤ gb237)); clear HB; have HB := n0_; have BK237 := n1_; have GW237 := n2_; have GE237 := n3_; clear n0_ n1_ n2_ n3_; clear hb hbox hg; obtain ⟨hcz30_0, hcz30_1, hfz30_0, hfz30_1⟩ := cf2 BK237.out) | ((with_reducible refine gate_callee (f := 35) rfl ?_); refine goesL_ (some 10) rfl rfl Try.func35 (by kernel_rfl) rfl #[.agg #[.int .i64 a0_0, .int .u64 a0_1]] rfl (by (try simp only [List.map_toArray, List.map_cons, List.map_nil]) <;> rfl) ?_; (with_reducible refine (galois_New.calls k a0_0 a0_1 t238 t241 _ A2.out).mono ?_); rintro e w ⟨Ap239, rfl, hT_, hb⟩; refine ⟨_, rfl, ?_⟩; obtain ⟨Ap239_, rfl⟩ := gal_some hT_ LMc9.out; have n0_ := aK (kb BK237.out hb); have n1_ := aK (Below.refl w.heap.size w); have n2_ := aK (below_step (by repeat (first | (with_reducible first | exact HB.out | apply hA | apply hN | apply hD | refine below_set ?_ GE237.out) | exact HB.out)) hb); clear BK237 HB; have BK237 := n0_; have HB := n1_; have HB00 := n2_; clear n0_ n1_ n2_; have HT240 := Aside0.mk hT_; clear hb hT_; obtain ⟨hcz32_0, hcz32_1, hfz32_0, hfz32_1⟩ := cf2 BK237.out) | ((with_reducible refine gate_callee (f := 36) rfl ?_); refine goesL_ (some 14) rfl rfl Try.func36 (by kernel_rfl) rfl #[.agg #[.int .i64 a0_0, .int .u64 a0_1]] rfl (by (try simp only [List.map_toArray, List.map_cons, List.map_nil]) <;> rfl) ?_; (with_reducible refine (outpostref32_Check.calls k a0_0 a0_1 t242 _ A3.out).mono ?_); rintro e w33 ⟨rfl, hb⟩; refine ⟨_, rfl, ?_⟩; have n0_ := aK (kb BK237.out hb); have n1_ := aK (below_step (by repeat (first | (with_reducible first | exact HB.out | apply hA | apply hN | apply hD | refine below_set ?_ GE237.out) | exact HB.out)) hb); clear BK237 HB; have BK237 := n0_; have HB := n1_; clear n0_ n1_; (try clear hb)) | ((with_reducible refine gate_callee (f := 13) rfl ?_); refine goesL_ (some 19) rfl rfl Try.func13 (by kernel_rfl) rfl #[.int .i64 t241] rfl (by (try simp only [List.map_toArray, List.map_cons, List.map_nil]) <;> rfl) ?_; (with_reducible refine (outpostlaw32_num.calls t241 t243 _ A4.out).mono ?_); rintro e w' ⟨rfl, ⟨nd, rfl⟩⟩; refine ⟨_, rfl, ?_⟩; obtain ⟨hcz34_0, hcz34_1, hfz34_0, hfz34_1⟩ := cf2 BK237.out) | (go_at_call 37; (with_reducible refine (galois_Check.calls k a0_0 a0_1 t244 _ A6.out).mono ?_); rintro e w35 ⟨rfl, hb⟩; have n0_ := aK (kb BK237.out hb); have n1_ := aK (below_step (by repeat (first | (with_reducible first | exact HB.out | apply hA | apply hN | apply hD | refine below_set ?_ GE237.out) | exact HB.out)) hb); clear BK237 HB; have BK237 := n0_; have HB := n1_; clear n0_ n1_; (try clear hb)) | (go_at_call 13; (with_reducible refine (outpostlaw32_num.calls t244 t245 _ A7.out).mono ?_); rintro e w' ⟨rfl, ⟨nd, rfl⟩⟩) | (go_at_call 38; (with_reducible refine (outpostlaw32_live.calls k  t247 _ A28.out).mono ?_); rintro e w36 ⟨rfl, hb⟩; have n0_ := aK (kb BK237.out hb); have n1_ := aK (below_step (by repeat (first | (with_reducible first | exact HB.out | apply hA | apply hN | apply hD | refine below_set ?_ GE237.out) | exact HB.out)) hb); clear BK237 HB; have BK237 := n0_; have HB := n1_; clear n0_ n1_; (try clear hb)))
     go_ret3
     exact ⟨_, by first | rfl | (simp [errW_none, errW_some] <;> rfl) | (simp [*, errW_none, errW_some] <;> rfl), (gal_OK_below HT240.out (by repeat (first | (with_reducible first | exact HB.out | apply hA | apply hN | apply hD | refine below_set ?_ GE237.out) | exact HB.out))), below_step HB00.out (by repeat (first | (with_reducible first | exact HB.out | apply hA | apply hN | apply hD | refine below_set ?_ GE237.out) | exact HB.out))⟩
    ·rw [if_neg c27] at H
     have c27b0 : (true == (t242 == 0)) = false := by simpa using c27
     (try (have c27b1 : decide (true = (t242 == 0)) = false := by simpa using c27))
     (try (have c27b2 : (true == (t242 == 0)) = false := by simpa using c27))
     (try (have c27b3 : ¬ (true = (t242 == 0)) := by simpa using c27))
     clear c27
     simp only [Option.some.injEq, Prod.mk.injEq] at H
     obtain ⟨rfl, rfl, rfl⟩ := H
     go_enter Try.func8, Try.ntmps8
     go_wp2_with (first | ((with_reducible refine gate_dst (N := 1) rfl ?_); refine box_event ?hg (N := 1) ?hd (cs := #[.int .i64 a0_0, .int .u64 a0_1]) (t := 24) ?hr ?_; (case hd => rfl); (case hg => rfl); (case hr => first | (go_simp; done) | (go_simp; rfl)); intro gb237 hg w37 hbox hb; have n0_ := aK (below_step (mvh HB.out) hb); have n1_ := aK (hbox); have n2_ := aK ((by rw [hg]; exact (below_size (mvh HB.out)) : w.heap.size ≤ gb237)); have n3_ := aK ((by rw [hg]; exact (below_size (mvh HB.out)) : w.heap.size ≤ gb237)); clear HB; have HB := n0_; have BK237 := n1_; have GW237 := n2_; have GE237 := n3_; clear n0_ n1_ n2_ n3_; clear hb hbox hg; obtain ⟨hcz38_0, hcz38_1, hfz38_0, hfz38_1⟩ := cf2 BK237.out) | ((with_reducible refine gate_callee (f := 35) rfl ?_); refine goesL_ (some 10) rfl rfl Try.func35 (by kernel_rfl) rfl #[.agg #[.int .i64 a0_0, .int .u64 a0_1]] rfl (by (try simp only [List.map_toArray, List.map_cons, List.map_nil]) <;> rfl) ?_; (with_reducible refine (galois_New.calls k a0_0 a0_1 t238 t241 _ A2.out).mono ?_); rintro e w ⟨Ap239, rfl, hT_, hb⟩; refine ⟨_, rfl, ?_⟩; obtain ⟨Ap239_, rfl⟩ := gal_some hT_ LMc9.out; have n0_ := aK (kb BK237.out hb); have n1_ := aK (Below.refl w.heap.size w); have n2_ := aK (below_step (by repeat (first | (with_reducible first | exact HB.out | apply hA | apply hN | apply hD | refine below_set ?_ GE237.out) | exact HB.out)) hb); clear BK237 HB; have BK237 := n0_; have HB := n1_; have HB00 := n2_; clear n0_ n1_ n2_; have HT240 := Aside0.mk hT_; clear hb hT_; obtain ⟨hcz40_0, hcz40_1, hfz40_0, hfz40_1⟩ := cf2 BK237.out) | ((with_reducible refine gate_callee (f := 36) rfl ?_); refine goesL_ (some 14) rfl rfl Try.func36 (by kernel_rfl) rfl #[.agg #[.int .i64 a0_0, .int .u64 a0_1]] rfl (by (try simp only [List.map_toArray, List.map_cons, List.map_nil]) <;> rfl) ?_; (with_reducible refine (outpostref32_Check.calls k a0_0 a0_1 t242 _ A3.out).mono ?_); rintro e w41 ⟨rfl, hb⟩; refine ⟨_, rfl, ?_⟩; have n0_ := aK (kb BK237.out hb); have n1_ := aK (below_step (by repeat (first | (with_reducible first | exact HB.out | apply hA | apply hN | apply hD | refine below_set ?_ GE237.out) | exact HB.out)) hb); clear BK237 HB; have BK237 := n0_; have HB := n1_; clear n0_ n1_; (try clear hb)) | ((with_reducible refine gate_callee (f := 13) rfl ?_); refine goesL_ (some 19) rfl rfl Try.func13 (by kernel_rfl) rfl #[.int .i64 t241] rfl (by (try simp only [List.map_toArray, List.map_cons, List.map_nil]) <;> rfl) ?_; (with_reducible refine (outpostlaw32_num.calls t241 t243 _ A4.out).mono ?_); rintro e w' ⟨rfl, ⟨nd, rfl⟩⟩; refine ⟨_, rfl, ?_⟩; obtain ⟨hcz42_0, hcz42_1, hfz42_0, hfz42_1⟩ := cf2 BK237.out) | (go_at_call 37; (with_reducible refine (galois_Check.calls k a0_0 a0_1 t244 _ A6.out).mono ?_); rintro e w43 ⟨rfl, hb⟩; have n0_ := aK (kb BK237.out hb); have n1_ := aK (below_step (by repeat (first | (with_reducible first | exact HB.out | apply hA | apply hN | apply hD | refine below_set ?_ GE237.out) | exact HB.out)) hb); clear BK237 HB; have BK237 := n0_; have HB := n1_; clear n0_ n1_; (try clear hb)) | (go_at_call 13; (with_reducible refine (outpostlaw32_num.calls t244 t245 _ A7.out).mono ?_); rintro e w' ⟨rfl, ⟨nd, rfl⟩⟩))
     go_ret3
     exact ⟨_, by first | rfl | (simp [errW_none, errW_some] <;> rfl) | (simp [*, errW_none, errW_some] <;> rfl), (gal_OK_below HT240.out (by repeat (first | (with_reducible first | exact HB.out | apply hA | apply hN | apply hD | refine below_set ?_ GE237.out) | exact HB.out))), below_step HB00.out (by repeat (first | (with_reducible first | exact HB.out | apply hA | apply hN | apply hD | refine below_set ?_ GE237.out) | exact HB.out))⟩
  ·rw [if_neg c8] at H
   have c8b0 : (t245 == t242) = false := beq_eq_false_iff_ne.mpr c8
   have c8b1 : (t245 != t242) = true := bne_iff_ne.mpr c8
   simp only [Option.some.injEq, Prod.mk.injEq] at H
   obtain ⟨rfl, rfl, rfl⟩ := H
   go_enter Try.func8, Try.ntmps8
   go_wp2_with (first | ((with_reducible refine gate_dst (N := 1) rfl ?_); refine box_event ?hg (N := 1) ?hd (cs := #[.int .i64 a0_0, .int .u64 a0_1]) (t := 24) ?hr ?_; (case hd => rfl); (case hg => rfl); (case hr => first | (go_simp; done) | (go_simp; rfl)); intro gb237 hg w44 hbox hb; have n0_ := aK (below_step (mvh HB.out) hb); have n1_ := aK (hbox); have n2_ := aK ((by rw [hg]; exact (below_size (mvh HB.out)) : w.heap.size ≤ gb237)); have n3_ := aK ((by rw [hg]; exact (below_size (mvh HB.out)) : w.heap.size ≤ gb237)); clear HB; have HB := n0_; have BK237 := n1_; have GW237 := n2_; have GE237 := n3_; clear n0_ n1_ n2_ n3_; clear hb hbox hg; obtain ⟨hcz45_0, hcz45_1, hfz45_0, hfz45_1⟩ := cf2 BK237.out) | ((with_reducible refine gate_callee (f := 35) rfl ?_); refine goesL_ (some 10) rfl rfl Try.func35 (by kernel_rfl) rfl #[.agg #[.int .i64 a0_0, .int .u64 a0_1]] rfl (by (try simp only [List.map_toArray, List.map_cons, List.map_nil]) <;> rfl) ?_; (with_reducible refine (galois_New.calls k a0_0 a0_1 t238 t241 _ A2.out).mono ?_); rintro e w ⟨Ap239, rfl, hT_, hb⟩; refine ⟨_, rfl, ?_⟩; have n0_ := aK (kb BK237.out hb); have n1_ := aK (Below.refl w.heap.size w); have n2_ := aK (below_step (by repeat (first | (with_reducible first | exact HB.out | apply hA | apply hN | apply hD | refine below_set ?_ GE237.out) | exact HB.out)) hb); clear BK237 HB; have BK237 := n0_; have HB := n1_; have HB00 := n2_; clear n0_ n1_ n2_; have HT240 := Aside0.mk hT_; clear hb hT_; obtain ⟨hcz47_0, hcz47_1, hfz47_0, hfz47_1⟩ := cf2 BK237.out) | ((with_reducible refine gate_callee (f := 36) rfl ?_); refine goesL_ (some 14) rfl rfl Try.func36 (by kernel_rfl) rfl #[.agg #[.int .i64 a0_0, .int .u64 a0_1]] rfl (by (try simp only [List.map_toArray, List.map_cons, List.map_nil]) <;> rfl) ?_; (with_reducible refine (outpostref32_Check.calls k a0_0 a0_1 t242 _ A3.out).mono ?_); rintro e w48 ⟨rfl, hb⟩; refine ⟨_, rfl, ?_⟩; have n0_ := aK (kb BK237.out hb); have n1_ := aK (below_step (by repeat (first | (with_reducible first | exact HB.out | apply hA | apply hN | apply hD | refine below_set ?_ GE237.out) | exact HB.out)) hb); clear BK237 HB; have BK237 := n0_; have HB := n1_; clear n0_ n1_; (try clear hb)) | ((with_reducible refine gate_callee (f := 13) rfl ?_); refine goesL_ (some 19) rfl rfl Try.func13 (by kernel_rfl) rfl #[.int .i64 t241] rfl (by (try simp only [List.map_toArray, List.map_cons, List.map_nil]) <;> rfl) ?_; (with_reducible refine (outpostlaw32_num.calls t241 t243 _ A4.out).mono ?_); rintro e w' ⟨rfl, ⟨nd, rfl⟩⟩; refine ⟨_, rfl, ?_⟩; obtain ⟨hcz49_0, hcz49_1, hfz49_0, hfz49_1⟩ := cf2 BK237.out) | (go_at_call 37; (with_reducible refine (galois_Check.calls k a0_0 a0_1 t244 _ A6.out).mono ?_); rintro e w50 ⟨rfl, hb⟩; have n0_ := aK (kb BK237.out hb); have n1_ := aK (below_step (by repeat (first | (with_reducible first | exact HB.out | apply hA | apply hN | apply hD | refine below_set ?_ GE237.out) | exact HB.out)) hb); clear BK237 HB; have BK237 := n0_; have HB := n1_; clear n0_ n1_; (try clear hb)) | (go_at_call 13; (with_reducible refine (outpostlaw32_num.calls t244 t245 _ A7.out).mono ?_); rintro e w' ⟨rfl, ⟨nd, rfl⟩⟩))
   go_ret3
   exact ⟨_, by first | rfl | (simp [errW_none, errW_some] <;> rfl) | (simp [*, errW_none, errW_some] <;> rfl), (gal_OK_below HT240.out (by repeat (first | (with_reducible first | exact HB.out | apply hA | apply hN | apply hD | refine below_set ?_ GE237.out) | exact HB.out))), below_step HB00.out (by repeat (first | (with_reducible first | exact HB.out | apply hA | apply hN | apply hD | refine below_set ?_ GE237.out) | exact HB.out))⟩
 ·rw [if_neg c5] at H
  have c5b0 : (t243 == t242) = false := beq_eq_false_iff_ne.mpr c5
  have c5b1 : (t243 != t242) = true := bne_iff_ne.mpr c5
  simp only [Option.some.injEq, Prod.mk.injEq] at H
  obtain ⟨rfl, rfl, rfl⟩ := H
  go_enter Try.func8, Try.ntmps8
  go_wp2_with (first | ((with_reducible refine gate_dst (N := 1) rfl ?_); refine box_event ?hg (N := 1) ?hd (cs := #[.int .i64 a0_0, .int .u64 a0_1]) (t := 24) ?hr ?_; (case hd => rfl); (case hg => rfl); (case hr => first | (go_simp; done) | (go_simp; rfl)); intro gb237 hg w51 hbox hb; have n0_ := aK (below_step (mvh HB.out) hb); have n1_ := aK (hbox); have n2_ := aK ((by rw [hg]; exact (below_size (mvh HB.out)) : w.heap.size ≤ gb237)); have n3_ := aK ((by rw [hg]; exact (below_size (mvh HB.out)) : w.heap.size ≤ gb237)); clear HB; have HB := n0_; have BK237 := n1_; have GW237 := n2_; have GE237 := n3_; clear n0_ n1_ n2_ n3_; clear hb hbox hg; obtain ⟨hcz52_0, hcz52_1, hfz52_0, hfz52_1⟩ := cf2 BK237.out) | ((with_reducible refine gate_callee (f := 35) rfl ?_); refine goesL_ (some 10) rfl rfl Try.func35 (by kernel_rfl) rfl #[.agg #[.int .i64 a0_0, .int .u64 a0_1]] rfl (by (try simp only [List.map_toArray, List.map_cons, List.map_nil]) <;> rfl) ?_; (with_reducible refine (galois_New.calls k a0_0 a0_1 t238 t241 _ A2.out).mono ?_); rintro e w ⟨Ap239, rfl, hT_, hb⟩; refine ⟨_, rfl, ?_⟩; have n0_ := aK (kb BK237.out hb); have n1_ := aK (Below.refl w.heap.size w); have n2_ := aK (below_step (by repeat (first | (with_reducible first | exact HB.out | apply hA | apply hN | apply hD | refine below_set ?_ GE237.out) | exact HB.out)) hb); clear BK237 HB; have BK237 := n0_; have HB := n1_; have HB00 := n2_; clear n0_ n1_ n2_; have HT240 := Aside0.mk hT_; clear hb hT_; obtain ⟨hcz54_0, hcz54_1, hfz54_0, hfz54_1⟩ := cf2 BK237.out) | ((with_reducible refine gate_callee (f := 36) rfl ?_); refine goesL_ (some 14) rfl rfl Try.func36 (by kernel_rfl) rfl #[.agg #[.int .i64 a0_0, .int .u64 a0_1]] rfl (by (try simp only [List.map_toArray, List.map_cons, List.map_nil]) <;> rfl) ?_; (with_reducible refine (outpostref32_Check.calls k a0_0 a0_1 t242 _ A3.out).mono ?_); rintro e w55 ⟨rfl, hb⟩; refine ⟨_, rfl, ?_⟩; have n0_ := aK (kb BK237.out hb); have n1_ := aK (below_step (by repeat (first | (with_reducible first | exact HB.out | apply hA | apply hN | apply hD | refine below_set ?_ GE237.out) | exact HB.out)) hb); clear BK237 HB; have BK237 := n0_; have HB := n1_; clear n0_ n1_; (try clear hb)) | ((with_reducible refine gate_callee (f := 13) rfl ?_); refine goesL_ (some 19) rfl rfl Try.func13 (by kernel_rfl) rfl #[.int .i64 t241] rfl (by (try simp only [List.map_toArray, List.map_cons, List.map_nil]) <;> rfl) ?_; (with_reducible refine (outpostlaw32_num.calls t241 t243 _ A4.out).mono ?_); rintro e w' ⟨rfl, ⟨nd, rfl⟩⟩; refine ⟨_, rfl, ?_⟩))
  go_ret3
  exact ⟨_, by first | rfl | (simp [errW_none, errW_some] <;> rfl) | (simp [*, errW_none, errW_some] <;> rfl), (gal_OK_below HT240.out (by repeat (first | (with_reducible first | exact HB.out | apply hA | apply hN | apply hD | refine below_set ?_ GE237.out) | exact HB.out))), below_step HB00.out (by repeat (first | (with_reducible first | exact HB.out | apply hA | apply hN | apply hD | refine below_set ?_ GE237.out) | exact HB.out))⟩

/-! ### outpostlaw01_Lent: function 9, given -/
def outpostlaw01_Lent.f (l0 : List Int) : Option (List Int) := if l0.length + 8 < 140737488355328 then some l0 else none
set_option maxHeartbeats 8000000 in
set_option maxRecDepth 100000 in
theorem outpostlaw01_Lent.calls (A0 : Option Addr) (c0 : Nat) (l0 : List Int) (r : List Int) (w : World) (hr0 : Kd.C (Kd.int .u8) w A0 l0.length l0) (hc0 : l0.length ≤ c0) (h : outpostlaw01_Lent.f l0 = some r) :
  Calls Try.prog 9 #[.slice A0 l0.length c0] w fun e w' => ∃ v0_ : Value, e = .returned (v0_) ∧ Kd.L (Kd.int .u8) 5 w' w.heap.size (fun _ => True) v0_ r ∧ Below w.heap.size w w' := by
 have HR0 := Aside0.mk hr0
 have HC0 := Aside0.mk hc0
 clear hr0 hc0
 have HB := aK (Below.refl w.heap.size w)
 unfold outpostlaw01_Lent.f at h
 by_cases c2 : l0.length + 8 < 140737488355328
 ·rw [if_pos c2] at h
  obtain rfl := Option.some.inj h
  clear h
  have LMc2 := Aside0.mk c2
  clear c2
  obtain ⟨y101, hy101⟩ : ∃ y_ : List Int, y_ = (([] : List Int)) := ⟨_, rfl⟩
  have Ny101 := Aside0.mk hy101
  clear hy101
  obtain ⟨y104, hy104⟩ : ∃ y_ : List Int, y_ = (y101 ++ l0) := ⟨_, rfl⟩
  have Ny104 := Aside0.mk hy104
  clear hy104
  have N0 : Aside0 (y104 = l0 ++ Kd.marks.take 0) := ⟨by simp [Ny104.out, Ny101.out]⟩
  have LM1 : Aside0 (y101.length + l0.length < 140737488355328) := ⟨by rw [Ny101.out]; have := LMc2.out; simp only [List.length_nil]; omega⟩
  go_enter Try.func9, Try.ntmps9
  go_wp2_with (first | ((with_reducible refine gate_dst (N := 5) rfl ?_); refine Kd.R_lit (Kd.int .u8) _ 5 ?hg (N := 5) ?hd (xs := ([] : List Int)) (inner := []) (ok := fun _ => True) (okp := fun _ => True) ?hr ?hp (fun _ hk => hk) trivial (Below.refl _ _) (Nat.le_refl _) (by simp) ?_; (case hd => rfl); (case hg => rfl); (case hr => first | (go_simp; done) | (go_simp; rfl)); (case hp => exact (Reps.none _ _)); intro v102 w3 ho4 hb hg_ hnew_; clear hg_ hnew_; (first | rw [← Ny101.out] at ho4 | (simp only [Int.reduceToNat] at ho4; rw [← Ny101.out] at ho4)); have n0_ := aK (Kd.R_lower ho4 (below_size (mvh HB.out))); have n1_ := aK (below_step (mvh HB.out) hb); clear HB; have HO103 := n0_; have HB := n1_; clear n0_ n1_; clear hb ho4) | ((with_reducible refine gate_builtin (b := .append) (xs := #[.tmp 5, .tmp 6]) rfl ?_); at_builtin; refine Kd.R_append_rows (Kd.int .u8) (w0 := w) w.heap.size rfl (.tmp 5) (.tmp 6) 25 5 (.int .u8 0) 1 rfl Try.underlying25 info5 rfl (by decide) (by omega) v102 y101 l0 _ _ _ (fun _ => True) (fun _ => False) rfl rfl ?aO ?aR (fun _ _ h => h) (fun _ h => h.elim) ?aF ?aB ?aS ?aL ?_; (case aR => repeat (first | exact (Kd.C_below HR0.out HB.out) | (with_reducible refine Kd.C_alloc ?_ _) | (with_reducible refine Kd.C_drewN ?_ _) | (with_reducible refine Kd.C_drew ?_))); (case aB => exact (mvh HB.out)); (case aF => exact (fun _ _ => trivial)); (case aO => exact (mvR HO103.out)); (case aS => exact (below_size (mvh HB.out))); (case aL => have := LM1.out; omega); intro v105 w5 ho hb hg hat; rw [← Ny104.out] at ho; have n0_ := aK (hb); have n1_ := aK (ho); clear HB HO103; have HB := n0_; have HO106 := n1_; clear n0_ n1_; clear ho hb hg hat))
  go_loopg [3, 4] (8 : Nat) (fun kq v3 v4 w' => ∃ (x3_1 : List Int) (x4_1 : Int), v4 = .int .i64 x4_1 ∧ Aside0 (x3_1 = l0 ++ Kd.marks.take (8 - kq)) ∧ Aside0 (x4_1 = ((8 - kq : Nat) : Int) ∧ kq ≤ 8) ∧ Aside0 (Kd.R (Kd.int .u8) 5 w' w.heap.size (fun _ => True) v3 x3_1) ∧ Aside0 (Below w.heap.size w w'))
  case atStart => exact ⟨(y104), (0), (by first | rfl | (simp; done) | (simp [*]; done)), N0, ⟨by simp⟩, ⟨mvR HO106.out⟩, ⟨mvh HB.out⟩⟩
  case round =>
   obtain ⟨x3_1, x4_1, rfl, NX, HK1, HO_3, HB⟩ := hrel
   have LX : Aside0 (x3_1.length = l0.length + (8 - gk)) := ⟨by rw [NX.out]; simp [Kd.marks]⟩
   cases gk with
   | zero =>
    have c6b0 : decide (x4_1 < 8) = false := decide_eq_false (by have := HK1.out.1; omega)
    have c9b1 : decide (0 ≤ (l0.length : Int)) = true := decide_eq_true (by omega)
    have c10b1 : decide ((l0.length : Int) ≤ (x3_1.length : Int)) = true := decide_eq_true (by have := LX.out; omega)
    obtain ⟨i012, hi012, _, hsz12, _⟩ := info_parts info5
    obtain ⟨Ao11, co11, eo11, _, _⟩ := Kd.R_form HO_3.out (by have := LX.out; omega)
    subst eo11
    have q12 : ((l0.length : Int) : Int) ≤ ((x3_1.length : Int) : Int) := of_decide_eq_true c10b1
    have hcut12 := cut_to (P := Try.prog) 25 5 .i64 Try.underlying25 hi012 (some ⟨Ao11, 0, none⟩) x3_1.length co11 (l0.length : Int) (by omega) q12 (Kd.R_reads' HO_3.out).2.1
    simp only [Int.toNat_natCast] at hcut12
    have NX8 : Aside0 (x3_1 = l0 ++ Kd.marks) := ⟨by rw [NX.out]; rfl⟩
    clear hi012 hsz12
    replace q12 := eq_true q12
    go_wp2
    go_ret
    refine ⟨_, rfl, ⟨Ao11, co11, rfl, ?_⟩, mvh HB.out⟩
    rw [← NX8.out]
    (with_reducible repeat (first | apply Kd.R_alloc | apply Kd.R_drewN | apply Kd.R_drew))
    exact HO_3.out
   | succ k1 =>
    have c6b0 : decide (x4_1 < 8) = true := decide_eq_true (by have := HK1.out.1; have := HK1.out.2; omega)
    obtain ⟨y107, hy107⟩ : ∃ y_ : List Int, y_ = (x3_1 ++ [(wrap64 (200 + x4_1)) % 256]) := ⟨_, rfl⟩
    have Ny107 := Aside0.mk hy107
    clear hy107
    have LM7 : Aside0 (x3_1.length < 140737488355328) := ⟨by have := LX.out; have := LMc2.out; omega⟩
    have NY : Aside0 (y107 = l0 ++ Kd.marks.take (8 - k1)) := ⟨by
     have h1 := HK1.out.1
     have h2 := HK1.out.2
     rw [Ny107.out, NX.out, List.append_assoc]
     rw [h1, Kd.marks_step k1 h2]⟩
    have NZ : Aside0 (wrap64 (x4_1 + 1) = ((8 - k1 : Nat) : Int) ∧ k1 ≤ 8) := ⟨by have h1 := HK1.out.1; have h2 := HK1.out.2; unfold wrap64; omega⟩
    clear NX LX HK1
    go_wp2_with (first | ((with_reducible refine gate_builtin (b := .append) (xs := #[.tmp 12, .tmp 16]) rfl ?_); at_builtin; refine Kd.R_append (Kd.int .u8) (w0 := w) w.heap.size rfl (.tmp 12) (.tmp 16) 25 5 (.int .u8 0) 1 rfl Try.underlying25 info5 rfl (by decide) (by omega) u3 x3_1 ((wrap64 (200 + x4_1)) % 256) [.int .u8 ((wrap64 (200 + x4_1)) % 256)] (fun _ => True) (fun _ => False) rfl rfl ?aP (fun _ hk => hk.elim) ?aF ?aO ?aB ?aS ?aL ?_; (case aP => exact rfl); (case aB => exact (mvh HB.out)); (case aF => exact (fun _ _ => trivial)); (case aO => exact (mvR HO_3.out)); (case aS => exact (below_size (mvh HB.out))); (case aL => have := LM7.out; omega); intro v108 w8 ho hb hg hat; rw [← Ny107.out] at ho; have n0_ := aK (hb); have n1_ := aK (ho); clear HB HO_3; have HB := n0_; have HO109 := n1_; clear n0_ n1_; clear ho hb hg hat))
    go_roundg k1
    case measure => omega
    case rel => exact ⟨(y107), (wrap64 (x4_1 + 1)), (by first | rfl | (simp; done) | (simp [*]; done)), NY, NZ, ⟨mvR HO109.out⟩, ⟨mvh HB.out⟩⟩
 ·rw [if_neg c2] at h
  exact absurd h (by simp)

/-! ### slices_Index_byte_byte: function 66 -/
def slices_Index_byte_byte.l0 : Nat → List Int → Int → Int → Int → Option (Int)
 | 0, _, _, _, _ => none
 | k + 1, x0, x1, x7, x8 => if x8 < x7 then (if 0 ≤ x8 then (if x8 < (x0.length : Int) then (if x1 = (rd x0 x8) then (some x8) else (slices_Index_byte_byte.l0 k x0 x1 x7 (wrap64 (x8 + 1)))) else (none)) else (none)) else (some (-1))
def slices_Index_byte_byte.f (k : Nat) (l0 : List Int) (a1 : Int) : Option (Int) := slices_Index_byte_byte.l0 k l0 a1 (l0.length : Int) 0
theorem slices_Index_byte_byte.mono_l : ∀ k, (∀ y0 y1 y2 y3, LeO (slices_Index_byte_byte.l0 k y0 y1 y2 y3) (slices_Index_byte_byte.l0 (k + 1) y0 y1 y2 y3))
 | 0 => fun _ _ _ _ r h => by simp [slices_Index_byte_byte.l0] at h
 | k + 1 => by
  have ih0 := slices_Index_byte_byte.mono_l k
  ·intro y0 y1 y2 y3
   unfold slices_Index_byte_byte.l0
   repeat' first
   | (with_reducible exact ih0 _ _ _ _)
   | (with_reducible exact LeO.refl _)
   | (with_reducible exact LeO.none _)
   | (with_reducible refine LeO.ite ?_ ?_)
   | (with_reducible refine LeO.bind ?_ (fun _ => ?_))
   | exact ih0 _ _ _ _
   | exact LeO.none _
   | refine LeO.ite ?_ ?_
   | refine LeO.bind ?_ (fun _ => ?_)
theorem slices_Index_byte_byte.mono : ∀ a0 a1 k, LeO (slices_Index_byte_byte.f k a0 a1) (slices_Index_byte_byte.f (k + 1) a0 a1) := by
 intro a0 a1 k
 have ih0 := slices_Index_byte_byte.mono_l k
 unfold slices_Index_byte_byte.f
 repeat' first
   | (with_reducible exact ih0 _ _ _ _)
   | (with_reducible exact LeO.refl _)
   | (with_reducible exact LeO.none _)
   | (with_reducible refine LeO.ite ?_ ?_)
   | (with_reducible refine LeO.bind ?_ (fun _ => ?_))
   | exact ih0 _ _ _ _
   | exact LeO.none _
   | refine LeO.ite ?_ ?_
   | refine LeO.bind ?_ (fun _ => ?_)
set_option maxHeartbeats 8000000 in
set_option maxRecDepth 100000 in
theorem slices_Index_byte_byte.calls (k : Nat) (A0 : Option Addr) (c0 : Nat) (l0 : List Int) (a1 : Int) (r : Int) (w : World) (hr0 : Kd.C (Kd.int .u8) w A0 l0.length l0) (hc0 : l0.length ≤ c0) (h : slices_Index_byte_byte.f k l0 a1 = some r) :
  Calls Try.prog 66 #[.slice A0 l0.length c0, .int .u8 a1] w fun e w' => e = .returned (.int .i64 r) ∧ Drawn0 w w' := by
 have HR0 := Aside0.mk hr0
 have HC0 := Aside0.mk hc0
 clear hr0 hc0
 have H : (slices_Index_byte_byte.l0 k l0 a1 (l0.length : Int) 0) = some r := h
 clear h
 have H' := Aside0.mk H
 clear H
 go_enter Try.func66, Try.ntmps66
 go_wp2
 go_loopg [8] k (fun kq v8 w' => ∃ (x8_1 : Int), v8 = .int .i64 x8_1 ∧ Aside0 (slices_Index_byte_byte.l0 kq l0 a1 (l0.length : Int) x8_1 = some r) ∧ Aside0 (kq ≤ k) ∧ Drawn0 w w')
 case atStart => exact ⟨(0), (by first | rfl | (simp; done) | (simp [*]; done) | (simp [wrap64]; done)), H', ⟨Nat.le_refl _⟩, by repeat (first | exact Drawn0.refl _ | apply Drawn0.step)⟩
 case round =>
  clear H'
  try clear p2
  obtain ⟨x8_1, rfl, HA, HK1, ⟨m1, rfl⟩⟩ := hrel
  cases gk with
  | zero => exact absurd HA.out (by simp [slices_Index_byte_byte.l0])
  | succ k1 =>
   have H := HA.out
   clear HA
   simp only [slices_Index_byte_byte.l0] at H
   by_cases c3 : x8_1 < (l0.length : Int)
   ·rw [if_pos c3] at H
    have c3b0 : decide (x8_1 < (l0.length : Int)) = true := decide_eq_true c3
    clear c3
    by_cases c4 : 0 ≤ x8_1
    ·rw [if_pos c4] at H
     have c4b0 : decide (0 ≤ x8_1) = true := decide_eq_true c4
     clear c4
     by_cases c5 : x8_1 < (l0.length : Int)
     ·rw [if_pos c5] at H
      have c5b0 : decide (x8_1 < (l0.length : Int)) = true := decide_eq_true c5
      clear c5
      by_cases c6 : a1 = (rd l0 x8_1)
      ·rw [if_pos c6] at H
       have c6b0 : (a1 == (rd l0 x8_1)) = true := beq_iff_eq.mpr c6
       have c6b1 : (a1 != (rd l0 x8_1)) = false := bne_eq_false_iff_eq.mpr c6
       clear c6
       obtain rfl := Option.some.inj H
       have p248 : 0 ≤ (x8_1 : Int) := of_decide_eq_true (by first | (with_reducible assumption) | assumption)
       have q248 : x8_1 < (l0.length : Int) := of_decide_eq_true (by first | (with_reducible assumption) | assumption)
       obtain ⟨ad248, e248, hx248_0⟩ := Kd.at_int HR0.out x8_1 p248 q248
       cases e248
       replace p248 := eq_true p248
       replace q248 := eq_true q248
       go_wp2
       go_ret
       exact ⟨by first | rfl | (simp; done) | (simp [*]; done) | (simp [wrap64]; done), by repeat (first | exact Drawn0.refl _ | apply Drawn0.step)⟩
      ·rw [if_neg c6] at H
       have c6b0 : (a1 == (rd l0 x8_1)) = false := beq_eq_false_iff_ne.mpr c6
       have c6b1 : (a1 != (rd l0 x8_1)) = true := bne_iff_ne.mpr c6
       have H' := Aside0.mk H
       clear H
       have p248 : 0 ≤ (x8_1 : Int) := of_decide_eq_true (by first | (with_reducible assumption) | assumption)
       have q248 : x8_1 < (l0.length : Int) := of_decide_eq_true (by first | (with_reducible assumption) | assumption)
       obtain ⟨ad248, e248, hx248_0⟩ := Kd.at_int HR0.out x8_1 p248 q248
       cases e248
       replace p248 := eq_true p248
       replace q248 := eq_true q248
       go_wp2
       go_roundg k1
       case measure => have := HK1.out; omega
       case rel => exact ⟨(wrap64 (x8_1 + 1)), (by first | rfl | (simp; done) | (simp [*]; done) | (simp [wrap64]; done)), H', ⟨by have := HK1.out; omega⟩, by repeat (first | exact Drawn0.refl _ | apply Drawn0.step)⟩
     ·rw [if_neg c5] at H
      exact absurd H (by simp)
    ·rw [if_neg c4] at H
     exact absurd H (by simp)
   ·rw [if_neg c3] at H
    have c3b0 : decide (x8_1 < (l0.length : Int)) = false := decide_eq_false c3
    clear c3
    obtain rfl := Option.some.inj H
    go_wp2
    go_ret
    exact ⟨by first | rfl | (simp; done) | (simp [*]; done) | (simp [wrap64]; done), by repeat (first | exact Drawn0.refl _ | apply Drawn0.step)⟩

/-! ### slices_Contains_byte_byte: function 40 -/
def slices_Contains_byte_byte.f (k : Nat) (l0 : List Int) (a1 : Int) : Option (Bool) := (slices_Index_byte_byte.f k l0 a1).bind fun t249 => (some (decide (t249 ≥ 0)))
theorem slices_Contains_byte_byte.mono : ∀ a0 a1 k, LeO (slices_Contains_byte_byte.f k a0 a1) (slices_Contains_byte_byte.f (k + 1) a0 a1) := by
 intro a0 a1 k
 unfold slices_Contains_byte_byte.f
 repeat' first
   | (with_reducible exact slices_Index_byte_byte.mono _ _ _)
   | (with_reducible exact LeO.refl _)
   | (with_reducible exact LeO.none _)
   | (with_reducible refine LeO.ite ?_ ?_)
   | (with_reducible refine LeO.bind ?_ (fun _ => ?_))
   | exact slices_Index_byte_byte.mono _ _ _
   | exact LeO.none _
   | refine LeO.ite ?_ ?_
   | refine LeO.bind ?_ (fun _ => ?_)
set_option maxHeartbeats 8000000 in
set_option maxRecDepth 100000 in
theorem slices_Contains_byte_byte.calls (k : Nat) (A0 : Option Addr) (c0 : Nat) (l0 : List Int) (a1 : Int) (r : Bool) (w : World) (hr0 : Kd.C (Kd.int .u8) w A0 l0.length l0) (hc0 : l0.length ≤ c0) (h : slices_Contains_byte_byte.f k l0 a1 = some r) :
  Calls Try.prog 40 #[.slice A0 l0.length c0, .int .u8 a1] w fun e w' => e = .returned (.bool r) ∧ Drawn0 w w' := by
 have HR0 := Aside0.mk hr0
 have HC0 := Aside0.mk hc0
 clear hr0 hc0
 have H : ((slices_Index_byte_byte.f k l0 a1).bind fun t249 => (some (decide (t249 ≥ 0)))) = some r := h
 clear h
 replace H := Option.bind_eq_some_iff.mp H
 obtain ⟨t249, A30, H⟩ := H
 replace H : (some (decide (t249 ≥ 0))) = some r := H
 have A3 := Aside0.mk A30
 clear A30
 obtain rfl := Option.some.inj H
 go_enter Try.func40, Try.ntmps40
 go_wp2_with (first | ((with_reducible refine gate_callee (f := 66) rfl ?_); refine goesL_ (some 7) rfl rfl Try.func66 (by kernel_rfl) rfl #[.slice A0 l0.length c0, .int .u8 a1] rfl (by (try simp only [List.map_toArray, List.map_cons, List.map_nil]) <;> rfl) ?_; (with_reducible refine (slices_Index_byte_byte.calls k _ _ l0 a1 t249 _ ?side1 ?side2 A3.out).mono ?_); (case side1 => repeat (first | exact HR0.out | (with_reducible refine Kd.C_alloc ?_ _) | (with_reducible refine Kd.C_drewN ?_ _) | (with_reducible refine Kd.C_drew ?_))); (case side2 => exact HC0.out); rintro e w' ⟨rfl, ⟨nd, rfl⟩⟩; refine ⟨_, rfl, ?_⟩))
 go_ret
 exact ⟨by first | rfl | (simp; done) | (simp [*]; done) | (simp [wrap64]; done), by repeat (first | exact Drawn0.refl _ | apply Drawn0.step)⟩

/-! ### galois_Tables_eval: function 41 -/
def galois_Tables_eval.l0 : Nat → GTab → Int → Int → List Int → Int → Int → Option (Int)
 | 0, _, _, _, _, _, _ => none
 | k + 1, x0, x2, x7, x10, x11, x12 => if x12 < x11 then (if 0 ≤ x12 then (if x12 < (x10.length : Int) then (if 0 < x0.size then ((galois_New_1.f x0 x7 x2).bind fun t251 => (galois_Tables_eval.l0 k x0 x2 (Go.bits .xor .u8 t251 (rd x10 x12)) x10 x11 (wrap64 (x12 + 1)))) else (none)) else (none)) else (none)) else (some x7)
def galois_Tables_eval.f (k : Nat) (a0 : GTab) (l1 : List Int) (a2 : Int) : Option (Int) := galois_Tables_eval.l0 k a0 a2 0 l1 (l1.length : Int) 0
theorem galois_Tables_eval.mono_l : ∀ k, (∀ y0 y1 y2 y3 y4 y5, LeO (galois_Tables_eval.l0 k y0 y1 y2 y3 y4 y5) (galois_Tables_eval.l0 (k + 1) y0 y1 y2 y3 y4 y5))
 | 0 => fun _ _ _ _ _ _ r h => by simp [galois_Tables_eval.l0] at h
 | k + 1 => by
  have ih0 := galois_Tables_eval.mono_l k
  ·intro y0 y1 y2 y3 y4 y5
   unfold galois_Tables_eval.l0
   repeat' first
   | (with_reducible exact ih0 _ _ _ _ _ _)
   | (with_reducible exact LeO.refl _)
   | (with_reducible exact LeO.none _)
   | (with_reducible refine LeO.ite ?_ ?_)
   | (with_reducible refine LeO.bind ?_ (fun _ => ?_))
   | exact ih0 _ _ _ _ _ _
   | exact LeO.none _
   | refine LeO.ite ?_ ?_
   | refine LeO.bind ?_ (fun _ => ?_)
theorem galois_Tables_eval.mono : ∀ a0 a1 a2 k, LeO (galois_Tables_eval.f k a0 a1 a2) (galois_Tables_eval.f (k + 1) a0 a1 a2) := by
 intro a0 a1 a2 k
 have ih0 := galois_Tables_eval.mono_l k
 unfold galois_Tables_eval.f
 repeat' first
   | (with_reducible exact ih0 _ _ _ _ _ _)
   | (with_reducible exact LeO.refl _)
   | (with_reducible exact LeO.none _)
   | (with_reducible refine LeO.ite ?_ ?_)
   | (with_reducible refine LeO.bind ?_ (fun _ => ?_))
   | exact ih0 _ _ _ _ _ _
   | exact LeO.none _
   | refine LeO.ite ?_ ?_
   | refine LeO.bind ?_ (fun _ => ?_)
set_option maxHeartbeats 8000000 in
set_option maxRecDepth 100000 in
theorem galois_Tables_eval.calls (k : Nat) (A0 : Option Addr) (a0 : GTab) (A1 : Option Addr) (c1 : Nat) (l1 : List Int) (a2 : Int) (r : Int) (w : World) (hr0 : gal_OK w A0 a0) (hr1 : Kd.C (Kd.int .u8) w A1 l1.length l1) (hc1 : l1.length ≤ c1) (h : galois_Tables_eval.f k a0 l1 a2 = some r) :
  Calls Try.prog 41 #[.pointer A0, .slice A1 l1.length c1, .int .u8 a2] w fun e w' => e = .returned (.int .u8 r) ∧ Drawn0 w w' := by
 have HR0 := Aside0.mk hr0
 clear hr0
 have HR1 := Aside0.mk hr1
 have HC1 := Aside0.mk hc1
 clear hr1 hc1
 have H : (galois_Tables_eval.l0 k a0 a2 0 l1 (l1.length : Int) 0) = some r := h
 clear h
 have H' := Aside0.mk H
 clear H
 go_enter Try.func41, Try.ntmps41
 go_wp2
 go_loopg [7, 12] k (fun kq v7 v12 w' => ∃ (x7_1 : Int) (x12_1 : Int), v7 = .int .u8 x7_1 ∧ v12 = .int .i64 x12_1 ∧ Aside0 (galois_Tables_eval.l0 kq a0 a2 x7_1 l1 (l1.length : Int) x12_1 = some r) ∧ Aside0 (kq ≤ k) ∧ Drawn0 w w')
 case atStart => exact ⟨(0), (0), (by first | rfl | (simp; done) | (simp [*]; done) | (simp [wrap64]; done)), (by first | rfl | (simp; done) | (simp [*]; done) | (simp [wrap64]; done)), H', ⟨Nat.le_refl _⟩, by repeat (first | exact Drawn0.refl _ | apply Drawn0.step)⟩
 case round =>
  clear H'
  (try clear c1); (try clear p2)
  obtain ⟨x7_1, x12_1, rfl, rfl, HA, HK1, ⟨m1, rfl⟩⟩ := hrel
  cases gk with
  | zero => exact absurd HA.out (by simp [galois_Tables_eval.l0])
  | succ k1 =>
   have H := HA.out
   clear HA
   simp only [galois_Tables_eval.l0] at H
   by_cases c4 : x12_1 < (l1.length : Int)
   ·rw [if_pos c4] at H
    have c4b0 : decide (x12_1 < (l1.length : Int)) = true := decide_eq_true c4
    clear c4
    by_cases c5 : 0 ≤ x12_1
    ·rw [if_pos c5] at H
     have c5b0 : decide (0 ≤ x12_1) = true := decide_eq_true c5
     clear c5
     by_cases c6 : x12_1 < (l1.length : Int)
     ·rw [if_pos c6] at H
      have c6b0 : decide (x12_1 < (l1.length : Int)) = true := decide_eq_true c6
      clear c6
      by_cases c7 : 0 < a0.size
      ·rw [if_pos c7] at H
       obtain ⟨b_, p_, q_, rfl, hT_⟩ := gal_pos HR0.out c7
       have HT0 := Aside0.mk hT_
       clear hT_ c7
       replace H := Option.bind_eq_some_iff.mp H
       obtain ⟨t251, A90, H⟩ := H
       replace H : (galois_Tables_eval.l0 k1 a0 a2 (Go.bits .xor .u8 t251 (rd l1 x12_1)) l1 (l1.length : Int) (wrap64 (x12_1 + 1))) = some r := H
       have A9 := Aside0.mk A90
       clear A90
       have H' := Aside0.mk H
       clear H
       have p250 : 0 ≤ (x12_1 : Int) := of_decide_eq_true (by first | (with_reducible assumption) | assumption)
       have q250 : x12_1 < (l1.length : Int) := of_decide_eq_true (by first | (with_reducible assumption) | assumption)
       obtain ⟨ad250, e250, hx250_0⟩ := Kd.at_int HR1.out x12_1 p250 q250
       cases e250
       replace p250 := eq_true p250
       replace q250 := eq_true q250
       have ho8 := gal_At_mul HT0.out
       have hx8 := ho8
       go_wp2_with (first | (go_at_call 56; (with_reducible refine (galois_New_1.calls b_ p_ q_ a0 x7_1 a2 t251 _ ?side1 A9.out).mono ?_); (case side1 => exact HT0.out); rintro e w' ⟨rfl, ⟨nd, rfl⟩⟩))
       go_roundg k1
       case measure => have := HK1.out; omega
       case rel => exact ⟨(Go.bits .xor .u8 t251 (rd l1 x12_1)), (wrap64 (x12_1 + 1)), (by first | rfl | (simp; done) | (simp [*]; done) | (simp [wrap64]; done)), (by first | rfl | (simp; done) | (simp [*]; done) | (simp [wrap64]; done)), H', ⟨by have := HK1.out; omega⟩, by repeat (first | exact Drawn0.refl _ | apply Drawn0.step)⟩
      ·rw [if_neg c7] at H
       exact absurd H (by simp)
     ·rw [if_neg c6] at H
      exact absurd H (by simp)
    ·rw [if_neg c5] at H
     exact absurd H (by simp)
   ·rw [if_neg c4] at H
    have c4b0 : decide (x12_1 < (l1.length : Int)) = false := decide_eq_false c4
    clear c4
    obtain rfl := Option.some.inj H
    go_wp2
    go_ret
    exact ⟨by first | rfl | (simp; done) | (simp [*]; done) | (simp [wrap64]; done), by repeat (first | exact Drawn0.refl _ | apply Drawn0.step)⟩

/-! ### galois_Tables_inv: function 42 -/
def galois_Tables_inv.f (a0 : GTab) (a1 : Int) : Option (Int) := if 0 < a0.size then (if 0 ≤ a1 then (if a1 < 256 then (if (wrap64 ((a0.size : Int) - 1)) = 0 then (none) else (if 0 ≤ (Int.tmod (wrap64 ((wrap64 ((a0.size : Int) - 1)) - (GTab.lg a0 a1))) (wrap64 ((a0.size : Int) - 1))) then (if (Int.tmod (wrap64 ((wrap64 ((a0.size : Int) - 1)) - (GTab.lg a0 a1))) (wrap64 ((a0.size : Int) - 1))) < 256 then (some (GTab.ex a0 (Int.tmod (wrap64 ((wrap64 ((a0.size : Int) - 1)) - (GTab.lg a0 a1))) (wrap64 ((a0.size : Int) - 1))))) else (none)) else (none))) else (none)) else (none)) else (none)
set_option maxHeartbeats 8000000 in
set_option maxRecDepth 100000 in
theorem galois_Tables_inv.calls (A0 : Option Addr) (a0 : GTab) (a1 : Int) (r : Int) (w : World) (hr0 : gal_OK w A0 a0) (h : galois_Tables_inv.f a0 a1 = some r) :
  Calls Try.prog 42 #[.pointer A0, .int .u8 a1] w fun e w' => e = .returned (.int .u8 r) ∧ Drawn0 w w' := by
 have HR0 := Aside0.mk hr0
 clear hr0
 have H : (if 0 < a0.size then (if 0 ≤ a1 then (if a1 < 256 then (if (wrap64 ((a0.size : Int) - 1)) = 0 then (none) else (if 0 ≤ (Int.tmod (wrap64 ((wrap64 ((a0.size : Int) - 1)) - (GTab.lg a0 a1))) (wrap64 ((a0.size : Int) - 1))) then (if (Int.tmod (wrap64 ((wrap64 ((a0.size : Int) - 1)) - (GTab.lg a0 a1))) (wrap64 ((a0.size : Int) - 1))) < 256 then (some (GTab.ex a0 (Int.tmod (wrap64 ((wrap64 ((a0.size : Int) - 1)) - (GTab.lg a0 a1))) (wrap64 ((a0.size : Int) - 1))))) else (none)) else (none))) else (none)) else (none)) else (none)) = some r := h
 clear h
 by_cases c3 : 0 < a0.size
 ·rw [if_pos c3] at H
  obtain ⟨b_, p_, q_, rfl, hT_⟩ := gal_pos HR0.out c3
  have HT0 := Aside0.mk hT_
  clear hT_ c3
  by_cases c5 : 0 ≤ a1
  ·rw [if_pos c5] at H
   have c5b0 : decide (0 ≤ a1) = true := decide_eq_true c5
   clear c5
   by_cases c6 : a1 < 256
   ·rw [if_pos c6] at H
    have c6b0 : decide (a1 < 256) = true := decide_eq_true c6
    clear c6
    by_cases c9 : (wrap64 ((a0.size : Int) - 1)) = 0
    ·rw [if_pos c9] at H
     exact absurd H (by simp)
    ·rw [if_neg c9] at H
     have c9b0 : ((wrap64 ((a0.size : Int) - 1)) == 0) = false := beq_eq_false_iff_ne.mpr c9
     have c9b1 : ((wrap64 ((a0.size : Int) - 1)) != 0) = true := bne_iff_ne.mpr c9
     obtain ⟨ji10, hji10⟩ : ∃ j_ : Int, (Int.tmod (wrap64 ((wrap64 ((a0.size : Int) - 1)) - (GTab.lg a0 a1))) (wrap64 ((a0.size : Int) - 1))) = j_ := ⟨_, rfl⟩
     replace H : (if 0 ≤ (ji10) then (if (ji10) < 256 then (some (GTab.ex a0 (ji10))) else (none)) else (none)) = some r := by first | (rw [hji10] at H; exact H) | (simp only [hji10] at H ⊢; exact H)
     by_cases c11 : 0 ≤ (ji10)
     ·rw [if_pos c11] at H
      have c11b0 : decide (0 ≤ (ji10)) = true := decide_eq_true c11
      clear c11
      by_cases c12 : (ji10) < 256
      ·rw [if_pos c12] at H
       have c12b0 : decide ((ji10) < 256) = true := decide_eq_true c12
       clear c12
       obtain rfl := Option.some.inj H
       have ho4 := gal_At_size HT0.out
       have hx4 := ho4
       have p7 : 0 ≤ (a1 : Int) := of_decide_eq_true (by first | (with_reducible assumption) | assumption)
       have q7 : (a1 : Int) < 256 := of_decide_eq_true (by first | (with_reducible assumption) | assumption)
       have ho7 := gal_At_log HT0.out a1 p7 q7
       have hx7 := ho7
       replace p7 := eq_true p7
       replace q7 := eq_true q7
       have ho8 := gal_At_size HT0.out
       have hx8 := ho8
       have p13 : 0 ≤ (ji10 : Int) := of_decide_eq_true (by first | (with_reducible assumption) | assumption)
       have q13 : (ji10 : Int) < 256 := of_decide_eq_true (by first | (with_reducible assumption) | assumption)
       have ho13 := gal_At_exp HT0.out ji10 p13 q13
       have hx13 := ho13
       replace p13 := eq_true p13
       replace q13 := eq_true q13
       go_enter Try.func42, Try.ntmps42
       go_wp2
       repeat (go_quiet (fail); try go_wp2)
       go_ret
       exact ⟨by first | rfl | (simp; done) | (simp only [← hji10] <;> (first | rfl | simp)) | (simp [*]; done) | (simp [wrap64]; done), by repeat (first | exact Drawn0.refl _ | apply Drawn0.step)⟩
      ·rw [if_neg c12] at H
       exact absurd H (by simp)
     ·rw [if_neg c11] at H
      exact absurd H (by simp)
   ·rw [if_neg c6] at H
    exact absurd H (by simp)
  ·rw [if_neg c5] at H
   exact absurd H (by simp)
 ·rw [if_neg c3] at H
  exact absurd H (by simp)

end Go.Proofs.Ytjdkamhnbheofaa.P

-- squeezed
