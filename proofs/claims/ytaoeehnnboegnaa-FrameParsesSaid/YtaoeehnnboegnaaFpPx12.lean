-- written by mk.sh, a program of this session, over the kit's print
import Derived.Test.YtaoeehnnboegnaaFpQFrmL
import Derived.Test.YtaoeehnnboegnaaFpPx0
import Derived.Test.YtaoeehnnboegnaaFpPx4
import Derived.Test.YtaoeehnnboegnaaFpPx8
import Derived.Test.YtaoeehnnboegnaaFpPx11
namespace Go.Proofs.Ytaoeehnnboegnaa.P
open Go.RowKit Go.Proofs.YtaoeehnnboegnaaW.PrintWords Go.Proofs.YtaoeehnnboegnaaW.PrintLast Go.Proofs.YtaoeehnnboegnaaW.PrintMore
attribute [local go_sem] max2_int min2_int max_two min_two max_three min_three max_four min_four   -- for this text's walks alone
set_option linter.unusedVariables false
set_option linter.unusedSimpArgs false

/-! ### outpostlaw24_live: function 19 -/
def outpostlaw24_live.f (k : Nat)  : Option (Bool) := (some (([65] : List Int) : List Int)).bind fun y291 => ((outpostlaw24_two.f).bind fun bt295 => ((frame_Build.f k bt295.1 bt295.2.1 bt295.2.2.1 bt295.2.2.2.1 bt295.2.2.2.2.1 bt295.2.2.2.2.2 2 1 2 y291).bind fun bt301 => ((outpostlaw24_two.f).bind fun bt305 => ((frame_Parse.f k bt305.1 bt305.2.1 bt305.2.2.1 bt305.2.2.2.1 bt305.2.2.2.2.1 bt305.2.2.2.2.2 bt301.1).bind fun bt311 => ((outpostlaw24_two.f).bind fun bt319 => ((frame_Length.f k bt319.1 bt319.2.1 bt319.2.2.1 bt319.2.2.2.1 bt319.2.2.2.2.1 bt319.2.2.2.2.2).bind fun bt325 => ((outpostlaw24_num.f bt301.2).bind fun t327 => (if t327 = 0 then ((outpostlaw24_num.f bt311.2.2.2.2).bind fun t328 => (if t328 = 0 then ((outpostlaw24_num.f bt325.2).bind fun t329 => (if t329 = 0 then (if bt325.1 = 112 then (if (bt301.1.length : Int) = 112 then ((outpostref24_Same.f 2 1 2 y291 bt311.1 bt311.2.1 bt311.2.2.1 bt311.2.2.2.1).bind fun t330 => (if t330 = true then (if 6 < (bt301.1.length : Int) then (if (rd bt301.1 6) = 1 then (if 7 < (bt301.1.length : Int) then (some ((rd bt301.1 7) == 0)) else (none)) else (some false)) else (none)) else (some false))) else (some false)) else (some false)) else (some false))) else (some false))) else (some false)))))))))
theorem outpostlaw24_live.mono : ∀ k, LeO (outpostlaw24_live.f k ) (outpostlaw24_live.f (k + 1) ) := by
 intro  k
 unfold outpostlaw24_live.f
 repeat' first
   | (with_reducible exact frame_Build.mono _ _ _ _ _ _ _ _ _ _ _)
   | (with_reducible exact frame_Length.mono _ _ _ _ _ _ _)
   | (with_reducible exact frame_Parse.mono _ _ _ _ _ _ _ _)
   | (with_reducible exact LeO.refl _)
   | (with_reducible exact LeO.none _)
   | (with_reducible refine LeO.ite ?_ ?_)
   | (with_reducible refine LeO.bind ?_ (fun _ => ?_))
   | exact frame_Build.mono _ _ _ _ _ _ _ _ _ _ _
   | exact frame_Length.mono _ _ _ _ _ _ _
   | exact frame_Parse.mono _ _ _ _ _ _ _ _
   | exact LeO.none _
   | refine LeO.ite ?_ ?_
   | refine LeO.bind ?_ (fun _ => ?_)
def outpostlaw24_live.T2 : Bool × List (List Nat × List Nat) := (true, [([], []), ([], []), ([0, 1, 0], [0, 1]), ([2], [2]), ([3], [3]), ([3], [3]), ([4, 2, 0, 1, 2, 3, 4], [4]), ([5, 6, 0, 1, 2, 3, 4, 5, 6], [5])])
def outpostlaw24_live.B2 : List Nat := [0, 0, 3, 7, 15, 15, 31, 127]
theorem outpostlaw24_live.tab2 : rtab .any (opsOf Try.f19 2) = outpostlaw24_live.T2 := by kernel_rfl
theorem outpostlaw24_live.bits2 : waitsOk outpostlaw24_live.T2.2 outpostlaw24_live.B2 = true := by kernel_rfl
section
open Go.Proofs.YtaoeehnnboegnaaW.Q Go.Proofs.Ytaoeehnnboegnaa.Frm
open Go.Proofs.Ytaoeehnnboegnaa.Crc (okN unsealed layl crc)
theorem outpostlaw24_live.ev : Ev (fun k => outpostlaw24_live.f k) true := by
 have hs := two_ok
 have hD : ∀ x ∈ [65], x < 256 := by decide
 have hk : kdE ((2 : Nat) : Int) ((1 : Nat) : Int) [65].length = 0 := by decide
 have hv : vldE (2 : Nat) (16 : Nat) (4129 : Nat) (65535 : Nat) (0 : Nat) (2 : Nat) (1 : Nat) [65].length = 0 := vld_of (by decide) hs hk (by decide)
 have hB := Build_ev (n := 2) (K := 2) (S := 1) (A := 2) (R := false) (D := [65]) (by decide) hs (by decide) hD (by decide) hv
 have hP := parse_built (n := 2) (K := 2) (S := 1) (A := 2) (R := false) (D := [65]) hs (by decide) (by decide) (by decide) hD (by decide) (by decide) hk
 have hl : (body 2 1 2 [65] 2).length = 12 := body_length (by decide)
 have hlx := sld_length false 16 4129 65535 0 (body 2 1 2 [65] 2)
 have h0 : (sld false 16 4129 65535 0 (body 2 1 2 [65] 2)).getD 0 0 = 2 := rfl
 generalize hX : sld false 16 4129 65535 0 (body 2 1 2 [65] 2) = X at hB hP hlx h0
 rw [hl] at hlx
 have hbl := bits_length X
 rw [hlx] at hbl
 have g6 : (bitsOfB X).getD 6 0 = 1 := by
  rw [show (bitsOfB X).getD 6 0 = bitAt X 6 from unpack_getD (by omega)]
  show X.getD 0 0 / 2 ^ 1 % 2 = 1
  rw [h0]
 have g7 : (bitsOfB X).getD 7 0 = 0 := by
  rw [show (bitsOfB X).getD 7 0 = bitAt X 7 from unpack_getD (by omega)]
  show X.getD 0 0 / 2 ^ 0 % 2 = 0
  rw [h0]
 have hb : ∀ x ∈ bitsOfB X, x < 256 := fun x hx => by have := unpack_le _ _ x hx; omega
 have hPe := Parse_ev (n := 2) (R := false) (by decide) hs (bitsOfB X) hb (by omega)
 rw [hP] at hPe
 have hL := Length_ev (2 : Nat) (16 : Nat) (4129 : Nat) (65535 : Nat) (0 : Nat) false
 rw [len_ok (n := 2) (by decide) hs] at hL
 have il : ((ints (bitsOfB X)).length : Int) = 112 := by rw [ints_length, hbl]; rfl
 have r6 : rd (ints (bitsOfB X)) 6 = 1 := by
  have := rd_ints (bitsOfB X) 6
  rw [g6] at this
  exact this
 have r7 : rd (ints (bitsOfB X)) 7 = 0 := by
  have := rd_ints (bitsOfB X) 7
  rw [g7] at this
  exact this
 unfold outpostlaw24_live.f
 refine evB rfl ?_
 refine evB (show outpostlaw24_two.f = some (2, 16, 4129, 65535, 0, false) from rfl) ?_
 refine Ev.bind hB ?_
 refine evB (show outpostlaw24_two.f = some (2, 16, 4129, 65535, 0, false) from rfl) ?_
 refine Ev.bind hPe ?_
 refine evB (show outpostlaw24_two.f = some (2, 16, 4129, 65535, 0, false) from rfl) ?_
 refine Ev.bind hL ?_
 refine evB rfl (evP rfl ?_)
 refine evB rfl (evP rfl ?_)
 refine evB rfl (evP rfl ?_)
 refine evP rfl ?_
 refine evP il ?_
 refine evB (Same_self 2 1 2 [65]) (evP rfl ?_)
 refine evP (by simp only [il]; omega) ?_
 refine evP r6 ?_
 refine evP (by simp only [il]; omega) ?_
 refine evC ?_
 rw [r7]
 rfl
theorem outpostlaw24_live.is_true {k : Nat} {r : Bool} (h : outpostlaw24_live.f k = some r) : r = true := by
 obtain ⟨K, hK⟩ := Ev.both outpostlaw24_live.ev (Ev.of (fun k => outpostlaw24_live.mono k) h)
 obtain ⟨h1, h2⟩ := hK K (Nat.le_refl _)
 exact (Option.some.inj (h1.symm.trans h2)).symm
end
theorem outpostlaw24_live.no_false {r : Bool} {G : Prop} (hr : r = true) (h : some false = some r) : G := by
 subst hr
 cases h
set_option maxHeartbeats 8000000 in
set_option maxRecDepth 100000 in
theorem outpostlaw24_live.calls1 (k : Nat)  (r : Bool) (hr9_ : r = true) (w : World) (h : outpostlaw24_live.f k  = some r) :
  Calls Try.prog 19 #[] w fun e w' => e = .returned (.bool r) ∧ Below w.heap.size w w' := by
 have HR9_ := Aside0.mk hr9_
 clear hr9_
 have hu29 := Try.underlying29
 have HB := aK (Below.refl w.heap.size w)
 have H : ((some (([65] : List Int) : List Int)).bind fun y291 => ((outpostlaw24_two.f).bind fun bt295 => ((frame_Build.f k bt295.1 bt295.2.1 bt295.2.2.1 bt295.2.2.2.1 bt295.2.2.2.2.1 bt295.2.2.2.2.2 2 1 2 y291).bind fun bt301 => ((outpostlaw24_two.f).bind fun bt305 => ((frame_Parse.f k bt305.1 bt305.2.1 bt305.2.2.1 bt305.2.2.2.1 bt305.2.2.2.2.1 bt305.2.2.2.2.2 bt301.1).bind fun bt311 => ((outpostlaw24_two.f).bind fun bt319 => ((frame_Length.f k bt319.1 bt319.2.1 bt319.2.2.1 bt319.2.2.2.1 bt319.2.2.2.2.1 bt319.2.2.2.2.2).bind fun bt325 => ((outpostlaw24_num.f bt301.2).bind fun t327 => (if t327 = 0 then ((outpostlaw24_num.f bt311.2.2.2.2).bind fun t328 => (if t328 = 0 then ((outpostlaw24_num.f bt325.2).bind fun t329 => (if t329 = 0 then (if bt325.1 = 112 then (if (bt301.1.length : Int) = 112 then ((outpostref24_Same.f 2 1 2 y291 bt311.1 bt311.2.1 bt311.2.2.1 bt311.2.2.2.1).bind fun t330 => (if t330 = true then (if 6 < (bt301.1.length : Int) then (if (rd bt301.1 6) = 1 then (if 7 < (bt301.1.length : Int) then (some ((rd bt301.1 7) == 0)) else (none)) else (some false)) else (none)) else (some false))) else (some false)) else (some false)) else (some false))) else (some false))) else (some false)))))))))) = some r := h
 clear h
 obtain ⟨y291, hy291⟩ : ∃ y_ : List Int, y_ = (([65] : List Int)) := ⟨_, rfl⟩
 replace H : ((outpostlaw24_two.f).bind fun bt295 => ((frame_Build.f k bt295.1 bt295.2.1 bt295.2.2.1 bt295.2.2.2.1 bt295.2.2.2.2.1 bt295.2.2.2.2.2 2 1 2 y291).bind fun bt301 => ((outpostlaw24_two.f).bind fun bt305 => ((frame_Parse.f k bt305.1 bt305.2.1 bt305.2.2.1 bt305.2.2.2.1 bt305.2.2.2.2.1 bt305.2.2.2.2.2 bt301.1).bind fun bt311 => ((outpostlaw24_two.f).bind fun bt319 => ((frame_Length.f k bt319.1 bt319.2.1 bt319.2.2.1 bt319.2.2.2.1 bt319.2.2.2.2.1 bt319.2.2.2.2.2).bind fun bt325 => ((outpostlaw24_num.f bt301.2).bind fun t327 => (if t327 = 0 then ((outpostlaw24_num.f bt311.2.2.2.2).bind fun t328 => (if t328 = 0 then ((outpostlaw24_num.f bt325.2).bind fun t329 => (if t329 = 0 then (if bt325.1 = 112 then (if (bt301.1.length : Int) = 112 then ((outpostref24_Same.f 2 1 2 y291 bt311.1 bt311.2.1 bt311.2.2.1 bt311.2.2.2.1).bind fun t330 => (if t330 = true then (if 6 < (bt301.1.length : Int) then (if (rd bt301.1 6) = 1 then (if 7 < (bt301.1.length : Int) then (some ((rd bt301.1 7) == 0)) else (none)) else (some false)) else (none)) else (some false))) else (some false)) else (some false)) else (some false))) else (some false))) else (some false))))))))) = some r := by first | (rw [hy291]; with_reducible exact H) | (have H2_ := (Option.bind_some _ _).symm.trans H; rw [hy291]; with_reducible exact H2_) | (have H2_ := (Option.bind_some _ _).symm.trans H; with_reducible exact H2_) | with_reducible exact H | (rw [hy291]; exact H) | exact H
 have Ny291 := Aside0.mk hy291
 clear hy291
 replace H := Option.bind_eq_some_iff.mp H
 obtain ⟨⟨t295, t296, t297, t298, t299, t300⟩, A10, H⟩ := H
 replace H : ((frame_Build.f k t295 t296 t297 t298 t299 t300 2 1 2 y291).bind fun bt301 => ((outpostlaw24_two.f).bind fun bt305 => ((frame_Parse.f k bt305.1 bt305.2.1 bt305.2.2.1 bt305.2.2.2.1 bt305.2.2.2.2.1 bt305.2.2.2.2.2 bt301.1).bind fun bt311 => ((outpostlaw24_two.f).bind fun bt319 => ((frame_Length.f k bt319.1 bt319.2.1 bt319.2.2.1 bt319.2.2.2.1 bt319.2.2.2.2.1 bt319.2.2.2.2.2).bind fun bt325 => ((outpostlaw24_num.f bt301.2).bind fun t327 => (if t327 = 0 then ((outpostlaw24_num.f bt311.2.2.2.2).bind fun t328 => (if t328 = 0 then ((outpostlaw24_num.f bt325.2).bind fun t329 => (if t329 = 0 then (if bt325.1 = 112 then (if (bt301.1.length : Int) = 112 then ((outpostref24_Same.f 2 1 2 y291 bt311.1 bt311.2.1 bt311.2.2.1 bt311.2.2.2.1).bind fun t330 => (if t330 = true then (if 6 < (bt301.1.length : Int) then (if (rd bt301.1 6) = 1 then (if 7 < (bt301.1.length : Int) then (some ((rd bt301.1 7) == 0)) else (none)) else (some false)) else (none)) else (some false))) else (some false)) else (some false)) else (some false))) else (some false))) else (some false)))))))) = some r := H
 have A1 := Aside0.mk A10
 clear A10
 replace H := Option.bind_eq_some_iff.mp H
 obtain ⟨⟨t301, t304⟩, A20, H⟩ := H
 replace H : ((outpostlaw24_two.f).bind fun bt305 => ((frame_Parse.f k bt305.1 bt305.2.1 bt305.2.2.1 bt305.2.2.2.1 bt305.2.2.2.2.1 bt305.2.2.2.2.2 t301).bind fun bt311 => ((outpostlaw24_two.f).bind fun bt319 => ((frame_Length.f k bt319.1 bt319.2.1 bt319.2.2.1 bt319.2.2.2.1 bt319.2.2.2.2.1 bt319.2.2.2.2.2).bind fun bt325 => ((outpostlaw24_num.f t304).bind fun t327 => (if t327 = 0 then ((outpostlaw24_num.f bt311.2.2.2.2).bind fun t328 => (if t328 = 0 then ((outpostlaw24_num.f bt325.2).bind fun t329 => (if t329 = 0 then (if bt325.1 = 112 then (if (t301.length : Int) = 112 then ((outpostref24_Same.f 2 1 2 y291 bt311.1 bt311.2.1 bt311.2.2.1 bt311.2.2.2.1).bind fun t330 => (if t330 = true then (if 6 < (t301.length : Int) then (if (rd t301 6) = 1 then (if 7 < (t301.length : Int) then (some ((rd t301 7) == 0)) else (none)) else (some false)) else (none)) else (some false))) else (some false)) else (some false)) else (some false))) else (some false))) else (some false))))))) = some r := H
 have A2 := Aside0.mk A20
 clear A20
 replace H := Option.bind_eq_some_iff.mp H
 obtain ⟨⟨t305, t306, t307, t308, t309, t310⟩, A30, H⟩ := H
 replace H : ((frame_Parse.f k t305 t306 t307 t308 t309 t310 t301).bind fun bt311 => ((outpostlaw24_two.f).bind fun bt319 => ((frame_Length.f k bt319.1 bt319.2.1 bt319.2.2.1 bt319.2.2.2.1 bt319.2.2.2.2.1 bt319.2.2.2.2.2).bind fun bt325 => ((outpostlaw24_num.f t304).bind fun t327 => (if t327 = 0 then ((outpostlaw24_num.f bt311.2.2.2.2).bind fun t328 => (if t328 = 0 then ((outpostlaw24_num.f bt325.2).bind fun t329 => (if t329 = 0 then (if bt325.1 = 112 then (if (t301.length : Int) = 112 then ((outpostref24_Same.f 2 1 2 y291 bt311.1 bt311.2.1 bt311.2.2.1 bt311.2.2.2.1).bind fun t330 => (if t330 = true then (if 6 < (t301.length : Int) then (if (rd t301 6) = 1 then (if 7 < (t301.length : Int) then (some ((rd t301 7) == 0)) else (none)) else (some false)) else (none)) else (some false))) else (some false)) else (some false)) else (some false))) else (some false))) else (some false)))))) = some r := H
 have A3 := Aside0.mk A30
 clear A30
 replace H := Option.bind_eq_some_iff.mp H
 obtain ⟨⟨t311, t312, t313, t314, t317⟩, A40, H⟩ := H
 replace H : ((outpostlaw24_two.f).bind fun bt319 => ((frame_Length.f k bt319.1 bt319.2.1 bt319.2.2.1 bt319.2.2.2.1 bt319.2.2.2.2.1 bt319.2.2.2.2.2).bind fun bt325 => ((outpostlaw24_num.f t304).bind fun t327 => (if t327 = 0 then ((outpostlaw24_num.f t317).bind fun t328 => (if t328 = 0 then ((outpostlaw24_num.f bt325.2).bind fun t329 => (if t329 = 0 then (if bt325.1 = 112 then (if (t301.length : Int) = 112 then ((outpostref24_Same.f 2 1 2 y291 t311 t312 t313 t314).bind fun t330 => (if t330 = true then (if 6 < (t301.length : Int) then (if (rd t301 6) = 1 then (if 7 < (t301.length : Int) then (some ((rd t301 7) == 0)) else (none)) else (some false)) else (none)) else (some false))) else (some false)) else (some false)) else (some false))) else (some false))) else (some false))))) = some r := H
 have A4 := Aside0.mk A40
 clear A40
 replace H := Option.bind_eq_some_iff.mp H
 obtain ⟨⟨t319, t320, t321, t322, t323, t324⟩, A50, H⟩ := H
 replace H : ((frame_Length.f k t319 t320 t321 t322 t323 t324).bind fun bt325 => ((outpostlaw24_num.f t304).bind fun t327 => (if t327 = 0 then ((outpostlaw24_num.f t317).bind fun t328 => (if t328 = 0 then ((outpostlaw24_num.f bt325.2).bind fun t329 => (if t329 = 0 then (if bt325.1 = 112 then (if (t301.length : Int) = 112 then ((outpostref24_Same.f 2 1 2 y291 t311 t312 t313 t314).bind fun t330 => (if t330 = true then (if 6 < (t301.length : Int) then (if (rd t301 6) = 1 then (if 7 < (t301.length : Int) then (some ((rd t301 7) == 0)) else (none)) else (some false)) else (none)) else (some false))) else (some false)) else (some false)) else (some false))) else (some false))) else (some false)))) = some r := H
 have A5 := Aside0.mk A50
 clear A50
 replace H := Option.bind_eq_some_iff.mp H
 obtain ⟨⟨t325, t326⟩, A60, H⟩ := H
 replace H : ((outpostlaw24_num.f t304).bind fun t327 => (if t327 = 0 then ((outpostlaw24_num.f t317).bind fun t328 => (if t328 = 0 then ((outpostlaw24_num.f t326).bind fun t329 => (if t329 = 0 then (if t325 = 112 then (if (t301.length : Int) = 112 then ((outpostref24_Same.f 2 1 2 y291 t311 t312 t313 t314).bind fun t330 => (if t330 = true then (if 6 < (t301.length : Int) then (if (rd t301 6) = 1 then (if 7 < (t301.length : Int) then (some ((rd t301 7) == 0)) else (none)) else (some false)) else (none)) else (some false))) else (some false)) else (some false)) else (some false))) else (some false))) else (some false))) = some r := H
 have A6 := Aside0.mk A60
 clear A60
 replace H := Option.bind_eq_some_iff.mp H
 obtain ⟨t327, A70, H⟩ := H
 replace H : (if t327 = 0 then ((outpostlaw24_num.f t317).bind fun t328 => (if t328 = 0 then ((outpostlaw24_num.f t326).bind fun t329 => (if t329 = 0 then (if t325 = 112 then (if (t301.length : Int) = 112 then ((outpostref24_Same.f 2 1 2 y291 t311 t312 t313 t314).bind fun t330 => (if t330 = true then (if 6 < (t301.length : Int) then (if (rd t301 6) = 1 then (if 7 < (t301.length : Int) then (some ((rd t301 7) == 0)) else (none)) else (some false)) else (none)) else (some false))) else (some false)) else (some false)) else (some false))) else (some false))) else (some false)) = some r := H
 have A7 := Aside0.mk A70
 clear A70
 by_cases c8 : t327 = 0
 ·rw [if_pos c8] at H
  have c8b0 : (t327 == 0) = true := beq_iff_eq.mpr c8
  have c8b1 : (t327 != 0) = false := bne_eq_false_iff_eq.mpr c8
  clear c8
  replace H := Option.bind_eq_some_iff.mp H
  obtain ⟨t328, A90, H⟩ := H
  replace H : (if t328 = 0 then ((outpostlaw24_num.f t326).bind fun t329 => (if t329 = 0 then (if t325 = 112 then (if (t301.length : Int) = 112 then ((outpostref24_Same.f 2 1 2 y291 t311 t312 t313 t314).bind fun t330 => (if t330 = true then (if 6 < (t301.length : Int) then (if (rd t301 6) = 1 then (if 7 < (t301.length : Int) then (some ((rd t301 7) == 0)) else (none)) else (some false)) else (none)) else (some false))) else (some false)) else (some false)) else (some false))) else (some false)) = some r := H
  have A9 := Aside0.mk A90
  clear A90
  by_cases c10 : t328 = 0
  ·rw [if_pos c10] at H
   have c10b0 : (t328 == 0) = true := beq_iff_eq.mpr c10
   have c10b1 : (t328 != 0) = false := bne_eq_false_iff_eq.mpr c10
   clear c10
   replace H := Option.bind_eq_some_iff.mp H
   obtain ⟨t329, A110, H⟩ := H
   replace H : (if t329 = 0 then (if t325 = 112 then (if (t301.length : Int) = 112 then ((outpostref24_Same.f 2 1 2 y291 t311 t312 t313 t314).bind fun t330 => (if t330 = true then (if 6 < (t301.length : Int) then (if (rd t301 6) = 1 then (if 7 < (t301.length : Int) then (some ((rd t301 7) == 0)) else (none)) else (some false)) else (none)) else (some false))) else (some false)) else (some false)) else (some false)) = some r := H
   have A11 := Aside0.mk A110
   clear A110
   by_cases c12 : t329 = 0
   ·rw [if_pos c12] at H
    have c12b0 : (t329 == 0) = true := beq_iff_eq.mpr c12
    have c12b1 : (t329 != 0) = false := bne_eq_false_iff_eq.mpr c12
    clear c12
    by_cases c13 : t325 = 112
    ·rw [if_pos c13] at H
     have c13b0 : (t325 == 112) = true := beq_iff_eq.mpr c13
     have c13b1 : (t325 != 112) = false := bne_eq_false_iff_eq.mpr c13
     clear c13
     by_cases c14 : (t301.length : Int) = 112
     ·rw [if_pos c14] at H
      have c14b0 : ((t301.length : Int) == 112) = true := beq_iff_eq.mpr c14
      have c14b1 : ((t301.length : Int) != 112) = false := bne_eq_false_iff_eq.mpr c14
      clear c14
      replace H := Option.bind_eq_some_iff.mp H
      obtain ⟨t330, A150, H⟩ := H
      replace H : (if t330 = true then (if 6 < (t301.length : Int) then (if (rd t301 6) = 1 then (if 7 < (t301.length : Int) then (some ((rd t301 7) == 0)) else (none)) else (some false)) else (none)) else (some false)) = some r := H
      have A15 := Aside0.mk A150
      clear A150
      by_cases c16 : t330 = true
      ·subst c16
       have H1 : (if 6 < (t301.length : Int) then (if (rd t301 6) = 1 then (if 7 < (t301.length : Int) then (some ((rd t301 7) == 0)) else (none)) else (some false)) else (none)) = some r := by rw [if_pos rfl] at H; exact H
       clear H
       have H := H1
       clear H1
       by_cases c17 : 6 < (t301.length : Int)
       ·rw [if_pos c17] at H
        have c17b0 : decide (6 < (t301.length : Int)) = true := decide_eq_true c17
        have c17b1 : decide (6 < t301.length) = true := decide_eq_true (by omega)
        clear c17
        by_cases c18 : (rd t301 6) = 1
        ·rw [if_pos c18] at H
         have c18b0 : ((rd t301 6) == 1) = true := beq_iff_eq.mpr c18
         have c18b1 : ((rd t301 6) != 1) = false := bne_eq_false_iff_eq.mpr c18
         clear c18
         by_cases c19 : 7 < (t301.length : Int)
         ·rw [if_pos c19] at H
          have c19b0 : decide (7 < (t301.length : Int)) = true := decide_eq_true c19
          have c19b1 : decide (7 < t301.length) = true := decide_eq_true (by omega)
          clear c19
          obtain rfl := Option.some.inj H
          go_enter Try.func19, Try.ntmps19
          try go_wp2_with (first | ((with_reducible refine gate_dst (N := 8) rfl ?_); (try (refine gate_guard (by rfl) ?_; dsimp only)); refine Kd.R_lit (Kd.int .u8) _ 5 ?hg (N := 8) ?hd (xs := ([65] : List Int)) (inner := [.int .u8 65]) (ok := fun _ => True) (okp := fun _ => True) ?hr ?hp (fun _ hk => hk) trivial (Below.refl _ _) (Nat.le_refl _) (by simp) ?_; (case hd => rfl); (case hg => rfl); (case hr => first | (go_simp; done) | (go_simp; rfl)); (case hp => exact (Reps.one (show Kd.M (Kd.int .u8) _ _ _ 65 [.int .u8 65] from rfl) (Reps.none _ _))); intro v292 w20 ho21 hb hg_ hnew_; clear hg_ hnew_; (first | rw [← Ny291.out] at ho21 | (simp only [Int.reduceToNat] at ho21; rw [← Ny291.out] at ho21)); have n0_ := aK (Kd.R_lower ho21 (below_size (mvh HB.out))); have n1_ := aK (below_step (mvh HB.out) hb); clear HB; have HO293 := n0_; have HB := n1_; clear n0_ n1_; clear hb ho21; obtain ⟨Ao22, co22, eo22⟩ := Kd.R_slice HO293.out; subst eo22) | ((with_reducible refine gate_dst (N := 1) rfl ?_); (try (refine gate_guard (by rfl) ?_; dsimp only)); refine box_event ?hg (N := 1) ?hd (cs := #[.int .i64 0, .int .u32 0, .int .u32 0, .slice none 0 0]) (t := 29) ?hr ?_; (case hd => rfl); (case hg => rfl); (case hr => first | (go_simp; done) | (go_simp; rfl)); intro gb294 hg w23 hbox hb; have n0_ := aK (Kd.R_below (mvR HO293.out) hb); have n1_ := aK (below_step (mvh HB.out) hb); have n2_ := aK (hbox); have n3_ := aK ((by rw [hg]; exact (below_size (mvh HB.out)) : w.heap.size ≤ gb294)); have n4_ := aK ((by rw [hg]; exact (below_size (mvh HB.out)) : w.heap.size ≤ gb294)); clear HO293 HB; have HO293 := n0_; have HB := n1_; have BK294 := n2_; have GW294 := n3_; have GE294 := n4_; clear n0_ n1_ n2_ n3_ n4_; clear hb hbox hg; obtain ⟨hcz24_0, hcz24_1, hcz24_2, hcz24_3, hfz24_0, hfz24_1, hfz24_2, hfz24_3⟩ := cf4 BK294.out))
          have n0_ : Aside0 (Kd.R (Kd.int .u8) 5 ((((w23.setCell ⟨gb294, 0, none⟩ (.int .i64 2)).setCell ⟨gb294, 1, none⟩ (.int .u32 1)).setCell ⟨gb294, 2, none⟩ (.int .u32 2)).setCell ⟨gb294, 3, none⟩ (.slice Ao22 y291.length co22)) w.heap.size (fun _ => True) (.slice Ao22 y291.length co22) y291) := ⟨by (with_reducible repeat (first | apply Kd.R_alloc | apply Kd.R_drewN | apply Kd.R_drew)); exact Kd.R_mono (Kd.R_far (p := ⟨gb294, 3, none⟩) (Kd.R_far (p := ⟨gb294, 2, none⟩) (Kd.R_far (p := ⟨gb294, 1, none⟩) (Kd.R_far (p := ⟨gb294, 0, none⟩) (Kd.R_types HO293.out BK294.out (by decide)) (fun _ hk => hk.2) (.int .i64 2)) (fun _ hk => hk.2) (.int .u32 1)) (fun _ hk => hk.2) (.int .u32 2)) (fun _ hk => hk.2) (.slice Ao22 y291.length co22)) (fun _ hk => trivial)⟩
          have n1_ : Aside0 (((((w23.setCell ⟨gb294, 0, none⟩ (.int .i64 2)).setCell ⟨gb294, 1, none⟩ (.int .u32 1)).setCell ⟨gb294, 2, none⟩ (.int .u32 2)).setCell ⟨gb294, 3, none⟩ (.slice Ao22 y291.length co22)).heap[gb294]? = some (.cells #[.int .i64 2, .int .u32 1, .int .u32 2, .slice Ao22 y291.length co22] 29 (0, 0))) := ⟨by (with_reducible repeat (first | apply bN | apply bD | apply bA)); refine blk_put (cs := #[.int .i64 2, .int .u32 1, .int .u32 2, .slice none 0 0]) ?_ 3 _ rfl; (with_reducible repeat (first | apply bN | apply bD | apply bA)); refine blk_put (cs := #[.int .i64 2, .int .u32 1, .int .u32 0, .slice none 0 0]) ?_ 2 _ rfl; (with_reducible repeat (first | apply bN | apply bD | apply bA)); refine blk_put (cs := #[.int .i64 2, .int .u32 0, .int .u32 0, .slice none 0 0]) ?_ 1 _ rfl; (with_reducible repeat (first | apply bN | apply bD | apply bA)); refine blk_put (cs := #[.int .i64 0, .int .u32 0, .int .u32 0, .slice none 0 0]) ?_ 0 _ rfl; exact mvb BK294.out⟩
          have n2_ : Aside0 (Below w.heap.size w ((((w23.setCell ⟨gb294, 0, none⟩ (.int .i64 2)).setCell ⟨gb294, 1, none⟩ (.int .u32 1)).setCell ⟨gb294, 2, none⟩ (.int .u32 2)).setCell ⟨gb294, 3, none⟩ (.slice Ao22 y291.length co22))) := ⟨by repeat (first | (with_reducible first | exact HB.out | apply hA | apply hN | apply hD | refine below_set ?_ GE294.out) | exact HB.out)⟩
          (try clear HO293); (try clear BK294); (try clear HB)
          generalize ((((w23.setCell ⟨gb294, 0, none⟩ (.int .i64 2)).setCell ⟨gb294, 1, none⟩ (.int .u32 1)).setCell ⟨gb294, 2, none⟩ (.int .u32 2)).setCell ⟨gb294, 3, none⟩ (.slice Ao22 y291.length co22)) = w25 at n0_ n1_ n2_ ⊢
          have HO293 := n0_
          have BK294 := n1_
          have HB := n2_
          clear n0_ n1_ n2_
          have n0_ := aK (Kd.R_drew HO293.out)
          have n1_ := aK (blk_drew BK294.out)
          have n2_ := aK (below_drew1 HB.out)
          clear HO293 BK294 HB
          have HO293 := n0_
          have BK294 := n1_
          have HB := n2_
          clear n0_ n1_ n2_
          refine start_ (n := 8) (S := fun w' => w'.cell? ⟨gb294, 0, none⟩ = some (.int .i64 2) ∧ w'.cell? ⟨gb294, 1, none⟩ = some (.int .u32 1) ∧ w'.cell? ⟨gb294, 2, none⟩ = some (.int .u32 2) ∧ w'.cell? ⟨gb294, 3, none⟩ = some (.slice Ao22 y291.length co22)) (ds := []) #[false, false, false, false, false, false, false, false] (by kernel_rfl) rfl rfl ⟨(blk_cell BK294.out 0).trans rfl, (blk_cell BK294.out 1).trans rfl, (blk_cell BK294.out 2).trans rfl, (blk_cell BK294.out 3).trans rfl⟩ (fun hHeld => ?_); refine with_tabW outpostlaw24_live.tab2 outpostlaw24_live.bits2 (fun HT_ HW_ => ?_)
          generalize w25.drew = w26 at HO293 BK294 HB hHeld ⊢
          refine take_ (i := 1) (N := some 12) (v := ?_) (a' := ?_) #[false, true, false, false, false, false, false, false] rfl rfl (take_ofW HT_.out HW_.out (by kernel_rfl)) (fun _ _ _ h => h) (Or.inl ⟨by rfl, ?_⟩) hHeld ?_ ?_
          rotate_left
          ·rintro w' ⟨s0, s1, s2, s3⟩
           go_simp
           with_reducible rfl
          rotate_left
          ·simp only [Act.put, List.setIfInBounds_toArray, List.set_cons_zero, List.set_cons_succ, i64_w, i32_w]
           rfl
          refine one_ (i := 0) (N := some 11) #[true, true, false, false, false, false, false, false] rfl rfl (one_of HT_.out (by kernel_rfl)) (by decide) (fun K hK => ?_)
          refine goes_ Try.func33 (by kernel_rfl) rfl #[] (by rfl) rfl rfl (by (try simp only [List.map_toArray, List.map_cons, List.map_nil]) <;> rfl) ?_
          with_reducible refine (outpostlaw24_two.calls  t295 t296 t297 t298 t299 t300 _ A1.out).mono ?_
          rintro e w27 ⟨rfl, hb⟩
          refine ⟨_, rfl, ?_⟩
          have n0_ := aK (Kd.R_below (mvR HO293.out) hb)
          have n1_ := aK (kb BK294.out hb)
          have n2_ := aK (below_step (by repeat (first | (with_reducible first | exact HB.out | apply hA | apply hN | apply hD | refine below_set ?_ GE294.out) | exact HB.out)) hb)
          clear HO293 BK294 HB
          have HO293 := n0_
          have BK294 := n1_
          have HB := n2_
          clear n0_ n1_ n2_
          (try clear hb)
          refine hK.out _ _ ⟨(blk_cell BK294.out 0).trans rfl, (blk_cell BK294.out 1).trans rfl, (blk_cell BK294.out 2).trans rfl, (blk_cell BK294.out 3).trans rfl⟩ (fun hHeld => ?_)
          clear hK K
          refine norm_ (a' := ?_) ?_ ?_
          rotate_left
          ·show Act.put _ (some 11) _ = _
           simp only [Act.put, List.setIfInBounds_toArray, List.set_cons_zero, List.set_cons_succ, i64_w, i32_w]
           rfl
          refine one_ (i := 2) (N := some 13) #[true, true, true, false, false, false, false, false] rfl rfl (one_of HT_.out (by kernel_rfl)) (by decide) (fun K hK => ?_)
          refine goes_ Try.func9 (by kernel_rfl) rfl #[.agg #[.int .i64 t295, .int .i64 t296, .int .u32 t297, .int .u32 t298, .int .u32 t299, .bool t300], .agg #[.int .i64 2, .int .u32 1, .int .u32 2, .slice Ao22 y291.length co22]] (by rfl) rfl rfl (by (try simp only [List.map_toArray, List.map_cons, List.map_nil]) <;> rfl) ?_
          with_reducible refine (frame_Build.calls k t295 t296 t297 t298 t299 t300 2 1 2 _ _ y291 t301 t304 _ ?side1 ?side2 A2.out).mono ?_
          (case side1 => repeat (first | exact (Kd.R_reads' HO293.out).2.2 | (with_reducible refine Kd.C_alloc ?_ _) | (with_reducible refine Kd.C_drewN ?_ _) | (with_reducible refine Kd.C_drew ?_)))
          (case side2 => exact (Kd.R_reads' HO293.out).2.1)
          rintro e w28 ⟨v302, rfl, ho0, hb⟩
          refine ⟨_, rfl, ?_⟩
          have n0_ := aK (Kd.R_elder' (mvR HO293.out) (Kd.R_base ho0) hb)
          have n1_ := aK (Kd.R_lower (Kd.R_new' ho0 (Kd.R_lt (mvR HO293.out))) (below_size (by repeat (first | (with_reducible first | exact HB.out | apply hA | apply hN | apply hD | refine below_set ?_ GE294.out) | exact HB.out))))
          have n2_ := aK (kb BK294.out hb)
          have n3_ := aK (below_step (by repeat (first | (with_reducible first | exact HB.out | apply hA | apply hN | apply hD | refine below_set ?_ GE294.out) | exact HB.out)) hb)
          clear HO293 BK294 HB
          have HO293 := n0_
          have HO303 := n1_
          have BK294 := n2_
          have HB := n3_
          clear n0_ n1_ n2_ n3_
          (try clear hb); (try clear ho0)
          refine hK.out _ _ ⟨(blk_cell BK294.out 0).trans rfl, (blk_cell BK294.out 1).trans rfl, (blk_cell BK294.out 2).trans rfl, (blk_cell BK294.out 3).trans rfl⟩ (fun hHeld => ?_)
          clear hK K
          refine norm_ (a' := ?_) ?_ ?_
          rotate_left
          ·show Act.put _ (some 13) _ = _
           simp only [Act.put, List.setIfInBounds_toArray, List.set_cons_zero, List.set_cons_succ, i64_w, i32_w]
           rfl
          refine pure_ (i := 3) (N := some 10) (v := ?_) (a' := ?_) #[true, true, true, true, false, false, false, false] rfl rfl (any_of HT_.out (by kernel_rfl)) (fun _ _ _ h => h) (Or.inl ⟨by rfl, ?_⟩) ?_ ?_
          rotate_left
          ·intro w'
           go_simp
           with_reducible rfl
          rotate_left
          ·simp only [Act.put, List.setIfInBounds_toArray, List.set_cons_zero, List.set_cons_succ, i64_w, i32_w]
           rfl
          refine pure_ (i := 4) (N := some 14) (v := ?_) (a' := ?_) #[true, true, true, true, true, false, false, false] rfl rfl (any_of HT_.out (by kernel_rfl)) (fun _ _ _ h => h) (Or.inl ⟨by rfl, ?_⟩) ?_ ?_
          rotate_left
          ·intro w'
           go_simp
           with_reducible rfl
          rotate_left
          ·simp only [Act.put, List.setIfInBounds_toArray, List.set_cons_zero, List.set_cons_succ, i64_w, i32_w]
           rfl
          refine pure_ (i := 5) (N := some 15) (v := ?_) (a' := ?_) #[true, true, true, true, true, true, false, false] rfl rfl (any_of HT_.out (by kernel_rfl)) (fun _ _ _ h => h) (Or.inl ⟨by rfl, ?_⟩) ?_ ?_
          rotate_left
          ·intro w'
           go_simp
           with_reducible rfl
          rotate_left
          ·simp only [Act.put, List.setIfInBounds_toArray, List.set_cons_zero, List.set_cons_succ, i64_w, i32_w]
           rfl
          refine pure_ (i := 6) (N := some 2) (v := ?_) (a' := ?_) #[true, true, true, true, true, true, true, false] rfl rfl (any_of HT_.out (by kernel_rfl)) (fun _ _ _ h => h) (Or.inl ⟨by rfl, ?_⟩) ?_ ?_
          rotate_left
          ·intro w'
           go_simp
           with_reducible rfl
          rotate_left
          ·simp only [Act.put, List.setIfInBounds_toArray, List.set_cons_zero, List.set_cons_succ, i64_w, i32_w]
           rfl
          refine pure_ (i := 7) (N := some 3) (v := ?_) (a' := ?_) #[true, true, true, true, true, true, true, true] rfl rfl (any_of HT_.out (by kernel_rfl)) (fun _ _ _ h => h) (Or.inl ⟨by rfl, ?_⟩) ?_ ?_
          rotate_left
          ·intro w'
           go_simp
           with_reducible rfl
          rotate_left
          ·simp only [Act.put, List.setIfInBounds_toArray, List.set_cons_zero, List.set_cons_succ, i64_w, i32_w]
           rfl
          refine done_ (done_of HT_.out (by kernel_rfl)) ?_
          try go_wp2_with (first | ((with_reducible refine gate_callee (f := 33) rfl ?_); refine goesL_ (some 17) rfl rfl Try.func33 (by kernel_rfl) rfl #[] rfl (by (try simp only [List.map_toArray, List.map_cons, List.map_nil]) <;> rfl) ?_; (with_reducible refine (outpostlaw24_two.calls  t305 t306 t307 t308 t309 t310 _ A3.out).mono ?_); rintro e w29 ⟨rfl, hb⟩; refine ⟨_, rfl, ?_⟩; have n0_ := aK (Kd.R_below (mvR HO293.out) hb); have n1_ := aK (Kd.R_below (mvR HO303.out) hb); have n2_ := aK (kb BK294.out hb); have n3_ := aK (below_step (by repeat (first | (with_reducible first | exact HB.out | apply hA | apply hN | apply hD | refine below_set ?_ GE294.out) | exact HB.out)) hb); clear HO293 HO303 BK294 HB; have HO293 := n0_; have HO303 := n1_; have BK294 := n2_; have HB := n3_; clear n0_ n1_ n2_ n3_; (try clear hb); obtain ⟨Ao30, co30, eo30⟩ := Kd.R_slice HO303.out; subst eo30) | ((with_reducible refine gate_callee (f := 21) rfl ?_); refine goesL_ (some 19) rfl rfl Try.func21 (by kernel_rfl) rfl #[.agg #[.int .i64 t305, .int .i64 t306, .int .u32 t307, .int .u32 t308, .int .u32 t309, .bool t310], .slice Ao30 t301.length co30] rfl (by (try simp only [List.map_toArray, List.map_cons, List.map_nil]) <;> rfl) ?_; (with_reducible refine (frame_Parse.calls k t305 t306 t307 t308 t309 t310 _ _ t301 t311 t312 t313 t314 t317 _ ?side1 ?side2 A4.out).mono ?_); (case side1 => repeat (first | exact (Kd.R_reads' HO303.out).2.2 | (with_reducible refine Kd.C_alloc ?_ _) | (with_reducible refine Kd.C_drewN ?_ _) | (with_reducible refine Kd.C_drew ?_))); (case side2 => exact (Kd.R_reads' HO303.out).2.1); rintro e w31 ⟨v315, rfl, ho0, hb⟩; refine ⟨_, rfl, ?_⟩; have n0_ := aK (Kd.R_elder' (mvR HO293.out) (Kd.R_base ho0) hb); have n1_ := aK (Kd.R_elder' (mvR HO303.out) (Kd.R_base ho0) hb); have n2_ := aK (Kd.R_lower (Kd.R_new' (Kd.R_new' ho0 (Kd.R_lt (mvR HO293.out))) (Kd.R_lt (mvR HO303.out))) (below_size (by repeat (first | (with_reducible first | exact HB.out | apply hA | apply hN | apply hD | refine below_set ?_ GE294.out) | exact HB.out)))); have n3_ := aK (kb BK294.out hb); have n4_ := aK (below_step (by repeat (first | (with_reducible first | exact HB.out | apply hA | apply hN | apply hD | refine below_set ?_ GE294.out) | exact HB.out)) hb); clear HO293 HO303 BK294 HB; have HO293 := n0_; have HO303 := n1_; have HO316 := n2_; have BK294 := n3_; have HB := n4_; clear n0_ n1_ n2_ n3_ n4_; (try clear hb); (try clear ho0)) | ((with_reducible refine gate_dst (N := 4) rfl ?_); (try (refine gate_guard (by rfl) ?_; dsimp only)); refine box_event ?hg (N := 4) ?hd (cs := #[.int .i64 0, .int .u32 0, .int .u32 0, .slice none 0 0]) (t := 29) ?hr ?_; (case hd => rfl); (case hg => rfl); (case hr => first | (go_simp; done) | (go_simp; rfl)); intro gb318 hg w32 hbox hb; have n0_ := aK (Kd.R_below (mvR HO293.out) hb); have n1_ := aK (Kd.R_below (mvR HO303.out) hb); have n2_ := aK (Kd.R_below (mvR HO316.out) hb); have n3_ := aK (kb BK294.out hb); have n4_ := aK (below_step (by repeat (first | (with_reducible first | exact HB.out | apply hA | apply hN | apply hD | refine below_set ?_ GE294.out) | exact HB.out)) hb); have n5_ := aK (hbox); have n6_ := aK ((by rw [hg]; exact (below_size (by repeat (first | (with_reducible first | exact HB.out | apply hA | apply hN | apply hD | refine below_set ?_ GE294.out) | exact HB.out))) : w.heap.size ≤ gb318)); have n7_ := aK ((by rw [hg]; exact (below_size (by repeat (first | (with_reducible first | exact HB.out | apply hA | apply hN | apply hD | refine below_set ?_ GE294.out) | exact HB.out))) : w.heap.size ≤ gb318)); have n8_ := aK ((by rw [hg]; exact Nat.ne_of_lt (kl BK294.out) : gb294 ≠ gb318)); have n9_ := aK ((by rw [hg]; exact Nat.ne_of_gt (kl BK294.out) : gb318 ≠ gb294)); clear HO293 HO303 HO316 BK294 HB; have HO293 := n0_; have HO303 := n1_; have HO316 := n2_; have BK294 := n3_; have HB := n4_; have BK318 := n5_; have GW318 := n6_; have GE318 := n7_; have NB294_318 := n8_; have NB318_294 := n9_; clear n0_ n1_ n2_ n3_ n4_ n5_ n6_ n7_ n8_ n9_; clear hb hbox hg; have hnb33 := NB318_294.out; have hnc33 := NB294_318.out; obtain ⟨hcz34_0, hcz34_1, hcz34_2, hcz34_3, hfz34_0, hfz34_1, hfz34_2, hfz34_3⟩ := cf4 BK318.out; obtain ⟨Ao35, co35, eo35⟩ := Kd.R_slice HO316.out; subst eo35) | ((with_reducible refine gate_callee (f := 33) rfl ?_); refine goesL_ (some 23) rfl rfl Try.func33 (by kernel_rfl) rfl #[] rfl (by (try simp only [List.map_toArray, List.map_cons, List.map_nil]) <;> rfl) ?_; (with_reducible refine (outpostlaw24_two.calls  t319 t320 t321 t322 t323 t324 _ A5.out).mono ?_); rintro e w36 ⟨rfl, hb⟩; refine ⟨_, rfl, ?_⟩; have n0_ := aK (Kd.R_below (by (with_reducible repeat (first | apply Kd.R_alloc | apply Kd.R_drewN | apply Kd.R_drew)); exact (Kd.R_mono (Kd.R_far (p := ⟨gb318, 3, none⟩) (Kd.R_far (p := ⟨gb318, 2, none⟩) (Kd.R_far (p := ⟨gb318, 1, none⟩) (Kd.R_far (p := ⟨gb318, 0, none⟩) (Kd.R_types HO293.out BK318.out (by decide)) (fun _ hk => hk.2) (.int .i64 t311)) (fun _ hk => hk.2) (.int .u32 t312)) (fun _ hk => hk.2) (.int .u32 t313)) (fun _ hk => hk.2) (.slice Ao35 t314.length co35)) (fun _ h_ => h_.1))) hb); have n1_ := aK (Kd.R_below (by (with_reducible repeat (first | apply Kd.R_alloc | apply Kd.R_drewN | apply Kd.R_drew)); exact (Kd.R_mono (Kd.R_far (p := ⟨gb318, 3, none⟩) (Kd.R_far (p := ⟨gb318, 2, none⟩) (Kd.R_far (p := ⟨gb318, 1, none⟩) (Kd.R_far (p := ⟨gb318, 0, none⟩) (Kd.R_types HO303.out BK318.out (by decide)) (fun _ hk => hk.2) (.int .i64 t311)) (fun _ hk => hk.2) (.int .u32 t312)) (fun _ hk => hk.2) (.int .u32 t313)) (fun _ hk => hk.2) (.slice Ao35 t314.length co35)) (fun _ h_ => h_.1))) hb); have n2_ := aK (Kd.R_below (by (with_reducible repeat (first | apply Kd.R_alloc | apply Kd.R_drewN | apply Kd.R_drew)); exact (Kd.R_mono (Kd.R_far (p := ⟨gb318, 3, none⟩) (Kd.R_far (p := ⟨gb318, 2, none⟩) (Kd.R_far (p := ⟨gb318, 1, none⟩) (Kd.R_far (p := ⟨gb318, 0, none⟩) (Kd.R_types HO316.out BK318.out (by decide)) (fun _ hk => hk.2) (.int .i64 t311)) (fun _ hk => hk.2) (.int .u32 t312)) (fun _ hk => hk.2) (.int .u32 t313)) (fun _ hk => hk.2) (.slice Ao35 t314.length co35)) (fun _ h_ => h_.1))) hb); have n3_ := aK (blk_below (g := gb294) (o := .cells #[.int .i64 2, .int .u32 1, .int .u32 2, .slice Ao22 y291.length co22] 29 (0, 0)) (by (with_reducible repeat (first | apply bN | apply bD | apply bA)); refine blk_far ?_ NB294_318.out _; (with_reducible repeat (first | apply bN | apply bD | apply bA)); refine blk_far ?_ NB294_318.out _; (with_reducible repeat (first | apply bN | apply bD | apply bA)); refine blk_far ?_ NB294_318.out _; (with_reducible repeat (first | apply bN | apply bD | apply bA)); refine blk_far ?_ NB294_318.out _; exact mvb BK294.out) hb); have n4_ := aK (blk_below (g := gb318) (o := .cells #[.int .i64 t311, .int .u32 t312, .int .u32 t313, .slice Ao35 t314.length co35] 29 (0, 0)) (by (with_reducible repeat (first | apply bN | apply bD | apply bA)); refine blk_put (cs := #[.int .i64 t311, .int .u32 t312, .int .u32 t313, .slice none 0 0]) ?_ 3 _ rfl; (with_reducible repeat (first | apply bN | apply bD | apply bA)); refine blk_put (cs := #[.int .i64 t311, .int .u32 t312, .int .u32 0, .slice none 0 0]) ?_ 2 _ rfl; (with_reducible repeat (first | apply bN | apply bD | apply bA)); refine blk_put (cs := #[.int .i64 t311, .int .u32 0, .int .u32 0, .slice none 0 0]) ?_ 1 _ rfl; (with_reducible repeat (first | apply bN | apply bD | apply bA)); refine blk_put (cs := #[.int .i64 0, .int .u32 0, .int .u32 0, .slice none 0 0]) ?_ 0 _ rfl; exact mvb BK318.out) hb); have n5_ := aK (below_step (by repeat (first | (with_reducible first | exact HB.out | apply hA | apply hN | apply hD | refine below_set ?_ GE294.out | refine below_set ?_ GE318.out) | exact HB.out)) hb); clear HO293 HO303 HO316 BK294 BK318 HB; have HO293 := n0_; have HO303 := n1_; have HO316 := n2_; have BK294 := n3_; have BK318 := n4_; have HB := n5_; clear n0_ n1_ n2_ n3_ n4_ n5_; (try clear hb)) | ((with_reducible refine gate_callee (f := 11) rfl ?_); refine goesL_ (some 24) rfl rfl Try.func11 (by kernel_rfl) rfl #[.agg #[.int .i64 t319, .int .i64 t320, .int .u32 t321, .int .u32 t322, .int .u32 t323, .bool t324]] rfl (by (try simp only [List.map_toArray, List.map_cons, List.map_nil]) <;> rfl) ?_; (with_reducible refine (frame_Length.calls k t319 t320 t321 t322 t323 t324 t325 t326 _ A6.out).mono ?_); rintro e w37 ⟨rfl, hb⟩; refine ⟨_, rfl, ?_⟩; have n0_ := aK (Kd.R_below (mvR HO293.out) hb); have n1_ := aK (Kd.R_below (mvR HO303.out) hb); have n2_ := aK (Kd.R_below (mvR HO316.out) hb); have n3_ := aK (kb BK294.out hb); have n4_ := aK (kb BK318.out hb); have n5_ := aK (below_step (by repeat (first | (with_reducible first | exact HB.out | apply hA | apply hN | apply hD | refine below_set ?_ GE294.out | refine below_set ?_ GE318.out) | exact HB.out)) hb); clear HO293 HO303 HO316 BK294 BK318 HB; have HO293 := n0_; have HO303 := n1_; have HO316 := n2_; have BK294 := n3_; have BK318 := n4_; have HB := n5_; clear n0_ n1_ n2_ n3_ n4_ n5_; (try clear hb)) | ((with_reducible refine gate_callee (f := 13) rfl ?_); refine goesL_ (some 28) rfl rfl Try.func13 (by kernel_rfl) rfl #[.int .i64 t304] rfl (by (try simp only [List.map_toArray, List.map_cons, List.map_nil]) <;> rfl) ?_; (with_reducible refine (outpostlaw24_num.calls t304 t327 _ A7.out).mono ?_); rintro e w' ⟨rfl, ⟨nd, rfl⟩⟩; refine ⟨_, rfl, ?_⟩) | (go_at_call 13; (with_reducible refine (outpostlaw24_num.calls t317 t328 _ A9.out).mono ?_); rintro e w' ⟨rfl, ⟨nd, rfl⟩⟩) | (go_at_call 13; (with_reducible refine (outpostlaw24_num.calls t326 t329 _ A11.out).mono ?_); rintro e w' ⟨rfl, ⟨nd, rfl⟩⟩; obtain ⟨hcz38_0, hcz38_1, hcz38_2, hcz38_3, hfz38_0, hfz38_1, hfz38_2, hfz38_3⟩ := cf4 BK294.out; obtain ⟨hcz39_0, hcz39_1, hcz39_2, hcz39_3, hfz39_0, hfz39_1, hfz39_2, hfz39_3⟩ := cf4 BK318.out) | (go_at_call 23; (with_reducible refine (outpostref24_Same.calls 2 1 2 _ _ y291 t311 t312 t313 _ _ t314 true _ ?side1 ?side2 ?side3 ?side4 A15.out).mono ?_); (case side1 => repeat (first | exact (Kd.R_reads' HO293.out).2.2 | (with_reducible refine Kd.C_alloc ?_ _) | (with_reducible refine Kd.C_drewN ?_ _) | (with_reducible refine Kd.C_drew ?_))); (case side2 => exact (Kd.R_reads' HO293.out).2.1); (case side3 => repeat (first | exact (Kd.R_reads' HO316.out).2.2 | (with_reducible refine Kd.C_alloc ?_ _) | (with_reducible refine Kd.C_drewN ?_ _) | (with_reducible refine Kd.C_drew ?_))); (case side4 => exact (Kd.R_reads' HO316.out).2.1); rintro e w40 ⟨rfl, hb⟩; have n0_ := aK (Kd.R_below (mvR HO293.out) hb); have n1_ := aK (Kd.R_below (mvR HO303.out) hb); have n2_ := aK (Kd.R_below (mvR HO316.out) hb); have n3_ := aK (kb BK294.out hb); have n4_ := aK (kb BK318.out hb); have n5_ := aK (below_step (by repeat (first | (with_reducible first | exact HB.out | apply hA | apply hN | apply hD | refine below_set ?_ GE294.out | refine below_set ?_ GE318.out) | exact HB.out)) hb); clear HO293 HO303 HO316 BK294 BK318 HB; have HO293 := n0_; have HO303 := n1_; have HO316 := n2_; have BK294 := n3_; have BK318 := n4_; have HB := n5_; clear n0_ n1_ n2_ n3_ n4_ n5_; (try clear hb); have p331 : 0 ≤ (6 : Int) := (by omega); have q331 : 6 < (t301.length : Int) := of_decide_eq_true (by first | (with_reducible assumption) | assumption); obtain ⟨ad331, e331, hx331_0⟩ := Kd.at_int (Kd.R_reads' HO303.out).2.2 6 p331 q331; cases e331; (try simp only [show (6 : Int).toNat = 6 from rfl, Nat.reduceMul, Nat.reduceEqDiff, Go.Addr.add, ↓reduceIte] at hx331_0); have qi331 : (6 < t301.length) = True := eq_true (by omega); (try rw [show ((6 : Int)).toNat = 6 from rfl] at hx331_0); replace p331 := eq_true p331; replace q331 := eq_true q331; have p332 : 0 ≤ (7 : Int) := (by omega); have q332 : 7 < (t301.length : Int) := of_decide_eq_true (by first | (with_reducible assumption) | assumption); obtain ⟨ad332, e332, hx332_0⟩ := Kd.at_int (Kd.R_reads' HO303.out).2.2 7 p332 q332; obtain rfl : ad331 = ad332 := (by injection e332); (try simp only [show (7 : Int).toNat = 7 from rfl, Nat.reduceMul, Nat.reduceEqDiff, Go.Addr.add, ↓reduceIte] at hx332_0); have qi332 : (7 < t301.length) = True := eq_true (by omega); (try rw [show ((7 : Int)).toNat = 7 from rfl] at hx332_0); replace p332 := eq_true p332; replace q332 := eq_true q332))
          go_ret
          exact ⟨by first | rfl | (simp [errW_none, errW_some] <;> rfl) | (simp [*, errW_none, errW_some] <;> rfl), by repeat (first | (with_reducible first | exact HB.out | apply hA | apply hN | apply hD | refine below_set ?_ GE294.out | refine below_set ?_ GE318.out) | exact HB.out)⟩
         ·rw [if_neg c19] at H
          exact absurd H (by simp)
        ·rw [if_neg c18] at H
         exact outpostlaw24_live.no_false HR9_.out H
       ·rw [if_neg c17] at H
        exact absurd H (by simp)
      ·replace c16 := Bool.eq_false_iff.mpr c16
       exact outpostlaw24_live.no_false HR9_.out ((if_neg (c := t330 = true) (by rw [c16]; exact Bool.false_ne_true)).symm.trans H)
     ·rw [if_neg c14] at H
      exact outpostlaw24_live.no_false HR9_.out H
    ·rw [if_neg c13] at H
     exact outpostlaw24_live.no_false HR9_.out H
   ·rw [if_neg c12] at H
    exact outpostlaw24_live.no_false HR9_.out H
  ·rw [if_neg c10] at H
   exact outpostlaw24_live.no_false HR9_.out H
 ·rw [if_neg c8] at H
  exact outpostlaw24_live.no_false HR9_.out H
theorem outpostlaw24_live.calls (k : Nat)  (r : Bool) (w : World) (h : outpostlaw24_live.f k  = some r) :
  Calls Try.prog 19 #[] w fun e w' => e = .returned (.bool r) ∧ Below w.heap.size w w' :=
 outpostlaw24_live.calls1 k r (outpostlaw24_live.is_true h) w h

end Go.Proofs.Ytaoeehnnboegnaa.P

-- squeezed
