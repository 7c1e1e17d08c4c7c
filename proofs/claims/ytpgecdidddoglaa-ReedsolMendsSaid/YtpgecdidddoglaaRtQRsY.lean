/- Reedsol's Decode in plain numbers; a right word is decoded as it is. -/
import Derived.Test.YtpgecdidddoglaaRtPx10
import Derived.Test.YtpgecdidddoglaaRtPx16
import Derived.Test.YtpgecdidddoglaaRtQRsX
set_option linter.unusedVariables false
set_option linter.unusedSimpArgs false
namespace Go.Proofs.Ytpgecdidddoglaa.GalP
open Go.RowKit Go.Proofs.Ytpgecdidddoglaa.P Go.Proofs.YtpgecdidddoglaaW.PrintWords Go.Proofs.YtpgecdidddoglaaW.PrintLast Go.Proofs.YtpgecdidddoglaaW.PrintMore Go.Proofs.YtpgecdidddoglaaW.Q
open Go.Proofs.Ytpgecdidddoglaa.Gal
def plN (len : Nat) : List Int → List Bool → Nat → Option (List Bool × Nat)
  | [],g,q => some (g,q)
  | e :: l,g,q => if e < 0 ∨ (len : Int) ≤ e then none else if g.getD e.toNat false = true then plN len l g q else plN len l (g.set e.toNat true) (q + 1)
theorem plN_length (len : Nat) (l : List Int) : ∀ g q z,plN len l g q = some z → z.1.length = g.length := by
  induction l with
  | nil => intro g q z h; rw [plN] at h; rw [← Option.some.inj h]
  | cons e l ih =>
    intro g q z h
    rw [plN] at h
    split at h
    · exact absurd h (by simp)
    · split at h
      · exact ih _ _ _ h
      · rw [ih _ _ _ h,List.length_set]
theorem drop_getI {E : List Int} {i : Nat} (h : i < E.length) : E.drop i = rd E (i : Int) :: E.drop (i + 1) := by
  unfold rd
  rw [Int.toNat_natCast,List.drop_eq_getElem_cons h,List.getD_eq_getElem?_getD,List.getElem?_eq_getElem h]
  rfl
theorem pc_l0 (len : Nat) (E : List Int) (lE : E.length ≤ 4611686018427387904) (d : Nat) : ∀ (i q : Nat) (g : List Bool),i + d = E.length → g.length = len → q ≤ i →
    Ev (fun k => reedsol_places.l0 k (len : Int) g (q : Int) E (E.length : Int) (i : Int)) (match plN len (E.drop i) g q with | none => ([],0,false) | some z => (z.1,(z.2 : Int),true)) := by
  induction d with
  | zero =>
    intro i q g hi hg hq
    rw [List.drop_of_length_le (by omega),plN]
    refine Ev.succ ?_
    simp only [reedsol_places.l0]
    exact ev_neg (by omega) (Ev.now _)
  | succ d ih =>
    intro i q g hi hg hq
    have c1 : (i : Int) < (E.length : Int) := by omega
    have c2 : (0 : Int) ≤ (i : Int) := by omega
    have ei : wrap64 ((i : Int) + 1) = ((i + 1 : Nat) : Int) := w64s (by omega)
    have eq : wrap64 ((q : Int) + 1) = ((q + 1 : Nat) : Int) := by clear ei; exact w64s (by omega)
    rw [drop_getI (by clear ei eq; omega),plN]
    obtain ⟨e,he⟩ : ∃ e,e = rd E (i : Int) := ⟨_,rfl⟩
    rw [← he]
    have key : ∀ b : Bool,(b = true ↔ e < 0 ∨ (len : Int) ≤ e) → Ev (fun k => reedsol_places.j1 k (len : Int) g (q : Int) e E (E.length : Int) (i : Int) b) (match (if e < 0 ∨ (len : Int) ≤ e then none else if g.getD e.toNat false = true then plN len (E.drop (i + 1)) g q else plN len (E.drop (i + 1)) (g.set e.toNat true) (q + 1) : Option (List Bool × Nat)) with | none => ([],0,false) | some z => (z.1,(z.2 : Int),true)) := fun b hb => by
      refine Ev.succ ?_
      simp only [reedsol_places.j1]
      rw [ei,eq]
      clear ei eq
      cases b with
      | true =>
        rw [if_pos (hb.1 rfl)]
        exact ev_pos rfl (Ev.now _)
      | false =>
        have hn : ¬ (e < 0 ∨ (len : Int) ≤ e) := fun h => Bool.false_ne_true (hb.2 h)
        rw [if_neg hn]
        refine ev_neg Bool.false_ne_true (ev_pos (by omega) (ev_pos (by omega) ?_))
        unfold rdOf
        by_cases c : g.getD e.toNat false = true
        · rw [if_pos c]
          exact ev_pos c (ih (i + 1) q g (by omega) hg (by omega))
        · rw [if_neg c]
          exact ev_neg c (ih (i + 1) (q + 1) (g.set e.toNat true) (by omega) (by rw [List.length_set]; exact hg) (by omega))
    refine Ev.succ ?_
    simp only [reedsol_places.l0]
    refine ev_pos c1 (ev_pos c2 (ev_pos c1 ?_))
    clear ei eq
    rw [← he]
    by_cases c : e < 0
    · exact ev_pos c (key true ⟨fun _ => .inl c,fun _ => rfl⟩)
    · refine ev_neg c (key (decide (e ≥ (len : Int))) ⟨fun h => .inr (of_decide_eq_true h),fun h => ?_⟩)
      rcases h with h | h
      · exact absurd h c
      · exact decide_eq_true h
theorem places_f (len : Nat) (ll : len ≤ 1000000) (E : List Int) (lE : E.length ≤ 4611686018427387904) : Ev (fun k => reedsol_places.f k (len : Int) E) (match plN len E (List.replicate len false) 0 with | none => ([],0,false) | some z => (z.1,(z.2 : Int),true)) := by
  have q := pc_l0 len E lE E.length 0 0 (List.replicate len false) (by omega) (by rw [List.length_replicate]) (Nat.le_refl _)
  rw [List.drop_zero] at q
  unfold reedsol_places.f
  rw [Int.toNat_natCast]
  exact ev_pos (by omega) (ev_pos (by omega) q)
def decR (p m f n : Nat) (W : List Nat) (E : List Int) : List Nat × Nat × Int :=
  if wE m n W = 0 then
    (match plN W.length E (List.replicate W.length false) 0 with
      | none => ([],0,3)
      | some z => if (mendN p m f n W z.1 z.2).2 = true then ((mendN p m f n W z.1 z.2).1.take (W.length - n),nz (zx (mendN p m f n W z.1 z.2).1 W),0) else ([],0,331))
  else ([],0,wE m n W)
theorem mendN_ok {m p : Nat} (F : Fi m p) (f n : Nat) {W : List Nat} (hW : ∀ y ∈ W,y < 2 ^ m) (gone : List Bool) (fc : Nat) (h : (mendN p m f n W gone fc).2 = true) :
    (∀ y ∈ (mendN p m f n W gone fc).1,y < 2 ^ m) ∧ (mendN p m f n W gone fc).1.length = W.length ∧ syn p m f n (mendN p m f n W gone fc).1 = List.replicate n 0 ∧ fc ≤ n ∧ 2 * wrN W (mendN p m f n W gone fc).1 gone W.length 0 0 ≤ n - fc := by
  unfold mendN at h ⊢
  by_cases c1 : n < fc
  · rw [if_pos c1] at h; exact absurd h Bool.false_ne_true
  · rw [if_neg c1] at h ⊢
    generalize locN p m ((fillN n (plow p m (syn p m f n W) (eraN p m gone W.length fc gone.length 0 [1]) n)).drop fc) = s at h ⊢
    generalize plow p m (eraN p m gone W.length fc gone.length 0 [1]) s.now ((eraN p m gone W.length fc gone.length 0 [1]).length + s.now.length) = both at h ⊢
    by_cases c2 : n - fc < 2 * s.L
    · rw [if_pos c2] at h; exact absurd h Bool.false_ne_true
    · rw [if_neg c2] at h ⊢
      cases e : fixN p m f W.length both (plow p m (syn p m f n W) both n) (slN both) W.length 0 W with
      | none => rw [e] at h; exact absurd h Bool.false_ne_true
      | some out =>
        rw [e] at h
        have ok := fixN_ok F f W.length both _ _ _ _ _ _ e hW
        have h2 : allz (syn p m f n out) = true ∧ 2 * wrN W out gone W.length 0 0 ≤ n - fc := by
          have h' : (allz (syn p m f n out) && decide (2 * wrN W out gone W.length 0 0 ≤ n - fc)) = true := h
          rw [Bool.and_eq_true] at h'
          exact ⟨h'.1,of_decide_eq_true h'.2⟩
        refine ⟨ok.1,ok.2,?_,by omega,h2.2⟩
        refine list_ext_getD (by rw [syn_length,List.length_replicate]) (fun i => ?_)
        rw [getD_rep]
        by_cases ci : i < n
        · have h3 := h2.1
          unfold allz at h3
          have h4 := List.all_eq_true.1 h3 ((syn p m f n out).getD i 0) (by
            rw [List.getD_eq_getElem?_getD,List.getElem?_eq_getElem (by rw [syn_length]; exact ci)]
            exact List.getElem_mem _)
          exact of_decide_eq_true h4
        · exact getD_over _ _ (by rw [syn_length]; omega)
section
variable {m p f n : Nat} (C : Cd m p f n)
include C
theorem dc_l0 {W out : List Nat} (lo : out.length = W.length) (lW : W.length ≤ 2 ^ m - 1) (ln : n ≤ W.length) (d : Nat) : ∀ i q : Nat,i + d = out.length → q ≤ i →
    Ev (fun k => reedsol_Decode.l0 k (ints W) (q : Int) (ints out) (out.length : Int) (i : Int) (m : Int) (p : Int) (f : Int) (n : Int)) (ints (out.take (W.length - n)),((q + nz ((zx out W).drop i) : Nat) : Int),0) := by
  have s256 := C.F.sz256
  have lz := zx_length lo
  have lio := ints_length out
  have liW := ints_length W
  induction d with
  | zero =>
    intro i q hi hq
    have e1 : wrap64 (((ints out).length : Int) - (n : Int)) = ((W.length - n : Nat) : Int) := by rw [lio,w64 (by omega) (by omega)]; omega
    rw [List.drop_of_length_le (by rw [lz]; omega),show nz [] = 0 from rfl,Nat.add_zero]
    refine Ev.succ ?_
    simp only [reedsol_Decode.l0]
    rw [e1,Int.toNat_natCast]
    clear e1
    refine ev_neg (by omega) (ev_pos (by omega) (ev_pos (by omega) ?_))
    rw [ints_take]
    exact Ev.now _
  | succ d ih =>
    intro i q hi hq
    have c1 : (i : Int) < (out.length : Int) := by omega
    have c2 : (0 : Int) ≤ (i : Int) := by omega
    have c3 : (i : Int) < ((ints out).length : Int) := by omega
    have c4 : (i : Int) < ((ints W).length : Int) := by omega
    have hd : nz ((zx out W).drop i) = (if out.getD i 0 = W.getD i 0 then 0 else 1) + nz ((zx out W).drop (i + 1)) := by
      rw [drop_get (by rw [lz]; omega),nz,zx_getD lo]
      by_cases c : out.getD i 0 = W.getD i 0
      · rw [c,Nat.xor_self,if_pos rfl,if_pos rfl]
      · rw [if_neg (fun e => c (xor_eq_zero e)),if_neg c]
    refine Ev.succ ?_
    simp only [reedsol_Decode.l0]
    refine ev_pos c1 (ev_pos c2 (ev_pos c3 (ev_pos c4 ?_)))
    rw [rd_ints,rd_ints,show wrap64 ((i : Int) + 1) = ((i + 1 : Nat) : Int) from w64s (by omega),hd]
    by_cases c : out.getD i 0 = W.getD i 0
    · rw [if_pos c,Nat.zero_add]
      exact ev_pos (by rw [c]) (ih (i + 1) q (by omega) (by omega))
    · rw [if_neg c,← Nat.add_assoc]
      refine ev_neg (fun h => c (Int.ofNat_inj.1 h)) ?_
      rw [show wrap64 ((q : Int) + 1) = ((q + 1 : Nat) : Int) from w64s (by omega)]
      exact ih (i + 1) (q + 1) (by omega) (by omega)
theorem Dec_t (W : List Nat) (hW : ∀ x ∈ W,x < 256) (hl : W.length ≤ 9223372036854775806) (E : List Int) (lE : E.length ≤ 4611686018427387904) : Ev (fun k => reedsol_Decode.f k (m : Int) (p : Int) (f : Int) (n : Int) (ints W) E) (ints (decR p m f n W E).1,(((decR p m f n W E).2.1 : Nat) : Int),(decR p m f n W E).2.2) := by
  have s256 := C.F.sz256
  unfold reedsol_Decode.f decR
  refine Ev.bind (open_t C) (ev_pos rfl (Ev.bind (fits_f C W hW hl) ?_))
  by_cases h0 : wE m n W = 0
  · rw [if_pos h0]
    obtain ⟨w1,w2,w3⟩ := wE_0 h0
    refine ev_pos h0 ?_
    rw [ints_length]
    have pf := places_f W.length (by omega) E lE
    refine Ev.bind pf ?_
    cases e : plN W.length E (List.replicate W.length false) 0 with
    | none => exact ev_neg Bool.false_ne_true (Ev.now _)
    | some z =>
      have lz := plN_length _ _ _ _ _ e
      rw [List.length_replicate] at lz
      refine ev_pos rfl (Ev.bind (mend_f C w3 w2 lz) ?_)
      by_cases hm : (mendN p m f n W z.1 z.2).2 = true
      · have ok := mendN_ok C.F f n w3 z.1 z.2 hm
        dsimp only
        rw [if_pos hm]
        refine ev_pos hm ?_
        have g := dc_l0 C ok.2.1 w2 w1 (mendN p m f n W z.1 z.2).1.length 0 0 (by omega) (Nat.le_refl _)
        rw [List.drop_zero,Nat.zero_add] at g
        rw [ints_length]
        exact g
      · dsimp only
        rw [if_neg hm]
        exact ev_neg hm (Ev.now _)
  · rw [if_neg h0]
    exact ev_neg h0 (Ev.now _)
end
end Go.Proofs.Ytpgecdidddoglaa.GalP
