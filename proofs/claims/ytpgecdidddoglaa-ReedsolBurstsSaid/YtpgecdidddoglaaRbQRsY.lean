/- Reedsol's Decode in plain numbers; a right word is decoded as it is. -/
import Derived.Test.YtpgecdidddoglaaRbPx10
import Derived.Test.YtpgecdidddoglaaRbPx16
import Derived.Test.YtpgecdidddoglaaRbQRsX
set_option linter.unusedVariables false
set_option linter.unusedSimpArgs false
namespace Go.Proofs.Ytpgecdidddoglaa.GalP
open Go.RowKit Go.Proofs.Ytpgecdidddoglaa.P Go.Proofs.YtpgecdidddoglaaW.PrintWords Go.Proofs.YtpgecdidddoglaaW.PrintLast Go.Proofs.YtpgecdidddoglaaW.PrintMore Go.Proofs.YtpgecdidddoglaaW.Q
open Go.Proofs.Ytpgecdidddoglaa.Gal
def plN (len : Nat) : List Int → List Bool → Nat → Option (List Bool × Nat)
  | [],g,q => some (g,q)
  | e :: l,g,q => if e < 0 ∨ (len : Int) ≤ e then none else if g.getD e.toNat false = true then plN len l g q else plN len l (g.set e.toNat true) (q + 1)
theorem plN_length (len : Nat) (l : List Int) : ∀ g q z,plN len l g q = some z → z.1.length = g.length := by
  induction l with
  | nil => intro g q z h; rw [plN] at h; rw [← Option.some.inj h]
  | cons e l ih =>
    intro g q z h
    rw [plN] at h
    split at h
    · exact absurd h (by simp)
    · split at h
      · exact ih _ _ _ h
      · rw [ih _ _ _ h,List.length_set]
theorem drop_getI {E : List Int} {i : Nat} (h : i < E.length) : E.drop i = rd E (i : Int) :: E.drop (i + 1) := by
  unfold rd
  rw [Int.toNat_natCast,List.drop_eq_getElem_cons h,List.getD_eq_getElem?_getD,List.getElem?_eq_getElem h]
  rfl
theorem pc_l0 (len : Nat) (E : List Int) (lE : E.length ≤ 4611686018427387904) (d : Nat) : ∀ (i q : Nat) (g : List Bool),i + d = E.length → g.length = len → q ≤ i →
    Ev (fun k => reedsol_places.l0 k (len : Int) g (q : Int) E (E.length : Int) (i : Int)) (match plN len (E.drop i) g q with | none => ([],0,false) | some z => (z.1,(z.2 : Int),true)) := by
  induction d with
  | zero =>
    intro i q g hi hg hq
    rw [List.drop_of_length_le (by omega),plN]
    refine Ev.succ ?_
    simp only [reedsol_places.l0]
    exact ev_neg (by omega) (Ev.now _)
  | succ d ih =>
    intro i q g hi hg hq
    have c1 : (i : Int) < (E.length : Int) := by omega
    have c2 : (0 : Int) ≤ (i : Int) := by omega
    have ei : wrap64 ((i : Int) + 1) = ((i + 1 : Nat) : Int) := w64s (by omega)
    have eq : wrap64 ((q : Int) + 1) = ((q + 1 : Nat) : Int) := by clear ei; exact w64s (by omega)
    rw [drop_getI (by clear ei eq; omega),plN]
    obtain ⟨e,he⟩ : ∃ e,e = rd E (i : Int) := ⟨_,rfl⟩
    rw [← he]
    have key : ∀ b : Bool,(b = true ↔ e < 0 ∨ (len : Int) ≤ e) → Ev (fun k => reedsol_places.j1 k (len : Int) g (q : Int) e E (E.length : Int) (i : Int) b) (match (if e < 0 ∨ (len : Int) ≤ e then none else if g.getD e.toNat false = true then plN len (E.drop (i + 1)) g q else plN len (E.drop (i + 1)) (g.set e.toNat true) (q + 1) : Option (List Bool × Nat)) with | none => ([],0,false) | some z => (z.1,(z.2 : Int),true)) := fun b hb => by
      refine Ev.succ ?_
      simp only [reedsol_places.j1]
      rw [ei,eq]
      clear ei eq
      cases b with
      | true =>
        rw [if_pos (hb.1 rfl)]
        exact ev_pos rfl (Ev.now _)
      | false =>
        have hn : ¬ (e < 0 ∨ (len : Int) ≤ e) := fun h => Bool.false_ne_true (hb.2 h)
        rw [if_neg hn]
        refine ev_neg Bool.false_ne_true (ev_pos (by omega) (ev_pos (by omega) ?_))
        unfold rdOf
        by_cases c : g.getD e.toNat false = true
        · rw [if_pos c]
          exact ev_pos c (ih (i + 1) q g (by omega) hg (by omega))
        · rw [if_neg c]
          exact ev_neg c (ih (i + 1) (q + 1) (g.set e.toNat true) (by omega) (by rw [List.length_set]; exact hg) (by omega))
    refine Ev.succ ?_
    simp only [reedsol_places.l0]
    refine ev_pos c1 (ev_pos c2 (ev_pos c1 ?_))
    clear ei eq
    rw [← he]
    by_cases c : e < 0
    · exact ev_pos c (key true ⟨fun _ => .inl c,fun _ => rfl⟩)
    · refine ev_neg c (key (decide (e ≥ (len : Int))) ⟨fun h => .inr (of_decide_eq_true h),fun h => ?_⟩)
      rcases h with h | h
      · exact absurd h c
      · exact decide_eq_true h
theorem places_f (len : Nat) (ll : len ≤ 1000000) (E : List Int) (lE : E.length ≤ 4611686018427387904) : Ev (fun k => reedsol_places.f k (len : Int) E) (match plN len E (List.replicate len false) 0 with | none => ([],0,false) | some z => (z.1,(z.2 : Int),true)) := by
  have q := pc_l0 len E lE E.length 0 0 (List.replicate len false) (by omega) (by rw [List.length_replicate]) (Nat.le_refl _)
  rw [List.drop_zero] at q
  unfold reedsol_places.f
  rw [Int.toNat_natCast]
  exact ev_pos (by omega) (ev_pos (by omega) q)
theorem mendN_ok {m p : Nat} (F : Fi m p) (f n : Nat) {W : List Nat} (hW : ∀ y ∈ W,y < 2 ^ m) (gone : List Bool) (fc : Nat) (h : (mendN p m f n W gone fc).2 = true) :
    (∀ y ∈ (mendN p m f n W gone fc).1,y < 2 ^ m) ∧ (mendN p m f n W gone fc).1.length = W.length ∧ syn p m f n (mendN p m f n W gone fc).1 = List.replicate n 0 ∧ fc ≤ n ∧ 2 * wrN W (mendN p m f n W gone fc).1 gone W.length 0 0 ≤ n - fc := by
  unfold mendN at h ⊢
  by_cases c1 : n < fc
  · rw [if_pos c1] at h; exact absurd h Bool.false_ne_true
  · rw [if_neg c1] at h ⊢
    generalize locN p m ((fillN n (plow p m (syn p m f n W) (eraN p m gone W.length fc gone.length 0 [1]) n)).drop fc) = s at h ⊢
    generalize plow p m (eraN p m gone W.length fc gone.length 0 [1]) s.now ((eraN p m gone W.length fc gone.length 0 [1]).length + s.now.length) = both at h ⊢
    by_cases c2 : n - fc < 2 * s.L
    · rw [if_pos c2] at h; exact absurd h Bool.false_ne_true
    · rw [if_neg c2] at h ⊢
      cases e : fixN p m f W.length both (plow p m (syn p m f n W) both n) (slN both) W.length 0 W with
      | none => rw [e] at h; exact absurd h Bool.false_ne_true
      | some out =>
        rw [e] at h
        have ok := fixN_ok F f W.length both _ _ _ _ _ _ e hW
        have h2 : allz (syn p m f n out) = true ∧ 2 * wrN W out gone W.length 0 0 ≤ n - fc := by
          have h' : (allz (syn p m f n out) && decide (2 * wrN W out gone W.length 0 0 ≤ n - fc)) = true := h
          rw [Bool.and_eq_true] at h'
          exact ⟨h'.1,of_decide_eq_true h'.2⟩
        refine ⟨ok.1,ok.2,?_,by omega,h2.2⟩
        refine list_ext_getD (by rw [syn_length,List.length_replicate]) (fun i => ?_)
        rw [getD_rep]
        by_cases ci : i < n
        · have h3 := h2.1
          unfold allz at h3
          have h4 := List.all_eq_true.1 h3 ((syn p m f n out).getD i 0) (by
            rw [List.getD_eq_getElem?_getD,List.getElem?_eq_getElem (by rw [syn_length]; exact ci)]
            exact List.getElem_mem _)
          exact of_decide_eq_true h4
        · exact getD_over _ _ (by rw [syn_length]; omega)
section
variable {m p f n : Nat} (C : Cd m p f n)
include C
end
end Go.Proofs.Ytpgecdidddoglaa.GalP
