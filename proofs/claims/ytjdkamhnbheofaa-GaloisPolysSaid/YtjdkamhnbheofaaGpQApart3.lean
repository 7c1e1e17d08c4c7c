/- Rows gathered where they lie; a literal list of them: what leads to ApartBytes. No program in sight. -/
import Derived.Test.YtjdkamhnbheofaaGpQApart2
import Derived.Test.YtjdkamhnbheofaaGpQLent
set_option linter.unusedVariables false
set_option linter.unusedSimpArgs false
namespace Go.Proofs.YtjdkamhnbheofaaW.Ap
open Go.RowKit Go.Proofs.YtjdkamhnbheofaaW.PrintWords Go.Proofs.YtjdkamhnbheofaaW.PrintLast Go.Proofs.YtjdkamhnbheofaaW.PrintMore
section
variable {w w' W : World} {B e e2 go : Nat} {V : List Value} {X : Nat → List Int}
theorem Rw.cons (h : Rw w B e V X) {x : Value} {xs : List Int} (hx : w.ownsRow B e 1 x xs.length (bv xs)) (hV : ∀ v ∈ V, v.ownBlock = none ∨ v.ownBlock ≠ x.ownBlock) : Rw w B e (V ++ [x]) (Ap.push X V.length xs) := by
  have cs : ∀ (i : Nat) (v : Value), (V ++ [x])[i]? = some v → (V[i]? = some v ∧ i < V.length) ∨ (i = V.length ∧ v = x) := by
    intro i v hv
    by_cases hi : i < V.length
    · rw [List.getElem?_append_left hi] at hv
      exact .inl ⟨hv, hi⟩
    · rw [List.getElem?_append_right (by omega)] at hv
      have h0 : i - V.length = 0 := by
        have := (List.getElem?_eq_some_iff.1 hv).1
        simp at this
        exact this
      rw [h0] at hv
      simp at hv
      exact .inr ⟨by omega, hv.symm⟩
  refine ⟨fun i v hv => ?_, fun i j v u hv hu hij => ?_⟩
  · rcases cs i v hv with ⟨h1, h2⟩ | ⟨rfl, rfl⟩
    · rw [show Ap.push X V.length xs i = X i from if_neg (by omega)]
      exact h.own i v h1
    · rw [show Ap.push X V.length xs V.length = xs from if_pos rfl]
      exact hx
  · rcases cs i v hv with ⟨h1, h2⟩ | ⟨h1, h2⟩
    · rcases cs j u hu with ⟨g1, g2⟩ | ⟨g1, g2⟩
      · exact h.apart i j v u h1 g1 hij
      · subst g2
        exact hV v (List.mem_of_getElem? h1)
    · rcases cs j u hu with ⟨g1, g2⟩ | ⟨g1, g2⟩
      · subst h2
        rcases hV u (List.mem_of_getElem? g1) with h3 | h3
        · cases hk : v.ownBlock with
          | none => exact .inl rfl
          | some k => exact .inr (by rw [h3]; simp)
        · exact .inr (fun e1 => h3 e1.symm)
      · omega
/-- A literal list of rows that share nothing. -/
theorem lit_st (h : Rw W B e V X) (hB : B ≤ W.heap.size) (hm : V.length ≤ maxLen) (hne : e ≠ e2) : St (W.alloc (.cells V.toArray e2)) B e W.heap.size 0 V X := by
  have hb : Below W.heap.size W (W.alloc (.cells V.toArray e2)) := below_alloc (Below.refl _ _) _
  have h' := h.below hb
  refine ⟨h'.own, h'.apart, fun i v hv => ?_, fun i v hv e1 => ?_⟩
  · rw [Nat.zero_add, cell_of_row _ W.heap.size i V.toArray e2 (0, 0) (heap_alloc_new W _)]
    simpa using hv
  · have h1 := ((h.own i v hv).lt W.heap.size e1).2
    omega
end
theorem push_le {X : Nat → List Int} {xs : List Int} {n c : Nat} (hX : ∀ r, (X r).length ≤ c) (hx : xs.length ≤ c) : ∀ r, (Ap.push X n xs r).length ≤ c := fun r => by
  unfold Ap.push
  split
  · exact hx
  · exact hX r
theorem apart_of {v u : Value} {ok : Nat → Prop} (h : ∀ k, v.ownBlock = some k → ok k) (hk : ∀ k, ok k → some k ≠ u.ownBlock) : v.ownBlock = none ∨ v.ownBlock ≠ u.ownBlock := by
  cases e : v.ownBlock with
  | none => exact .inl rfl
  | some k => exact .inr (hk k (h k e))
theorem apart_symm {v u : Value} (h : v.ownBlock = none ∨ v.ownBlock ≠ u.ownBlock) : u.ownBlock = none ∨ u.ownBlock ≠ v.ownBlock := by
  rcases h with h | h
  · cases e : u.ownBlock with
    | none => exact .inl rfl
    | some k => exact .inr (by rw [h]; simp)
  · exact .inr (fun e => h e.symm)
end Go.Proofs.YtjdkamhnbheofaaW.Ap
namespace Go.Proofs.YtjdkamhnbheofaaW.PrintWords.Kd
open Go.RowKit Go.Proofs.YtjdkamhnbheofaaW.PrintWords Go.Proofs.YtjdkamhnbheofaaW.PrintLast Go.Proofs.YtjdkamhnbheofaaW.PrintMore
section
variable {d : Kd Int} {e : Nat} {w : World} {base base' : Nat} {ok : Nat → Prop} {v : Value} {xs : List Int}
theorem L_tight (hE : d.E = []) (h : L d e w base ok v xs) : L d e w base (fun k => some k = v.ownBlock) v xs := by
  obtain ⟨g, cap, rfl, h⟩ := h
  exact ⟨g, cap, rfl, R_tight hE h⟩
theorem L_V (h : L d e w base ok v xs) : V d e w base' ok v xs := R_V (L_R h)
end
end Go.Proofs.YtjdkamhnbheofaaW.PrintWords.Kd
