/- Rows that share nothing, gathered in a list of rows: what leads to ApartBytes. No program in sight. -/
import Derived.Test.YtjdkamhnbheofaaGpQApart
set_option linter.unusedVariables false
set_option linter.unusedSimpArgs false
namespace Go.Proofs.YtjdkamhnbheofaaW.Ap
open Go.RowKit Go.Proofs.YtjdkamhnbheofaaW.PrintWords Go.Proofs.YtjdkamhnbheofaaW.PrintLast Go.Proofs.YtjdkamhnbheofaaW.PrintMore
/-- Own rows in unlike blocks. -/
structure Rw (w : World) (B e : Nat) (V : List Value) (X : Nat → List Int) : Prop where
  own : ∀ (i : Nat) (v : Value), V[i]? = some v → w.ownsRow B e 1 v (X i).length (bv (X i))
  apart : ∀ (i j : Nat) (v u : Value), V[i]? = some v → V[j]? = some u → i ≠ j → v.ownBlock = none ∨ v.ownBlock ≠ u.ownBlock
section
variable {w w' W : World} {B e e2 go : Nat} {V : List Value} {X : Nat → List Int}
theorem Rw.nil (w : World) (B e : Nat) (X : Nat → List Int) : Rw w B e [] X := ⟨fun i v h => by simp at h, fun i j v u h => by simp at h⟩
theorem Rw.grown (h : Rw w B e V X) {row : Option Nat} (hg : w.grownBy w' row) (hr : ∀ (i : Nat) (v : Value), V[i]? = some v → v.ownBlock = none ∨ v.ownBlock ≠ row) : Rw w' B e V X :=
  ⟨fun i v hv => (h.own i v hv).kept hg (hr i v hv), h.apart⟩
theorem Rw.below (h : Rw w B e V X) (hb : Below w.heap.size w w') : Rw w' B e V X := h.grown (grown_of_below hb none) (fun i v _ => by cases v.ownBlock <;> simp)
def push (X : Nat → List Int) (n : Nat) (xs : List Int) : Nat → List Int := fun r => if r = n then xs else X r
theorem Rw.push (h : Rw w B e V X) (hb : Below w.heap.size w w') (hB : B ≤ w.heap.size) {x : Value} {xs : List Int} (hx : w'.ownsRow w.heap.size e 1 x xs.length (bv xs)) : Rw w' B e (V ++ [x]) (Ap.push X V.length xs) := by
  have h' := h.below hb
  have cs : ∀ (i : Nat) (v : Value), (V ++ [x])[i]? = some v → (V[i]? = some v ∧ i < V.length) ∨ (i = V.length ∧ v = x) := by
    intro i v hv
    by_cases hi : i < V.length
    · rw [List.getElem?_append_left hi] at hv
      exact .inl ⟨hv, hi⟩
    · rw [List.getElem?_append_right (by omega)] at hv
      have h0 : i - V.length = 0 := by
        have := (List.getElem?_eq_some_iff.1 hv).1
        simp at this
        exact this
      rw [h0] at hv
      simp at hv
      exact .inr ⟨by omega, hv.symm⟩
  have old : ∀ (i : Nat) (v : Value), V[i]? = some v → ∀ k, v.ownBlock = some k → k < w.heap.size := fun i v hv k hk => ((h.own i v hv).lt k hk).2
  refine ⟨fun i v hv => ?_, fun i j v u hv hu hij => ?_⟩
  · rcases cs i v hv with ⟨h1, h2⟩ | ⟨rfl, rfl⟩
    · rw [show Ap.push X V.length xs i = X i from if_neg (by omega)]
      exact h'.own i v h1
    · rw [show Ap.push X V.length xs V.length = xs from if_pos rfl]
      exact own_less hx hB
  · rcases cs i v hv with ⟨h1, h2⟩ | ⟨h1, h2⟩
    · rcases cs j u hu with ⟨g1, g2⟩ | ⟨g1, g2⟩
      · exact h.apart i j v u h1 g1 hij
      · subst g2
        cases hk : v.ownBlock with
        | none => exact .inl rfl
        | some k => exact .inr (fun e1 => by have q1 := old i v h1 k hk; have q2 := (hx.lt k e1.symm).1; omega)
    · rcases cs j u hu with ⟨g1, g2⟩ | ⟨g1, g2⟩
      · subst h2
        cases hk : v.ownBlock with
        | none => exact .inl rfl
        | some k => exact .inr (fun e1 => by have q1 := old j u g1 k e1.symm; have q2 := (hx.lt k hk).1; omega)
      · omega
theorem own_typed {v : Value} {n : Nat} {xs : List Value} (h : w.ownsRow B e 1 v n xs) {k : Nat} (hk : v.ownBlock = some k) : ∃ cells, w.heap[k]? = some (.cells cells e (0, 0)) := by
  rcases h.2 with ⟨rfl, _⟩ | ⟨g, c, cur, rfl, _, hg, _⟩
  · simp [Value.ownBlock] at hk
  · simp [Value.ownBlock] at hk
    subst hk
    exact ⟨cur, hg⟩
theorem own_unlike {B' : Nat} {v u : Value} {n m : Nat} {xs ys : List Value} (h : w.ownsRow B e 1 v n xs) (hu : w.ownsRow B' e2 1 u m ys) (hne : e ≠ e2) : v.ownBlock = none ∨ v.ownBlock ≠ u.ownBlock := by
  cases hk : v.ownBlock with
  | none => exact .inl rfl
  | some k =>
    refine .inr (fun e1 => ?_)
    obtain ⟨c1, h1⟩ := own_typed h hk
    obtain ⟨c2, h2⟩ := own_typed hu e1.symm
    rw [h1] at h2
    injection h2 with h2
    injection h2 with _ h2
    exact hne h2
theorem Rw.to (h : Rw w B e V X) {c : Nat} (ho : w.ownsRow B e2 1 (.slice (some ⟨go, 0, none⟩) V.length c) V.length V) (hne : e ≠ e2) : St w B e go 0 V X := by
  refine ⟨h.own, h.apart, fun i v hv => ?_, fun i v hv e1 => ?_⟩
  · have hi := (List.getElem?_eq_some_iff.1 hv).1
    rw [Nat.zero_add, ho.cellAt i (by omega)]
    exact hv
  · rcases own_unlike (h.own i v hv) ho hne with h1 | h1
    · rw [h1] at e1
      simp at e1
    · exact h1 (by rw [e1]; rfl)
end
section
variable {P : Program} {ops : Array Oper} {rest : List Oper} {o : Oper} {a : Act} {Q : Exit → Act → World → Prop} {W : World} {B e e2 : Nat} {V V2 : List Value} {X : Nat → List Int}
end
end Go.Proofs.YtjdkamhnbheofaaW.Ap
