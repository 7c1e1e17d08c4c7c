/- Rows that share nothing, gathered in a list of rows: what leads to ApartBytes. No program in sight. -/
import Derived.Test.YtjdkamhnbheofaaGtQApart
set_option linter.unusedVariables false
set_option linter.unusedSimpArgs false
namespace Go.Proofs.YtjdkamhnbheofaaW.Ap
open Go.RowKit Go.Proofs.YtjdkamhnbheofaaW.PrintWords Go.Proofs.YtjdkamhnbheofaaW.PrintLast Go.Proofs.YtjdkamhnbheofaaW.PrintMore
/-- Own rows in unlike blocks. -/
structure Rw (w : World) (B e : Nat) (V : List Value) (X : Nat → List Int) : Prop where
  own : ∀ (i : Nat) (v : Value), V[i]? = some v → w.ownsRow B e 1 v (X i).length (bv (X i))
  apart : ∀ (i j : Nat) (v u : Value), V[i]? = some v → V[j]? = some u → i ≠ j → v.ownBlock = none ∨ v.ownBlock ≠ u.ownBlock
section
variable {w w' W : World} {B e e2 go : Nat} {V : List Value} {X : Nat → List Int}
theorem Rw.nil (w : World) (B e : Nat) (X : Nat → List Int) : Rw w B e [] X := ⟨fun i v h => by simp at h, fun i j v u h => by simp at h⟩
theorem Rw.grown (h : Rw w B e V X) {row : Option Nat} (hg : w.grownBy w' row) (hr : ∀ (i : Nat) (v : Value), V[i]? = some v → v.ownBlock = none ∨ v.ownBlock ≠ row) : Rw w' B e V X :=
  ⟨fun i v hv => (h.own i v hv).kept hg (hr i v hv), h.apart⟩
theorem Rw.below (h : Rw w B e V X) (hb : Below w.heap.size w w') : Rw w' B e V X := h.grown (grown_of_below hb none) (fun i v _ => by cases v.ownBlock <;> simp)
def push (X : Nat → List Int) (n : Nat) (xs : List Int) : Nat → List Int := fun r => if r = n then xs else X r
theorem Rw.push (h : Rw w B e V X) (hb : Below w.heap.size w w') (hB : B ≤ w.heap.size) {x : Value} {xs : List Int} (hx : w'.ownsRow w.heap.size e 1 x xs.length (bv xs)) : Rw w' B e (V ++ [x]) (Ap.push X V.length xs) := by
  have h' := h.below hb
  have cs : ∀ (i : Nat) (v : Value), (V ++ [x])[i]? = some v → (V[i]? = some v ∧ i < V.length) ∨ (i = V.length ∧ v = x) := by
    intro i v hv
    by_cases hi : i < V.length
    · rw [List.getElem?_append_left hi] at hv
      exact .inl ⟨hv, hi⟩
    · rw [List.getElem?_append_right (by omega)] at hv
      have h0 : i - V.length = 0 := by
        have := (List.getElem?_eq_some_iff.1 hv).1
        simp at this
        exact this
      rw [h0] at hv
      simp at hv
      exact .inr ⟨by omega, hv.symm⟩
  have old : ∀ (i : Nat) (v : Value), V[i]? = some v → ∀ k, v.ownBlock = some k → k < w.heap.size := fun i v hv k hk => ((h.own i v hv).lt k hk).2
  refine ⟨fun i v hv => ?_, fun i j v u hv hu hij => ?_⟩
  · rcases cs i v hv with ⟨h1, h2⟩ | ⟨rfl, rfl⟩
    · rw [show Ap.push X V.length xs i = X i from if_neg (by omega)]
      exact h'.own i v h1
    · rw [show Ap.push X V.length xs V.length = xs from if_pos rfl]
      exact own_less hx hB
  · rcases cs i v hv with ⟨h1, h2⟩ | ⟨h1, h2⟩
    · rcases cs j u hu with ⟨g1, g2⟩ | ⟨g1, g2⟩
      · exact h.apart i j v u h1 g1 hij
      · subst g2
        cases hk : v.ownBlock with
        | none => exact .inl rfl
        | some k => exact .inr (fun e1 => by have q1 := old i v h1 k hk; have q2 := (hx.lt k e1.symm).1; omega)
    · rcases cs j u hu with ⟨g1, g2⟩ | ⟨g1, g2⟩
      · subst h2
        cases hk : v.ownBlock with
        | none => exact .inl rfl
        | some k => exact .inr (fun e1 => by have q1 := old j u g1 k e1.symm; have q2 := (hx.lt k hk).1; omega)
      · omega
theorem own_typed {v : Value} {n : Nat} {xs : List Value} (h : w.ownsRow B e 1 v n xs) {k : Nat} (hk : v.ownBlock = some k) : ∃ cells, w.heap[k]? = some (.cells cells e (0, 0)) := by
  rcases h.2 with ⟨rfl, _⟩ | ⟨g, c, cur, rfl, _, hg, _⟩
  · simp [Value.ownBlock] at hk
  · simp [Value.ownBlock] at hk
    subst hk
    exact ⟨cur, hg⟩
theorem own_unlike {B' : Nat} {v u : Value} {n m : Nat} {xs ys : List Value} (h : w.ownsRow B e 1 v n xs) (hu : w.ownsRow B' e2 1 u m ys) (hne : e ≠ e2) : v.ownBlock = none ∨ v.ownBlock ≠ u.ownBlock := by
  cases hk : v.ownBlock with
  | none => exact .inl rfl
  | some k =>
    refine .inr (fun e1 => ?_)
    obtain ⟨c1, h1⟩ := own_typed h hk
    obtain ⟨c2, h2⟩ := own_typed hu e1.symm
    rw [h1] at h2
    injection h2 with h2
    injection h2 with _ h2
    exact hne h2
theorem Rw.to (h : Rw w B e V X) {c : Nat} (ho : w.ownsRow B e2 1 (.slice (some ⟨go, 0, none⟩) V.length c) V.length V) (hne : e ≠ e2) : St w B e go 0 V X := by
  refine ⟨h.own, h.apart, fun i v hv => ?_, fun i v hv e1 => ?_⟩
  · have hi := (List.getElem?_eq_some_iff.1 hv).1
    rw [Nat.zero_add, ho.cellAt i (by omega)]
    exact hv
  · rcases own_unlike (h.own i v hv) ho hne with h1 | h1
    · rw [h1] at e1
      simp at e1
    · exact h1 (by rw [e1]; rfl)
end
section
variable {P : Program} {ops : Array Oper} {rest : List Oper} {o : Oper} {a : Act} {Q : Exit → Act → World → Prop} {W : World} {B e e2 : Nat} {V V2 : List Value} {X : Nat → List Int}
/-- Two rows more in the list of rows. -/
theorem rows_append (hgd : o.guard = none) (s x : Operand) (t : TypeId) (ho : o.op = .call { callee := .builtin .append, args := #[s, x], argTypes := #[t, t] }) (ht : P.underlying t = some (.slice e2))
    (hinfo : (P.info? e2).map (fun i => (i.zero, i.size, i.bytes)) = some (some (.slice none 0 0), 1, 24)) (u p q : Value) (hs : a.eval s = u) (hx : a.eval x = .slice (some ⟨W.heap.size, 0, none⟩) 2 2) (hp : p.oneCell' = true) (hq : q.oneCell' = true)
    (hR : Rw W B e V2 X) (hu : W.ownsRow B e2 1 u V.length V) (hB : B ≤ W.heap.size) (hne : e ≠ e2) (hl : V.length ≤ 1000)
    (h : ∀ u' w', Rw w' B e V2 X → w'.ownsRow B e2 1 u' (V.length + 2) (V ++ [p, q]) → Below B W w' → (∀ (g : Nat) (cells : Array Value) (t' : Nat), W.heap[g]? = some (.cells cells t' (0, 0)) → t' ≠ e2 → w'.heap[g]? = some (.cells cells t' (0, 0))) → wpList P ops Q rest (a.put o.dst u') w') :
    wpList P ops Q (o :: rest) a (W.alloc (.cells #[p, q] e2)) := by
  obtain ⟨i0, hi, hz0, hz1, hz2⟩ := info_parts hinfo
  have hb1 : Below W.heap.size W (W.alloc (.cells #[p, q] e2)) := below_alloc (Below.refl _ _) _
  have hR1 := hR.below hb1
  have hu1 := hu.kept (grown_of_below hb1 none) (by cases u.ownBlock <;> simp)
  have hsz : (W.alloc (.cells #[p, q] e2)).heap.size = W.heap.size + 1 := by simp
  have hcell : ∀ j z, ([p, q] : List Value)[j]? = some z → (W.alloc (.cells #[p, q] e2)).cell? ((⟨W.heap.size, 0, none⟩ : Addr).add j) = some z := by
    intro j z hj
    rw [Addr.add_lit, Nat.zero_add, cell_of_row _ W.heap.size j #[p, q] e2 (0, 0) (heap_alloc_new W _)]
    simpa using hj
  generalize hW1 : W.alloc (.cells #[p, q] e2) = W1 at hb1 hR1 hu1 hsz hcell ⊢
  have old : ∀ (g : Nat) (cells : Array Value) (t' : Nat), W.heap[g]? = some (.cells cells t' (0, 0)) → W1.heap[g]? = some (.cells cells t' (0, 0)) := fun g cells t' hg => (hb1.block g (Array.getElem?_eq_some_iff.1 hg).1).trans hg
  refine wpList_append_own W1 hgd s x t ho B e2 i0 (.slice none 0 0) 1 24 ht hi hz0 hz1 hz2 rfl (by decide) u V.length V hs hu1 ⟨W.heap.size, 0, none⟩ 2 2 [p, q] hx rfl hcell (fun z hz => by
    simp at hz
    rcases hz with rfl | rfl
    · exact hp
    · exact hq) (by simp only [maxLen]; omega) (by omega) (by omega) ?_
  intro u' w' hown' hg _
  refine h u' w' (hR1.grown hg (fun i v hv => own_unlike (hR1.own i v hv) hu1 hne)) hown' ⟨hg.os.trans hb1.os, hg.tape.trans hb1.tape, hg.output.trans hb1.output, Nat.le_trans hb1.size hg.size, fun b hb => (hg.block b (by omega) (fun e1 => by have := (hu1.lt b e1.symm).1; omega)).trans (hb1.block b (by omega))⟩ (fun g cells t' hgc ht' => ?_)
  have hg1 := old g cells t' hgc
  rw [hg.block g (Array.getElem?_eq_some_iff.1 hg1).1 (fun e1 => ?_)]
  · exact hg1
  · obtain ⟨c2, h2⟩ := own_typed hu1 e1.symm
    rw [hg1] at h2
    injection h2 with h2
    injection h2 with _ h2
    exact ht' h2
end
end Go.Proofs.YtjdkamhnbheofaaW.Ap
