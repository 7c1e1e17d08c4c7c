/- Rows that share nothing: what ApartBytes asks of its lists. No program in sight. -/
import Derived.Test.YtjdkamhnbheofaaGqWAll
import Derived.ArgAppend
set_option linter.unusedVariables false
set_option linter.unusedSimpArgs false
namespace Go.Proofs.YtjdkamhnbheofaaW.Ap
open Go.RowKit Go.Proofs.YtjdkamhnbheofaaW.PrintWords Go.Proofs.YtjdkamhnbheofaaW.PrintLast Go.Proofs.YtjdkamhnbheofaaW.PrintMore
def bv (xs : List Int) : List Value := xs.map (Value.int .u8)
/-- The lists at block go from place oo on: own rows in unlike blocks, none of them go. -/
structure St (w : World) (B e go oo : Nat) (V : List Value) (X : Nat → List Int) : Prop where
  own : ∀ (i : Nat) (v : Value), V[i]? = some v → w.ownsRow B e 1 v (X i).length (bv (X i))
  apart : ∀ (i j : Nat) (v u : Value), V[i]? = some v → V[j]? = some u → i ≠ j → v.ownBlock = none ∨ v.ownBlock ≠ u.ownBlock
  outer : ∀ (i : Nat) (v : Value), V[i]? = some v → w.cell? ⟨go, oo + i, none⟩ = some v
  away : ∀ (i : Nat) (v : Value), V[i]? = some v → v.ownBlock ≠ some go
section
variable {w w' W : World} {B e go oo : Nat} {V : List Value} {X : Nat → List Int}
theorem St.grown (h : St w B e go oo V X) {row : Option Nat} (hg : w.grownBy w' row) (hr : ∀ (i : Nat) (v : Value), V[i]? = some v → v.ownBlock = none ∨ v.ownBlock ≠ row) (ho : some go ≠ row) : St w' B e go oo V X :=
  ⟨fun i v hv => (h.own i v hv).kept hg (hr i v hv), h.apart, fun i v hv => hg.cell (h.outer i v hv) ho, h.away⟩
theorem St.below (h : St w B e go oo V X) (hb : Below w.heap.size w w') : St w' B e go oo V X :=
  h.grown (grown_of_below hb none) (fun i v _ => by cases hv : v.ownBlock <;> simp) (by simp)
theorem St.drewN (h : St w B e go oo V X) (n : Nat) : St (w.drewN n) B e go oo V X := h.below (pw_below_drewN (Below.refl _ _) n)
/-- A row's value: nil, or a slice at its block's head. -/
theorem St.form (h : St w B e go oo V X) {i : Nat} {v : Value} (hv : V[i]? = some v) : (v = .slice none 0 0 ∧ (X i).length = 0) ∨ ∃ g c, v = .slice (some ⟨g, 0, none⟩) (X i).length c ∧ B ≤ g ∧ (X i).length ≤ c := by
  rcases (h.own i v hv).2 with hn | ⟨g, c, cur, e1, hb, _, hc, _⟩
  · exact .inl hn
  · exact .inr ⟨g, c, e1, hb, hc⟩
theorem St.cell (h : St w B e go oo V X) {i g c : Nat} (hv : V[i]? = some (.slice (some ⟨g, 0, none⟩) (X i).length c)) {j : Nat} (hj : j < (X i).length) : w.cell? ⟨g, j, none⟩ = some (.int .u8 ((X i).getD j 0)) := by
  rw [(h.own i _ hv).cellAt j (by omega)]
  simp [bv, List.getElem?_map, List.getD_eq_getElem?_getD, List.getElem?_eq_getElem hj]
def put (X : Nat → List Int) (i j : Nat) (x : Int) : Nat → List Int := fun r => if r = i then (X i).set j x else X r
theorem St.put (h : St w B e go oo V X) {i g c : Nat} (hv : V[i]? = some (.slice (some ⟨g, 0, none⟩) (X i).length c)) (j : Nat) (x : Int) : St (w.setCell ⟨g, j, none⟩ (.int .u8 x)) B e go oo V (put X i j x) := by
  obtain ⟨h1, hg⟩ := (h.own i _ hv).stored j (.int .u8 x)
  refine ⟨fun r v hr => ?_, h.apart, fun r v hr => hg.cell (h.outer r v hr) (fun e1 => h.away i _ hv (by simpa [Value.ownBlock] using e1.symm)), h.away⟩
  by_cases e1 : r = i
  · subst e1
    obtain rfl := Option.some.inj (hr.symm.trans hv)
    have e2 : Ap.put X r j x r = (X r).set j x := if_pos rfl
    rw [e2, List.length_set, bv, List.map_set]
    exact h1
  · have e2 : Ap.put X i j x r = X r := if_neg e1
    rw [e2]
    exact (h.own r v hr).kept hg (h.apart r i v _ hr hv e1)
/-- A row that leads on from list v: in v's room, or in a block from H on. -/
def More (w : World) (H e : Nat) (v : Value) (n : Nat) (xs : List Value) (u : Value) (k : Nat) : Prop :=
  (∃ g c ys, v = .slice (some ⟨g, 0, none⟩) n c ∧ u = .slice (some ⟨g, 0, none⟩) (n + k) c ∧ ys.length = k ∧ w.ownsRow 0 e 1 u (n + k) (xs ++ ys)) ∨ ∃ zs, w.ownsRow H e 1 u (n + k) zs
theorem own_zero {v : Value} {n : Nat} {xs : List Value} (h : w.ownsRow B e 1 v n xs) : w.ownsRow 0 e 1 v n xs := by
  refine ⟨h.1, ?_⟩
  rcases h.2 with hn | ⟨g, c, cur, e1, _, rest⟩
  · exact .inl hn
  · exact .inr ⟨g, c, cur, e1, Nat.zero_le _, rest⟩
theorem More.start (h : St w B e go oo V X) {i : Nat} {v : Value} (hv : V[i]? = some v) (H : Nat) : More w H e v (X i).length (bv (X i)) v 0 := by
  rcases h.form hv with ⟨rfl, h0⟩ | ⟨g, c, rfl, hb, hc⟩
  · exact .inr ⟨[], by rw [h0]; exact World.ownsRow_nil w H e 1⟩
  · exact .inl ⟨g, c, [], rfl, rfl, rfl, by rw [List.append_nil]; exact own_zero (h.own i _ hv)⟩
theorem More.below {H : Nat} {v u : Value} {n k : Nat} {xs : List Value} (h : More w H e v n xs u k) (hb : Below w.heap.size w w') : More w' H e v n xs u k := by
  have hg := grown_of_below hb none
  rcases h with ⟨g, c, ys, h1, h2, h3, h4⟩ | ⟨zs, h4⟩
  · exact .inl ⟨g, c, ys, h1, h2, h3, h4.kept hg (by subst h2; simp [Value.ownBlock])⟩
  · exact .inr ⟨zs, h4.kept hg (by cases hu : u.ownBlock <;> simp)⟩
end
section
variable {P : Program} {ops : Array Oper} {rest : List Oper} {o : Oper} {a : Act} {Q : Exit → Act → World → Prop} {W : World} {B e go oo : Nat} {V : List Value} {X : Nat → List Int}
end
end Go.Proofs.YtjdkamhnbheofaaW.Ap
