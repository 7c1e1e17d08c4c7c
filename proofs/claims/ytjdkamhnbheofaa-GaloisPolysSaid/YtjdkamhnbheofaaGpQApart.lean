/- Rows that share nothing: what ApartBytes asks of its lists. No program in sight. -/
import Derived.Test.YtjdkamhnbheofaaGpWAll
import Derived.ArgAppend
set_option linter.unusedVariables false
set_option linter.unusedSimpArgs false
namespace Go.Proofs.YtjdkamhnbheofaaW.Ap
open Go.RowKit Go.Proofs.YtjdkamhnbheofaaW.PrintWords Go.Proofs.YtjdkamhnbheofaaW.PrintLast Go.Proofs.YtjdkamhnbheofaaW.PrintMore
def bv (xs : List Int) : List Value := xs.map (Value.int .u8)
theorem bv_length (xs : List Int) : (bv xs).length = xs.length := by simp [bv]
/-- The lists at block go from place oo on: own rows in unlike blocks, none of them go. -/
structure St (w : World) (B e go oo : Nat) (V : List Value) (X : Nat → List Int) : Prop where
  own : ∀ (i : Nat) (v : Value), V[i]? = some v → w.ownsRow B e 1 v (X i).length (bv (X i))
  apart : ∀ (i j : Nat) (v u : Value), V[i]? = some v → V[j]? = some u → i ≠ j → v.ownBlock = none ∨ v.ownBlock ≠ u.ownBlock
  outer : ∀ (i : Nat) (v : Value), V[i]? = some v → w.cell? ⟨go, oo + i, none⟩ = some v
  away : ∀ (i : Nat) (v : Value), V[i]? = some v → v.ownBlock ≠ some go
section
variable {w w' W : World} {B e go oo : Nat} {V : List Value} {X : Nat → List Int}
theorem St.grown (h : St w B e go oo V X) {row : Option Nat} (hg : w.grownBy w' row) (hr : ∀ (i : Nat) (v : Value), V[i]? = some v → v.ownBlock = none ∨ v.ownBlock ≠ row) (ho : some go ≠ row) : St w' B e go oo V X :=
  ⟨fun i v hv => (h.own i v hv).kept hg (hr i v hv), h.apart, fun i v hv => hg.cell (h.outer i v hv) ho, h.away⟩
theorem St.below (h : St w B e go oo V X) (hb : Below w.heap.size w w') : St w' B e go oo V X :=
  h.grown (grown_of_below hb none) (fun i v _ => by cases hv : v.ownBlock <;> simp) (by simp)
theorem St.drewN (h : St w B e go oo V X) (n : Nat) : St (w.drewN n) B e go oo V X := h.below (pw_below_drewN (Below.refl _ _) n)
/-- A row's value: nil, or a slice at its block's head. -/
theorem St.form (h : St w B e go oo V X) {i : Nat} {v : Value} (hv : V[i]? = some v) : (v = .slice none 0 0 ∧ (X i).length = 0) ∨ ∃ g c, v = .slice (some ⟨g, 0, none⟩) (X i).length c ∧ B ≤ g ∧ (X i).length ≤ c := by
  rcases (h.own i v hv).2 with hn | ⟨g, c, cur, e1, hb, _, hc, _⟩
  · exact .inl hn
  · exact .inr ⟨g, c, e1, hb, hc⟩
theorem St.cell (h : St w B e go oo V X) {i g c : Nat} (hv : V[i]? = some (.slice (some ⟨g, 0, none⟩) (X i).length c)) {j : Nat} (hj : j < (X i).length) : w.cell? ⟨g, j, none⟩ = some (.int .u8 ((X i).getD j 0)) := by
  rw [(h.own i _ hv).cellAt j (by omega)]
  simp [bv, List.getElem?_map, List.getD_eq_getElem?_getD, List.getElem?_eq_getElem hj]
theorem St.frozen (h : St w B e go oo V X) {i g c : Nat} (hv : V[i]? = some (.slice (some ⟨g, 0, none⟩) (X i).length c)) (j : Nat) : w.frozen? ⟨g, j, none⟩ = false := (h.own i _ hv).frozenAt j
def put (X : Nat → List Int) (i j : Nat) (x : Int) : Nat → List Int := fun r => if r = i then (X i).set j x else X r
theorem put_length (X : Nat → List Int) (i j : Nat) (x : Int) (r : Nat) : (put X i j x r).length = (X r).length := by
  unfold put
  split
  · rename_i h
    rw [h, List.length_set]
  · rfl
theorem St.put (h : St w B e go oo V X) {i g c : Nat} (hv : V[i]? = some (.slice (some ⟨g, 0, none⟩) (X i).length c)) (j : Nat) (x : Int) : St (w.setCell ⟨g, j, none⟩ (.int .u8 x)) B e go oo V (put X i j x) := by
  obtain ⟨h1, hg⟩ := (h.own i _ hv).stored j (.int .u8 x)
  refine ⟨fun r v hr => ?_, h.apart, fun r v hr => hg.cell (h.outer r v hr) (fun e1 => h.away i _ hv (by simpa [Value.ownBlock] using e1.symm)), h.away⟩
  by_cases e1 : r = i
  · subst e1
    obtain rfl := Option.some.inj (hr.symm.trans hv)
    have e2 : Ap.put X r j x r = (X r).set j x := if_pos rfl
    rw [e2, List.length_set, bv, List.map_set]
    exact h1
  · have e2 : Ap.put X i j x r = X r := if_neg e1
    rw [e2]
    exact (h.own r v hr).kept hg (h.apart r i v _ hr hv e1)
/-- A row that leads on from list v: in v's room, or in a block from H on. -/
def More (w : World) (H e : Nat) (v : Value) (n : Nat) (xs : List Value) (u : Value) (k : Nat) : Prop :=
  (∃ g c ys, v = .slice (some ⟨g, 0, none⟩) n c ∧ u = .slice (some ⟨g, 0, none⟩) (n + k) c ∧ ys.length = k ∧ w.ownsRow 0 e 1 u (n + k) (xs ++ ys)) ∨ ∃ zs, w.ownsRow H e 1 u (n + k) zs
theorem own_take {b g m c : Nat} {xs ys : List Value} (h : w.ownsRow b e 1 (.slice (some ⟨g, 0, none⟩) m c) m (xs ++ ys)) (hB : B ≤ g) : w.ownsRow B e 1 (.slice (some ⟨g, 0, none⟩) xs.length c) xs.length xs := by
  obtain ⟨hl, h'⟩ := h
  rcases h' with ⟨h', _⟩ | ⟨g', c', cur, h', hb, hg, hnc, hcm, hcs, ht⟩
  · simp at h'
  · simp only [Value.slice.injEq, Option.some.injEq, Addr.mk.injEq, and_true, true_and] at h'
    obtain ⟨rfl, rfl⟩ := h'
    rw [List.length_append] at hl
    refine ⟨by omega, .inr ⟨g, c, cur, rfl, hB, hg, by omega, hcm, hcs, ?_⟩⟩
    have e1 : cur.toList.take (xs.length * 1) = (cur.toList.take (m * 1)).take (xs.length * 1) := by rw [List.take_take, Nat.min_eq_left (by omega)]
    rw [e1, ht, Nat.mul_one]
    exact List.take_left' rfl
theorem own_zero {v : Value} {n : Nat} {xs : List Value} (h : w.ownsRow B e 1 v n xs) : w.ownsRow 0 e 1 v n xs := by
  refine ⟨h.1, ?_⟩
  rcases h.2 with hn | ⟨g, c, cur, e1, _, rest⟩
  · exact .inl hn
  · exact .inr ⟨g, c, cur, e1, Nat.zero_le _, rest⟩
theorem More.start (h : St w B e go oo V X) {i : Nat} {v : Value} (hv : V[i]? = some v) (H : Nat) : More w H e v (X i).length (bv (X i)) v 0 := by
  rcases h.form hv with ⟨rfl, h0⟩ | ⟨g, c, rfl, hb, hc⟩
  · exact .inr ⟨[], by rw [h0]; exact World.ownsRow_nil w H e 1⟩
  · exact .inl ⟨g, c, [], rfl, rfl, rfl, by rw [List.append_nil]; exact own_zero (h.own i _ hv)⟩
theorem More.below {H : Nat} {v u : Value} {n k : Nat} {xs : List Value} (h : More w H e v n xs u k) (hb : Below w.heap.size w w') : More w' H e v n xs u k := by
  have hg := grown_of_below hb none
  rcases h with ⟨g, c, ys, h1, h2, h3, h4⟩ | ⟨zs, h4⟩
  · exact .inl ⟨g, c, ys, h1, h2, h3, h4.kept hg (by subst h2; simp [Value.ownBlock])⟩
  · exact .inr ⟨zs, h4.kept hg (by cases hu : u.ownBlock <;> simp)⟩
end
section
variable {P : Program} {ops : Array Oper} {rest : List Oper} {o : Oper} {a : Act} {Q : Exit → Act → World → Prop} {W : World} {B e go oo : Nat} {V : List Value} {X : Nat → List Int}
/-- One byte more behind a row that leads on from a list: the lists stay. -/
theorem more_append (hgd : o.guard = none) (s x : Operand) (t : TypeId) (ho : o.op = .call { callee := .builtin .append, args := #[s, x], argTypes := #[t, t] }) (ht : P.underlying t = some (.slice e))
    (hinfo : (P.info? e).map (fun i => (i.zero, i.size, i.bytes)) = some (some (.int .u8 0), 1, 1)) (q : Int) (u : Value) (hs : a.eval s = u) (hx : a.eval x = .slice (some ⟨W.heap.size, 0, none⟩) 1 1)
    (hst : St W B e go oo V X) (hgo : go < W.heap.size) {i : Nat} {v : Value} (hv : V[i]? = some v) (H : Nat) (hBH : B ≤ H) (hVH : ∀ (r : Nat) (v : Value), V[r]? = some v → ∀ k, v.ownBlock = some k → k < H) (hgH : go < H) (hH : H ≤ W.heap.size) {k : Nat}
    (hM : More W H e v (X i).length (bv (X i)) u k) (hl : (X i).length + k + 1 ≤ 140737488355328)
    (h : ∀ u' w', St w' B e go oo V X → More w' H e v (X i).length (bv (X i)) u' (k + 1) → Below B W w' → wpList P ops Q rest (a.put o.dst u') w') :
    wpList P ops Q (o :: rest) a (W.alloc (.cells #[.int .u8 q] e)) := by
  obtain ⟨i0, hi, hz0, hz1, hz2⟩ := info_parts hinfo
  have hb1 : Below W.heap.size W (W.alloc (.cells #[.int .u8 q] e)) := below_alloc (Below.refl _ _) _
  have hst1 := hst.below hb1
  have hM1 := hM.below hb1
  have hsz : (W.alloc (.cells #[.int .u8 q] e)).heap.size = W.heap.size + 1 := by simp
  have hnew : (W.alloc (.cells #[.int .u8 q] e)).cell? ⟨W.heap.size, 0, none⟩ = some (.int .u8 q) := by
    rw [cell_of_row _ W.heap.size 0 #[.int .u8 q] e (0, 0) (heap_alloc_new W _)]
    rfl
  have hc : ∀ j z, ([.int .u8 q] : List Value)[j]? = some z → (W.alloc (.cells #[.int .u8 q] e)).cell? ((⟨W.heap.size, 0, none⟩ : Addr).add j) = some z := by
    intro j z hj
    match j, hj with
    | 0, hj =>
      simp at hj
      subst hj
      rw [Addr.add_lit]
      exact hnew
    | j + 1, hj => simp at hj
  have h1c : ∀ z ∈ ([.int .u8 q] : List Value), z.oneCell' = true := by
    intro z hz
    simp at hz
    subst hz
    rfl
  generalize hW1 : W.alloc (.cells #[.int .u8 q] e) = W1 at hb1 hst1 hM1 hsz hnew hc ⊢
  have hBW : B ≤ W.heap.size := by omega
  have toB : ∀ {w' : World}, Below B W1 w' → Below B W w' := fun {w'} k => ⟨k.os.trans hb1.os, k.tape.trans hb1.tape, k.output.trans hb1.output, Nat.le_trans hb1.size k.size, fun b hb => (k.block b hb).trans (hb1.block b (by omega))⟩
  have grB : ∀ {w' : World} {row : Option Nat}, W1.grownBy w' row → (∀ b, row = some b → B ≤ b) → Below B W1 w' := fun {w' row} k hr => ⟨k.os, k.tape, k.output, k.size, fun b hb => k.block b (by omega) (fun e1 => by have := hr b e1.symm; omega)⟩
  rcases hM1 with ⟨g, c, ys, hv1, hu, hy, hown⟩ | ⟨zs, hown⟩
  · subst hv1 hu
    have hgB : B ≤ g := by
      rcases hst.form hv with ⟨hn, _⟩ | ⟨g', c', hn, hb, _⟩
      · simp at hn
      · simp only [Value.slice.injEq, Option.some.injEq, Addr.mk.injEq, and_true, true_and] at hn
        rw [hn.1]
        exact hb
    have hgo1 : some go ≠ some g := fun e1 => hst.away i _ hv (by simpa [Value.ownBlock] using e1.symm)
    by_cases hr : (X i).length + k + 1 ≤ c
    · refine wpList_append_fits W1 hgd s x t ho 0 e i0 1 ht hi hz1 g ((X i).length + k) c _ hs hown ⟨W.heap.size, 0, none⟩ 1 1 [.int .u8 q] hx rfl hc h1c hr ?_
      intro w' hown' hg
      refine h _ w' ⟨fun r z hz => ?_, hst.apart, fun r z hz => hg.cell (hst1.outer r z hz) hgo1, hst.away⟩ (.inl ⟨g, c, ys ++ [.int .u8 q], rfl, rfl, by simp [hy], by rw [← List.append_assoc]; exact hown'⟩) (toB (grB hg (fun b e1 => by injection e1 with e1; omega)))
      by_cases e1 : r = i
      · subst e1
        obtain rfl := Option.some.inj (hz.symm.trans hv)
        have := own_take (B := B) (ys := ys ++ [.int .u8 q]) (by rw [← List.append_assoc]; exact hown') hgB
        rw [bv_length] at this
        exact this
      · exact (hst1.own r z hz).kept hg (hst.apart r i z _ hz hv e1)
    · refine wpList_append_grows W1 hgd s x t ho e i0 (.int .u8 0) 1 1 ht hi hz0 hz1 hz2 rfl (by decide) (some ⟨g, 0, none⟩) ((X i).length + k) c (bv (X i) ++ ys) hs (fun h => by simp at h) (by simp [bv_length, hy]) ?_ ⟨W.heap.size, 0, none⟩ 1 1 [.int .u8 q] hx rfl hc h1c (by omega) (by simp only [maxLen]; omega) (by omega) ?_
      · intro b hb j z hj
        injection hb with hb
        subst hb
        have hjl : j < (bv (X i) ++ ys).length := (List.getElem?_eq_some_iff.1 hj).1
        rw [List.length_append, bv_length, hy] at hjl
        rw [Addr.add_lit, Nat.zero_add, hown.cellAt j (by omega)]
        exact hj
      · intro v' w' hown' hg
        refine h v' w' (hst1.grown hg (fun r z hz => by cases z.ownBlock <;> simp) (by simp)) (.inr ⟨_, own_less hown' (by omega)⟩) (toB (grB hg (fun b e1 => by simp at e1)))
  · refine wpList_append_own W1 hgd s x t ho H e i0 (.int .u8 0) 1 1 ht hi hz0 hz1 hz2 rfl (by decide) u ((X i).length + k) zs hs hown ⟨W.heap.size, 0, none⟩ 1 1 [.int .u8 q] hx rfl hc h1c (by simp only [maxLen]; omega) (by omega) (by omega) ?_
    intro v' w' hown' hg _
    have hu := hown.lt
    refine h v' w' (hst1.grown hg (fun r z hz => ?_) (fun e1 => by have := (hu go e1.symm).1; omega)) (.inr ⟨_, hown'⟩) (toB (grB hg (fun b e1 => by have := (hu b e1).1; omega)))
    cases hz2 : z.ownBlock with
    | none => exact .inl rfl
    | some b => exact .inr (fun e1 => by have h1 := hVH r z hz b hz2; have h2 := (hu b e1.symm).1; omega)
end
end Go.Proofs.YtjdkamhnbheofaaW.Ap
