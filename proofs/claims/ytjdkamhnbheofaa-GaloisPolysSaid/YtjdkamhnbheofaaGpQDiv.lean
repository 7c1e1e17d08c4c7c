/- Words: a row of one's own whose room is its length, cut from the front with its length as the new room ('a = a[1:len(a):len(a)]'). No program in sight. -/
import Derived.Test.YtjdkamhnbheofaaGpQLent
import Derived.Test.YtjdkamhnbheofaaGpWAll
set_option linter.unusedVariables false
set_option linter.unusedSimpArgs false
namespace Go.Proofs.YtjdkamhnbheofaaW.PrintWords
open Go.RowKit
theorem run_slice_three {P : Program} (w : World) (t : TypeId) (a : Option Addr) (len cap : Nat) (ht : P.underlying t = some (.slice (P.elem t))) (kl kh km : IntKind) (l h m : Int) (h0 : 0 ≤ l) (h1 : l ≤ h) (h2 : h ≤ m) (h3 : m ≤ cap) :
    (Instr.slice t (.slice a len cap) (some (.int kl l)) (some (.int kh h)) (some (.int km m))).run P w =
      ((sizeOf (P.elem t)).run P w).andThen fun s w => .ok (sliced a l.toNat h.toNat m.toNat s) w := by
  have eh : (h.toNat : Int) = h := Int.toNat_of_nonneg (by omega)
  have em : (m.toNat : Int) = m := Int.toNat_of_nonneg (by omega)
  simp [Instr.slice, run_underlying ht, Instr.sliceBounds, run_sliceBound, sliced, *, (by omega : 0 ≤ l), (by omega : 0 ≤ h), (by omega : 0 ≤ m)]
theorem cut_three {P : Program} (t e : TypeId) (kl : IntKind) {i : TypeInfo} (ht : P.underlying t = some (.slice e)) (hi : P.info? e = some i) (size : Nat) (hsz : i.size = size) (A : Option Addr) (n c : Nat) (j : Int) (h0 : 0 ≤ j) (hm : j ≤ n) (hc : c = n) :
    ∀ W : World, (Instr.slice t (.slice A n c) (some (.int kl j)) (some (.int .i64 (n : Int))) (some (.int .i64 (n : Int)))).run P W = .ok (.slice (if c = j.toNat then A else A.map (·.add (j.toNat * size))) (n - j.toNat) (c - j.toNat)) W := by
  intro W
  subst hc
  have hel : P.elem t = e := by simp [Program.elem, ht]
  have hu : P.underlying t = some (.slice (P.elem t)) := by rw [hel]; exact ht
  rw [run_slice_three W t A c c hu kl .i64 .i64 j c c (by omega) (by omega) (by omega) (by omega), hel]
  simp [sizeOf, typeInfo, hi, hsz, sliced, Result.andThen]
namespace Kd
/-- Its room is its length. -/
def Tight (v : Value) : Prop := ∃ A n, v = .slice A n n
def Z {α : Type} (d : Kd α) (e : Nat) (w : World) (base : Nat) (ok : Nat → Prop) (v : Value) (xs : List α) : Prop := d.Q e w base ok v xs ∧ Tight v
section
variable {α : Type} {d : Kd α} {e base : Nat} {ok ok' : Nat → Prop} {w w1 W : World} {v : Value} {xs : List α}
theorem Z_of_R (h : d.R e w base ok v xs) (ht : Tight v) : Z d e w base ok v xs := ⟨Q_of_R h, ht⟩
theorem Z_mono (h : Z d e w base ok v xs) (hok : ∀ k, ok k → ok' k) : Z d e w base ok' v xs := ⟨Q_mono h.1 hok, h.2⟩
theorem Z_alloc (h : Z d e w base ok v xs) (o : Obj) : Z d e (w.alloc o) base ok v xs := ⟨Q_alloc h.1 o, h.2⟩
theorem Z_drew (h : Z d e w base ok v xs) : Z d e w.drew base ok v xs := ⟨Q_drew h.1, h.2⟩
theorem Z_drewN (h : Z d e w base ok v xs) (m : Nat) : Z d e (w.drewN m) base ok v xs := ⟨Q_drewN h.1 m, h.2⟩
theorem Z_lt (h : Z d e w base ok v xs) : ∀ k, v.ownBlock = some k → k < w.heap.size := Q_lt h.1
theorem Z_slice (h : Z d e w base ok v xs) : ∃ A c, v = .slice A xs.length c ∧ xs.length ≤ c := Q_slice h.1
theorem Z_reads' {A : Option Addr} {n c : Nat} (h : Z d e w base ok (.slice A n c) xs) : n = xs.length ∧ n ≤ c ∧ d.C w A xs.length xs := Q_reads' h.1
theorem Z_full {A : Option Addr} {n c : Nat} (h : Z d e w base ok (.slice A n c) xs) : c = n := by
  obtain ⟨A', n', e'⟩ := h.2
  injection e' with _ h1 h2
  omega
theorem Z_drop {A : Option Addr} {k n c : Nat} (h : Z d e w base ok (.slice A n c) xs) (hk : k ≤ xs.length) : Z d e w base ok (.slice (if c = k then A else A.map (·.add (k * d.sz))) (n - k) (c - k)) (xs.drop k) :=
  ⟨Q_drop h.1 hk, by rw [Z_full h]; exact ⟨_, _, rfl⟩⟩
theorem Z_after {u v1 : Value} {ys : List α} {e' : Nat} (h : Z d e' W base (fun k => ok k ∧ some k ≠ v.ownBlock) u ys) (hg : W.grownBy w1 v.ownBlock) (hat : v1.ownBlock = v.ownBlock ∨ ∃ b, v1.ownBlock = some b ∧ W.heap.size ≤ b) : Z d e' w1 base (fun k => ok k ∧ some k ≠ v1.ownBlock) u ys := ⟨Q_after h.1 hg hat, h.2⟩
theorem Z_elder' {u : Value} (hu : Z d e W base ok u xs) (hbase : ∀ k, v.ownBlock = some k → W.heap.size ≤ k) (hb : Below W.heap.size W w1) : Z d e w1 base (fun k => ok k ∧ some k ≠ v.ownBlock) u xs := ⟨Q_elder' hu.1 hbase hb, hu.2⟩
theorem Z_form (h : Z d e w base ok v xs) (hp : 0 < xs.length) : ∃ g o cap, v = .slice (some ⟨g, o, none⟩) xs.length cap ∧ base ≤ g ∧ g < w.heap.size ∧ ∃ cells, w.heap[g]? = some (.cells cells e (0, 0)) := Q_form h.1 hp
end
section
variable {α : Type} {enc : α → Value} {h1 : ∀ x, (enc x).oneCell' = true} {e base g o n cap : Nat} {ok : Nat → Prop} {W : World} {xs : List α}
theorem Z_cell (d : α) (h : Z (scalar enc h1) e W base ok (.slice (some ⟨g, o, none⟩) n cap) xs) (i : Int) (h0 : 0 ≤ i) (hi : i < n) : W.cell? ⟨g, o + i.toNat, none⟩ = some (enc (rdOf d xs i)) ∧ W.frozen? ⟨g, o + i.toNat, none⟩ = false := Q_cell d h.1 i h0 hi
theorem Z_putg (h : Z (scalar enc h1) e W base ok (.slice (some ⟨g, o, none⟩) n cap) xs) (i : Int) (h0 : 0 ≤ i) (hi : i < n) (x : α) : Z (scalar enc h1) e (W.setCell ⟨g, o + i.toNat, none⟩ (enc x)) base ok (.slice (some ⟨g, o, none⟩) n cap) (xs.set i.toNat x) ∧ W.grownBy (W.setCell ⟨g, o + i.toNat, none⟩ (enc x)) (some g) :=
  ⟨⟨(Q_putg h.1 i h0 hi x).1, h.2⟩, (Q_putg h.1 i h0 hi x).2⟩
end
section
variable {P : Program} {ops : Array Oper} {rest : List Oper} {o : Oper} {a : Act} {W : World} {Q : Exit → Act → World → Prop} {α : Type}
/-- make([]T, n): its room is its length. -/
theorem R_makeT (d : Kd α) {w0 W : World} (base e : Nat) (hgd : o.guard = none) {N : Tmp} (hd : o.dst = some N) (t : TypeId) (x y : Operand) (ho : o.op = .makeSlice t x y) (n : Int) (hx : a.eval x = .int .i64 n) (hy : a.eval y = .int .i64 n)
    (ht : P.underlying t = some (.slice e)) (z : Value) (bytes : Nat) (hinfo : (P.info? e).map (fun i => (i.zero, i.size, i.bytes)) = some (some z, d.sz, bytes)) (hz : z.cells.size = d.sz) (hs0 : 0 < d.sz) (hb0 : 0 < bytes)
    (z0 : α) {ok okp : Nat → Prop} (hzero : d.M W base okp z0 z.cells.toList) (hok : ∀ k, okp k → ok k) (hfresh : ok W.heap.size) (h0 : 0 ≤ n) (hl : n.toNat * bytes ≤ 281474976710656) (HB : Below base w0 W) (hbase : base ≤ W.heap.size)
    (h : ∀ v1 w1, d.R e w1 base ok v1 (List.replicate n.toNat z0) → Below base w0 w1 → Tight v1 → (∃ b, v1.ownBlock = some b ∧ W.heap.size ≤ b) → wpList P ops Q rest (a.put o.dst v1) w1) : wpList P ops Q (o :: rest) a W := by
  obtain ⟨m, rfl⟩ := Int.eq_ofNat_of_zero_le h0
  simp only [Int.toNat_natCast] at hl h
  obtain ⟨i0, hi, hzz⟩ := Option.map_eq_some_iff.1 hinfo
  simp only [Prod.mk.injEq] at hzz
  obtain ⟨hz0, hz1, hz2⟩ := hzz
  have hm : m ≤ 281474976710656 := Nat.le_trans (Nat.le_mul_of_pos_right _ hb0) hl
  have hr := run_make (P := P) W t e i0 z ht hi hz0 .i64 .i64 (m : Int) (m : Int) (by omega) (by omega)
    (by
      have h3 : ((i0.bytes * m : Nat) : Int) ≤ 281474976710656 := by rw [hz2, Nat.mul_comm]; omega
      rwa [Int.natCast_mul] at h3) (by omega)
  simp only [Int.toNat_natCast] at hr
  rw [hz1] at hr
  have hrun : (execOp a.eval o).run P W = .ok (.value (.slice (some ⟨W.heap.size, 0, none⟩) m m)) (W.alloc (.cells (madeCells z.cells (m * d.sz)) e)) := by
    simp [execOp, ho, hx, hy, hr]
  have hrep := reps_made hz hs0 hzero m
  refine event_run hgd hrun (h _ _ ⟨fun k hk => ?_, (madeCells z.cells (m * d.sz)).toList, ?_, ?_⟩ (HB.alloc hbase _) ⟨_, _, rfl⟩ ⟨W.heap.size, by simp [Value.ownBlock], Nat.le_refl _⟩)
  · have : W.heap.size = k := by simpa [Value.ownBlock] using hk
    subst this
    exact hfresh
  · have h2 := World.ownsRow_lit (base := base) (e := e) (size := d.sz) W (madeCells z.cells (m * d.sz)) m hbase (by simp only [maxLen]; omega) (by rw [size_madeCells])
    simpa using h2
  · refine hrep.imp_ (fun p c hp => d.M_mono (fun k hk => ⟨hok k hk.1, fun he => ?_⟩) (M_below (d.M_bound hp) (below_alloc (Below.refl _ _) _)))
    have h3 : k = W.heap.size := by simpa [Value.ownBlock] using he
    have := hk.2.2.1
    omega
end
end Kd
end Go.Proofs.YtjdkamhnbheofaaW.PrintWords
