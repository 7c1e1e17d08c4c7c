/- A row without room of its own (a[:n:n] of an own row) that is the caller's own: told by its footprint, and owned. -/
import Derived.Test.YtdhnjnkjhfomiaaRwQVstr
import Derived.Test.YtdhnjnkjhfomiaaRwQApart
set_option linter.unusedVariables false
set_option linter.unusedSimpArgs false
namespace Go.Proofs.YtdhnjnkjhfomiaaW.PrintWords.Kd
open Go.RowKit Go.Proofs.YtdhnjnkjhfomiaaW.PrintWords Go.Proofs.YtdhnjnkjhfomiaaW.PrintLast Go.Proofs.YtdhnjnkjhfomiaaW.PrintMore Go.Proofs.YtdhnjnkjhfomiaaW
def VO (d : Kd Int) (e : Nat) (W : World) (base : Nat) (ok : Nat → Prop) (v : Value) (xs : List Int) : Prop := V d e W base ok v xs ∧ (∀ k,v.ownBlock = some k → ok k) ∧ Ap.Ow W base e v xs.length (Ap.bv xs)
section
variable {d : Kd Int} {e base base' n c m : Nat} {ok ok' : Nat → Prop} {w W w1 : World} {A : Option Addr} {u v : Value} {xs : List Int}
theorem VO_step {ok' : Nat → Prop} (h : VO d e W base ok v xs) (hb : Below W.heap.size W w1) (hv : V d e w1 base ok' v xs) (hk : ∀ k,v.ownBlock = some k → ok k → k < W.heap.size → ok' k) : VO d e w1 base ok' v xs :=
  ⟨hv,fun k hk2 => hk k hk2 (h.2.1 k hk2) (h.2.2.lt k hk2).2,h.2.2.kept (grown_of_below hb none) (by cases v.ownBlock <;> simp)⟩
theorem VO_below (h : VO d e W base ok v xs) (hb : Below W.heap.size W w1) : VO d e w1 base ok v xs := VO_step h hb (V_below h.1 hb) (fun _ _ h _ => h)
theorem VO_alloc (h : VO d e W base ok v xs) (o : Obj) : VO d e (W.alloc o) base ok v xs := VO_below h (below_alloc (Below.refl _ _) o)
theorem VO_drewN (h : VO d e W base ok v xs) (m : Nat) : VO d e (W.drewN m) base ok v xs := VO_below h (pw_below_drewN (Below.refl _ _) m)
theorem VO_drew (h : VO d e W base ok v xs) : VO d e W.drew base ok v xs := VO_below h (below_drew1 (Below.refl _ _))
theorem VO_mono (h : VO d e W base ok v xs) (hok : ∀ k,ok k → ok' k) : VO d e W base ok' v xs := ⟨V_mono h.1 hok,fun k hk => hok k (h.2.1 k hk),h.2.2⟩
theorem VO_elder' (h : VO d e W base ok v xs) (hbase : ∀ k,u.ownBlock = some k → W.heap.size ≤ k) (hb : Below W.heap.size W w1) : VO d e w1 base (fun k => ok k ∧ some k ≠ u.ownBlock) v xs :=
  VO_step h hb (V_elder' h.1 hbase hb) (fun k _ h1 h2 => ⟨h1,fun e1 => by have := hbase k e1.symm; omega⟩)
theorem VO_lower (h : VO d e W base ok v xs) (hb : base' ≤ base) : VO d e W base' ok v xs := by
  refine ⟨V_lower h.1 hb,h.2.1,h.2.2.1,?_⟩
  rcases h.2.2.2 with hn | ⟨g,o,cap,cur,h1,h2,rest⟩
  · exact .inl hn
  · exact .inr ⟨g,o,cap,cur,h1,Nat.le_trans hb h2,rest⟩
theorem VO_lt (h : VO d e W base ok v xs) : ∀ k,v.ownBlock = some k → k < W.heap.size := fun k hk => (h.2.2.lt k hk).2
theorem VO_slice (h : VO d e W base ok v xs) : ∃ A c,v = .slice A xs.length c := V_slice h.1
theorem VO_nil (d : Kd Int) (e : Nat) (W : World) (base : Nat) (ok : Nat → Prop) : VO d e W base ok (.slice none 0 0) [] := ⟨V_nil d e W base ok,fun k hk => by simp [Value.ownBlock] at hk,rfl,.inl ⟨rfl,rfl⟩⟩
theorem VO_cut {ys : List Int} (hv : V (Kd.int .u8) e W base ok (.slice A ys.length ys.length) ys) (hR : (Kd.int .u8).R e W base ok (.slice A xs.length c) xs) (hy : ys = xs.take n) (hn : n ≤ xs.length) : VO (Kd.int .u8) e W base ok (.slice A ys.length ys.length) ys := by
  have ho : W.ownsRow base e 1 (.slice A xs.length c) xs.length (Ap.bv xs) := Kd.own_of_R hR
  have hl : ys.length = n := by rw [hy,List.length_take]; omega
  have eb : Ap.bv ys = (Ap.bv xs).take n := by rw [hy]; unfold Ap.bv; rw [List.map_take]
  refine ⟨hv,fun k hk => hR.1 k (by cases A with | none => simp [Value.ownBlock] at hk | some a => exact hk),by rw [Ap.bv_length],?_⟩
  rcases ho.2 with ⟨h1,h2⟩ | ⟨g,cap,cur,h1,h2,h3,h4,h5,h6,h7⟩
  · injection h1 with h1 h3 h4
    subst h1
    have : ys.length = 0 := by omega
    rw [this]
    exact .inl ⟨rfl,rfl⟩
  · injection h1 with h1 _ h8
    subst h1
    subst h8
    rw [hl]
    rw [Nat.mul_one] at h6 h7
    refine .inr ⟨g,0,n,cur,rfl,h2,h3,Nat.le_refl _,by omega,by omega,.inr rfl,?_⟩
    rw [List.drop_zero,eb,← h7,List.take_take,Nat.min_eq_left hn]
end
end Go.Proofs.YtdhnjnkjhfomiaaW.PrintWords.Kd
namespace Go.Proofs.YtdhnjnkjhfomiaaW.PrintWords
open Go.RowKit
theorem VO_string {P : Program} {w : World} {base : Nat} {ok : Nat → Prop} {e' src dst e : TypeId} {v : Value} {xs : List Int} (hs : P.underlying src = some (.slice e)) (he : P.underlying e = some (.int .u8)) (hd : P.underlying dst = some .string)
    (h : Kd.VO (Kd.int .u8) e' w base ok v xs) : (convert src dst v).run P w = .ok (.string (strOfNums xs)) w := V_string hs he hd h.1
end Go.Proofs.YtdhnjnkjhfomiaaW.PrintWords
