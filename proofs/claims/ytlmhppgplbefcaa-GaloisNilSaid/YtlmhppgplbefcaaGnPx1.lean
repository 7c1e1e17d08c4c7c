-- written by mk.sh, a program of this session, over the kit's print
import Derived.Test.YtlmhppgplbefcaaGnPx0
namespace Go.Proofs.Ytlmhppgplbefcaa.P
open Go.RowKit Go.Proofs.YtlmhppgplbefcaaW.PrintWords Go.Proofs.YtlmhppgplbefcaaW.PrintLast Go.Proofs.YtlmhppgplbefcaaW.PrintMore
attribute [local go_sem] max2_int min2_int max_two min_two max_three min_three max_four min_four   -- for this text's walks alone
set_option linter.unusedVariables false
set_option linter.unusedSimpArgs false

/-! ### outpostlaw32_num: function 17 -/
def outpostlaw32_num.f (a0 : Int) : Option (Int) := some a0
set_option maxHeartbeats 8000000 in
set_option maxRecDepth 100000 in
theorem outpostlaw32_num.calls (a0 : Int) (r : Int) (w : World) (h : outpostlaw32_num.f a0 = some r) :
    Calls Try.prog 17 #[.int .i64 a0] w fun e w' => e = .returned (.int .i64 r) ∧ Drawn0 w w' := by
  have H : (some a0) = some r := h
  clear h
  obtain rfl := Option.some.inj H
  go_enter Try.func17, Try.ntmps17
  go_wp2
  go_ret
  exact ⟨by first | rfl | (simp; done) | (simp [*]; done) | (simp [wrap64]; done), by repeat (first | exact Drawn0.refl _ | apply Drawn0.step)⟩

/-! ### galois_New_1: function 91, given -/
/-- The tables of a field: how many elements, the powers, the logarithms. -/
structure GTab where
  nil : Bool
  size : Nat
  exp : Nat → Nat
  log : Nat → Nat
def GTab.ex (t : GTab) (i : Int) : Int := (t.exp i.toNat : Nat)
def GTab.lg (t : GTab) (i : Int) : Int := (t.log i.toNat : Nat)
/-- The powers: by a step, and what is too great taken down. -/
def gxn (P sz : Nat) : Nat → Nat
  | 0 => 1
  | n + 1 => if sz ≤ 2 * gxn P sz n then 2 * gxn P sz n ^^^ P else 2 * gxn P sz n
/-- The logarithm, as the table has it behind n powers. -/
def glg (P sz : Nat) : Nat → Nat → Nat
  | 0, _ => 0
  | n + 1, x => if gxn P sz n = x then n else glg P sz n x
def gxe (P sz n : Nat) (k : Nat) : Nat := if k < n then gxn P sz k else 0
def GTab.of (P sz : Nat) : GTab := ⟨false, sz, gxe P sz (sz - 1), glg P sz (sz - 1)⟩
def GTab.none : GTab := ⟨true, 0, fun _ => 0, fun _ => 0⟩
/-- A field's tables in memory: they lie at block b; p, q: what the way to multiply holds. -/
def gal_At (w : World) (b p q : Nat) (t : GTab) : Prop :=
  ((∃ cs, w.heap[b]? = some (.cells cs 88 (0, 0)) ∧ cs[0]? = some (.int .i64 (t.size : Int)) ∧ (∀ k, k < 256 → cs[1 + k]? = some (.int .u8 ((t.exp k : Nat) : Int))) ∧ (∀ k, k < 256 → cs[257 + k]? = some (.int .i64 ((t.log k : Nat) : Int))) ∧ cs[513]? = some (.func (.func 91) #[] #[.pointer (some ⟨p, 0, none⟩), .pointer (some ⟨q, 0, none⟩)])) ∧
    w.heap[p]? = some (.cells #[.pointer (some ⟨b, 0, none⟩)] 25 (0, 0)) ∧ w.heap[q]? = some (.cells #[.int .i64 ((t.size : Int) - 1)] 3 (0, 0))) ∧
    2 ≤ t.size ∧ t.size ≤ 256 ∧ (∀ k, t.exp k < 256) ∧ ∀ k, t.log k < 256
def gal_OK (w : World) (A : Option Addr) (t : GTab) : Prop :=
  (t.size = 0 ∧ ((t.nil = true ∧ A = none) ∨ (t.nil = false ∧ ∃ b cs, A = some ⟨b, 0, none⟩ ∧ w.heap[b]? = some (.cells cs 88 (0, 0)) ∧ cs[0]? = some (.int .i64 0)))) ∨ (t.nil = false ∧ ∃ b p q, A = some ⟨b, 0, none⟩ ∧ gal_At w b p q t)
theorem gal_At_below {w w1 : World} {b p q : Nat} {t : GTab} (h : gal_At w b p q t) (hb : Below w.heap.size w w1) : gal_At w1 b p q t := by
  obtain ⟨⟨⟨cs, h1, h2⟩, h3, h4⟩, h5⟩ := h
  exact ⟨⟨⟨cs, blk_below h1 hb, h2⟩, blk_below h3 hb, blk_below h4 hb⟩, h5⟩
theorem gal_OK_below {w w1 : World} {A : Option Addr} {t : GTab} (h : gal_OK w A t) (hb : Below w.heap.size w w1) : gal_OK w1 A t := by
  rcases h with ⟨h1, h2⟩ | ⟨h0, b, p, q, h1, h2⟩
  · refine .inl ⟨h1, ?_⟩
    rcases h2 with h2 | ⟨h0, b, cs, h2, h3, h4⟩
    · exact .inl h2
    · exact .inr ⟨h0, b, cs, h2, blk_below h3 hb, h4⟩
  · exact .inr ⟨h0, b, p, q, h1, gal_At_below h2 hb⟩
theorem gal_OK_alloc {w : World} {A : Option Addr} {t : GTab} (h : gal_OK w A t) (o : Obj) : gal_OK (w.alloc o) A t := gal_OK_below h (below_alloc (Below.refl _ _) o)
theorem gal_OK_drewN {w : World} {A : Option Addr} {t : GTab} (h : gal_OK w A t) (m : Nat) : gal_OK (w.drewN m) A t := h
theorem gal_OK_drew {w : World} {A : Option Addr} {t : GTab} (h : gal_OK w A t) : gal_OK w.drew A t := h
theorem gal_pos {w : World} {A : Option Addr} {t : GTab} (h : gal_OK w A t) (h0 : 0 < t.size) : ∃ b p q, A = some ⟨b, 0, none⟩ ∧ gal_At w b p q t := by
  rcases h with ⟨h1, _⟩ | ⟨_, h⟩
  · omega
  · exact h
theorem gal_nil {w : World} {A : Option Addr} {t : GTab} (h : gal_OK w A t) (h0 : t.nil = true) : A = none := by
  rcases h with ⟨_, ⟨_, h2⟩ | ⟨h2, _⟩⟩ | ⟨h2, _⟩
  · exact h2
  · rw [h0] at h2; cases h2
  · rw [h0] at h2; cases h2
theorem gal_some {w : World} {A : Option Addr} {t : GTab} (h : gal_OK w A t) (h0 : ¬ t.nil = true) : ∃ b, A = some ⟨b, 0, none⟩ := by
  rcases h with ⟨_, ⟨h1, _⟩ | ⟨_, b, _, h2, _⟩⟩ | ⟨_, b, _, _, h2, _⟩
  · exact absurd h1 h0
  · exact ⟨b, h2⟩
  · exact ⟨b, h2⟩
theorem gal_At_size {w : World} {b p q : Nat} {t : GTab} (h : gal_At w b p q t) : w.cell? ⟨b, 0, none⟩ = some (.int .i64 (t.size : Int)) := by
  obtain ⟨⟨⟨cs, h1, h2, _⟩, _⟩, _⟩ := h
  exact (blk_cell h1 0).trans h2
theorem gal_At_exp {w : World} {b p q : Nat} {t : GTab} (h : gal_At w b p q t) (i : Int) (h0 : 0 ≤ i) (h1 : i < 256) : w.cell? ⟨b, 1 + i.toNat, none⟩ = some (.int .u8 (t.ex i)) := by
  obtain ⟨⟨⟨cs, h2, _, h3, _⟩, _⟩, _⟩ := h
  exact (blk_cell h2 _).trans (h3 i.toNat (by omega))
theorem gal_At_log {w : World} {b p q : Nat} {t : GTab} (h : gal_At w b p q t) (i : Int) (h0 : 0 ≤ i) (h1 : i < 256) : w.cell? ⟨b, 257 + i.toNat, none⟩ = some (.int .i64 (t.lg i)) := by
  obtain ⟨⟨⟨cs, h2, _, _, h3, _⟩, _⟩, _⟩ := h
  exact (blk_cell h2 _).trans (h3 i.toNat (by omega))
theorem gal_At_mul {w : World} {b p q : Nat} {t : GTab} (h : gal_At w b p q t) : w.cell? ⟨b, 513, none⟩ = some (.func (.func 91) #[] #[.pointer (some ⟨p, 0, none⟩), .pointer (some ⟨q, 0, none⟩)]) := by
  obtain ⟨⟨⟨cs, h1, _, _, _, h2⟩, _⟩, _⟩ := h
  exact (blk_cell h1 513).trans h2
theorem gal_At_p {w : World} {b p q : Nat} {t : GTab} (h : gal_At w b p q t) : w.cell? ⟨p, 0, none⟩ = some (.pointer (some ⟨b, 0, none⟩)) := (blk_cell h.1.2.1 0).trans rfl
theorem gal_At_q {w : World} {b p q : Nat} {t : GTab} (h : gal_At w b p q t) : w.cell? ⟨q, 0, none⟩ = some (.int .i64 ((t.size : Int) - 1)) := (blk_cell h.1.2.2 0).trans rfl
theorem GTab.ex_byte {w : World} {b p q : Nat} {t : GTab} (h : gal_At w b p q t) (i : Int) : 0 ≤ t.ex i ∧ t.ex i < 256 := by
  have := h.2.2.2.1 i.toNat
  unfold GTab.ex
  omega
theorem GTab.lg_byte {w : World} {b p q : Nat} {t : GTab} (h : gal_At w b p q t) (i : Int) : 0 ≤ t.lg i ∧ t.lg i < 256 := by
  have := h.2.2.2.2 i.toNat
  unfold GTab.lg
  omega
def galois_New_1.f (t : GTab) (a b : Int) : Option Int :=
  if a = 0 then some 0 else if b = 0 then some 0 else if 0 ≤ a ∧ a < 256 ∧ 0 ≤ b ∧ b < 256 then some (t.ex ((t.lg a + t.lg b) % ((t.size : Int) - 1))) else none
set_option maxHeartbeats 8000000 in
set_option maxRecDepth 100000 in
theorem galois_New_1.calls (b p q : Nat) (a0 : GTab) (a1 a2 r : Int) (w : World) (hr0 : gal_At w b p q a0) (h : galois_New_1.f a0 a1 a2 = some r) :
    Calls Try.prog 91 #[.int .u8 a1, .int .u8 a2, .pointer (some ⟨p, 0, none⟩), .pointer (some ⟨q, 0, none⟩)] w fun e w' => e = .returned (.int .u8 r) ∧ Drawn0 w w' := by
  unfold galois_New_1.f at h
  by_cases c1 : a1 = 0
  · rw [if_pos c1] at h
    obtain rfl := Option.some.inj h
    subst c1
    go_enter Try.func91, Try.ntmps91
    go_wp2
    go_ret
    exact ⟨rfl, Drawn0.refl _⟩
  rw [if_neg c1] at h
  have b1 : (a1 == 0) = false := beq_eq_false_iff_ne.mpr c1
  by_cases c2 : a2 = 0
  · rw [if_pos c2] at h
    obtain rfl := Option.some.inj h
    subst c2
    go_enter Try.func91, Try.ntmps91
    go_wp2
    go_ret
    exact ⟨rfl, Drawn0.refl _⟩
  rw [if_neg c2] at h
  have b2 : (a2 == 0) = false := beq_eq_false_iff_ne.mpr c2
  by_cases c3 : 0 ≤ a1 ∧ a1 < 256 ∧ 0 ≤ a2 ∧ a2 < 256
  · rw [if_pos c3] at h
    obtain rfl := Option.some.inj h
    clear h c1 c2
    obtain ⟨g1, g2, g3, g4⟩ := c3
    have hb1 := GTab.lg_byte hr0 a1
    have hb2 := GTab.lg_byte hr0 a2
    have hsz := hr0.2.1
    have hsz2 := hr0.2.2.1
    obtain ⟨s, hs⟩ : ∃ s : Int, s = (a0.lg a1 + a0.lg a2) % ((a0.size : Int) - 1) := ⟨_, rfl⟩
    have hs0 : 0 ≤ s := by rw [hs]; exact Int.emod_nonneg _ (by omega)
    have hs1 : s < 256 := by
      have : s < (a0.size : Int) - 1 := by rw [hs]; exact Int.emod_lt_of_pos _ (by omega)
      omega
    have hx1 := gal_At_log hr0 a1 g1 g2
    have hx2 := gal_At_log hr0 a2 g3 g4
    have hx3 := gal_At_exp hr0 s hs0 hs1
    have hx4 := gal_At_p hr0
    have hx5 := gal_At_q hr0
    rw [← hs]
    obtain ⟨l1, hl1⟩ : ∃ l : Int, l = a0.lg a1 := ⟨_, rfl⟩
    obtain ⟨l2, hl2⟩ : ∃ l : Int, l = a0.lg a2 := ⟨_, rfl⟩
    obtain ⟨o, ho⟩ : ∃ o : Int, o = (a0.size : Int) - 1 := ⟨_, rfl⟩
    obtain ⟨x, hx⟩ : ∃ x : Int, x = a0.ex s := ⟨_, rfl⟩
    rw [← hl1] at hx1 hb1 hs
    rw [← hl2] at hx2 hb2 hs
    rw [← ho] at hx5 hs
    rw [← hx] at hx3 ⊢
    obtain ⟨hb1a, hb1b⟩ := hb1
    obtain ⟨hb2a, hb2b⟩ := hb2
    have ho1 : 1 ≤ o := by omega
    have ho2 : o ≤ 255 := by omega
    have ht0 : 0 ≤ l1 + l2 := by omega
    have ho3 : ¬ (o = 0) := by omega
    have ho4 : (o == 0) = false := beq_eq_false_iff_ne.mpr ho3
    have hq0 : 0 ≤ s := hs0
    have he2 : (l1 + l2) % o = s := hs.symm
    have he1 : Int.tmod (l1 + l2) o = s := by rw [Int.tmod_eq_emod_of_nonneg ht0]; exact he2
    clear hl1 hl2 ho hx hsz hsz2 hr0 hs
    go_enter Try.func91, Try.ntmps91
    go_wp2
    go_quiet (fail)
    go_wp2
    go_ret
    exact ⟨rfl, by repeat (first | exact Drawn0.refl _ | apply Drawn0.step)⟩
  · rw [if_neg c3] at h
    exact absurd h (by simp)

/-! ### galois_Tables_none: function 62, given -/
def galois_Tables_none.f (t : GTab) : Option Bool := some (decide (t.size = 0))
set_option maxHeartbeats 8000000 in
set_option maxRecDepth 100000 in
theorem galois_Tables_none.calls (A0 : Option Addr) (a0 : GTab) (r : Bool) (w : World) (hr0 : gal_OK w A0 a0) (h : galois_Tables_none.f a0 = some r) :
    Calls Try.prog 62 #[.pointer A0] w fun e w' => e = .returned (.bool r) ∧ Drawn0 w w' := by
  unfold galois_Tables_none.f at h
  obtain rfl := Option.some.inj h
  clear h
  rcases hr0 with ⟨h1, h2⟩ | ⟨_, b, p, q, rfl, h2⟩
  · rw [decide_eq_true h1]
    rcases h2 with ⟨_, rfl⟩ | ⟨_, b, cs, rfl, h3, h4⟩
    · go_enter Try.func62, Try.ntmps62
      go_wp2
      go_ret
      exact ⟨rfl, Drawn0.refl _⟩
    · have hc : w.cell? ⟨b, 0, none⟩ = some (.int .i64 0) := (blk_cell h3 0).trans h4
      clear h3 h4 h1
      go_enter Try.func62, Try.ntmps62
      go_wp2
      go_ret
      exact ⟨rfl, Drawn0.refl _⟩
  · have h3 : a0.size ≠ 0 := by have := h2.2.1; omega
    rw [decide_eq_false h3]
    have hc := gal_At_size h2
    have h4 : ((a0.size : Int) == 0) = false := beq_eq_false_iff_ne.mpr (by omega)
    clear h2
    go_enter Try.func62, Try.ntmps62
    go_wp2
    go_ret
    exact ⟨rfl, Drawn0.refl _⟩

/-! ### galois_Tables_check: function 61 -/
def galois_Tables_check.l0 : Nat → GTab → List Int → Int → Int → Option (Int)
  | 0, _, _, _, _ => none
  | k + 1, x0, x9, x10, x11 => if x11 < x10 then (if 0 ≤ x11 then (if x11 < (x9.length : Int) then (if 0 < x0.size then (if (wrap64 (rd x9 x11)) ≥ (x0.size : Int) then (some 11) else (galois_Tables_check.l0 k x0 x9 x10 (wrap64 (x11 + 1)))) else (none)) else (none)) else (none)) else (some 0)
def galois_Tables_check.f (k : Nat) (a0 : GTab) (l1 : List Int) : Option (Int) := (galois_Tables_none.f a0).bind fun t101 => (if t101 = true then (some 1) else (galois_Tables_check.l0 k a0 l1 (l1.length : Int) 0))
theorem galois_Tables_check.mono_l : ∀ k, (∀ y0 y1 y2 y3, LeO (galois_Tables_check.l0 k y0 y1 y2 y3) (galois_Tables_check.l0 (k + 1) y0 y1 y2 y3))
  | 0 => fun _ _ _ _ r h => by simp [galois_Tables_check.l0] at h
  | k + 1 => by
    have ih0 := galois_Tables_check.mono_l k
    · intro y0 y1 y2 y3
      unfold galois_Tables_check.l0
      repeat' first
      | (with_reducible exact ih0 _ _ _ _)
      | (with_reducible exact LeO.refl _)
      | (with_reducible exact LeO.none _)
      | (with_reducible refine LeO.ite ?_ ?_)
      | (with_reducible refine LeO.bind ?_ (fun _ => ?_))
      | exact ih0 _ _ _ _
      | exact LeO.none _
      | refine LeO.ite ?_ ?_
      | refine LeO.bind ?_ (fun _ => ?_)
theorem galois_Tables_check.mono : ∀ a0 a1 k, LeO (galois_Tables_check.f k a0 a1) (galois_Tables_check.f (k + 1) a0 a1) := by
  intro a0 a1 k
  have ih0 := galois_Tables_check.mono_l k
  unfold galois_Tables_check.f
  repeat' first
      | (with_reducible exact ih0 _ _ _ _)
      | (with_reducible exact LeO.refl _)
      | (with_reducible exact LeO.none _)
      | (with_reducible refine LeO.ite ?_ ?_)
      | (with_reducible refine LeO.bind ?_ (fun _ => ?_))
      | exact ih0 _ _ _ _
      | exact LeO.none _
      | refine LeO.ite ?_ ?_
      | refine LeO.bind ?_ (fun _ => ?_)
set_option maxHeartbeats 8000000 in
set_option maxRecDepth 100000 in
theorem galois_Tables_check.calls (k : Nat) (A0 : Option Addr) (a0 : GTab) (A1 : Option Addr) (c1 : Nat) (l1 : List Int) (r : Int) (w : World) (hr0 : gal_OK w A0 a0) (hr1 : Kd.C (Kd.int .u8) w A1 l1.length l1) (hc1 : l1.length ≤ c1) (h : galois_Tables_check.f k a0 l1 = some r) :
    Calls Try.prog 61 #[.pointer A0, .slice A1 l1.length c1] w fun e w' => e = .returned (.int .i64 r) ∧ Drawn0 w w' := by
  have HR0 := Aside0.mk hr0
  clear hr0
  have HR1 := Aside0.mk hr1
  have HC1 := Aside0.mk hc1
  clear hr1 hc1
  have H : ((galois_Tables_none.f a0).bind fun t101 => (if t101 = true then (some 1) else (galois_Tables_check.l0 k a0 l1 (l1.length : Int) 0))) = some r := h
  clear h
  replace H := Option.bind_eq_some_iff.mp H
  obtain ⟨t101, A30, H⟩ := H
  replace H : (if t101 = true then (some 1) else (galois_Tables_check.l0 k a0 l1 (l1.length : Int) 0)) = some r := H
  have A3 := Aside0.mk A30
  clear A30
  by_cases c4 : t101 = true
  · subst c4
    have H1 : (some 1) = some r := by rw [if_pos rfl] at H; exact H
    clear H
    have H := H1
    clear H1
    obtain rfl := Option.some.inj H
    go_enter Try.func61, Try.ntmps61
    go_wp2_with (first | ((with_reducible refine gate_callee (f := 62) rfl ?_); refine goesL_ (some 8) rfl rfl Try.func62 (by kernel_rfl) rfl #[.pointer A0] rfl (by (try simp only [List.map_toArray, List.map_cons, List.map_nil]); first | done | rfl | (simp only [List.length_drop, List.length_take]; rfl) | (simp [Act.eval, IntKind.wrap_u8, IntKind.wrap_u32]; done)) ?_; (with_reducible refine (galois_Tables_none.calls _ a0 true _ ?side1 A3.out).mono ?_); (case side1 => exact HR0.out); rintro e w' ⟨rfl, ⟨nd, rfl⟩⟩; refine ⟨_, rfl, ?_⟩))
    go_ret
    exact ⟨by first | rfl | (simp; done) | (simp [*]; done) | (simp [wrap64]; done), by repeat (first | exact Drawn0.refl _ | apply Drawn0.step)⟩
  · replace c4 := Bool.eq_false_iff.mpr c4
    subst c4
    have H1 : (galois_Tables_check.l0 k a0 l1 (l1.length : Int) 0) = some r := by rw [if_neg (show ¬ (false = true) by decide)] at H; exact H
    clear H
    have H := H1
    clear H1
    have H' := Aside0.mk H
    clear H
    go_enter Try.func61, Try.ntmps61
    go_wp2_with (first | ((with_reducible refine gate_callee (f := 62) rfl ?_); refine goesL_ (some 8) rfl rfl Try.func62 (by kernel_rfl) rfl #[.pointer A0] rfl (by (try simp only [List.map_toArray, List.map_cons, List.map_nil]); first | done | rfl | (simp only [List.length_drop, List.length_take]; rfl) | (simp [Act.eval, IntKind.wrap_u8, IntKind.wrap_u32]; done)) ?_; (with_reducible refine (galois_Tables_none.calls _ a0 false _ ?side1 A3.out).mono ?_); (case side1 => exact HR0.out); rintro e w' ⟨rfl, ⟨nd, rfl⟩⟩; refine ⟨_, rfl, ?_⟩))
    go_loopg [11] k (fun kq v11 w' => ∃ (x11_1 : Int), v11 = .int .i64 x11_1 ∧ Aside0 (galois_Tables_check.l0 kq a0 l1 (l1.length : Int) x11_1 = some r) ∧ Aside0 (kq ≤ k) ∧ Drawn0 w w')
    case atStart => exact ⟨(0), (by first | rfl | (simp; done) | (simp [*]; done) | (simp [wrap64]; done)), H', ⟨Nat.le_refl _⟩, by repeat (first | exact Drawn0.refl _ | apply Drawn0.step)⟩
    case round =>
      clear H'
      try clear c1
      try clear p2
      try clear c4
      obtain ⟨x11_1, rfl, HA, HK1, ⟨m1, rfl⟩⟩ := hrel
      cases gk with
      | zero => exact absurd HA.out (by simp [galois_Tables_check.l0])
      | succ k1 =>
        have H := HA.out
        clear HA
        simp only [galois_Tables_check.l0] at H
        by_cases c5 : x11_1 < (l1.length : Int)
        · rw [if_pos c5] at H
          have c5b0 : decide (x11_1 < (l1.length : Int)) = true := decide_eq_true c5
          clear c5
          by_cases c6 : 0 ≤ x11_1
          · rw [if_pos c6] at H
            have c6b0 : decide (0 ≤ x11_1) = true := decide_eq_true c6
            clear c6
            by_cases c7 : x11_1 < (l1.length : Int)
            · rw [if_pos c7] at H
              have c7b0 : decide (x11_1 < (l1.length : Int)) = true := decide_eq_true c7
              clear c7
              by_cases c8 : 0 < a0.size
              · rw [if_pos c8] at H
                obtain ⟨b_, p_, q_, rfl, hT_⟩ := gal_pos HR0.out c8
                have HT0 := Aside0.mk hT_
                clear hT_ c8
                by_cases c10 : (wrap64 (rd l1 x11_1)) ≥ (a0.size : Int)
                · rw [if_pos c10] at H
                  have c10b0 : decide ((a0.size : Int) ≤ (wrap64 (rd l1 x11_1))) = true := decide_eq_true c10
                  clear c10
                  obtain rfl := Option.some.inj H
                  have p102 : 0 ≤ (x11_1 : Int) := of_decide_eq_true (by first | (with_reducible assumption) | assumption)
                  have q102 : x11_1 < (l1.length : Int) := of_decide_eq_true (by first | (with_reducible assumption) | assumption)
                  obtain ⟨ad102, e102, hx102_0⟩ := Kd.at_int HR1.out x11_1 p102 q102
                  cases e102
                  replace p102 := eq_true p102
                  replace q102 := eq_true q102
                  have ho9 := gal_At_size HT0.out
                  have hx9 := ho9
                  go_wp2
                  go_ret
                  exact ⟨by first | rfl | (simp; done) | (simp [*]; done) | (simp [wrap64]; done), by repeat (first | exact Drawn0.refl _ | apply Drawn0.step)⟩
                · rw [if_neg c10] at H
                  have c10b0 : decide ((a0.size : Int) ≤ (wrap64 (rd l1 x11_1))) = false := decide_eq_false c10
                  clear c10
                  have H' := Aside0.mk H
                  clear H
                  have p102 : 0 ≤ (x11_1 : Int) := of_decide_eq_true (by first | (with_reducible assumption) | assumption)
                  have q102 : x11_1 < (l1.length : Int) := of_decide_eq_true (by first | (with_reducible assumption) | assumption)
                  obtain ⟨ad102, e102, hx102_0⟩ := Kd.at_int HR1.out x11_1 p102 q102
                  cases e102
                  replace p102 := eq_true p102
                  replace q102 := eq_true q102
                  have ho9 := gal_At_size HT0.out
                  have hx9 := ho9
                  go_wp2
                  go_roundg k1
                  case measure => have := HK1.out; omega
                  case rel => exact ⟨(wrap64 (x11_1 + 1)), (by first | rfl | (simp; done) | (simp [*]; done) | (simp [wrap64]; done)), H', ⟨by have := HK1.out; omega⟩, by repeat (first | exact Drawn0.refl _ | apply Drawn0.step)⟩
              · rw [if_neg c8] at H
                exact absurd H (by simp)
            · rw [if_neg c7] at H
              exact absurd H (by simp)
          · rw [if_neg c6] at H
            exact absurd H (by simp)
        · rw [if_neg c5] at H
          have c5b0 : decide (x11_1 < (l1.length : Int)) = false := decide_eq_false c5
          clear c5
          obtain rfl := Option.some.inj H
          go_wp2
          go_ret
          exact ⟨by first | rfl | (simp; done) | (simp [*]; done) | (simp [wrap64]; done), by repeat (first | exact Drawn0.refl _ | apply Drawn0.step)⟩

/-! ### galois_Tables_Mul: function 15 -/
def galois_Tables_Mul.f (k : Nat) (a0 : GTab) (a1 : Int) (a2 : Int) : Option (Int × Int) := (galois_Tables_check.f k a0 (([a1, a2] : List Int))).bind fun t106 => (if t106 = 0 then (if 0 < a0.size then ((galois_New_1.f a0 a1 a2).bind fun t107 => (some (t107, 0))) else (none)) else (some (0, t106)))
theorem galois_Tables_Mul.mono : ∀ a0 a1 a2 k, LeO (galois_Tables_Mul.f k a0 a1 a2) (galois_Tables_Mul.f (k + 1) a0 a1 a2) := by
  intro a0 a1 a2 k
  unfold galois_Tables_Mul.f
  repeat' first
      | (with_reducible exact galois_Tables_check.mono _ _ _)
      | (with_reducible exact LeO.refl _)
      | (with_reducible exact LeO.none _)
      | (with_reducible refine LeO.ite ?_ ?_)
      | (with_reducible refine LeO.bind ?_ (fun _ => ?_))
      | exact galois_Tables_check.mono _ _ _
      | exact LeO.none _
      | refine LeO.ite ?_ ?_
      | refine LeO.bind ?_ (fun _ => ?_)
set_option maxHeartbeats 8000000 in
set_option maxRecDepth 100000 in
theorem galois_Tables_Mul.calls (k : Nat) (A0 : Option Addr) (a0 : GTab) (a1 : Int) (a2 : Int) (r1 : Int) (r2 : Int) (w : World) (hr0 : gal_OK w A0 a0) (h : galois_Tables_Mul.f k a0 a1 a2 = some (r1, r2)) :
    Calls Try.prog 15 #[.pointer A0, .int .u8 a1, .int .u8 a2] w fun e w' => e = .returned (.tuple #[.int .u8 r1, .int .i64 r2]) ∧ Below w.heap.size w w' := by
  have HR0 := Aside0.mk hr0
  clear hr0
  have HB := Aside0.mk (Below.refl w.heap.size w)
  have H : ((galois_Tables_check.f k a0 (([a1, a2] : List Int))).bind fun t106 => (if t106 = 0 then (if 0 < a0.size then ((galois_New_1.f a0 a1 a2).bind fun t107 => (some (t107, 0))) else (none)) else (some (0, t106)))) = some (r1, r2) := h
  clear h
  obtain ⟨y103, hy103⟩ : ∃ y_ : List Int, y_ = (([a1, a2] : List Int)) := ⟨_, rfl⟩
  replace H : ((galois_Tables_check.f k a0 y103).bind fun t106 => (if t106 = 0 then (if 0 < a0.size then ((galois_New_1.f a0 a1 a2).bind fun t107 => (some (t107, 0))) else (none)) else (some (0, t106)))) = some (r1, r2) := by first | (rw [hy103]; with_reducible exact H) | (have H2_ := (Option.bind_some _ _).symm.trans H; rw [hy103]; with_reducible exact H2_) | (have H2_ := (Option.bind_some _ _).symm.trans H; with_reducible exact H2_) | with_reducible exact H | (rw [hy103]; exact H) | exact H
  have Ny103 := Aside0.mk hy103
  clear hy103
  replace H := Option.bind_eq_some_iff.mp H
  obtain ⟨t106, A40, H⟩ := H
  replace H : (if t106 = 0 then (if 0 < a0.size then ((galois_New_1.f a0 a1 a2).bind fun t107 => (some (t107, 0))) else (none)) else (some (0, t106))) = some (r1, r2) := H
  have A4 := Aside0.mk A40
  clear A40
  by_cases c5 : t106 = 0
  · rw [if_pos c5] at H
    have c5b0 : (t106 == 0) = true := beq_iff_eq.mpr c5
    have c5b1 : (t106 != 0) = false := bne_eq_false_iff_eq.mpr c5
    clear c5
    by_cases c6 : 0 < a0.size
    · rw [if_pos c6] at H
      obtain ⟨b_, p_, q_, rfl, hT_⟩ := gal_pos HR0.out c6
      have HT0 := Aside0.mk hT_
      clear hT_ c6
      replace H := Option.bind_eq_some_iff.mp H
      obtain ⟨t107, A80, H⟩ := H
      replace H : (some (t107, 0)) = some (r1, r2) := H
      have A8 := Aside0.mk A80
      clear A80
      simp only [Option.some.injEq, Prod.mk.injEq] at H
      obtain ⟨rfl, rfl⟩ := H
      go_enter Try.func15, Try.ntmps15
      go_wp2_with (first | ((with_reducible refine gate_dst (N := 12) rfl ?_); refine Kd.R_lit (Kd.int .u8) _ 5 ?hg (N := 12) ?hd (xs := ([a1, a2] : List Int)) (inner := [.int .u8 a1, .int .u8 a2]) (ok := fun _ => True) (okp := fun _ => True) ?hr ?hp (fun _ hk => hk) trivial (Below.refl _ _) (Nat.le_refl _) (by simp) ?_; (case hd => rfl); (case hg => rfl); (case hr => first | (go_simp; done) | (go_simp; rfl)); (case hp => exact (Reps.one (show Kd.M (Kd.int .u8) _ _ _ a1 [.int .u8 a1] from rfl) (Reps.one (show Kd.M (Kd.int .u8) _ _ _ a2 [.int .u8 a2] from rfl) (Reps.none _ _)))); intro v104 w9 ho10 hb hg_ hnew_; clear hg_ hnew_; (first | rw [← Ny103.out] at ho10 | (simp only [Int.reduceToNat] at ho10; rw [← Ny103.out] at ho10)); have n0_ := Aside0.mk (Kd.R_lower ho10 (below_size (by repeat (first | (with_reducible first | exact HB.out | apply below_alloc | apply pw_below_drewN | apply below_drew1) | exact HB.out)))); have n1_ := Aside0.mk (below_step (by repeat (first | (with_reducible first | exact HB.out | apply below_alloc | apply pw_below_drewN | apply below_drew1) | exact HB.out)) hb); clear HB; have HO105 := n0_; have HB := n1_; clear n0_ n1_; clear hb ho10; obtain ⟨Ao11, co11, eo11⟩ := Kd.R_slice HO105.out; subst eo11) | ((with_reducible refine gate_callee (f := 61) rfl ?_); refine goesL_ (some 13) rfl rfl Try.func61 (by kernel_rfl) rfl #[.pointer (some ⟨b_, 0, none⟩), .slice Ao11 y103.length co11] rfl (by (try simp only [List.map_toArray, List.map_cons, List.map_nil]); first | done | rfl | (simp only [List.length_drop, List.length_take]; rfl) | (simp [Act.eval, IntKind.wrap_u8, IntKind.wrap_u32]; done)) ?_; (with_reducible refine (galois_Tables_check.calls k _ a0 _ _ y103 t106 _ ?side1 ?side2 ?side3 A4.out).mono ?_); (case side1 => exact (gal_OK_below HR0.out HB.out)); (case side2 => repeat (first | exact (Kd.R_reads' HO105.out).2.2 | (with_reducible refine Kd.C_alloc ?_ _) | (with_reducible refine Kd.C_drewN ?_ _) | (with_reducible refine Kd.C_drew ?_))); (case side3 => exact (Kd.R_reads' HO105.out).2.1); rintro e w' ⟨rfl, ⟨nd, rfl⟩⟩; refine ⟨_, rfl, ?_⟩; have ho7 := gal_At_mul HT0.out; have hx7 := (HB.out.cell (World.block_lt_of_cell? w _ ho7)).trans ho7) | (go_at_call 91; (with_reducible refine (galois_New_1.calls b_ p_ q_ a0 a1 a2 t107 _ ?side1 A8.out).mono ?_); (case side1 => exact (gal_At_below HT0.out (by repeat (first | (with_reducible first | exact HB.out | apply below_alloc | apply pw_below_drewN | apply below_drew1) | exact HB.out)))); rintro e w' ⟨rfl, ⟨nd, rfl⟩⟩))
      go_ret2
      exact ⟨by first | rfl | (simp [errW_none, errW_some] <;> rfl) | (simp [*, errW_none, errW_some] <;> rfl), by repeat (first | (with_reducible first | exact HB.out | apply below_alloc | apply pw_below_drewN | apply below_drew1) | exact HB.out)⟩
    · rw [if_neg c6] at H
      exact absurd H (by simp)
  · rw [if_neg c5] at H
    have c5b0 : (t106 == 0) = false := beq_eq_false_iff_ne.mpr c5
    have c5b1 : (t106 != 0) = true := bne_iff_ne.mpr c5
    simp only [Option.some.injEq, Prod.mk.injEq] at H
    obtain ⟨rfl, rfl⟩ := H
    go_enter Try.func15, Try.ntmps15
    go_wp2_with (first | ((with_reducible refine gate_dst (N := 12) rfl ?_); refine Kd.R_lit (Kd.int .u8) _ 5 ?hg (N := 12) ?hd (xs := ([a1, a2] : List Int)) (inner := [.int .u8 a1, .int .u8 a2]) (ok := fun _ => True) (okp := fun _ => True) ?hr ?hp (fun _ hk => hk) trivial (Below.refl _ _) (Nat.le_refl _) (by simp) ?_; (case hd => rfl); (case hg => rfl); (case hr => first | (go_simp; done) | (go_simp; rfl)); (case hp => exact (Reps.one (show Kd.M (Kd.int .u8) _ _ _ a1 [.int .u8 a1] from rfl) (Reps.one (show Kd.M (Kd.int .u8) _ _ _ a2 [.int .u8 a2] from rfl) (Reps.none _ _)))); intro v104 w12 ho13 hb hg_ hnew_; clear hg_ hnew_; (first | rw [← Ny103.out] at ho13 | (simp only [Int.reduceToNat] at ho13; rw [← Ny103.out] at ho13)); have n0_ := Aside0.mk (Kd.R_lower ho13 (below_size (by repeat (first | (with_reducible first | exact HB.out | apply below_alloc | apply pw_below_drewN | apply below_drew1) | exact HB.out)))); have n1_ := Aside0.mk (below_step (by repeat (first | (with_reducible first | exact HB.out | apply below_alloc | apply pw_below_drewN | apply below_drew1) | exact HB.out)) hb); clear HB; have HO105 := n0_; have HB := n1_; clear n0_ n1_; clear hb ho13; obtain ⟨Ao14, co14, eo14⟩ := Kd.R_slice HO105.out; subst eo14) | ((with_reducible refine gate_callee (f := 61) rfl ?_); refine goesL_ (some 13) rfl rfl Try.func61 (by kernel_rfl) rfl #[.pointer A0, .slice Ao14 y103.length co14] rfl (by (try simp only [List.map_toArray, List.map_cons, List.map_nil]); first | done | rfl | (simp only [List.length_drop, List.length_take]; rfl) | (simp [Act.eval, IntKind.wrap_u8, IntKind.wrap_u32]; done)) ?_; (with_reducible refine (galois_Tables_check.calls k _ a0 _ _ y103 t106 _ ?side1 ?side2 ?side3 A4.out).mono ?_); (case side1 => exact (gal_OK_below HR0.out HB.out)); (case side2 => repeat (first | exact (Kd.R_reads' HO105.out).2.2 | (with_reducible refine Kd.C_alloc ?_ _) | (with_reducible refine Kd.C_drewN ?_ _) | (with_reducible refine Kd.C_drew ?_))); (case side3 => exact (Kd.R_reads' HO105.out).2.1); rintro e w' ⟨rfl, ⟨nd, rfl⟩⟩; refine ⟨_, rfl, ?_⟩))
    go_ret2
    exact ⟨by first | rfl | (simp [errW_none, errW_some] <;> rfl) | (simp [*, errW_none, errW_some] <;> rfl), by repeat (first | (with_reducible first | exact HB.out | apply below_alloc | apply pw_below_drewN | apply below_drew1) | exact HB.out)⟩

/-! ### galois_Tables_Log: function 16 -/
def galois_Tables_Log.f (k : Nat) (a0 : GTab) (a1 : Int) : Option (Int × Int) := (galois_Tables_check.f k a0 (([a1] : List Int))).bind fun t111 => (if t111 = 0 then (if a1 = 0 then (some (0, 20)) else (if 0 ≤ a1 then (if a1 < 256 then (if 0 < a0.size then (some (GTab.lg a0 a1, 0)) else (none)) else (none)) else (none))) else (some (0, t111)))
theorem galois_Tables_Log.mono : ∀ a0 a1 k, LeO (galois_Tables_Log.f k a0 a1) (galois_Tables_Log.f (k + 1) a0 a1) := by
  intro a0 a1 k
  unfold galois_Tables_Log.f
  repeat' first
      | (with_reducible exact galois_Tables_check.mono _ _ _)
      | (with_reducible exact LeO.refl _)
      | (with_reducible exact LeO.none _)
      | (with_reducible refine LeO.ite ?_ ?_)
      | (with_reducible refine LeO.bind ?_ (fun _ => ?_))
      | exact galois_Tables_check.mono _ _ _
      | exact LeO.none _
      | refine LeO.ite ?_ ?_
      | refine LeO.bind ?_ (fun _ => ?_)
set_option maxHeartbeats 8000000 in
set_option maxRecDepth 100000 in
theorem galois_Tables_Log.calls (k : Nat) (A0 : Option Addr) (a0 : GTab) (a1 : Int) (r1 : Int) (r2 : Int) (w : World) (hr0 : gal_OK w A0 a0) (h : galois_Tables_Log.f k a0 a1 = some (r1, r2)) :
    Calls Try.prog 16 #[.pointer A0, .int .u8 a1] w fun e w' => e = .returned (.tuple #[.int .i64 r1, .int .i64 r2]) ∧ Below w.heap.size w w' := by
  have HR0 := Aside0.mk hr0
  clear hr0
  have HB := Aside0.mk (Below.refl w.heap.size w)
  have H : ((galois_Tables_check.f k a0 (([a1] : List Int))).bind fun t111 => (if t111 = 0 then (if a1 = 0 then (some (0, 20)) else (if 0 ≤ a1 then (if a1 < 256 then (if 0 < a0.size then (some (GTab.lg a0 a1, 0)) else (none)) else (none)) else (none))) else (some (0, t111)))) = some (r1, r2) := h
  clear h
  obtain ⟨y108, hy108⟩ : ∃ y_ : List Int, y_ = (([a1] : List Int)) := ⟨_, rfl⟩
  replace H : ((galois_Tables_check.f k a0 y108).bind fun t111 => (if t111 = 0 then (if a1 = 0 then (some (0, 20)) else (if 0 ≤ a1 then (if a1 < 256 then (if 0 < a0.size then (some (GTab.lg a0 a1, 0)) else (none)) else (none)) else (none))) else (some (0, t111)))) = some (r1, r2) := by first | (rw [hy108]; with_reducible exact H) | (have H2_ := (Option.bind_some _ _).symm.trans H; rw [hy108]; with_reducible exact H2_) | (have H2_ := (Option.bind_some _ _).symm.trans H; with_reducible exact H2_) | with_reducible exact H | (rw [hy108]; exact H) | exact H
  have Ny108 := Aside0.mk hy108
  clear hy108
  replace H := Option.bind_eq_some_iff.mp H
  obtain ⟨t111, A30, H⟩ := H
  replace H : (if t111 = 0 then (if a1 = 0 then (some (0, 20)) else (if 0 ≤ a1 then (if a1 < 256 then (if 0 < a0.size then (some (GTab.lg a0 a1, 0)) else (none)) else (none)) else (none))) else (some (0, t111))) = some (r1, r2) := H
  have A3 := Aside0.mk A30
  clear A30
  by_cases c4 : t111 = 0
  · rw [if_pos c4] at H
    have c4b0 : (t111 == 0) = true := beq_iff_eq.mpr c4
    have c4b1 : (t111 != 0) = false := bne_eq_false_iff_eq.mpr c4
    clear c4
    by_cases c5 : a1 = 0
    · rw [if_pos c5] at H
      have c5b0 : (a1 == 0) = true := beq_iff_eq.mpr c5
      have c5b1 : (a1 != 0) = false := bne_eq_false_iff_eq.mpr c5
      clear c5
      simp only [Option.some.injEq, Prod.mk.injEq] at H
      obtain ⟨rfl, rfl⟩ := H
      go_enter Try.func16, Try.ntmps16
      go_wp2_with (first | ((with_reducible refine gate_dst (N := 9) rfl ?_); refine Kd.R_lit (Kd.int .u8) _ 5 ?hg (N := 9) ?hd (xs := ([a1] : List Int)) (inner := [.int .u8 a1]) (ok := fun _ => True) (okp := fun _ => True) ?hr ?hp (fun _ hk => hk) trivial (Below.refl _ _) (Nat.le_refl _) (by simp) ?_; (case hd => rfl); (case hg => rfl); (case hr => first | (go_simp; done) | (go_simp; rfl)); (case hp => exact (Reps.one (show Kd.M (Kd.int .u8) _ _ _ a1 [.int .u8 a1] from rfl) (Reps.none _ _))); intro v109 w6 ho7 hb hg_ hnew_; clear hg_ hnew_; (first | rw [← Ny108.out] at ho7 | (simp only [Int.reduceToNat] at ho7; rw [← Ny108.out] at ho7)); have n0_ := Aside0.mk (Kd.R_lower ho7 (below_size (by repeat (first | (with_reducible first | exact HB.out | apply below_alloc | apply pw_below_drewN | apply below_drew1) | exact HB.out)))); have n1_ := Aside0.mk (below_step (by repeat (first | (with_reducible first | exact HB.out | apply below_alloc | apply pw_below_drewN | apply below_drew1) | exact HB.out)) hb); clear HB; have HO110 := n0_; have HB := n1_; clear n0_ n1_; clear hb ho7; obtain ⟨Ao8, co8, eo8⟩ := Kd.R_slice HO110.out; subst eo8) | ((with_reducible refine gate_callee (f := 61) rfl ?_); refine goesL_ (some 10) rfl rfl Try.func61 (by kernel_rfl) rfl #[.pointer A0, .slice Ao8 y108.length co8] rfl (by (try simp only [List.map_toArray, List.map_cons, List.map_nil]); first | done | rfl | (simp only [List.length_drop, List.length_take]; rfl) | (simp [Act.eval, IntKind.wrap_u8, IntKind.wrap_u32]; done)) ?_; (with_reducible refine (galois_Tables_check.calls k _ a0 _ _ y108 t111 _ ?side1 ?side2 ?side3 A3.out).mono ?_); (case side1 => exact (gal_OK_below HR0.out HB.out)); (case side2 => repeat (first | exact (Kd.R_reads' HO110.out).2.2 | (with_reducible refine Kd.C_alloc ?_ _) | (with_reducible refine Kd.C_drewN ?_ _) | (with_reducible refine Kd.C_drew ?_))); (case side3 => exact (Kd.R_reads' HO110.out).2.1); rintro e w' ⟨rfl, ⟨nd, rfl⟩⟩; refine ⟨_, rfl, ?_⟩))
      go_ret2
      exact ⟨by first | rfl | (simp [errW_none, errW_some] <;> rfl) | (simp [*, errW_none, errW_some] <;> rfl), by repeat (first | (with_reducible first | exact HB.out | apply below_alloc | apply pw_below_drewN | apply below_drew1) | exact HB.out)⟩
    · rw [if_neg c5] at H
      have c5b0 : (a1 == 0) = false := beq_eq_false_iff_ne.mpr c5
      have c5b1 : (a1 != 0) = true := bne_iff_ne.mpr c5
      by_cases c9 : 0 ≤ a1
      · rw [if_pos c9] at H
        have c9b0 : decide (0 ≤ a1) = true := decide_eq_true c9
        clear c9
        by_cases c10 : a1 < 256
        · rw [if_pos c10] at H
          have c10b0 : decide (a1 < 256) = true := decide_eq_true c10
          clear c10
          by_cases c11 : 0 < a0.size
          · rw [if_pos c11] at H
            obtain ⟨b_, p_, q_, rfl, hT_⟩ := gal_pos HR0.out c11
            have HT0 := Aside0.mk hT_
            clear hT_ c11
            simp only [Option.some.injEq, Prod.mk.injEq] at H
            obtain ⟨rfl, rfl⟩ := H
            go_enter Try.func16, Try.ntmps16
            go_wp2_with (first | ((with_reducible refine gate_dst (N := 9) rfl ?_); refine Kd.R_lit (Kd.int .u8) _ 5 ?hg (N := 9) ?hd (xs := ([a1] : List Int)) (inner := [.int .u8 a1]) (ok := fun _ => True) (okp := fun _ => True) ?hr ?hp (fun _ hk => hk) trivial (Below.refl _ _) (Nat.le_refl _) (by simp) ?_; (case hd => rfl); (case hg => rfl); (case hr => first | (go_simp; done) | (go_simp; rfl)); (case hp => exact (Reps.one (show Kd.M (Kd.int .u8) _ _ _ a1 [.int .u8 a1] from rfl) (Reps.none _ _))); intro v109 w13 ho14 hb hg_ hnew_; clear hg_ hnew_; (first | rw [← Ny108.out] at ho14 | (simp only [Int.reduceToNat] at ho14; rw [← Ny108.out] at ho14)); have n0_ := Aside0.mk (Kd.R_lower ho14 (below_size (by repeat (first | (with_reducible first | exact HB.out | apply below_alloc | apply pw_below_drewN | apply below_drew1) | exact HB.out)))); have n1_ := Aside0.mk (below_step (by repeat (first | (with_reducible first | exact HB.out | apply below_alloc | apply pw_below_drewN | apply below_drew1) | exact HB.out)) hb); clear HB; have HO110 := n0_; have HB := n1_; clear n0_ n1_; clear hb ho14; obtain ⟨Ao15, co15, eo15⟩ := Kd.R_slice HO110.out; subst eo15) | ((with_reducible refine gate_callee (f := 61) rfl ?_); refine goesL_ (some 10) rfl rfl Try.func61 (by kernel_rfl) rfl #[.pointer (some ⟨b_, 0, none⟩), .slice Ao15 y108.length co15] rfl (by (try simp only [List.map_toArray, List.map_cons, List.map_nil]); first | done | rfl | (simp only [List.length_drop, List.length_take]; rfl) | (simp [Act.eval, IntKind.wrap_u8, IntKind.wrap_u32]; done)) ?_; (with_reducible refine (galois_Tables_check.calls k _ a0 _ _ y108 t111 _ ?side1 ?side2 ?side3 A3.out).mono ?_); (case side1 => exact (gal_OK_below HR0.out HB.out)); (case side2 => repeat (first | exact (Kd.R_reads' HO110.out).2.2 | (with_reducible refine Kd.C_alloc ?_ _) | (with_reducible refine Kd.C_drewN ?_ _) | (with_reducible refine Kd.C_drew ?_))); (case side3 => exact (Kd.R_reads' HO110.out).2.1); rintro e w' ⟨rfl, ⟨nd, rfl⟩⟩; refine ⟨_, rfl, ?_⟩; have p12 : 0 ≤ (a1 : Int) := of_decide_eq_true (by first | (with_reducible assumption) | assumption); have q12 : (a1 : Int) < 256 := of_decide_eq_true (by first | (with_reducible assumption) | assumption); have ho12 := gal_At_log HT0.out a1 p12 q12; have hx12 := (HB.out.cell (World.block_lt_of_cell? w _ ho12)).trans ho12; replace p12 := eq_true p12; replace q12 := eq_true q12))
            go_ret2
            exact ⟨by first | rfl | (simp [errW_none, errW_some] <;> rfl) | (simp [*, errW_none, errW_some] <;> rfl), by repeat (first | (with_reducible first | exact HB.out | apply below_alloc | apply pw_below_drewN | apply below_drew1) | exact HB.out)⟩
          · rw [if_neg c11] at H
            exact absurd H (by simp)
        · rw [if_neg c10] at H
          exact absurd H (by simp)
      · rw [if_neg c9] at H
        exact absurd H (by simp)
  · rw [if_neg c4] at H
    have c4b0 : (t111 == 0) = false := beq_eq_false_iff_ne.mpr c4
    have c4b1 : (t111 != 0) = true := bne_iff_ne.mpr c4
    simp only [Option.some.injEq, Prod.mk.injEq] at H
    obtain ⟨rfl, rfl⟩ := H
    go_enter Try.func16, Try.ntmps16
    go_wp2_with (first | ((with_reducible refine gate_dst (N := 9) rfl ?_); refine Kd.R_lit (Kd.int .u8) _ 5 ?hg (N := 9) ?hd (xs := ([a1] : List Int)) (inner := [.int .u8 a1]) (ok := fun _ => True) (okp := fun _ => True) ?hr ?hp (fun _ hk => hk) trivial (Below.refl _ _) (Nat.le_refl _) (by simp) ?_; (case hd => rfl); (case hg => rfl); (case hr => first | (go_simp; done) | (go_simp; rfl)); (case hp => exact (Reps.one (show Kd.M (Kd.int .u8) _ _ _ a1 [.int .u8 a1] from rfl) (Reps.none _ _))); intro v109 w16 ho17 hb hg_ hnew_; clear hg_ hnew_; (first | rw [← Ny108.out] at ho17 | (simp only [Int.reduceToNat] at ho17; rw [← Ny108.out] at ho17)); have n0_ := Aside0.mk (Kd.R_lower ho17 (below_size (by repeat (first | (with_reducible first | exact HB.out | apply below_alloc | apply pw_below_drewN | apply below_drew1) | exact HB.out)))); have n1_ := Aside0.mk (below_step (by repeat (first | (with_reducible first | exact HB.out | apply below_alloc | apply pw_below_drewN | apply below_drew1) | exact HB.out)) hb); clear HB; have HO110 := n0_; have HB := n1_; clear n0_ n1_; clear hb ho17; obtain ⟨Ao18, co18, eo18⟩ := Kd.R_slice HO110.out; subst eo18) | ((with_reducible refine gate_callee (f := 61) rfl ?_); refine goesL_ (some 10) rfl rfl Try.func61 (by kernel_rfl) rfl #[.pointer A0, .slice Ao18 y108.length co18] rfl (by (try simp only [List.map_toArray, List.map_cons, List.map_nil]); first | done | rfl | (simp only [List.length_drop, List.length_take]; rfl) | (simp [Act.eval, IntKind.wrap_u8, IntKind.wrap_u32]; done)) ?_; (with_reducible refine (galois_Tables_check.calls k _ a0 _ _ y108 t111 _ ?side1 ?side2 ?side3 A3.out).mono ?_); (case side1 => exact (gal_OK_below HR0.out HB.out)); (case side2 => repeat (first | exact (Kd.R_reads' HO110.out).2.2 | (with_reducible refine Kd.C_alloc ?_ _) | (with_reducible refine Kd.C_drewN ?_ _) | (with_reducible refine Kd.C_drew ?_))); (case side3 => exact (Kd.R_reads' HO110.out).2.1); rintro e w' ⟨rfl, ⟨nd, rfl⟩⟩; refine ⟨_, rfl, ?_⟩))
    go_ret2
    exact ⟨by first | rfl | (simp [errW_none, errW_some] <;> rfl) | (simp [*, errW_none, errW_some] <;> rfl), by repeat (first | (with_reducible first | exact HB.out | apply below_alloc | apply pw_below_drewN | apply below_drew1) | exact HB.out)⟩

/-! ### outpostlaw32_same: function 27 -/
def outpostlaw32_same.f (l0 : List Int) (l1 : List Int) : Option (Bool) := some ((strOfNums l0).toList == (strOfNums l1).toList)
set_option maxHeartbeats 8000000 in
set_option maxRecDepth 100000 in
theorem outpostlaw32_same.calls (A0 : Option Addr) (c0 : Nat) (l0 : List Int) (A1 : Option Addr) (c1 : Nat) (l1 : List Int) (r : Bool) (w : World) (hr0 : Kd.C (Kd.int .u8) w A0 l0.length l0) (hc0 : l0.length ≤ c0) (hr1 : Kd.C (Kd.int .u8) w A1 l1.length l1) (hc1 : l1.length ≤ c1) (h : outpostlaw32_same.f l0 l1 = some r) :
    Calls Try.prog 27 #[.slice A0 l0.length c0, .slice A1 l1.length c1] w fun e w' => e = .returned (.bool r) ∧ Drawn0 w w' := by
  have HR0 := Aside0.mk hr0
  have HC0 := Aside0.mk hc0
  clear hr0 hc0
  have HR1 := Aside0.mk hr1
  have HC1 := Aside0.mk hc1
  clear hr1 hc1
  have H : (some ((strOfNums l0).toList == (strOfNums l1).toList)) = some r := h
  clear h
  obtain rfl := Option.some.inj H
  have hcv3 := Kd.C_string (P := Try.prog) (A := A0) (c := c0) Try.underlying44 Try.underlying5 Try.underlying9 HR0.out
  have hcv4 := fun n_ => Kd.C_string (P := Try.prog) (A := A0) (c := c0) Try.underlying44 Try.underlying5 Try.underlying9 (Kd.C_drewN HR0.out n_)
  have hcv5 := Kd.C_string (P := Try.prog) (A := A1) (c := c1) Try.underlying44 Try.underlying5 Try.underlying9 HR1.out
  have hcv6 := fun n_ => Kd.C_string (P := Try.prog) (A := A1) (c := c1) Try.underlying44 Try.underlying5 Try.underlying9 (Kd.C_drewN HR1.out n_)
  go_enter Try.func27, Try.ntmps27
  go_wp2
  go_ret
  exact ⟨by first | rfl | (simp; done) | (simp [*]; done) | (simp [wrap64]; done), by repeat (first | exact Drawn0.refl _ | apply Drawn0.step)⟩

/-! ### galois_Tables_lists: function 65 -/
mutual
def galois_Tables_lists.l0 : Nat → GTab → List (List Int) → List (List Int) → Int → Int → Option (Int)
  | 0, _, _, _, _, _ => none
  | k + 1, x0, x1, x12, x13, x14 => if x14 < x13 then (if 0 ≤ x14 then (if x14 < (x12.length : Int) then (if ((rd_L1 x12 x14).length : Int) > 1024 then (some 6) else (galois_Tables_lists.l0 k x0 x1 x12 x13 (wrap64 (x14 + 1)))) else (none)) else (none)) else (galois_Tables_lists.l1 k x0 x1 (x1.length : Int) 0)
def galois_Tables_lists.l1 : Nat → GTab → List (List Int) → Int → Int → Option (Int)
  | 0, _, _, _, _ => none
  | k + 1, x0, x22, x23, x24 => if x24 < x23 then (if 0 ≤ x24 then (if x24 < (x22.length : Int) then ((galois_Tables_check.f k x0 (rd_L1 x22 x24)).bind fun t115 => (if t115 = 0 then (galois_Tables_lists.l1 k x0 x22 x23 (wrap64 (x24 + 1))) else (some t115))) else (none)) else (none)) else (some 0)
end
def galois_Tables_lists.f (k : Nat) (a0 : GTab) (l1 : List (List Int)) : Option (Int) := (galois_Tables_none.f a0).bind fun t112 => (if t112 = true then (some 1) else (galois_Tables_lists.l0 k a0 l1 l1 (l1.length : Int) 0))
theorem galois_Tables_lists.mono_l : ∀ k, (∀ y0 y1 y2 y3 y4, LeO (galois_Tables_lists.l0 k y0 y1 y2 y3 y4) (galois_Tables_lists.l0 (k + 1) y0 y1 y2 y3 y4)) ∧ (∀ y0 y1 y2 y3, LeO (galois_Tables_lists.l1 k y0 y1 y2 y3) (galois_Tables_lists.l1 (k + 1) y0 y1 y2 y3))
  | 0 => ⟨fun _ _ _ _ _ r h => by simp [galois_Tables_lists.l0] at h, fun _ _ _ _ r h => by simp [galois_Tables_lists.l1] at h⟩
  | k + 1 => by
    obtain ⟨ih0, ih1⟩ := galois_Tables_lists.mono_l k
    refine ⟨?_, ?_⟩
    · intro y0 y1 y2 y3 y4
      unfold galois_Tables_lists.l0
      repeat' first
      | (with_reducible exact ih0 _ _ _ _ _)
      | (with_reducible exact ih1 _ _ _ _)
      | (with_reducible exact galois_Tables_check.mono _ _ _)
      | (with_reducible exact LeO.refl _)
      | (with_reducible exact LeO.none _)
      | (with_reducible refine LeO.ite ?_ ?_)
      | (with_reducible refine LeO.bind ?_ (fun _ => ?_))
      | exact ih0 _ _ _ _ _
      | exact ih1 _ _ _ _
      | exact galois_Tables_check.mono _ _ _
      | exact LeO.none _
      | refine LeO.ite ?_ ?_
      | refine LeO.bind ?_ (fun _ => ?_)
    · intro y0 y1 y2 y3
      unfold galois_Tables_lists.l1
      repeat' first
      | (with_reducible exact ih0 _ _ _ _ _)
      | (with_reducible exact ih1 _ _ _ _)
      | (with_reducible exact galois_Tables_check.mono _ _ _)
      | (with_reducible exact LeO.refl _)
      | (with_reducible exact LeO.none _)
      | (with_reducible refine LeO.ite ?_ ?_)
      | (with_reducible refine LeO.bind ?_ (fun _ => ?_))
      | exact ih0 _ _ _ _ _
      | exact ih1 _ _ _ _
      | exact galois_Tables_check.mono _ _ _
      | exact LeO.none _
      | refine LeO.ite ?_ ?_
      | refine LeO.bind ?_ (fun _ => ?_)
theorem galois_Tables_lists.mono : ∀ a0 a1 k, LeO (galois_Tables_lists.f k a0 a1) (galois_Tables_lists.f (k + 1) a0 a1) := by
  intro a0 a1 k
  obtain ⟨ih0, ih1⟩ := galois_Tables_lists.mono_l k
  unfold galois_Tables_lists.f
  repeat' first
      | (with_reducible exact ih0 _ _ _ _ _)
      | (with_reducible exact ih1 _ _ _ _)
      | (with_reducible exact galois_Tables_check.mono _ _ _)
      | (with_reducible exact LeO.refl _)
      | (with_reducible exact LeO.none _)
      | (with_reducible refine LeO.ite ?_ ?_)
      | (with_reducible refine LeO.bind ?_ (fun _ => ?_))
      | exact ih0 _ _ _ _ _
      | exact ih1 _ _ _ _
      | exact galois_Tables_check.mono _ _ _
      | exact LeO.none _
      | refine LeO.ite ?_ ?_
      | refine LeO.bind ?_ (fun _ => ?_)
set_option maxHeartbeats 8000000 in
set_option maxRecDepth 100000 in
theorem galois_Tables_lists.calls (k : Nat) (A0 : Option Addr) (a0 : GTab) (A1 : Option Addr) (c1 : Nat) (l1 : List (List Int)) (r : Int) (w : World) (hr0 : gal_OK w A0 a0) (hr1 : Kd.C (Kd.slice 5 (Kd.int .u8)) w A1 l1.length l1) (hc1 : l1.length ≤ c1) (h : galois_Tables_lists.f k a0 l1 = some r) :
    Calls Try.prog 65 #[.pointer A0, .slice A1 l1.length c1] w fun e w' => e = .returned (.int .i64 r) ∧ Drawn0 w w' := by
  have HR0 := Aside0.mk hr0
  clear hr0
  have HR1 := Aside0.mk hr1
  have HC1 := Aside0.mk hc1
  clear hr1 hc1
  have H : ((galois_Tables_none.f a0).bind fun t112 => (if t112 = true then (some 1) else (galois_Tables_lists.l0 k a0 l1 l1 (l1.length : Int) 0))) = some r := h
  clear h
  replace H := Option.bind_eq_some_iff.mp H
  obtain ⟨t112, A30, H⟩ := H
  replace H : (if t112 = true then (some 1) else (galois_Tables_lists.l0 k a0 l1 l1 (l1.length : Int) 0)) = some r := H
  have A3 := Aside0.mk A30
  clear A30
  by_cases c4 : t112 = true
  · subst c4
    have H1 : (some 1) = some r := by rw [if_pos rfl] at H; exact H
    clear H
    have H := H1
    clear H1
    obtain rfl := Option.some.inj H
    go_enter Try.func65, Try.ntmps65
    go_wp2_with (first | ((with_reducible refine gate_callee (f := 62) rfl ?_); refine goesL_ (some 11) rfl rfl Try.func62 (by kernel_rfl) rfl #[.pointer A0] rfl (by (try simp only [List.map_toArray, List.map_cons, List.map_nil]); first | done | rfl | (simp only [List.length_drop, List.length_take]; rfl) | (simp [Act.eval, IntKind.wrap_u8, IntKind.wrap_u32]; done)) ?_; (with_reducible refine (galois_Tables_none.calls _ a0 true _ ?side1 A3.out).mono ?_); (case side1 => exact HR0.out); rintro e w' ⟨rfl, ⟨nd, rfl⟩⟩; refine ⟨_, rfl, ?_⟩))
    go_ret
    exact ⟨by first | rfl | (simp; done) | (simp [*]; done) | (simp [wrap64]; done), by repeat (first | exact Drawn0.refl _ | apply Drawn0.step)⟩
  · replace c4 := Bool.eq_false_iff.mpr c4
    subst c4
    have H1 : (galois_Tables_lists.l0 k a0 l1 l1 (l1.length : Int) 0) = some r := by rw [if_neg (show ¬ (false = true) by decide)] at H; exact H
    clear H
    have H := H1
    clear H1
    have H' := Aside0.mk H
    clear H
    go_enter Try.func65, Try.ntmps65
    go_wp2_with (first | ((with_reducible refine gate_callee (f := 62) rfl ?_); refine goesL_ (some 11) rfl rfl Try.func62 (by kernel_rfl) rfl #[.pointer A0] rfl (by (try simp only [List.map_toArray, List.map_cons, List.map_nil]); first | done | rfl | (simp only [List.length_drop, List.length_take]; rfl) | (simp [Act.eval, IntKind.wrap_u8, IntKind.wrap_u32]; done)) ?_; (with_reducible refine (galois_Tables_none.calls _ a0 false _ ?side1 A3.out).mono ?_); (case side1 => exact HR0.out); rintro e w' ⟨rfl, ⟨nd, rfl⟩⟩; refine ⟨_, rfl, ?_⟩))
    go_loopg [14] k (fun kq v14 w' => ∃ (x14_1 : Int), v14 = .int .i64 x14_1 ∧ Aside0 (galois_Tables_lists.l0 kq a0 l1 l1 (l1.length : Int) x14_1 = some r) ∧ Aside0 (kq ≤ k) ∧ Drawn0 w w')
    case atStart => exact ⟨(0), (by first | rfl | (simp; done) | (simp [*]; done) | (simp [wrap64]; done)), H', ⟨Nat.le_refl _⟩, by repeat (first | exact Drawn0.refl _ | apply Drawn0.step)⟩
    case round =>
      clear H'
      try clear c1
      try clear p2
      try clear c4
      obtain ⟨x14_1, rfl, HA, HK1, ⟨m1, rfl⟩⟩ := hrel
      cases gk with
      | zero => exact absurd HA.out (by simp [galois_Tables_lists.l0])
      | succ k1 =>
        have H := HA.out
        clear HA
        simp only [galois_Tables_lists.l0] at H
        by_cases c5 : x14_1 < (l1.length : Int)
        · rw [if_pos c5] at H
          have c5b0 : decide (x14_1 < (l1.length : Int)) = true := decide_eq_true c5
          clear c5
          by_cases c6 : 0 ≤ x14_1
          · rw [if_pos c6] at H
            have c6b0 : decide (0 ≤ x14_1) = true := decide_eq_true c6
            clear c6
            by_cases c7 : x14_1 < (l1.length : Int)
            · rw [if_pos c7] at H
              have c7b0 : decide (x14_1 < (l1.length : Int)) = true := decide_eq_true c7
              clear c7
              by_cases c8 : ((rd_L1 l1 x14_1).length : Int) > 1024
              · rw [if_pos c8] at H
                have c8b0 : decide (1024 < ((rd_L1 l1 x14_1).length : Int)) = true := decide_eq_true c8
                have c8b1 : decide (1024 < (rd_L1 l1 x14_1).length) = true := decide_eq_true (by omega)
                clear c8
                obtain rfl := Option.some.inj H
                have p113 : 0 ≤ (x14_1 : Int) := of_decide_eq_true (by first | (with_reducible assumption) | assumption)
                have q113 : x14_1 < (l1.length : Int) := of_decide_eq_true (by first | (with_reducible assumption) | assumption)
                obtain ⟨ad113, A113_0, c113_0, e113, hx113_0, hl113_0, hi113_0⟩ := at_L1 HR1.out x14_1 p113 q113
                cases e113
                have HR113_0 := Aside0.mk hi113_0
                have HC113_0 := Aside0.mk hl113_0
                clear hi113_0 hl113_0
                replace p113 := eq_true p113
                replace q113 := eq_true q113
                go_wp2
                go_ret
                exact ⟨by first | rfl | (simp; done) | (simp [*]; done) | (simp [wrap64]; done), by repeat (first | exact Drawn0.refl _ | apply Drawn0.step)⟩
              · rw [if_neg c8] at H
                have c8b0 : decide (1024 < ((rd_L1 l1 x14_1).length : Int)) = false := decide_eq_false c8
                have c8b1 : decide (1024 < (rd_L1 l1 x14_1).length) = false := decide_eq_false (by omega)
                clear c8
                have H' := Aside0.mk H
                clear H
                have p113 : 0 ≤ (x14_1 : Int) := of_decide_eq_true (by first | (with_reducible assumption) | assumption)
                have q113 : x14_1 < (l1.length : Int) := of_decide_eq_true (by first | (with_reducible assumption) | assumption)
                obtain ⟨ad113, A113_0, c113_0, e113, hx113_0, hl113_0, hi113_0⟩ := at_L1 HR1.out x14_1 p113 q113
                cases e113
                have HR113_0 := Aside0.mk hi113_0
                have HC113_0 := Aside0.mk hl113_0
                clear hi113_0 hl113_0
                replace p113 := eq_true p113
                replace q113 := eq_true q113
                go_wp2
                go_roundg k1
                case measure => have := HK1.out; omega
                case rel => exact ⟨(wrap64 (x14_1 + 1)), (by first | rfl | (simp; done) | (simp [*]; done) | (simp [wrap64]; done)), H', ⟨by have := HK1.out; omega⟩, by repeat (first | exact Drawn0.refl _ | apply Drawn0.step)⟩
            · rw [if_neg c7] at H
              exact absurd H (by simp)
          · rw [if_neg c6] at H
            exact absurd H (by simp)
        · rw [if_neg c5] at H
          have c5b0 : decide (x14_1 < (l1.length : Int)) = false := decide_eq_false c5
          clear c5
          have H' := Aside0.mk H
          clear H
          go_wp2
          go_loopg [24] k1 (fun kq v24 w' => ∃ (x24_2 : Int), v24 = .int .i64 x24_2 ∧ Aside0 (galois_Tables_lists.l1 kq a0 l1 (l1.length : Int) x24_2 = some r) ∧ Aside0 (kq ≤ k1) ∧ Drawn0 w w')
          case atStart => exact ⟨(0), (by first | rfl | (simp; done) | (simp [*]; done) | (simp [wrap64]; done)), H', ⟨Nat.le_refl _⟩, by repeat (first | exact Drawn0.refl _ | apply Drawn0.step)⟩
          case round =>
            clear H'
            try clear c1
            try clear p1
            try clear q1
            try clear hx1
            try clear p2
            try clear c4
            try clear c5
            try clear c5b0
            try clear c6
            try clear c6b0
            try clear p6
            try clear c7
            try clear c7b0
            try clear c8
            try clear c8b0
            try clear c8b1
            try clear hx113_0
            try clear p113
            try clear p2
            try clear q113
            obtain ⟨x24_2, rfl, HA, HK2, ⟨m2, rfl⟩⟩ := hrel
            cases gk with
            | zero => exact absurd HA.out (by simp [galois_Tables_lists.l1])
            | succ k2 =>
              have H := HA.out
              clear HA
              simp only [galois_Tables_lists.l1] at H
              by_cases c9 : x24_2 < (l1.length : Int)
              · rw [if_pos c9] at H
                have c9b0 : decide (x24_2 < (l1.length : Int)) = true := decide_eq_true c9
                clear c9
                by_cases c10 : 0 ≤ x24_2
                · rw [if_pos c10] at H
                  have c10b0 : decide (0 ≤ x24_2) = true := decide_eq_true c10
                  clear c10
                  by_cases c11 : x24_2 < (l1.length : Int)
                  · rw [if_pos c11] at H
                    have c11b0 : decide (x24_2 < (l1.length : Int)) = true := decide_eq_true c11
                    clear c11
                    replace H := Option.bind_eq_some_iff.mp H
                    obtain ⟨t115, A120, H⟩ := H
                    replace H : (if t115 = 0 then (galois_Tables_lists.l1 k2 a0 l1 (l1.length : Int) (wrap64 (x24_2 + 1))) else (some t115)) = some r := H
                    have A12 := Aside0.mk A120
                    clear A120
                    by_cases c13 : t115 = 0
                    · rw [if_pos c13] at H
                      have c13b0 : (t115 == 0) = true := beq_iff_eq.mpr c13
                      have c13b1 : (t115 != 0) = false := bne_eq_false_iff_eq.mpr c13
                      clear c13
                      have H' := Aside0.mk H
                      clear H
                      have p114 : 0 ≤ (x24_2 : Int) := of_decide_eq_true (by first | (with_reducible assumption) | assumption)
                      have q114 : x24_2 < (l1.length : Int) := of_decide_eq_true (by first | (with_reducible assumption) | assumption)
                      obtain ⟨ad114, A114_0, c114_0, e114, hx114_0, hl114_0, hi114_0⟩ := at_L1 HR1.out x24_2 p114 q114
                      cases e114
                      have HR114_0 := Aside0.mk hi114_0
                      have HC114_0 := Aside0.mk hl114_0
                      clear hi114_0 hl114_0
                      replace p114 := eq_true p114
                      replace q114 := eq_true q114
                      go_wp2_with (first | ((with_reducible refine gate_callee (f := 61) rfl ?_); refine goesL_ (some 30) rfl rfl Try.func61 (by kernel_rfl) rfl #[.pointer A0, .slice A114_0 (rd_L1 l1 x24_2).length c114_0] rfl (by (try simp only [List.map_toArray, List.map_cons, List.map_nil]); first | done | rfl | (simp only [List.length_drop, List.length_take]; rfl) | (simp [Act.eval, IntKind.wrap_u8, IntKind.wrap_u32]; done)) ?_; (with_reducible refine (galois_Tables_check.calls k2 _ a0 _ _ (rd_L1 l1 x24_2) t115 _ ?side1 ?side2 ?side3 A12.out).mono ?_); (case side1 => exact HR0.out); (case side2 => repeat (first | exact HR114_0.out | (with_reducible refine Kd.C_alloc ?_ _) | (with_reducible refine Kd.C_drewN ?_ _) | (with_reducible refine Kd.C_drew ?_))); (case side3 => exact HC114_0.out); rintro e w' ⟨rfl, ⟨nd, rfl⟩⟩; refine ⟨_, rfl, ?_⟩))
                      go_roundg k2
                      case measure => have := HK1.out; have := HK2.out; omega
                      case rel => exact ⟨(wrap64 (x24_2 + 1)), (by first | rfl | (simp; done) | (simp [*]; done) | (simp [wrap64]; done)), H', ⟨by have := HK1.out; have := HK2.out; omega⟩, by repeat (first | exact Drawn0.refl _ | apply Drawn0.step)⟩
                    · rw [if_neg c13] at H
                      have c13b0 : (t115 == 0) = false := beq_eq_false_iff_ne.mpr c13
                      have c13b1 : (t115 != 0) = true := bne_iff_ne.mpr c13
                      obtain rfl := Option.some.inj H
                      have p114 : 0 ≤ (x24_2 : Int) := of_decide_eq_true (by first | (with_reducible assumption) | assumption)
                      have q114 : x24_2 < (l1.length : Int) := of_decide_eq_true (by first | (with_reducible assumption) | assumption)
                      obtain ⟨ad114, A114_0, c114_0, e114, hx114_0, hl114_0, hi114_0⟩ := at_L1 HR1.out x24_2 p114 q114
                      cases e114
                      have HR114_0 := Aside0.mk hi114_0
                      have HC114_0 := Aside0.mk hl114_0
                      clear hi114_0 hl114_0
                      replace p114 := eq_true p114
                      replace q114 := eq_true q114
                      go_wp2_with (first | ((with_reducible refine gate_callee (f := 61) rfl ?_); refine goesL_ (some 30) rfl rfl Try.func61 (by kernel_rfl) rfl #[.pointer A0, .slice A114_0 (rd_L1 l1 x24_2).length c114_0] rfl (by (try simp only [List.map_toArray, List.map_cons, List.map_nil]); first | done | rfl | (simp only [List.length_drop, List.length_take]; rfl) | (simp [Act.eval, IntKind.wrap_u8, IntKind.wrap_u32]; done)) ?_; (with_reducible refine (galois_Tables_check.calls k2 _ a0 _ _ (rd_L1 l1 x24_2) t115 _ ?side1 ?side2 ?side3 A12.out).mono ?_); (case side1 => exact HR0.out); (case side2 => repeat (first | exact HR114_0.out | (with_reducible refine Kd.C_alloc ?_ _) | (with_reducible refine Kd.C_drewN ?_ _) | (with_reducible refine Kd.C_drew ?_))); (case side3 => exact HC114_0.out); rintro e w' ⟨rfl, ⟨nd, rfl⟩⟩; refine ⟨_, rfl, ?_⟩))
                      go_ret
                      exact ⟨by first | rfl | (simp; done) | (simp [*]; done) | (simp [wrap64]; done), by repeat (first | exact Drawn0.refl _ | apply Drawn0.step)⟩
                  · rw [if_neg c11] at H
                    exact absurd H (by simp)
                · rw [if_neg c10] at H
                  exact absurd H (by simp)
              · rw [if_neg c9] at H
                have c9b0 : decide (x24_2 < (l1.length : Int)) = false := decide_eq_false c9
                clear c9
                obtain rfl := Option.some.inj H
                go_wp2
                go_ret
                exact ⟨by first | rfl | (simp; done) | (simp [*]; done) | (simp [wrap64]; done), by repeat (first | exact Drawn0.refl _ | apply Drawn0.step)⟩

/-! ### galois_trim: function 80, given -/
/-- Without zeros ahead. -/
def galTrim : List Int → List Int
  | [] => []
  | x :: l => if x = 0 then galTrim l else x :: l
theorem galTrim_len (l : List Int) : (galTrim l).length ≤ l.length := by
  induction l with
  | nil => simp [galTrim]
  | cons x l ih =>
    unfold galTrim
    split
    · simp only [List.length_cons]; omega
    · exact Nat.le_refl _
theorem run_slice_lhm {P : Program} (w : World) (t : TypeId) (a : Option Addr) (len cap : Nat) (ht : P.underlying t = some (.slice (P.elem t))) (kl kh km : IntKind) (l h m : Int) (h0 : 0 ≤ l) (h1 : l ≤ h) (h2 : h ≤ m) (h3 : m ≤ cap) :
    (Instr.slice t (.slice a len cap) (some (.int kl l)) (some (.int kh h)) (some (.int km m))).run P w =
      ((sizeOf (P.elem t)).run P w).andThen fun s w => .ok (sliced a l.toNat h.toNat m.toNat s) w := by
  have eh : (h.toNat : Int) = h := Int.toNat_of_nonneg (by omega)
  have em : (m.toNat : Int) = m := Int.toNat_of_nonneg (by omega)
  simp [Instr.slice, run_underlying ht, Instr.sliceBounds, run_sliceBound, sliced, *, (by omega : 0 ≤ l), (by omega : 0 ≤ h), (by omega : 0 ≤ m)]
theorem galTail_cut (A : Option Addr) (n c : Nat) (hn : 1 ≤ n) (hc : n ≤ c) : ∀ W : World, (Instr.slice 44 (.slice A n c) (some (.int .i64 1)) (some (.int .i64 (n : Int))) (some (.int .i64 (n : Int)))).run Try.prog W = .ok (.slice (if n = 1 then A else A.map (·.add (1 * 1))) (n - 1) (n - 1)) W := by
  intro W
  have hel : Try.prog.elem 44 = 5 := by simp [Program.elem, Try.underlying44]
  have hu : Try.prog.underlying 44 = some (.slice (Try.prog.elem 44)) := by rw [hel]; exact Try.underlying44
  obtain ⟨i0, hi, hz⟩ := Option.map_eq_some_iff.1 info5
  simp only [Prod.mk.injEq] at hz
  rw [run_slice_lhm W _ A n c hu .i64 .i64 .i64 1 n n (by omega) (by omega) (by omega) (by omega), hel]
  simp [sizeOf, typeInfo, hi, hz.2.1, sliced, Result.andThen]
def galois_trim.f (l : List Int) : Option (List Int) := if l.length ≤ 281474976710656 then some (galTrim l) else none
set_option maxHeartbeats 8000000 in
set_option maxRecDepth 100000 in
theorem galois_trim.calls (A0 : Option Addr) (c0 : Nat) (l0 : List Int) (r : List Int) (w : World) (hr0 : Kd.C (Kd.int .u8) w A0 l0.length l0) (hc0 : l0.length ≤ c0) (h : galois_trim.f l0 = some r) :
    Calls Try.prog 80 #[.slice A0 l0.length c0] w fun e w' => ∃ v0_ : Value, e = .returned v0_ ∧ Kd.R (Kd.int .u8) 5 w' w.heap.size (fun _ => True) v0_ r ∧ Below w.heap.size w w' := by
  have HR0 := Aside0.mk hr0
  have HC0 := Aside0.mk hc0
  clear hr0 hc0
  unfold galois_trim.f at h
  by_cases h3' : ¬ l0.length ≤ 281474976710656
  · rw [if_neg h3'] at h
    exact absurd h (by simp)
  have h3 : l0.length ≤ 281474976710656 := by omega
  clear h3'
  rw [if_pos h3] at h
  have HR := Aside0.mk (Option.some.inj h)
  have HL := Aside0.mk h3
  clear h h3
  go_enter Try.func80, Try.ntmps80
  go_wp2
  go_loopg [0] l0.length (fun kq v0 w' => ∃ (xs : List Int) (A : Option Addr) (c : Nat), v0 = .slice A xs.length c ∧ Aside0 (xs.length ≤ kq) ∧ Aside0 (xs.length ≤ c) ∧ Aside0 (kq ≤ l0.length) ∧ Aside0 (galTrim xs = r) ∧ Aside0 (Kd.C (Kd.int .u8) w A xs.length xs) ∧ w' = w)
  case atStart => exact ⟨l0, A0, c0, rfl, ⟨Nat.le_refl _⟩, HC0, ⟨Nat.le_refl _⟩, HR, HR0, rfl⟩
  case round =>
    clear HR HR0 HC0
    obtain ⟨xs, A, c, rfl, HK, HC, HM, HR, HC0, rfl⟩ := hrel
    have rest : ∀ (x : Int) (l : List Int), True := fun _ _ => trivial
    clear rest
    cases xs with
    | nil =>
      have hr : [] = r := HR.out
      subst hr
      have hl0 : (0 : Int) ≤ (([] : List Int).length : Int) := by simp
      go_wp2_with (first | ((with_reducible refine gate_dst (N := 21) rfl ?_); refine Kd.R_make (Kd.int .u8) _ 5 rfl (N := 21) rfl 44 _ _ rfl (0 : Int) rfl rfl Try.underlying44 (.int .u8 0) 1 info5 rfl (by decide) (by omega) 0 (ok := fun _ => True) (okp := fun _ => True) rfl (fun _ hk => hk) trivial (by decide) (by decide) (Below.refl _ _) (Nat.le_refl _) ?_; intro v220 w7 ho8 hb hg_ hnew_; clear hg_ hnew_; have HO := Aside0.mk ho8; have HB := Aside0.mk hb; clear ho8 hb; obtain ⟨Ao9, co9, eo9⟩ := Kd.R_slice HO.out; subst eo9) | ((with_reducible refine gate_builtin (b := .copy) (xs := #[.tmp 22, .tmp 23]) rfl ?_); refine Kd.R_copy (enc := .int .u8) (0 : Int) wr.heap.size rfl (.tmp 22) (.tmp 23) 44 44 5 rfl Try.underlying44 (by kernel_rfl) _ (List.replicate (0 : Int).toNat 0) [] A 0 c (fun _ => True) rfl rfl HO.out (Kd.C_below HC0.out HB.out) HB.out HB.out.size ?_; intro w1 ho1 hb1 hg1; have n0_ := Aside0.mk ho1; have n1_ := Aside0.mk hb1; clear HO HB ho1 hb1 hg1; have HO := n0_; have HB := n1_; clear n0_ n1_))
      go_ret
      exact ⟨_, rfl, HO.out, HB.out⟩
    | cons x l =>
      have hx := Kd.at_int HC0.out 0 (by omega) (by simp)
      obtain ⟨ad, he, hx⟩ := hx
      subst he
      rw [show (0 : Int).toNat = 0 from rfl, Addr.add_zero'] at hx
      have hrd : rd (x :: l) 0 = x := rfl
      rw [hrd] at hx
      obtain ⟨n, hn⟩ : ∃ n, n = (x :: l).length := ⟨_, rfl⟩
      have hn1 : 1 ≤ n := by rw [hn]; simp
      have hnl : n = l.length + 1 := by rw [hn]; simp
      have t1 : decide (0 < (n : Int)) = true := decide_eq_true (by omega)
      have t2 : ((0 : Int) < (n : Int)) = True := eq_true (by omega)
      have t3 : (0 < n) = True := eq_true (by omega)
      have t4 : decide (0 < n) = true := decide_eq_true (by omega)
      rw [← hn]
      by_cases c1 : x = 0
      · subst c1
        have hcut := galTail_cut (some ad) n c hn1 (by rw [hn]; exact HC.out)
        have hd := Kd.C_drop (c := n) (m := 1) HC0.out (by simp) (Nat.le_of_eq hn.symm)
        obtain ⟨A1, hA1⟩ : ∃ A1, A1 = (if n = 1 then some ad else (some ad).map (·.add (1 * 1))) := ⟨_, rfl⟩
        obtain ⟨m, hm⟩ : ∃ m, m = n - 1 := ⟨_, rfl⟩
        rw [← hA1, ← hm] at hcut
        have HD := Aside0.mk (show Kd.C (Kd.int .u8) wr A1 l.length l by rw [hA1]; exact hd)
        have HM1 := Aside0.mk hm
        clear hd hA1 hm
        have HN := Aside0.mk hn
        have HNL := Aside0.mk hnl
        clear hn hnl hrd
        cases gk with
        | zero => exact absurd HK.out (by simp)
        | succ k1 =>
          go_wp2
          go_roundg k1
          case measure => omega
          case rel =>
            refine ⟨l, A1, m, ?_, ⟨by have := HK.out; simp only [List.length_cons] at this; omega⟩, ⟨by have := HNL.out; have := HM1.out; omega⟩, ⟨by have := HM.out; omega⟩, ⟨HR.out⟩, HD, rfl⟩
            rw [show l.length = m by have := HNL.out; have := HM1.out; omega]
      · have t5 : (x == 0) = false := beq_eq_false_iff_ne.mpr c1
        have hr : x :: l = r := by have h_ := HR.out; unfold galTrim at h_; rw [if_neg c1] at h_; exact h_
        have HRR := Aside0.mk hr
        have HN := Aside0.mk hn
        have hl0 : (0 : Int) ≤ (n : Int) := by omega
        have HLN : Aside0 (n ≤ 281474976710656) := ⟨by have := HK.out; have := HM.out; have := HL.out; omega⟩
        have HCN : Aside0 (Kd.C (Kd.int .u8) wr (some ad) n (x :: l)) := ⟨by rw [HN.out]; exact HC0.out⟩
        clear hn hnl hrd hr
        go_wp2_with (first | ((with_reducible refine gate_dst (N := 21) rfl ?_); refine Kd.R_make (Kd.int .u8) _ 5 rfl (N := 21) rfl 44 _ _ rfl (n : Int) rfl rfl Try.underlying44 (.int .u8 0) 1 info5 rfl (by decide) (by omega) 0 (ok := fun _ => True) (okp := fun _ => True) rfl (fun _ hk => hk) trivial hl0 (by have := HLN.out; omega) (Below.refl _ _) (Nat.le_refl _) ?_; intro v220 w7 ho8 hb hg_ hnew_; clear hg_ hnew_; rw [Int.toNat_natCast] at ho8; have HO := Aside0.mk ho8; have HB := Aside0.mk hb; clear ho8 hb; obtain ⟨Ao9, co9, eo9⟩ := Kd.R_slice HO.out; subst eo9; have hlr : (List.replicate n (0 : Int)).length = n := List.length_replicate; rw [hlr] at HO; clear hlr) | ((with_reducible refine gate_builtin (b := .copy) (xs := #[.tmp 22, .tmp 23]) rfl ?_); refine Kd.R_copy (enc := .int .u8) (0 : Int) wr.heap.size rfl (.tmp 22) (.tmp 23) 44 44 5 rfl Try.underlying44 (by kernel_rfl) _ (List.replicate n 0) (x :: l) (some ad) n c (fun _ => True) rfl rfl HO.out (Kd.C_below HCN.out HB.out) HB.out HB.out.size ?_; intro w1 ho1 hb1 hg1; have n0_ := Aside0.mk ho1; have n1_ := Aside0.mk hb1; clear HO HB ho1 hb1 hg1; have HO := n0_; have HB := n1_; clear n0_ n1_))
        go_ret
        refine ⟨_, rfl, ?_, HB.out⟩
        have hq := HO.out
        rw [show (List.take (min n (List.replicate n (0 : Int)).length) (x :: l) ++ List.drop (min n (List.replicate n (0 : Int)).length) (List.replicate n (0 : Int))) = x :: l by rw [HN.out]; simp, HRR.out] at hq
        exact hq

end Go.Proofs.Ytlmhppgplbefcaa.P
