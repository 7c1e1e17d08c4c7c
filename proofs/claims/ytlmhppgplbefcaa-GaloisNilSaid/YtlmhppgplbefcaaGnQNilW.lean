/- GaloisNil, a closed statement: its walk, by hand: nil tables, then tables that nobody made; each method says that its argument is wrong. -/
import Derived.Test.YtlmhppgplbefcaaGnPx9
import Derived.Test.YtlmhppgplbefcaaGnPx1
import Derived.Test.YtlmhppgplbefcaaGnPx9
import Derived.Test.YtlmhppgplbefcaaGnPx9
import Derived.Test.YtlmhppgplbefcaaGnPx9
import Derived.Test.YtlmhppgplbefcaaGnPx1
import Derived.Test.YtlmhppgplbefcaaGnPx11
import Derived.Test.YtlmhppgplbefcaaGnPx15
import Derived.Test.YtlmhppgplbefcaaGnPx19
import Derived.Test.YtlmhppgplbefcaaGnPx2
import Derived.Test.YtlmhppgplbefcaaGnPx19
import Derived.Test.YtlmhppgplbefcaaGnPx20
import Derived.Test.YtlmhppgplbefcaaGnPx19
import Derived.Test.YtlmhppgplbefcaaGnPx19
import Derived.Test.YtlmhppgplbefcaaGnPx18
import Derived.Test.YtlmhppgplbefcaaGnPx12
import Derived.Test.YtlmhppgplbefcaaGnPx7
import Derived.Test.YtlmhppgplbefcaaGnPx5
import Derived.Test.YtlmhppgplbefcaaGnPx1
namespace Go.Proofs.Ytlmhppgplbefcaa.P
open Go.RowKit Go.Proofs.YtlmhppgplbefcaaW.PrintWords Go.Proofs.YtlmhppgplbefcaaW.PrintLast Go.Proofs.YtlmhppgplbefcaaW.PrintMore
attribute [local go_sem] max2_int min2_int max_two min_two max_three min_three max_four min_four
set_option linter.unusedVariables false
set_option linter.unusedSimpArgs false

set_option maxRecDepth 100000 in
theorem galNil_Add (A : Option Addr) (t : GTab) (w : World) (hok : gal_OK w A t) (h0 : t.size = 0) :
    Calls Try.prog 20 #[.pointer A, .int .u8 1, .int .u8 1] w fun e w' => (∃ v : Value, e = .returned (.tuple #[v, .int .i64 1])) ∧ Below w.heap.size w w' := by
  have h : galois_Tables_Add.f 50 t 1 1 = some (0, 1) := by obtain ⟨n, s, e, l⟩ := t; obtain rfl : s = 0 := h0; rfl
  exact Calls.mono (galois_Tables_Add.calls 50 A t 1 1 0 1 w hok  h) (fun e w' hh => ⟨⟨_, hh.1⟩, hh.2⟩)
set_option maxRecDepth 100000 in
theorem galNil_Mul (A : Option Addr) (t : GTab) (w : World) (hok : gal_OK w A t) (h0 : t.size = 0) :
    Calls Try.prog 15 #[.pointer A, .int .u8 1, .int .u8 1] w fun e w' => (∃ v : Value, e = .returned (.tuple #[v, .int .i64 1])) ∧ Below w.heap.size w w' := by
  have h : galois_Tables_Mul.f 50 t 1 1 = some (0, 1) := by obtain ⟨n, s, e, l⟩ := t; obtain rfl : s = 0 := h0; rfl
  exact Calls.mono (galois_Tables_Mul.calls 50 A t 1 1 0 1 w hok  h) (fun e w' hh => ⟨⟨_, hh.1⟩, hh.2⟩)
set_option maxRecDepth 100000 in
theorem galNil_Div (A : Option Addr) (t : GTab) (w : World) (hok : gal_OK w A t) (h0 : t.size = 0) :
    Calls Try.prog 23 #[.pointer A, .int .u8 1, .int .u8 1] w fun e w' => (∃ v : Value, e = .returned (.tuple #[v, .int .i64 1])) ∧ Below w.heap.size w w' := by
  have h : galois_Tables_Div.f 50 t 1 1 = some (0, 1) := by obtain ⟨n, s, e, l⟩ := t; obtain rfl : s = 0 := h0; rfl
  exact Calls.mono (galois_Tables_Div.calls 50 A t 1 1 0 1 w hok  h) (fun e w' hh => ⟨⟨_, hh.1⟩, hh.2⟩)
set_option maxRecDepth 100000 in
theorem galNil_Inv (A : Option Addr) (t : GTab) (w : World) (hok : gal_OK w A t) (h0 : t.size = 0) :
    Calls Try.prog 22 #[.pointer A, .int .u8 1] w fun e w' => (∃ v : Value, e = .returned (.tuple #[v, .int .i64 1])) ∧ Below w.heap.size w w' := by
  have h : galois_Tables_Inv.f 50 t 1 = some (0, 1) := by obtain ⟨n, s, e, l⟩ := t; obtain rfl : s = 0 := h0; rfl
  exact Calls.mono (galois_Tables_Inv.calls 50 A t 1 0 1 w hok  h) (fun e w' hh => ⟨⟨_, hh.1⟩, hh.2⟩)
set_option maxRecDepth 100000 in
theorem galNil_Pow (A : Option Addr) (t : GTab) (w : World) (hok : gal_OK w A t) (h0 : t.size = 0) :
    Calls Try.prog 21 #[.pointer A, .int .u8 1, .int .i64 1] w fun e w' => (∃ v : Value, e = .returned (.tuple #[v, .int .i64 1])) ∧ Below w.heap.size w w' := by
  have h : galois_Tables_Pow.f 50 t 1 1 = some (0, 1) := by obtain ⟨n, s, e, l⟩ := t; obtain rfl : s = 0 := h0; rfl
  exact Calls.mono (galois_Tables_Pow.calls 50 A t 1 1 0 1 w hok  h) (fun e w' hh => ⟨⟨_, hh.1⟩, hh.2⟩)
set_option maxRecDepth 100000 in
theorem galNil_Log (A : Option Addr) (t : GTab) (w : World) (hok : gal_OK w A t) (h0 : t.size = 0) :
    Calls Try.prog 16 #[.pointer A, .int .u8 1] w fun e w' => (∃ v : Value, e = .returned (.tuple #[v, .int .i64 1])) ∧ Below w.heap.size w w' := by
  have h : galois_Tables_Log.f 50 t 1 = some (0, 1) := by obtain ⟨n, s, e, l⟩ := t; obtain rfl : s = 0 := h0; rfl
  exact Calls.mono (galois_Tables_Log.calls 50 A t 1 0 1 w hok  h) (fun e w' hh => ⟨⟨_, hh.1⟩, hh.2⟩)
set_option maxRecDepth 100000 in
theorem galNil_Minimal (A : Option Addr) (t : GTab) (w : World) (hok : gal_OK w A t) (h0 : t.size = 0) :
    Calls Try.prog 33 #[.pointer A, .int .u8 1] w fun e w' => (∃ v : Value, e = .returned (.tuple #[v, .int .i64 1])) ∧ Below w.heap.size w w' := by
  have h : galois_Tables_Minimal.f 50 t 1 = some (0, 1) := by obtain ⟨n, s, e, l⟩ := t; obtain rfl : s = 0 := h0; rfl
  exact Calls.mono (galois_Tables_Minimal.calls 50 A t 1 0 1 w hok  h) (fun e w' hh => ⟨⟨_, hh.1⟩, hh.2⟩)
set_option maxRecDepth 100000 in
theorem galNil_Eval (A : Option Addr) (t : GTab) (w : World) (hok : gal_OK w A t) (h0 : t.size = 0) :
    Calls Try.prog 32 #[.pointer A, .slice none 0 0, .int .u8 1] w fun e w' => (∃ v : Value, e = .returned (.tuple #[v, .int .i64 1])) ∧ Below w.heap.size w w' := by
  have h : galois_Tables_Eval.f 50 t [] 1 = some (0, 1) := by obtain ⟨n, s, e, l⟩ := t; obtain rfl : s = 0 := h0; rfl
  exact Calls.mono (galois_Tables_Eval.calls 50 A t (fun _ => True) none 0 [] 1 0 1 w hok (Kd.V_nil _ _ _ _ _) h) (fun e w' hh => ⟨⟨_, hh.1⟩, hh.2⟩)
set_option maxRecDepth 100000 in
theorem galNil_Plus (A : Option Addr) (t : GTab) (w : World) (hok : gal_OK w A t) (h0 : t.size = 0) :
    Calls Try.prog 44 #[.pointer A, .slice none 0 0, .slice none 0 0] w fun e w' => (∃ v : Value, e = .returned (.tuple #[v, .int .i64 1])) ∧ Below w.heap.size w w' := by
  have h : galois_Tables_Plus.f 50 t [] [] = some ([], 1) := by obtain ⟨n, s, e, l⟩ := t; obtain rfl : s = 0 := h0; rfl
  exact Calls.mono (galois_Tables_Plus.calls 50 A t (fun _ => True) none 0 [] (fun _ => True) none 0 [] [] 1 w hok (Kd.V_nil _ _ _ _ _) (Kd.V_nil _ _ _ _ _) h) (fun e w' hh => by obtain ⟨v, h1, _, hb⟩ := hh; exact ⟨⟨v, h1⟩, hb⟩)
set_option maxRecDepth 100000 in
theorem galNil_Times (A : Option Addr) (t : GTab) (w : World) (hok : gal_OK w A t) (h0 : t.size = 0) :
    Calls Try.prog 43 #[.pointer A, .slice none 0 0, .slice none 0 0] w fun e w' => (∃ v : Value, e = .returned (.tuple #[v, .int .i64 1])) ∧ Below w.heap.size w w' := by
  have h : galois_Tables_Times.f 50 t [] [] = some ([], 1) := by obtain ⟨n, s, e, l⟩ := t; obtain rfl : s = 0 := h0; rfl
  exact Calls.mono (galois_Tables_Times.calls 50 A t (fun _ => True) none 0 [] (fun _ => True) none 0 [] [] 1 w hok (Kd.V_nil _ _ _ _ _) (Kd.V_nil _ _ _ _ _) h) (fun e w' hh => by obtain ⟨v, h1, _, hb⟩ := hh; exact ⟨⟨v, h1⟩, hb⟩)
set_option maxRecDepth 100000 in
theorem galNil_Divide (A : Option Addr) (B : Option Addr) (c : Nat) (t : GTab) (w : World) (hok : gal_OK w A t) (h0 : t.size = 0) (hv : Kd.V (Kd.int .u8) 5 w w.heap.size (fun _ => True) (.slice B ([1] : List Int).length c) [1]) :
    Calls Try.prog 41 #[.pointer A, .slice none 0 0, .slice B 1 c] w fun e w' => (∃ v u : Value, e = .returned (.tuple #[v, u, .int .i64 1])) ∧ Below w.heap.size w w' := by
  have h : galois_Tables_Divide.f 50 t [] [1] = some ([], [], 1) := by obtain ⟨n, s, e, l⟩ := t; obtain rfl : s = 0 := h0; rfl
  exact Calls.mono (galois_Tables_Divide.calls 50 A t (fun _ => True) none 0 [] (fun _ => True) B c [1] [] [] 1 w hok (Kd.V_nil _ _ _ _ _) hv h) (fun e w' hh => by obtain ⟨v, u, h1, _, _, hb⟩ := hh; exact ⟨⟨v, u, h1⟩, hb⟩)
set_option maxRecDepth 100000 in
theorem galNil_Gcd (A : Option Addr) (t : GTab) (w : World) (hok : gal_OK w A t) (h0 : t.size = 0) :
    Calls Try.prog 45 #[.pointer A, .slice none 0 0, .slice none 0 0] w fun e w' => (∃ v : Value, e = .returned (.tuple #[v, .int .i64 1])) ∧ Below w.heap.size w w' := by
  have h : galois_Tables_Gcd.f 50 t [] [] = some ([], 1) := by obtain ⟨n, s, e, l⟩ := t; obtain rfl : s = 0 := h0; rfl
  exact Calls.mono (galois_Tables_Gcd.calls 50 A t (fun _ => True) none 0 [] (fun _ => True) none 0 [] [] 1 w hok (Kd.V_nil _ _ _ _ _) (Kd.V_nil _ _ _ _ _) h) (fun e w' hh => by obtain ⟨v, h1, _, hb⟩ := hh; exact ⟨⟨v, h1⟩, hb⟩)
set_option maxRecDepth 100000 in
theorem galNil_Derive (A : Option Addr) (t : GTab) (w : World) (hok : gal_OK w A t) (h0 : t.size = 0) :
    Calls Try.prog 42 #[.pointer A, .slice none 0 0] w fun e w' => (∃ v : Value, e = .returned (.tuple #[v, .int .i64 1])) ∧ Below w.heap.size w w' := by
  have h : galois_Tables_Derive.f 50 t [] = some ([], 1) := by obtain ⟨n, s, e, l⟩ := t; obtain rfl : s = 0 := h0; rfl
  exact Calls.mono (galois_Tables_Derive.calls 50 A t (fun _ => True) none 0 [] [] 1 w hok (Kd.V_nil _ _ _ _ _) h) (fun e w' hh => by obtain ⟨v, h1, _, hb⟩ := hh; exact ⟨⟨v, h1⟩, hb⟩)
set_option maxRecDepth 100000 in
theorem galNil_Roots (A : Option Addr) (B : Option Addr) (c : Nat) (t : GTab) (w : World) (hok : gal_OK w A t) (h0 : t.size = 0) (hv : Kd.V (Kd.int .u8) 5 w w.heap.size (fun _ => True) (.slice B ([1] : List Int).length c) [1]) :
    Calls Try.prog 40 #[.pointer A, .slice B 1 c] w fun e w' => (∃ v : Value, e = .returned (.tuple #[v, .int .i64 1])) ∧ Below w.heap.size w w' := by
  have h : galois_Tables_Roots.f 50 t [1] = some ([], 1) := by obtain ⟨n, s, e, l⟩ := t; obtain rfl : s = 0 := h0; rfl
  exact Calls.mono (galois_Tables_Roots.calls 50 A t (fun _ => True) B c [1] [] 1 w hok hv h) (fun e w' hh => by obtain ⟨v, h1, _, hb⟩ := hh; exact ⟨⟨v, h1⟩, hb⟩)
set_option maxRecDepth 100000 in
theorem galNil_Through (A : Option Addr) (t : GTab) (w : World) (hok : gal_OK w A t) (h0 : t.size = 0) :
    Calls Try.prog 25 #[.pointer A, .slice none 0 0, .slice none 0 0] w fun e w' => (∃ v : Value, e = .returned (.tuple #[v, .int .i64 1])) ∧ Below w.heap.size w w' := by
  have h : galois_Tables_Through.f 50 t [] [] = some ([], 1) := by obtain ⟨n, s, e, l⟩ := t; obtain rfl : s = 0 := h0; rfl
  exact Calls.mono (galois_Tables_Through.calls 50 A t (fun _ => True) none 0 [] (fun _ => True) none 0 [] [] 1 w hok (Kd.V_nil _ _ _ _ _) (Kd.V_nil _ _ _ _ _) h) (fun e w' hh => by obtain ⟨v, h1, _, hb⟩ := hh; exact ⟨⟨v, h1⟩, hb⟩)
theorem galZero_cell : Try.zeroCells88[0]? = some (.int .i64 0) := by kernel_rfl
theorem galNil_live : outpostlaw32_live.f 700 = some true := by decide +kernel
set_option maxHeartbeats 16000000 in
set_option maxRecDepth 100000 in
theorem outpostlaw32_GaloisNil.calls (w : World) : Calls Try.prog 12 #[] w fun e w' => e = .returned (.bool true) ∧ Below w.heap.size w w' := by
  have HB := Aside0.mk (Below.refl w.heap.size w)
  have HLV := Aside0.mk galNil_live
  go_enter Try.func12, Try.ntmps12
  go_wp2
  go_loopg [1, 2] 2 (fun kq v1 v2 w' => ∃ (A : Option Addr) (t : GTab) (n : Int), v1 = .pointer A ∧ v2 = .int .i64 n ∧ Aside0 (0 ≤ n ∧ n + (kq : Int) = 2) ∧ Aside0 (gal_OK w' A t) ∧ Aside0 (t.size = 0) ∧ Aside0 (Below w.heap.size w w'))
  case atStart => exact ⟨none, GTab.none, 0, rfl, rfl, ⟨by omega, by omega⟩, ⟨.inl ⟨rfl, .inl ⟨rfl, rfl⟩⟩⟩, ⟨rfl⟩, HB⟩
  case round =>
    clear HB
    obtain ⟨A, t, n, rfl, rfl, HN, HT, HS, HB⟩ := hrel
    cases gk with
    | zero =>
      have en : n = 2 := by have := HN.out.2; omega
      subst en
      clear HN
      go_wp2_with (first | (go_at_call 57; (with_reducible refine (outpostlaw32_live.calls 700 true _ HLV.out).mono ?_); rintro e w5 ⟨rfl, hb⟩; have n0_ := Aside0.mk (below_step HB.out hb); clear HB; have HB := n0_; clear n0_ hb))
      go_ret
      exact ⟨rfl, HB.out⟩
    | succ k1 =>
      have hn2 : decide (n < 2) = true := decide_eq_true (by have := HN.out.2; omega)
      have hsz : t.size = 0 := HS.out
      have HSZ : Aside0 (galois_Tables_Size.f t = some 0) := ⟨by obtain ⟨n, s, e, l⟩ := t; obtain rfl : s = 0 := hsz; rfl⟩
      have HEX : Aside0 (galois_Tables_Exp.f t 1 = some 0) := ⟨by obtain ⟨n, s, e, l⟩ := t; obtain rfl : s = 0 := hsz; rfl⟩
      have HNM : Aside0 (outpostlaw32_num.f 1 = some 1) := ⟨rfl⟩
      clear hsz
      have hn0 : 0 ≤ n := HN.out.1
      have hn1 : n < 2 := by have := HN.out.2; omega
      obtain ⟨y, hy⟩ : ∃ y : List Int, y = [1, 1, 1, 1, 1, 1, 1, 1, 1, 1, 1, 1, 1, 1, 1] := ⟨_, rfl⟩
      have hyl : (y.length : Int) = 15 := by rw [hy]; rfl
      have hyr : ∀ i : Nat, i < 15 → rd y (i : Int) = 1 := by
        intro i hi
        have : ∀ j : Nat, j < 15 → rd y (j : Int) = 1 := by rw [hy]; decide
        exact this i hi
      have HY := Aside0.mk hy
      have HYL := Aside0.mk hyl
      have HYR := Aside0.mk hyr
      clear hy hyl hyr
      go_wp2_with (first
        | (go_at_call 20; (with_reducible refine (galNil_Add _ t _ HT.out HS.out).mono ?_); rintro e w5 ⟨⟨v_, rfl⟩, hb⟩; have n0_ := Aside0.mk (below_step HB.out hb); have n1_ := Aside0.mk (gal_OK_below HT.out hb); clear HB HT; have HB := n0_; have HT := n1_; clear n0_ n1_ hb)
        | (go_at_call 15; (with_reducible refine (galNil_Mul _ t _ HT.out HS.out).mono ?_); rintro e w5 ⟨⟨v_, rfl⟩, hb⟩; have n0_ := Aside0.mk (below_step HB.out hb); have n1_ := Aside0.mk (gal_OK_below HT.out hb); clear HB HT; have HB := n0_; have HT := n1_; clear n0_ n1_ hb)
        | (go_at_call 23; (with_reducible refine (galNil_Div _ t _ HT.out HS.out).mono ?_); rintro e w5 ⟨⟨v_, rfl⟩, hb⟩; have n0_ := Aside0.mk (below_step HB.out hb); have n1_ := Aside0.mk (gal_OK_below HT.out hb); clear HB HT; have HB := n0_; have HT := n1_; clear n0_ n1_ hb)
        | (go_at_call 22; (with_reducible refine (galNil_Inv _ t _ HT.out HS.out).mono ?_); rintro e w5 ⟨⟨v_, rfl⟩, hb⟩; have n0_ := Aside0.mk (below_step HB.out hb); have n1_ := Aside0.mk (gal_OK_below HT.out hb); clear HB HT; have HB := n0_; have HT := n1_; clear n0_ n1_ hb)
        | (go_at_call 21; (with_reducible refine (galNil_Pow _ t _ HT.out HS.out).mono ?_); rintro e w5 ⟨⟨v_, rfl⟩, hb⟩; have n0_ := Aside0.mk (below_step HB.out hb); have n1_ := Aside0.mk (gal_OK_below HT.out hb); clear HB HT; have HB := n0_; have HT := n1_; clear n0_ n1_ hb)
        | (go_at_call 16; (with_reducible refine (galNil_Log _ t _ HT.out HS.out).mono ?_); rintro e w5 ⟨⟨v_, rfl⟩, hb⟩; have n0_ := Aside0.mk (below_step HB.out hb); have n1_ := Aside0.mk (gal_OK_below HT.out hb); clear HB HT; have HB := n0_; have HT := n1_; clear n0_ n1_ hb)
        | (go_at_call 33; (with_reducible refine (galNil_Minimal _ t _ HT.out HS.out).mono ?_); rintro e w5 ⟨⟨v_, rfl⟩, hb⟩; have n0_ := Aside0.mk (below_step HB.out hb); have n1_ := Aside0.mk (gal_OK_below HT.out hb); clear HB HT; have HB := n0_; have HT := n1_; clear n0_ n1_ hb)
        | (go_at_call 32; (with_reducible refine (galNil_Eval _ t _ HT.out HS.out).mono ?_); rintro e w5 ⟨⟨v_, rfl⟩, hb⟩; have n0_ := Aside0.mk (below_step HB.out hb); have n1_ := Aside0.mk (gal_OK_below HT.out hb); clear HB HT; have HB := n0_; have HT := n1_; clear n0_ n1_ hb)
        | (go_at_call 44; (with_reducible refine (galNil_Plus _ t _ HT.out HS.out).mono ?_); rintro e w5 ⟨⟨v_, rfl⟩, hb⟩; have n0_ := Aside0.mk (below_step HB.out hb); have n1_ := Aside0.mk (gal_OK_below HT.out hb); clear HB HT; have HB := n0_; have HT := n1_; clear n0_ n1_ hb)
        | (go_at_call 43; (with_reducible refine (galNil_Times _ t _ HT.out HS.out).mono ?_); rintro e w5 ⟨⟨v_, rfl⟩, hb⟩; have n0_ := Aside0.mk (below_step HB.out hb); have n1_ := Aside0.mk (gal_OK_below HT.out hb); clear HB HT; have HB := n0_; have HT := n1_; clear n0_ n1_ hb)
        | ((with_reducible refine gate_dst (N := 92) rfl ?_); refine Kd.R_lit (Kd.int .u8) _ 5 ?hg (N := 92) ?hd (xs := ([1] : List Int)) (inner := [.int .u8 1]) (ok := fun _ => True) (okp := fun _ => True) ?hr ?hp (fun _ hk => hk) trivial (Below.refl _ _) (Nat.le_refl _) (by simp) ?_; (case hd => rfl); (case hg => rfl); (case hr => first | (go_simp; done) | (go_simp; rfl)); (case hp => exact (Reps.one (show Kd.M (Kd.int .u8) _ _ _ 1 [.int .u8 1] from rfl) (Reps.none _ _))); intro vl wl ho hb hg_ hnew_; clear hg_ hnew_; obtain ⟨B, c, eo⟩ := Kd.R_slice ho; subst eo; have HO := Aside0.mk ho; clear ho; have n0_ := Aside0.mk (below_step HB.out hb); have n1_ := Aside0.mk (gal_OK_below HT.out hb); clear HB HT; have HB := n0_; have HT := n1_; clear n0_ n1_ hb)
        | (go_at_call 41; (with_reducible refine (galNil_Divide _ _ _ t _ HT.out HS.out (Kd.R_V HO.out)).mono ?_); rintro e w5 ⟨⟨v_, u_, rfl⟩, hb⟩; clear HO; have n0_ := Aside0.mk (below_step HB.out hb); have n1_ := Aside0.mk (gal_OK_below HT.out hb); clear HB HT; have HB := n0_; have HT := n1_; clear n0_ n1_ hb)
        | (go_at_call 45; (with_reducible refine (galNil_Gcd _ t _ HT.out HS.out).mono ?_); rintro e w5 ⟨⟨v_, rfl⟩, hb⟩; have n0_ := Aside0.mk (below_step HB.out hb); have n1_ := Aside0.mk (gal_OK_below HT.out hb); clear HB HT; have HB := n0_; have HT := n1_; clear n0_ n1_ hb)
        | (go_at_call 42; (with_reducible refine (galNil_Derive _ t _ HT.out HS.out).mono ?_); rintro e w5 ⟨⟨v_, rfl⟩, hb⟩; have n0_ := Aside0.mk (below_step HB.out hb); have n1_ := Aside0.mk (gal_OK_below HT.out hb); clear HB HT; have HB := n0_; have HT := n1_; clear n0_ n1_ hb)
        | ((with_reducible refine gate_dst (N := 109) rfl ?_); refine Kd.R_lit (Kd.int .u8) _ 5 ?hg (N := 109) ?hd (xs := ([1] : List Int)) (inner := [.int .u8 1]) (ok := fun _ => True) (okp := fun _ => True) ?hr ?hp (fun _ hk => hk) trivial (Below.refl _ _) (Nat.le_refl _) (by simp) ?_; (case hd => rfl); (case hg => rfl); (case hr => first | (go_simp; done) | (go_simp; rfl)); (case hp => exact (Reps.one (show Kd.M (Kd.int .u8) _ _ _ 1 [.int .u8 1] from rfl) (Reps.none _ _))); intro vl wl ho hb hg_ hnew_; clear hg_ hnew_; obtain ⟨B, c, eo⟩ := Kd.R_slice ho; subst eo; have HO := Aside0.mk ho; clear ho; have n0_ := Aside0.mk (below_step HB.out hb); have n1_ := Aside0.mk (gal_OK_below HT.out hb); clear HB HT; have HB := n0_; have HT := n1_; clear n0_ n1_ hb)
        | (go_at_call 40; (with_reducible refine (galNil_Roots _ _ _ t _ HT.out HS.out (Kd.R_V HO.out)).mono ?_); rintro e w5 ⟨⟨v_, rfl⟩, hb⟩; clear HO; have n0_ := Aside0.mk (below_step HB.out hb); have n1_ := Aside0.mk (gal_OK_below HT.out hb); clear HB HT; have HB := n0_; have HT := n1_; clear n0_ n1_ hb)
        | (go_at_call 25; (with_reducible refine (galNil_Through _ t _ HT.out HS.out).mono ?_); rintro e w5 ⟨⟨v_, rfl⟩, hb⟩; have n0_ := Aside0.mk (below_step HB.out hb); have n1_ := Aside0.mk (gal_OK_below HT.out hb); clear HB HT; have HB := n0_; have HT := n1_; clear n0_ n1_ hb)
        | ((with_reducible refine gate_dst (N := 133) rfl ?_); refine Kd.R_lit (Kd.int .i64) _ 29 ?hg (N := 133) ?hd (xs := ([1, 1, 1, 1, 1, 1, 1, 1, 1, 1, 1, 1, 1, 1, 1] : List Int)) (inner := [.int .i64 1, .int .i64 1, .int .i64 1, .int .i64 1, .int .i64 1, .int .i64 1, .int .i64 1, .int .i64 1, .int .i64 1, .int .i64 1, .int .i64 1, .int .i64 1, .int .i64 1, .int .i64 1, .int .i64 1]) (ok := fun _ => True) (okp := fun _ => True) ?hr ?hp (fun _ hk => hk) trivial (Below.refl _ _) (Nat.le_refl _) (by simp) ?_; (case hd => rfl); (case hg => rfl); (case hr => first | (go_simp; done) | (go_simp; rfl)); (case hp => exact (Reps.one (show Kd.M (Kd.int .i64) _ _ _ 1 [.int .i64 1] from rfl) (Reps.one (show Kd.M (Kd.int .i64) _ _ _ 1 [.int .i64 1] from rfl) (Reps.one (show Kd.M (Kd.int .i64) _ _ _ 1 [.int .i64 1] from rfl) (Reps.one (show Kd.M (Kd.int .i64) _ _ _ 1 [.int .i64 1] from rfl) (Reps.one (show Kd.M (Kd.int .i64) _ _ _ 1 [.int .i64 1] from rfl) (Reps.one (show Kd.M (Kd.int .i64) _ _ _ 1 [.int .i64 1] from rfl) (Reps.one (show Kd.M (Kd.int .i64) _ _ _ 1 [.int .i64 1] from rfl) (Reps.one (show Kd.M (Kd.int .i64) _ _ _ 1 [.int .i64 1] from rfl) (Reps.one (show Kd.M (Kd.int .i64) _ _ _ 1 [.int .i64 1] from rfl) (Reps.one (show Kd.M (Kd.int .i64) _ _ _ 1 [.int .i64 1] from rfl) (Reps.one (show Kd.M (Kd.int .i64) _ _ _ 1 [.int .i64 1] from rfl) (Reps.one (show Kd.M (Kd.int .i64) _ _ _ 1 [.int .i64 1] from rfl) (Reps.one (show Kd.M (Kd.int .i64) _ _ _ 1 [.int .i64 1] from rfl) (Reps.one (show Kd.M (Kd.int .i64) _ _ _ 1 [.int .i64 1] from rfl) (Reps.one (show Kd.M (Kd.int .i64) _ _ _ 1 [.int .i64 1] from rfl) (Reps.none _ _))))))))))))))))); intro vl wl ho hb hg_ hnew_; clear hg_ hnew_; rw [← HY.out] at ho; obtain ⟨B, c, eo⟩ := Kd.R_slice ho; subst eo; have HO := Aside0.mk ho; clear ho; have n0_ := Aside0.mk (below_step HB.out hb); have n1_ := Aside0.mk (gal_OK_below HT.out hb); clear HB HT; have HB := n0_; have HT := n1_; clear n0_ n1_ hb))
      have HO := HO
      go_loopg [35] 15 (fun kq v35 w' => ∃ (i : Int), v35 = .int .i64 i ∧ Aside0 (0 ≤ i ∧ i + (kq : Int) = 15) ∧ Drawn0 wl w')
      case atStart => exact ⟨0, rfl, ⟨by omega, by omega⟩, Drawn0.refl _⟩
      case round =>
        obtain ⟨i, rfl, HI, ⟨m1, rfl⟩⟩ := hrel
        cases gk with
        | zero =>
          have hj : decide (i < (y.length : Int)) = false := decide_eq_false (by have := HI.out.2; have := HYL.out; omega)
          go_wp2_with (first | (go_at_call 35; (with_reducible refine (galois_Tables_Size.calls A t 0 _ ?side1 HSZ.out).mono ?_); (case side1 => repeat (first | exact HT.out | apply gal_OK_drewN)); rintro e w5 ⟨rfl, ⟨nd, rfl⟩⟩) | (go_at_call 18; (with_reducible refine (galois_Tables_Exp.calls A t 1 0 _ ?side1 HEX.out).mono ?_); (case side1 => repeat (first | exact HT.out | apply gal_OK_drewN)); rintro e w5 ⟨rfl, ⟨nd, rfl⟩⟩) | ((with_reducible refine gate_dst (N := 155) rfl ?_); refine box_event ?hg (N := 155) ?hd (cs := Try.zeroCells88) (t := 88) ?hr ?_; (case hd => rfl); (case hg => rfl); (case hr => first | (go_simp; done) | (go_simp; rfl)); intro b hg_ wb hbox_ hb_; have n0_ := Aside0.mk (below_step (by repeat (first | (with_reducible first | exact HB.out | apply below_alloc | apply pw_below_drewN | apply below_drew1) | exact HB.out)) hb_); have BKb := Aside0.mk hbox_; clear HB; have HB := n0_; clear n0_ hb_ hbox_ hg_))
          go_roundg k1
          case measure => omega
          case rel => exact ⟨some ⟨b, 0, none⟩, ⟨false, 0, fun _ => 0, fun _ => 0⟩, n + 1, rfl, congrArg (Value.int .i64) (by have := HN.out.1; have := HN.out.2; first | omega | (unfold wrap64; omega)), ⟨by have := HN.out.1; omega, by have := HN.out.2; omega⟩, ⟨.inl ⟨rfl, .inr ⟨rfl, b, _, rfl, BKb.out, galZero_cell⟩⟩⟩, ⟨rfl⟩, HB⟩
        | succ k2 =>
          have p1 : 0 ≤ i := HI.out.1
          have q1 : i < (y.length : Int) := by have := HI.out.2; have := HYL.out; omega
          have hj : decide (i < (y.length : Int)) = true := decide_eq_true q1
          have hi2 : i < 15 := by have := HI.out.2; omega
          obtain ⟨ad, ead, hx⟩ := Kd.at_int (Kd.R_reads' HO.out).2.2 i p1 q1
          cases ead
          have hyr1 : rd y i = 1 := by have h1 := HYR.out i.toNat (by omega); rwa [Int.toNat_of_nonneg p1] at h1
          rw [hyr1] at hx
          clear hyr1
          replace p1 := eq_true p1
          replace q1 := eq_true q1
          go_wp2_with (first | (go_at_call 17; (with_reducible refine (outpostlaw32_num.calls 1 1 _ HNM.out).mono ?_); rintro e w5 ⟨rfl, ⟨nd, rfl⟩⟩))
          go_roundg k2
          case measure => omega
          case rel => exact ⟨i + 1, congrArg (Value.int .i64) (by have := HI.out.1; have := HI.out.2; first | omega | (unfold wrap64; omega)), ⟨by have := HI.out.1; omega, by have := HI.out.2; omega⟩, by repeat (first | exact Drawn0.refl _ | apply Drawn0.step)⟩


end Go.Proofs.Ytlmhppgplbefcaa.P
