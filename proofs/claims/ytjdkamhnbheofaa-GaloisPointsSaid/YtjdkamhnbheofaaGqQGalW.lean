/- Polynomials over a field: the polynomial through points, as the program and the document have it. -/
import Derived.Test.YtjdkamhnbheofaaGqQGalU
import Derived.Test.YtjdkamhnbheofaaGqPx21
import Derived.Test.YtjdkamhnbheofaaGqPx20
set_option linter.unusedVariables false
set_option linter.unusedSimpArgs false
namespace Go.Proofs.Ytjdkamhnbheofaa.GalP
open Go.RowKit Go.Proofs.Ytjdkamhnbheofaa.P Go.Proofs.YtjdkamhnbheofaaW.PrintWords Go.Proofs.YtjdkamhnbheofaaW.PrintLast Go.Proofs.YtjdkamhnbheofaaW.PrintMore Go.Proofs.YtjdkamhnbheofaaW.Q
open Go.Proofs.Ytjdkamhnbheofaa.Gal
theorem index_l (B : List Nat) (x : Nat) (lb : B.length ≤ 1000000) (d : Nat) : ∀ i, i + d = B.length → x ∉ B.take i →
    ∃ r : Int, Ev (fun k => slices_Index_byte_byte.l0 k (ints B) (x : Int) (B.length : Int) (i : Int)) r ∧ (0 ≤ r ↔ x ∈ B) := by
  induction d with
  | zero =>
    intro i hi hn
    rw [List.take_of_length_le (by omega)] at hn
    refine ⟨-1, Ev.step (f := fun _ => some (-1)) (fun k => ?_) (Ev.now _), ⟨fun h => absurd h (by decide), fun h => absurd h hn⟩⟩
    simp only [slices_Index_byte_byte.l0]
    rw [if_neg (by omega)]
  | succ d ih =>
    intro i hi hn
    have hil : i < B.length := by omega
    have c1 : (i : Int) < (B.length : Int) := by omega
    have c2 : (0 : Int) ≤ (i : Int) := by omega
    have c3 : (i : Int) < ((ints B).length : Int) := by rw [ints_length]; omega
    have et : B.take (i + 1) = B.take i ++ [B.getD i 0] := by
      rw [List.take_succ_eq_append_getElem hil, List.getD_eq_getElem?_getD, List.getElem?_eq_getElem hil]
      rfl
    by_cases c : x = B.getD i 0
    · refine ⟨(i : Int), Ev.step (f := fun _ => some (i : Int)) (fun k => ?_) (Ev.now _), ⟨fun _ => by rw [c]; exact mem_getD hil, fun _ => c2⟩⟩
      simp only [slices_Index_byte_byte.l0]
      rw [if_pos c1, if_pos c2, if_pos c3, rd_ints, if_pos (by rw [c])]
    · have ei : wrap64 ((i : Int) + 1) = ((i + 1 : Nat) : Int) := w64s (by omega)
      obtain ⟨r, h1, h2⟩ := ih (i + 1) (by clear ei; omega) (by
        rw [et]
        intro h
        rcases List.mem_append.1 h with h | h
        · exact hn h
        · exact c (List.mem_singleton.1 h))
      refine ⟨r, Ev.step (fun k => ?_) h1, h2⟩
      simp only [slices_Index_byte_byte.l0]
      rw [if_pos c1, if_pos c2, if_pos c3, rd_ints, if_neg (by omega), ei]
theorem contains_f (B : List Nat) (x : Nat) (lb : B.length ≤ 1000000) : Ev (fun k => slices_Contains_byte_byte.f k (ints B) (x : Int)) (decide (x ∈ B)) := by
  obtain ⟨r, h1, h2⟩ := index_l B x lb B.length 0 (by omega) (by simp)
  unfold slices_Contains_byte_byte.f slices_Index_byte_byte.f
  rw [ints_length]
  have e : decide (x ∈ B) = decide (r ≥ 0) := decide_eq_decide.2 ⟨fun h => h2.2 h, fun h => h2.1 h⟩
  rw [e]
  exact Ev.bind h1 (Ev.now _)
theorem mu_zero {m p a b : Nat} (F : Fi m p) (ha : a < 2 ^ m) (hb : b < 2 ^ m) : mu p m a b = 0 ↔ a = 0 ∨ b = 0 := by
  constructor
  · intro h
    rcases Nat.eq_zero_or_pos a with h0 | h0
    · exact .inl h0
    · rcases Nat.eq_zero_or_pos b with h1 | h1
      · exact .inr h1
      · have := F.mu_pos h0 ha h1 hb
        omega
  · rintro (rfl | rfl)
    · exact F.mu_zero_left b
    · exact F.mu_zero_right a
/-- One turn: the multiple of what is zero at all places so far. -/
def kN (p m : Nat) (out way : List Nat) (x y : Nat) : Nat := mu p m (y ^^^ hv p m out x) (iv p m (hv p m way x))
def outN (p m : Nat) (out way : List Nat) (x y : Nat) : List Nat := plusN out (trimN (prod p m way [kN p m out way x y]))
def thrN (p m : Nat) (X Y : List Nat) : Nat → Nat → List Nat → List Nat → List Nat
  | 0, _, out, _ => out
  | d + 1, i, out, way => thrN p m X Y d (i + 1) (outN p m out way (X.getD i 0) (Y.getD i 0)) (mx p m (X.getD i 0) way)
structure Th (m p : Nat) (X : List Nat) (i : Nat) (out way : List Nat) : Prop where
  len : way.length = i + 1
  olen : out.length ≤ i + 1
  lt : ∀ y ∈ way, y < 2 ^ m
  olt : ∀ y ∈ out, y < 2 ^ m
  head : ∃ t, way = 1 :: t
  zero : ∀ x, x < 2 ^ m → (hv p m way x = 0 ↔ x ∈ X.take i)
theorem kN_lt {m p : Nat} (F : Fi m p) {out way : List Nat} {x y : Nat} (ho : ∀ y ∈ out, y < 2 ^ m) (hx : x < 2 ^ m) (hy : y < 2 ^ m) : kN p m out way x y < 2 ^ m :=
  F.mu_lt (Nat.xor_lt_two_pow hy (F.hv_lt hx ho))
theorem prod_one_length (p m : Nat) (way : List Nat) (k : Nat) : (prod p m way [k]).length = way.length := by
  unfold prod
  rw [prodr_length]
  simp
theorem Th.next {m p : Nat} (F : Fi m p) {X : List Nat} {i : Nat} {out way : List Nat} (h : Th m p X i out way) (hX : ∀ x ∈ X, x < 2 ^ m) {y : Nat} (hy : y < 2 ^ m) (hi : i < X.length) :
    Th m p X (i + 1) (outN p m out way (X.getD i 0) y) (mx p m (X.getD i 0) way) := by
  have hx : X.getD i 0 < 2 ^ m := getD_lt' F.zero_lt hX i
  have et : X.take (i + 1) = X.take i ++ [X.getD i 0] := by
    rw [List.take_succ_eq_append_getElem hi, List.getD_eq_getElem?_getD, List.getElem?_eq_getElem hi]
    rfl
  refine ⟨by unfold Gal.mx; rw [mxg_length, h.len], ?_, F.mxg_lt hx way 0 F.zero_lt h.lt, ?_, ?_, fun x hx2 => ?_⟩
  · have h1 := plusN_length out (trimN (prod p m way [kN p m out way (X.getD i 0) y]))
    have h2 := trimN_length (prod p m way [kN p m out way (X.getD i 0) y])
    rw [prod_one_length, h.len] at h2
    have := h.olen
    unfold outN
    omega
  · exact plusN_lt h.olt (fun y hy => prod_lt F h.lt y (trimN_mem hy))
  · obtain ⟨t, e⟩ := h.head
    rw [e]
    unfold Gal.mx mxg
    rw [Nat.zero_xor]
    exact ⟨_, rfl⟩
  · rw [F.mx_hv hx2 hx h.lt, mu_zero F (F.hv_lt hx2 h.lt) (Nat.xor_lt_two_pow hx2 hx), h.zero x hx2, et, List.mem_append, List.mem_singleton]
    constructor
    · rintro (h | h)
      · exact .inl h
      · exact .inr (xor_eq_zero h)
    · rintro (h | rfl)
      · exact .inl h
      · exact .inr (Nat.xor_self _)
theorem Th.start {m p : Nat} (F : Fi m p) (X : List Nat) : Th m p X 0 [] [1] :=
  ⟨rfl, Nat.zero_le _, fun y hy => by rw [List.mem_singleton.1 hy]; exact F.one_lt, fun y hy => by simp at hy, ⟨[], rfl⟩, fun x hx => by
    have e : hv p m [1] x = 1 := by unfold hv hvf hvf; rw [F.mu_zero_left, Nat.zero_xor]
    rw [e]
    simp⟩
end Go.Proofs.Ytjdkamhnbheofaa.GalP
