/- Polynomials over a field: what the document's value, Trim, product, plus, wrong say, and the program's plus and lists: the same lists of numbers. -/
import Derived.Test.YtjdkamhnbheofaaGqQGalE
import Derived.Test.YtjdkamhnbheofaaGqPx0
import Derived.Test.YtjdkamhnbheofaaGqPx7
import Derived.Test.YtjdkamhnbheofaaGqPx2
import Derived.Test.YtjdkamhnbheofaaGqPx5
import Derived.Test.YtjdkamhnbheofaaGqPx6
import Derived.Test.YtjdkamhnbheofaaGqPx12
import Derived.Test.YtjdkamhnbheofaaGqPx3
import Derived.Test.YtjdkamhnbheofaaGqPx10
set_option linter.unusedVariables false
set_option linter.unusedSimpArgs false
namespace Go.Proofs.Ytjdkamhnbheofaa.GalP
open Go.RowKit Go.Proofs.Ytjdkamhnbheofaa.P Go.Proofs.YtjdkamhnbheofaaW.PrintWords Go.Proofs.YtjdkamhnbheofaaW.PrintLast Go.Proofs.YtjdkamhnbheofaaW.PrintMore Go.Proofs.YtjdkamhnbheofaaW.Q
open Go.Proofs.Ytjdkamhnbheofaa.Gal
theorem refTrim_f (B : List Nat) (lb : B.length ≤ 1000000) : Ev (fun k => outpostref32_Trim.f k (ints B)) (ints (trimN B)) := by
  unfold outpostref32_Trim.f
  induction B with
  | nil =>
    refine Ev.step (f := fun _ => some (ints [])) (fun k => ?_) (Ev.now _)
    simp only [outpostref32_Trim.l0]
    rfl
  | cons x l ih =>
    have hl : l.length ≤ 1000000 := by rw [List.length_cons] at lb; omega
    rw [ints_cons]
    have e0 : rd ((x : Int) :: ints l) 0 = (x : Int) := rfl
    have c1 : ((((x : Int) :: ints l).length : Nat) : Int) > 0 := by simp
    have c2 : (1 : Int) ≤ ((((x : Int) :: ints l).length : Nat) : Int) := by simp only [List.length_cons]; omega
    by_cases c : x = 0
    · subst c
      refine Ev.step (fun k => ?_) (show Ev _ (ints (trimN (0 :: l))) by unfold trimN; rw [if_pos rfl]; exact ih hl)
      simp only [outpostref32_Trim.l0]
      rw [if_pos c1, if_pos (show (0 : Int) < _ from c1), e0, if_pos (show ((0 : Nat) : Int) = 0 from rfl), if_pos c2]
      rfl
    · refine Ev.step (f := fun _ => some (ints (x :: l))) (fun k => ?_) (by unfold trimN; rw [if_neg c]; exact Ev.now _)
      simp only [outpostref32_Trim.l0]
      rw [if_pos c1, if_pos (show (0 : Int) < _ from c1), e0, if_neg (by omega)]
      simp only [Option.bind_some]
      rw [if_pos (by simp only [List.length_nil, List.length_cons, ints_length]; rw [List.length_cons] at lb; omega)]
      rfl
/-- A list is xored into another from a place on. -/
def xadd (out : List Nat) (off : Nat) : List Nat → List Nat
  | [] => out
  | y :: l => xadd (out.set off (out.getD off 0 ^^^ y)) (off + 1) l
theorem xadd_length (l : List Nat) : ∀ out off, (xadd out off l).length = out.length := by
  induction l with
  | nil => intro out off; rfl
  | cons y l ih => intro out off; rw [xadd, ih, List.length_set]
theorem xadd_lt {M : Nat} (l : List Nat) : ∀ out off, (∀ y ∈ out, y < 2 ^ M) → (∀ y ∈ l, y < 2 ^ M) → ∀ y ∈ xadd out off l, y < 2 ^ M := by
  induction l with
  | nil => intro out off h _; exact h
  | cons y l ih =>
    intro out off h hl
    rw [xadd]
    have h0 : out.getD off 0 < 2 ^ M := getD_lt' (Nat.pow_pos (by omega)) h off
    exact ih _ _ (mem_set_lt h off (Nat.xor_lt_two_pow h0 (hl y (List.mem_cons_self ..)))) (fun z hz => hl z (List.mem_cons_of_mem _ hz))
theorem getD_set (out : List Nat) (j v i : Nat) : (out.set j v).getD i 0 = if i = j ∧ j < out.length then v else out.getD i 0 := by
  simp only [List.getD_eq_getElem?_getD, List.getElem?_set]
  by_cases c : j = i
  · subst c
    by_cases h : j < out.length
    · simp [h]
    · rw [if_pos rfl, if_neg h, if_neg (by omega), List.getElem?_eq_none (by omega)]
  · rw [if_neg c, if_neg (by omega)]
theorem getD_over (l : List Nat) (i : Nat) (h : l.length ≤ i) : l.getD i 0 = 0 := by rw [List.getD_eq_getElem?_getD, List.getElem?_eq_none h]; rfl
theorem xadd_getD (l : List Nat) : ∀ out off i, off + l.length ≤ out.length → (xadd out off l).getD i 0 = out.getD i 0 ^^^ (if off ≤ i then l.getD (i - off) 0 else 0) := by
  induction l with
  | nil =>
    intro out off i h
    rw [xadd]
    split
    · rw [getD_over [] _ (Nat.zero_le _), Nat.xor_zero]
    · rw [Nat.xor_zero]
  | cons y l ih =>
    intro out off i h
    rw [List.length_cons] at h
    rw [xadd, ih _ _ _ (by rw [List.length_set]; omega), getD_set]
    by_cases c : i = off
    · subst c
      rw [if_pos ⟨rfl, by omega⟩, if_neg (by omega), if_pos (Nat.le_refl _), Nat.sub_self, Nat.xor_zero]
      rfl
    · rw [if_neg (by omega)]
      by_cases c2 : off + 1 ≤ i
      · rw [if_pos c2, if_pos (by omega), show i - off = (i - (off + 1)) + 1 by omega]
        rfl
      · rw [if_neg c2, if_neg (by omega)]
/-- The sum of two polynomials. -/
def plusN (a b : List Nat) : List Nat := trimN (if a.length < b.length then xadd b (b.length - a.length) a else xadd a (a.length - b.length) b)
theorem plusN_lt {M : Nat} {a b : List Nat} (ha : ∀ y ∈ a, y < 2 ^ M) (hb : ∀ y ∈ b, y < 2 ^ M) : ∀ y ∈ plusN a b, y < 2 ^ M := by
  intro y hy
  have h := trimN_mem hy
  split at h
  · exact xadd_lt a b _ hb ha y h
  · exact xadd_lt b a _ ha hb y h
theorem plusN_length (a b : List Nat) : (plusN a b).length ≤ max a.length b.length := by
  have h := trimN_length (if a.length < b.length then xadd b (b.length - a.length) a else xadd a (a.length - b.length) b)
  unfold plusN
  split at h
  · rw [xadd_length] at h; rw [if_pos (by assumption)]; omega
  · rw [xadd_length] at h; rw [if_neg (by assumption)]; omega
theorem list_ext_getD {a b : List Nat} (hl : a.length = b.length) (h : ∀ i, a.getD i 0 = b.getD i 0) : a = b := by
  refine List.ext_getElem hl (fun i h1 h2 => ?_)
  have := h i
  rw [List.getD_eq_getElem?_getD, List.getD_eq_getElem?_getD, List.getElem?_eq_getElem h1, List.getElem?_eq_getElem h2] at this
  exact this
theorem plus_l {A : Nat} (a b out0 : List Nat) (hb : ∀ y ∈ b, y < 256) (la : a.length ≤ 100000) (hle : b.length ≤ a.length) (X0 X1 : List Int) (h0 : X0.length = a.length) (h1 : X1.length = b.length) (d : Nat) :
    ∀ (j : Nat) (out : List Nat), j + d = b.length → out.length = a.length → (∀ y ∈ out, y < 256) →
    Ev (fun k => galois_plus.l0 k X0 X1 (ints out) (ints b) (b.length : Int) (j : Int)) (ints (trimN (xadd out (a.length - b.length + j) (b.drop j)))) ∧
    Ev (fun k => galois_plus.l101 k X0 X1 (ints out) (ints b) (b.length : Int) (j : Int)) (ints (trimN (xadd out (a.length - b.length + j) (b.drop j)))) := by
  induction d with
  | zero =>
    intro j out hj ho hl
    rw [List.drop_of_length_le (by omega)]
    constructor
    · refine Ev.step (f := fun _ => some (ints (trimN out))) (fun k => ?_) (Ev.now _)
      simp only [galois_plus.l0]
      rw [if_neg (by omega), trim_f out (by omega)]
      rfl
    · refine Ev.step (f := fun _ => some (ints (trimN out))) (fun k => ?_) (Ev.now _)
      simp only [galois_plus.l101]
      rw [if_neg (by omega), trim_f out (by omega)]
      rfl
  | succ d ih =>
    intro j out hj ho hl
    have hjl : j < b.length := by omega
    have ly : b.getD j 0 < 256 := getD_lt hb j
    have lo : out.getD (a.length - b.length + j) 0 < 256 := getD_lt hl _
    have lx : out.getD (a.length - b.length + j) 0 ^^^ b.getD j 0 < 256 := Nat.xor_lt_two_pow (n := 8) lo ly
    rw [drop_get hjl, xadd, Nat.add_assoc]
    obtain ⟨g1, g2⟩ := ih (j + 1) (out.set (a.length - b.length + j) (out.getD (a.length - b.length + j) 0 ^^^ b.getD j 0)) (by omega) (by rw [List.length_set]; exact ho) (set_lt hl lx)
    have c1 : (j : Int) < (b.length : Int) := by omega
    have c2 : (0 : Int) ≤ (j : Int) := by omega
    have c3 : (j : Int) < ((ints b).length : Int) := by rw [ints_length]; omega
    have c4 : (0 : Int) ≤ ((a.length - b.length + j : Nat) : Int) := by omega
    have c5 : ((a.length - b.length + j : Nat) : Int) < ((ints out).length : Int) := by rw [ints_length, ho]; omega
    have ej : wrap64 ((j : Int) + 1) = ((j + 1 : Nat) : Int) := w64s (by omega)
    have e1 : wrap64 ((wrap64 ((X0.length : Int) - (X1.length : Int))) + (j : Int)) = ((a.length - b.length + j : Nat) : Int) := by
      clear ej
      rw [h0, h1, w64 (n := (a.length : Int) - (b.length : Int)) (by omega) (by omega), w64 (by omega) (by omega)]
      omega
    constructor
    · refine Ev.step (fun k => ?_) g1
      simp only [galois_plus.l0]
      rw [if_pos c1, if_pos c2, if_pos c3, e1, if_pos c4, if_pos c5, rd_ints, rd_ints, bxor8 _ _ lo ly, set_ints, ej]
    · refine Ev.step (fun k => ?_) g2
      simp only [galois_plus.l101]
      rw [if_pos c1, if_pos c2, if_pos c3, e1, if_pos c4, if_pos c5, rd_ints, rd_ints, bxor8 _ _ lo ly, set_ints, ej]
theorem plus_f (a b : List Nat) (ha : ∀ y ∈ a, y < 256) (hb : ∀ y ∈ b, y < 256) (la : a.length ≤ 100000) (lb : b.length ≤ 100000) :
    Ev (fun k => galois_plus.f k (ints a) (ints b)) (ints (plusN a b)) := by
  unfold galois_plus.f plusN
  rw [ints_length, ints_length]
  by_cases c : a.length < b.length
  · rw [if_pos c]
    have h := (plus_l (A := 0) b a [] ha lb (by omega) (ints b) (ints a) (ints_length b) (ints_length a) a.length 0 b (by omega) rfl hb).1
    rw [Nat.add_zero, List.drop_zero] at h
    exact ev_pos (by omega) (ev_pos (by simp only [List.length_nil]; omega) h)
  · rw [if_neg c]
    have h := (plus_l (A := 0) a b [] hb la (by omega) (ints a) (ints b) (ints_length a) (ints_length b) b.length 0 a (by omega) rfl ha).2
    rw [Nat.add_zero, List.drop_zero] at h
    exact ev_neg (by omega) (ev_pos (by simp only [List.length_nil]; omega) h)
end Go.Proofs.Ytjdkamhnbheofaa.GalP
