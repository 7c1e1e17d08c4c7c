/- Polynomials over a field: what the document's value, Trim, product, plus, wrong say, and the program's plus and lists: the same lists of numbers. -/
import Derived.Test.YtjdkamhnbheofaaGpQGalE
import Derived.Test.YtjdkamhnbheofaaGpPx14
import Derived.Test.YtjdkamhnbheofaaGpPx13
import Derived.Test.YtjdkamhnbheofaaGpPx7
import Derived.Test.YtjdkamhnbheofaaGpPx16
import Derived.Test.YtjdkamhnbheofaaGpPx15
import Derived.Test.YtjdkamhnbheofaaGpPx10
set_option linter.unusedVariables false
set_option linter.unusedSimpArgs false
namespace Go.Proofs.Ytjdkamhnbheofaa.GalP
open Go.RowKit Go.Proofs.Ytjdkamhnbheofaa.P Go.Proofs.YtjdkamhnbheofaaW.PrintWords Go.Proofs.YtjdkamhnbheofaaW.PrintLast Go.Proofs.YtjdkamhnbheofaaW.PrintMore Go.Proofs.YtjdkamhnbheofaaW.Q
open Go.Proofs.Ytjdkamhnbheofaa.Gal
theorem value_l {m p x : Nat} (F : Fi m p) (hx : x < 2 ^ m) (B : List Nat) (hB : ∀ y ∈ B, y < 2 ^ m) (lb : B.length ≤ 1000000) (d : Nat) : ∀ (i v : Nat), i + d = B.length → v < 2 ^ m →
    Ev (fun k => r3_value.l0 k (ints B) (x : Int) (v : Int) (i : Int) (m : Int) (p : Int)) ((hvf p m x v (B.drop i) : Nat) : Int) := by
  have h256 := F.sz256
  induction d with
  | zero =>
    intro i v hi hv
    rw [List.drop_of_length_le (by omega)]
    refine Ev.step (f := fun _ => some (v : Int)) (fun k => ?_) (Ev.now _)
    simp only [r3_value.l0]
    rw [if_neg (by rw [ints_length]; omega)]
  | succ d ih =>
    intro i v hi hv
    have hy : B.getD i 0 < 2 ^ m := getD_lt' F.zero_lt hB i
    have lm := F.mu_lt (b := x) hv
    rw [drop_get (by omega), hvf]
    have c1 : (i : Int) < ((ints B).length : Int) := by rw [ints_length]; omega
    have c2 : (0 : Int) ≤ (i : Int) := by omega
    have b1 : mu p m v x < 256 := by omega
    have b2 : B.getD i 0 < 256 := by omega
    have ei : wrap64 ((i : Int) + 1) = ((i + 1 : Nat) : Int) := w64s (by omega)
    have h1 := ih (i + 1) (mu p m v x ^^^ B.getD i 0) (by clear ei; omega) (Nat.xor_lt_two_pow lm hy)
    refine Ev.step (f := fun k => (r3_quick.f k (m : Int) (p : Int) (v : Int) (x : Int)).bind fun t => r3_value.l0 k (ints B) (x : Int) (Go.bits .xor .u8 t ((B.getD i 0 : Nat) : Int)) ((i + 1 : Nat) : Int) (m : Int) (p : Int)) (fun k => ?_) (Ev.bind (quick_f F hv hx) (by rw [bxor8 _ _ b1 b2]; exact h1))
    simp only [r3_value.l0]
    rw [if_pos c1]
    simp only [if_pos c2, rd_ints, ei]
theorem value_f {m p x : Nat} (F : Fi m p) (hx : x < 2 ^ m) (B : List Nat) (hB : ∀ y ∈ B, y < 2 ^ m) (lb : B.length ≤ 1000000) :
    Ev (fun k => r3_value.f k (m : Int) (p : Int) (ints B) (x : Int)) ((hv p m B x : Nat) : Int) := by
  have := value_l F hx B hB lb B.length 0 0 (by omega) F.zero_lt
  rw [List.drop_zero] at this
  exact this
theorem refTrim_f (B : List Nat) (lb : B.length ≤ 1000000) : Ev (fun k => r3_Trim.f k (ints B)) (ints (trimN B)) := by
  unfold r3_Trim.f
  induction B with
  | nil =>
    refine Ev.step (f := fun _ => some (ints [])) (fun k => ?_) (Ev.now _)
    simp only [r3_Trim.l0]
    rfl
  | cons x l ih =>
    have hl : l.length ≤ 1000000 := by rw [List.length_cons] at lb; omega
    rw [ints_cons]
    have e0 : rd ((x : Int) :: ints l) 0 = (x : Int) := rfl
    have c1 : ((((x : Int) :: ints l).length : Nat) : Int) > 0 := by simp
    have c2 : (1 : Int) ≤ ((((x : Int) :: ints l).length : Nat) : Int) := by simp only [List.length_cons]; omega
    by_cases c : x = 0
    · subst c
      refine Ev.step (fun k => ?_) (show Ev _ (ints (trimN (0 :: l))) by unfold trimN; rw [if_pos rfl]; exact ih hl)
      simp only [r3_Trim.l0]
      rw [if_pos c1, if_pos (show (0 : Int) < _ from c1), e0, if_pos (show ((0 : Nat) : Int) = 0 from rfl), if_pos c2]
      rfl
    · refine Ev.step (f := fun _ => some (ints (x :: l))) (fun k => ?_) (by unfold trimN; rw [if_neg c]; exact Ev.now _)
      simp only [r3_Trim.l0]
      rw [if_pos c1, if_pos (show (0 : Int) < _ from c1), e0, if_neg (by omega)]
      simp only [Option.bind_some]
      rw [if_pos (by simp only [List.length_nil, List.length_cons, ints_length]; rw [List.length_cons] at lb; omega)]
      rfl
/-- A list is xored into another from a place on. -/
def xadd (out : List Nat) (off : Nat) : List Nat → List Nat
  | [] => out
  | y :: l => xadd (out.set off (out.getD off 0 ^^^ y)) (off + 1) l
theorem xadd_length (l : List Nat) : ∀ out off, (xadd out off l).length = out.length := by
  induction l with
  | nil => intro out off; rfl
  | cons y l ih => intro out off; rw [xadd, ih, List.length_set]
theorem xadd_lt {M : Nat} (l : List Nat) : ∀ out off, (∀ y ∈ out, y < 2 ^ M) → (∀ y ∈ l, y < 2 ^ M) → ∀ y ∈ xadd out off l, y < 2 ^ M := by
  induction l with
  | nil => intro out off h _; exact h
  | cons y l ih =>
    intro out off h hl
    rw [xadd]
    have h0 : out.getD off 0 < 2 ^ M := getD_lt' (Nat.pow_pos (by omega)) h off
    exact ih _ _ (mem_set_lt h off (Nat.xor_lt_two_pow h0 (hl y (List.mem_cons_self ..)))) (fun z hz => hl z (List.mem_cons_of_mem _ hz))
theorem getD_set (out : List Nat) (j v i : Nat) : (out.set j v).getD i 0 = if i = j ∧ j < out.length then v else out.getD i 0 := by
  simp only [List.getD_eq_getElem?_getD, List.getElem?_set]
  by_cases c : j = i
  · subst c
    by_cases h : j < out.length
    · simp [h]
    · rw [if_pos rfl, if_neg h, if_neg (by omega), List.getElem?_eq_none (by omega)]
  · rw [if_neg c, if_neg (by omega)]
theorem getD_over (l : List Nat) (i : Nat) (h : l.length ≤ i) : l.getD i 0 = 0 := by rw [List.getD_eq_getElem?_getD, List.getElem?_eq_none h]; rfl
theorem xadd_getD (l : List Nat) : ∀ out off i, off + l.length ≤ out.length → (xadd out off l).getD i 0 = out.getD i 0 ^^^ (if off ≤ i then l.getD (i - off) 0 else 0) := by
  induction l with
  | nil =>
    intro out off i h
    rw [xadd]
    split
    · rw [getD_over [] _ (Nat.zero_le _), Nat.xor_zero]
    · rw [Nat.xor_zero]
  | cons y l ih =>
    intro out off i h
    rw [List.length_cons] at h
    rw [xadd, ih _ _ _ (by rw [List.length_set]; omega), getD_set]
    by_cases c : i = off
    · subst c
      rw [if_pos ⟨rfl, by omega⟩, if_neg (by omega), if_pos (Nat.le_refl _), Nat.sub_self, Nat.xor_zero]
      rfl
    · rw [if_neg (by omega)]
      by_cases c2 : off + 1 ≤ i
      · rw [if_pos c2, if_pos (by omega), show i - off = (i - (off + 1)) + 1 by omega]
        rfl
      · rw [if_neg c2, if_neg (by omega)]
/-- The sum of two polynomials. -/
def plusN (a b : List Nat) : List Nat := trimN (if a.length < b.length then xadd b (b.length - a.length) a else xadd a (a.length - b.length) b)
theorem plusN_length (a b : List Nat) : (plusN a b).length ≤ max a.length b.length := by
  have h := trimN_length (if a.length < b.length then xadd b (b.length - a.length) a else xadd a (a.length - b.length) b)
  unfold plusN
  split at h
  · rw [xadd_length] at h; rw [if_pos (by assumption)]; omega
  · rw [xadd_length] at h; rw [if_neg (by assumption)]; omega
theorem list_ext_getD {a b : List Nat} (hl : a.length = b.length) (h : ∀ i, a.getD i 0 = b.getD i 0) : a = b := by
  refine List.ext_getElem hl (fun i h1 h2 => ?_)
  have := h i
  rw [List.getD_eq_getElem?_getD, List.getD_eq_getElem?_getD, List.getElem?_eq_getElem h1, List.getElem?_eq_getElem h2] at this
  exact this
theorem refProd_l1 {m p : Nat} (F : Fi m p) (A B : List Nat) (hA : ∀ y ∈ A, y < 2 ^ m) (hB : ∀ y ∈ B, y < 2 ^ m) (la : A.length ≤ 100000) (lb : B.length ≤ 100000) (i : Nat) (hi : i < A.length) (r : List Int) (d : Nat) :
    ∀ (j : Nat) (out : List Nat), j + d = B.length → out.length = A.length + B.length - 1 → (∀ y ∈ out, y < 2 ^ m) →
    Ev (fun k => r3_product.l0 k (ints A) (ints B) (ints (addr p m (A.getD i 0) out (i + j) (B.drop j))) ((i + 1 : Nat) : Int) (m : Int) (p : Int)) r →
    Ev (fun k => r3_product.l1 k (ints A) (ints B) (ints out) (i : Int) (j : Int) (m : Int) (p : Int)) r := by
  have h256 := F.sz256
  induction d with
  | zero =>
    intro j out hj ho hl hk
    rw [List.drop_of_length_le (by omega)] at hk
    refine Ev.step (fun k => ?_) hk
    simp only [r3_product.l1]
    rw [if_neg (by rw [ints_length]; omega), w64s (by omega)]
    rfl
  | succ d ih =>
    intro j out hj ho hl hk
    have hjl : j < B.length := by omega
    have hx : A.getD i 0 < 2 ^ m := getD_lt' F.zero_lt hA i
    have ly : B.getD j 0 < 2 ^ m := getD_lt' F.zero_lt hB j
    have lo := getD_lt' F.zero_lt hl (i + j)
    have lm := F.mu_lt (b := B.getD j 0) hx
    have lx := Nat.xor_lt_two_pow lo lm
    rw [drop_get hjl, addr, show i + j + 1 = i + (j + 1) by omega] at hk
    have h1 := ih (j + 1) _ (by omega) (by rw [List.length_set]; exact ho) (mem_set_lt hl (i + j) lx) hk
    have c1 : (j : Int) < ((ints B).length : Int) := by rw [ints_length]; omega
    have c2 : (0 : Int) ≤ (j : Int) := by omega
    have c3 : (i : Int) < ((ints A).length : Int) := by rw [ints_length]; omega
    have c4 : (0 : Int) ≤ ((i + j : Nat) : Int) := by omega
    have c5 : ((i + j : Nat) : Int) < ((ints out).length : Int) := by rw [ints_length, ho]; omega
    have c6 : (0 : Int) ≤ (i : Int) := by omega
    have b1 : out.getD (i + j) 0 < 256 := by omega
    have b2 : mu p m (A.getD i 0) (B.getD j 0) < 256 := by omega
    have ej : wrap64 ((j : Int) + 1) = ((j + 1 : Nat) : Int) := w64s (by omega)
    have e1 : wrap64 ((i : Int) + (j : Int)) = ((i + j : Nat) : Int) := by clear ej; rw [w64 (by omega) (by omega)]; omega
    refine Ev.step (f := fun k => (r3_quick.f k (m : Int) (p : Int) ((A.getD i 0 : Nat) : Int) ((B.getD j 0 : Nat) : Int)).bind fun t => r3_product.l1 k (ints A) (ints B) ((ints out).set ((i + j : Nat) : Int).toNat (Go.bits .xor .u8 ((out.getD (i + j) 0 : Nat) : Int) t)) (i : Int) ((j + 1 : Nat) : Int) (m : Int) (p : Int)) (fun k => ?_) (Ev.bind (quick_f F hx ly) (by rw [bxor8 _ _ b1 b2, set_ints]; exact h1))
    simp only [r3_product.l1]
    rw [if_pos c1, e1, if_pos c4, if_pos c5, if_pos c6, if_pos c3, if_pos c2, ej]
    simp only [rd_ints]
theorem refProd_l0 {m p : Nat} (F : Fi m p) (A B : List Nat) (hA : ∀ y ∈ A, y < 2 ^ m) (hB : ∀ y ∈ B, y < 2 ^ m) (la : A.length ≤ 100000) (lb : B.length ≤ 100000) (d : Nat) :
    ∀ (i : Nat) (out : List Nat), i + d = A.length → out.length = A.length + B.length - 1 → (∀ y ∈ out, y < 2 ^ m) →
    Ev (fun k => r3_product.l0 k (ints A) (ints B) (ints out) (i : Int) (m : Int) (p : Int)) (ints (trimN (prodr p m B out i (A.drop i)))) := by
  have h256 := F.sz256
  induction d with
  | zero =>
    intro i out hi ho hl
    rw [List.drop_of_length_le (by omega)]
    refine Ev.step (f := fun k => (r3_Trim.f k (ints out)).bind fun t => some t) (fun k => ?_) (Ev.bind (refTrim_f out (by omega)) (Ev.now _))
    simp only [r3_product.l0]
    rw [if_neg (by rw [ints_length]; omega)]
  | succ d ih =>
    intro i out hi ho hl
    have hil : i < A.length := by omega
    have lx : A.getD i 0 < 2 ^ m := getD_lt' F.zero_lt hA i
    have h := ih (i + 1) (addr p m (A.getD i 0) out i B) (by omega) (by rw [addr_length]; exact ho) (addr_lt F lx B out i hl)
    rw [drop_get hil, prodr]
    have h1 := refProd_l1 F A B hA hB la lb i hil _ B.length 0 out (by omega) ho hl (by rw [Nat.add_zero, List.drop_zero]; exact h)
    refine Ev.step (fun k => ?_) h1
    simp only [r3_product.l0]
    rw [if_pos (by rw [ints_length]; omega)]
    rfl
/-- A product of polynomials, of the document. -/
theorem refProd_f {m p : Nat} (F : Fi m p) (A B : List Nat) (hA : ∀ y ∈ A, y < 2 ^ m) (hB : ∀ y ∈ B, y < 2 ^ m) (la : A.length ≤ 100000) (lb : B.length ≤ 100000) (ha0 : A ≠ []) (hb0 : B ≠ []) :
    Ev (fun k => r3_product.f k (m : Int) (p : Int) (ints A) (ints B)) (ints (trimN (prod p m A B))) := by
  have l1 := List.length_pos_iff.2 ha0
  have l2 := List.length_pos_iff.2 hb0
  unfold r3_product.f
  rw [ints_length, ints_length]
  refine ev_neg (by omega) ?_
  have e : ((B.length : Int) == 0) = false := by simp; omega
  rw [e]
  have h := refProd_l0 F A B hA hB la lb A.length 0 (List.replicate (A.length + B.length - 1) 0) (by omega) (by simp) (fun y hy => by rw [List.eq_of_mem_replicate hy]; exact F.zero_lt)
  rw [List.drop_zero, ints_replicate] at h
  refine Ev.step (fun k => ?_) h
  simp only [r3_product.j0, Bool.false_eq_true, if_false]
  have e1 : wrap64 ((A.length : Int) + (B.length : Int)) = ((A.length + B.length : Nat) : Int) := by rw [w64 (by omega) (by omega)]; omega
  have e2 : wrap64 (((A.length + B.length : Nat) : Int) - 1) = ((A.length + B.length - 1 : Nat) : Int) := by rw [w64 (by omega) (by omega)]; omega
  rw [ints_length, ints_length, e1, e2, if_pos (by clear e1 e2; omega), if_pos (by clear e1 e2; omega), Int.toNat_natCast]
  rfl
theorem plus_l {A : Nat} (a b out0 : List Nat) (hb : ∀ y ∈ b, y < 256) (la : a.length ≤ 100000) (hle : b.length ≤ a.length) (X0 X1 : List Int) (h0 : X0.length = a.length) (h1 : X1.length = b.length) (d : Nat) :
    ∀ (j : Nat) (out : List Nat), j + d = b.length → out.length = a.length → (∀ y ∈ out, y < 256) →
    Ev (fun k => galois_plus.l0 k X0 X1 (ints out) (ints b) (b.length : Int) (j : Int)) (ints (trimN (xadd out (a.length - b.length + j) (b.drop j)))) ∧
    Ev (fun k => galois_plus.l101 k X0 X1 (ints out) (ints b) (b.length : Int) (j : Int)) (ints (trimN (xadd out (a.length - b.length + j) (b.drop j)))) := by
  induction d with
  | zero =>
    intro j out hj ho hl
    rw [List.drop_of_length_le (by omega)]
    constructor
    · refine Ev.step (f := fun _ => some (ints (trimN out))) (fun k => ?_) (Ev.now _)
      simp only [galois_plus.l0]
      rw [if_neg (by omega), trim_f out (by omega)]
      rfl
    · refine Ev.step (f := fun _ => some (ints (trimN out))) (fun k => ?_) (Ev.now _)
      simp only [galois_plus.l101]
      rw [if_neg (by omega), trim_f out (by omega)]
      rfl
  | succ d ih =>
    intro j out hj ho hl
    have hjl : j < b.length := by omega
    have ly : b.getD j 0 < 256 := getD_lt hb j
    have lo : out.getD (a.length - b.length + j) 0 < 256 := getD_lt hl _
    have lx : out.getD (a.length - b.length + j) 0 ^^^ b.getD j 0 < 256 := Nat.xor_lt_two_pow (n := 8) lo ly
    rw [drop_get hjl, xadd, Nat.add_assoc]
    obtain ⟨g1, g2⟩ := ih (j + 1) (out.set (a.length - b.length + j) (out.getD (a.length - b.length + j) 0 ^^^ b.getD j 0)) (by omega) (by rw [List.length_set]; exact ho) (set_lt hl lx)
    have c1 : (j : Int) < (b.length : Int) := by omega
    have c2 : (0 : Int) ≤ (j : Int) := by omega
    have c3 : (j : Int) < ((ints b).length : Int) := by rw [ints_length]; omega
    have c4 : (0 : Int) ≤ ((a.length - b.length + j : Nat) : Int) := by omega
    have c5 : ((a.length - b.length + j : Nat) : Int) < ((ints out).length : Int) := by rw [ints_length, ho]; omega
    have ej : wrap64 ((j : Int) + 1) = ((j + 1 : Nat) : Int) := w64s (by omega)
    have e1 : wrap64 ((wrap64 ((X0.length : Int) - (X1.length : Int))) + (j : Int)) = ((a.length - b.length + j : Nat) : Int) := by
      clear ej
      rw [h0, h1, w64 (n := (a.length : Int) - (b.length : Int)) (by omega) (by omega), w64 (by omega) (by omega)]
      omega
    constructor
    · refine Ev.step (fun k => ?_) g1
      simp only [galois_plus.l0]
      rw [if_pos c1, if_pos c2, if_pos c3, e1, if_pos c4, if_pos c5, rd_ints, rd_ints, bxor8 _ _ lo ly, set_ints, ej]
    · refine Ev.step (fun k => ?_) g2
      simp only [galois_plus.l101]
      rw [if_pos c1, if_pos c2, if_pos c3, e1, if_pos c4, if_pos c5, rd_ints, rd_ints, bxor8 _ _ lo ly, set_ints, ej]
theorem plus_f (a b : List Nat) (ha : ∀ y ∈ a, y < 256) (hb : ∀ y ∈ b, y < 256) (la : a.length ≤ 100000) (lb : b.length ≤ 100000) :
    Ev (fun k => galois_plus.f k (ints a) (ints b)) (ints (plusN a b)) := by
  unfold galois_plus.f plusN
  rw [ints_length, ints_length]
  by_cases c : a.length < b.length
  · rw [if_pos c]
    have h := (plus_l (A := 0) b a [] ha lb (by omega) (ints b) (ints a) (ints_length b) (ints_length a) a.length 0 b (by omega) rfl hb).1
    rw [Nat.add_zero, List.drop_zero] at h
    exact ev_pos (by omega) (ev_pos (by simp only [List.length_nil]; omega) h)
  · rw [if_neg c]
    have h := (plus_l (A := 0) a b [] hb la (by omega) (ints a) (ints b) (ints_length a) (ints_length b) b.length 0 a (by omega) rfl ha).2
    rw [Nat.add_zero, List.drop_zero] at h
    exact ev_neg (by omega) (ev_pos (by simp only [List.length_nil]; omega) h)
theorem refPlus_l1 (X1 b : List Nat) (n : Nat) (hb : ∀ y ∈ b, y < 256) (ln : n ≤ 100000) (hle : b.length ≤ n) (d : Nat) :
    ∀ (j : Nat) (out : List Nat), j + d = b.length → out.length = n → (∀ y ∈ out, y < 256) →
    Ev (fun k => r3_plus.l1 k (ints b) (n : Int) (ints out) (j : Int)) (ints (trimN (xadd out (n - b.length + j) (b.drop j)))) := by
  induction d with
  | zero =>
    intro j out hj ho hl
    rw [List.drop_of_length_le (by omega)]
    refine Ev.step (f := fun k => (r3_Trim.f k (ints out)).bind fun t => some t) (fun k => ?_) (Ev.bind (refTrim_f out (by omega)) (Ev.now _))
    simp only [r3_plus.l1]
    rw [if_neg (by rw [ints_length]; omega)]
  | succ d ih =>
    intro j out hj ho hl
    have hjl : j < b.length := by omega
    have ly : b.getD j 0 < 256 := getD_lt hb j
    have lo : out.getD (n - b.length + j) 0 < 256 := getD_lt hl _
    have lx : out.getD (n - b.length + j) 0 ^^^ b.getD j 0 < 256 := Nat.xor_lt_two_pow (n := 8) lo ly
    rw [drop_get hjl, xadd, Nat.add_assoc]
    have g1 := ih (j + 1) (out.set (n - b.length + j) (out.getD (n - b.length + j) 0 ^^^ b.getD j 0)) (by omega) (by rw [List.length_set]; exact ho) (set_lt hl lx)
    have c1 : (j : Int) < ((ints b).length : Int) := by rw [ints_length]; omega
    have c2 : (0 : Int) ≤ (j : Int) := by omega
    have c4 : (0 : Int) ≤ ((n - b.length + j : Nat) : Int) := by omega
    have c5 : ((n - b.length + j : Nat) : Int) < ((ints out).length : Int) := by rw [ints_length, ho]; omega
    have ej : wrap64 ((j : Int) + 1) = ((j + 1 : Nat) : Int) := w64s (by omega)
    have e1 : wrap64 ((wrap64 ((n : Int) - ((ints b).length : Int))) + (j : Int)) = ((n - b.length + j : Nat) : Int) := by
      clear ej
      rw [ints_length, w64 (n := (n : Int) - (b.length : Int)) (by omega) (by omega), w64 (by omega) (by omega)]
      omega
    refine Ev.step (fun k => ?_) g1
    simp only [r3_plus.l1]
    rw [if_pos c1, e1, if_pos c4, if_pos c5, if_pos c2, rd_ints, rd_ints, bxor8 _ _ lo ly, set_ints, ej]
theorem refPlus_l0 (a b : List Nat) (n : Nat) (ha : ∀ y ∈ a, y < 256) (hb : ∀ y ∈ b, y < 256) (ln : n ≤ 100000) (hla : a.length ≤ n) (hlb : b.length ≤ n) (d : Nat) : ∀ (i : Nat), i + d = a.length →
    Ev (fun k => r3_plus.l0 k (ints a) (ints b) (n : Int) (ints ((List.replicate (n - a.length) 0 ++ a.take i) ++ List.replicate d 0)) (i : Int)) (ints (trimN (xadd (List.replicate (n - a.length) 0 ++ a) (n - b.length) b))) := by
  induction d with
  | zero =>
    intro i hi
    have h := refPlus_l1 [] b n hb ln hlb b.length 0 (List.replicate (n - a.length) 0 ++ a) (by omega) (by simp; omega) (fun y hy => by rcases List.mem_append.1 hy with hy | hy; rw [List.eq_of_mem_replicate hy]; omega; exact ha y hy)
    rw [Nat.add_zero, List.drop_zero] at h
    refine Ev.step (fun k => ?_) h
    simp only [r3_plus.l0]
    rw [if_neg (by rw [ints_length]; omega), List.take_of_length_le (by omega), List.replicate_zero, List.append_nil]
    rfl
  | succ d ih =>
    intro i hi
    have hil : i < a.length := by omega
    have g := ih (i + 1) (by omega)
    have hlen : (List.replicate (n - a.length) 0 ++ a.take i).length = n - a.length + i := by rw [List.length_append, List.length_replicate, List.length_take]; omega
    have es : ((List.replicate (n - a.length) 0 ++ a.take i) ++ List.replicate (d + 1) 0).set (n - a.length + i) (a.getD i 0) = (List.replicate (n - a.length) 0 ++ a.take (i + 1)) ++ List.replicate d 0 := by
      have et : a.take (i + 1) = a.take i ++ [a.getD i 0] := by
        rw [List.take_succ_eq_append_getElem hil, List.getD_eq_getElem?_getD, List.getElem?_eq_getElem hil]
        rfl
      rw [List.replicate_succ, ← hlen, set_mid, et]
      simp only [List.append_assoc, List.cons_append, List.nil_append]
    have c1 : (i : Int) < ((ints a).length : Int) := by rw [ints_length]; omega
    have c2 : (0 : Int) ≤ (i : Int) := by omega
    have c4 : (0 : Int) ≤ ((n - a.length + i : Nat) : Int) := by omega
    have c5 : ((n - a.length + i : Nat) : Int) < ((ints ((List.replicate (n - a.length) 0 ++ a.take i) ++ List.replicate (d + 1) 0)).length : Int) := by rw [ints_length, List.length_append, hlen, List.length_replicate]; omega
    have ej : wrap64 ((i : Int) + 1) = ((i + 1 : Nat) : Int) := w64s (by omega)
    have e1 : wrap64 ((wrap64 ((n : Int) - ((ints a).length : Int))) + (i : Int)) = ((n - a.length + i : Nat) : Int) := by
      clear ej
      rw [ints_length, w64 (n := (n : Int) - (a.length : Int)) (by omega) (by omega), w64 (by omega) (by omega)]
      omega
    rw [← es] at g
    refine Ev.step (fun k => ?_) g
    simp only [r3_plus.l0]
    rw [if_pos c1, if_pos c2, e1, if_pos c4, if_pos c5, rd_ints, set_ints, ej]
theorem getD_pad (z : Nat) (a : List Nat) (i : Nat) : (List.replicate z 0 ++ a).getD i 0 = if z ≤ i then a.getD (i - z) 0 else 0 := by
  simp only [List.getD_eq_getElem?_getD]
  by_cases c : z ≤ i
  · rw [if_pos c, List.getElem?_append_right (by simpa using c), List.length_replicate]
  · rw [if_neg c, List.getElem?_append_left (by simp; omega), List.getElem?_replicate, if_pos (by omega)]
    rfl
theorem refPlus_f (a b : List Nat) (ha : ∀ y ∈ a, y < 256) (hb : ∀ y ∈ b, y < 256) (la : a.length ≤ 100000) (lb : b.length ≤ 100000) :
    Ev (fun k => r3_plus.f k (ints a) (ints b)) (ints (plusN a b)) := by
  unfold r3_plus.f plusN
  rw [ints_length, ints_length]
  have key : ∀ n : Nat, n ≤ 100000 → a.length ≤ n → b.length ≤ n → Ev (fun k => r3_plus.j0 k (ints a) (ints b) (n : Int)) (ints (trimN (xadd (List.replicate (n - a.length) 0 ++ a) (n - b.length) b))) := by
    intro n hn h1 h2
    have h := refPlus_l0 a b n ha hb hn h1 h2 a.length 0 (by omega)
    refine Ev.step (fun k => ?_) h
    simp only [r3_plus.j0]
    rw [if_pos (by omega), if_pos (by omega), Int.toNat_natCast, List.take_zero, List.append_nil, List.replicate_append_replicate, show n - a.length + a.length = n by omega, ints_replicate]
    rfl
  by_cases c : a.length < b.length
  · rw [if_pos c]
    refine ev_pos (by omega) ?_
    have h := key b.length lb (by omega) (Nat.le_refl _)
    rw [Nat.sub_self] at h
    rw [show xadd b (b.length - a.length) a = xadd (List.replicate (b.length - a.length) 0 ++ a) 0 b from ?_]
    · exact h
    · refine list_ext_getD (by rw [xadd_length, xadd_length]; simp; omega) (fun i => ?_)
      rw [xadd_getD _ _ _ _ (by omega), xadd_getD _ _ _ _ (by simp; omega), getD_pad, if_pos (Nat.zero_le i), Nat.sub_zero, Nat.xor_comm]
  · rw [if_neg c]
    refine ev_neg (by omega) ?_
    have h := key a.length la (Nat.le_refl _) (by omega)
    rw [Nat.sub_self, List.replicate_zero, List.nil_append] at h
    exact h
end Go.Proofs.Ytjdkamhnbheofaa.GalP
