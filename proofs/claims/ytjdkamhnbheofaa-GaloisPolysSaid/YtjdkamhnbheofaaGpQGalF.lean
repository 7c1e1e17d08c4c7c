/- Polynomials over a field: quotient, rest and Gcd of the program; rows of elements. -/
import Derived.Test.YtjdkamhnbheofaaGpQGalD
import Derived.Test.YtjdkamhnbheofaaGpQGalV
import Derived.Test.YtjdkamhnbheofaaGpPx9
import Derived.Test.YtjdkamhnbheofaaGpPx10
import Derived.Test.YtjdkamhnbheofaaGpPx6
import Derived.Test.YtjdkamhnbheofaaGpPx8
set_option linter.unusedVariables false
set_option linter.unusedSimpArgs false
namespace Go.Proofs.Ytjdkamhnbheofaa.GalP
open Go.RowKit Go.Proofs.Ytjdkamhnbheofaa.P Go.Proofs.YtjdkamhnbheofaaW.PrintWords Go.Proofs.YtjdkamhnbheofaaW.PrintLast Go.Proofs.YtjdkamhnbheofaaW.PrintMore Go.Proofs.YtjdkamhnbheofaaW.Q
open Go.Proofs.Ytjdkamhnbheofaa.Gal
theorem trim_prod_nil {m p : Nat} (F : Fi m p) (A : List Nat) : trimN (prod p m A []) = [] := by
  have h : prod p m A [] = List.replicate (A.length + 0 - 1) 0 := by
    refine list_ext_getD (by rw [prod_length, List.length_replicate, List.length_nil]) (fun k => ?_)
    rw [prod_getD F, getD_rep]
    induction A generalizing k with
    | nil => rfl
    | cons x A ih =>
      rw [Pc, ih]
      simp only [ite_self, Nat.xor_zero]
      exact F.mu_zero_right x
  rw [h]
  exact trim_rep _
theorem times_any {m p : Nat} (F : Fi m p) (A B : List Nat) (hA : ∀ y ∈ A, y < 2 ^ m) (hB : ∀ y ∈ B, y < 2 ^ m) (la : A.length ≤ 1000000) (lb : B.length ≤ 1000000) :
    Ev (fun k => gT_times.f k (tab m p) (ints A) (ints B)) (ints (trimN (prod p m A B))) := by
  by_cases ha0 : A = []
  · subst ha0
    have e : trimN (prod p m [] B) = [] := by unfold prod prodr; exact trim_rep _
    rw [e]
    unfold gT_times.f
    refine ev_pos rfl (Ev.step (f := fun _ => some []) (fun k => ?_) (Ev.now _))
    simp only [gT_times.j0, if_true]
  · by_cases hb0 : B = []
    · subst hb0
      have e : trimN (prod p m A []) = [] := trim_prod_nil F A
      rw [e]
      unfold gT_times.f
      have hl := List.length_pos_iff.2 ha0
      refine ev_neg (by rw [ints_length]; omega) (Ev.step (f := fun _ => some []) (fun k => ?_) (Ev.now _))
      simp only [gT_times.j0]
      rfl
    · exact times_f F A B hA hB la lb ha0 hb0
section
variable {m p : Nat} (F : Fi m p) {B : List Nat} (hB : ∀ y ∈ B, y < 2 ^ m) (lB : B.length ≤ 100000)
include F hB lB
theorem div_l1 (v c : Nat) (hc : c < 2 ^ m) (X6 : List Int) (r : List Int × List Int) (d : Nat) : ∀ (j : Nat) (out : List Nat), j + d = B.length → B.length ≤ out.length → 1 ≤ out.length → (∀ y ∈ out, y < 2 ^ m) →
    Ev (fun k => gT_divide.l0 k (tab m p) (ints ((xadd out j ((B.drop j).map (mu p m c))).drop 1)) (ints B) X6 (v : Int)) r →
    Ev (fun k => gT_divide.l1 k (tab m p) (ints out) (ints B) X6 (v : Int) (c : Int) (ints B) (B.length : Int) (j : Int)) r := by
  have h256 := F.sz256
  induction d with
  | zero =>
    intro j out hj ho h1 hl hk
    rw [show B.drop j = [] from List.drop_of_length_le (by omega), List.map_nil, xadd] at hk
    refine Ev.step (fun k => ?_) hk
    simp only [gT_divide.l1]
    rw [if_neg (by omega), if_pos (by rw [ints_length]; omega), ← ints_drop]
    rfl
  | succ d ih =>
    intro j out hj ho h1 hl hk
    have hjl : j < B.length := by omega
    have ly : B.getD j 0 < 2 ^ m := getD_lt' F.zero_lt hB j
    have lo := getD_lt' F.zero_lt hl j
    have lm := F.mu_lt (b := B.getD j 0) hc
    have lx := Nat.xor_lt_two_pow lo lm
    rw [drop_get hjl, List.map_cons, xadd] at hk
    have g := ih (j + 1) _ (by omega) (by rw [List.length_set]; exact ho) (by rw [List.length_set]; exact h1) (mem_set_lt hl j lx) hk
    have c1 : (j : Int) < (B.length : Int) := by omega
    have c2 : (0 : Int) ≤ (j : Int) := by omega
    have c3 : (j : Int) < ((ints B).length : Int) := by rw [ints_length]; omega
    have c5 : (j : Int) < ((ints out).length : Int) := by rw [ints_length]; omega
    have c6 : 0 < (tab m p).size := by rw [tab_size]; have := F.sz8; omega
    have b1 : out.getD j 0 < 256 := by omega
    have b2 : mu p m c (B.getD j 0) < 256 := by omega
    have ej : wrap64 ((j : Int) + 1) = ((j + 1 : Nat) : Int) := w64s (by omega)
    refine Ev.step (fun k => ?_) g
    simp only [gT_divide.l1]
    rw [if_pos c1, if_pos c2, if_pos c3, if_pos c5, if_pos c6, rd_ints, mulc_f F hc ly]
    simp only [Option.bind_some]
    rw [rd_ints, bxor8 _ _ b1 b2, set_ints, ej]
theorem div_l0 (hb0 : B ≠ []) (v : Nat) (hv : v < 2 ^ m) (d : Nat) : ∀ (a q : List Nat), a.length + 1 - B.length = d → a.length ≤ 100000 → q.length + d ≤ 1000000 → (∀ y ∈ a, y < 2 ^ m) →
    Ev (fun k => gT_divide.l0 k (tab m p) (ints a) (ints B) (ints q) (v : Int)) (ints (trimN (q ++ (dvR p m B v d a).1)), ints (trimN (dvR p m B v d a).2)) := by
  have hl := List.length_pos_iff.2 hb0
  induction d with
  | zero =>
    intro a q h la lq ha
    rw [dvR]
    refine Ev.step (f := fun _ => some (ints (trimN (q ++ [])), ints (trimN a))) (fun k => ?_) (Ev.now _)
    simp only [gT_divide.l0]
    rw [if_neg (by rw [ints_length, ints_length]; omega), trim_f q (by omega)]
    simp only [Option.bind_some]
    rw [trim_f a (by omega), List.append_nil]
    rfl
  | succ d ih =>
    intro a q h la lq ha
    have h0 : a.getD 0 0 < 2 ^ m := getD_lt' F.zero_lt ha 0
    have hc : mu p m (a.getD 0 0) v < 2 ^ m := F.mu_lt h0
    have g := ih (stN p m B v a) (q ++ [mu p m (a.getD 0 0) v]) (by rw [stN_length]; omega) (by rw [stN_length]; omega) (by rw [List.length_append, List.length_singleton]; omega) (stN_lt F hB ha)
    rw [List.append_assoc, List.singleton_append] at g
    rw [dvR]
    have g1 := div_l1 F hB lB v (mu p m (a.getD 0 0) v) hc (ints (q ++ [mu p m (a.getD 0 0) v])) _ B.length 0 a (by omega) (by omega) (by omega) ha g
    refine Ev.step (fun k => ?_) g1
    simp only [gT_divide.l0]
    have c6 : 0 < (tab m p).size := by rw [tab_size]; have := F.sz8; omega
    have e0 : rd (ints a) 0 = ((a.getD 0 0 : Nat) : Int) := rd_ints a 0
    rw [if_pos (by rw [ints_length, ints_length]; omega), if_pos c6, if_pos (by rw [ints_length]; omega), e0, mulc_f F h0 hv]
    simp only [Option.bind_some]
    rw [if_pos (by rw [ints_length]; omega), ints_length, ints_append]
    rfl
end
theorem divide_f {m p : Nat} (F : Fi m p) (a b : List Nat) (ha : ∀ y ∈ a, y < 2 ^ m) (hb : ∀ y ∈ b, y < 2 ^ m) (la : a.length ≤ 100000) (lb : b.length ≤ 100000) (hb0 : trimN b ≠ []) :
    Ev (fun k => gT_divide.f k (tab m p) (ints a) (ints b)) (ints (divN p m a b).1, ints (divN p m a b).2) := by
  have l1 := trimN_length a
  have l2 := trimN_length b
  have hl := List.length_pos_iff.2 hb0
  obtain ⟨i1, i2, i3⟩ := inv_head F (tr_trim b) hb0 (fun y hy => hb y (trimN_mem hy))
  have e0 : rd (ints (trimN b)) 0 = (((trimN b).getD 0 0 : Nat) : Int) := rd_ints (trimN b) 0
  unfold gT_divide.f
  rw [trim_f a (by omega), trim_f b (by omega)]
  simp only [Option.bind_some]
  refine ev_pos (by rw [ints_length]; omega) ?_
  rw [e0, inv_t F i1 i2]
  simp only [Option.bind_some]
  have h := div_l0 F (fun y hy => hb y (trimN_mem hy)) (by omega) hb0 (iv p m ((trimN b).getD 0 0)) (iv_lt F _) ((trimN a).length + 1 - (trimN b).length) (trimN a) [] rfl (by omega) (by rw [List.length_nil]; omega) (fun y hy => ha y (trimN_mem hy))
  exact h
theorem mem2 {P : List Nat → Prop} {a b : List Nat} (ha : P a) (hb : P b) : ∀ C ∈ [a, b], P C := fun C hC => by
  rcases List.mem_cons.1 hC with rfl | hC
  · exact ha
  · rw [List.mem_singleton.1 hC]; exact hb
theorem lists2 {m p : Nat} (F : Fi m p) (a b : List Nat) (ha : ∀ y ∈ a, y < 2 ^ m) (hb : ∀ y ∈ b, y < 2 ^ m) (la : a.length ≤ 1024) (lb : b.length ≤ 1024) :
    Ev (fun k => gT_lists.f k (tab m p) [ints a, ints b]) 0 :=
  lists_ok F [a, b] (by simp) (mem2 (P := fun C => C.length ≤ 1024) la lb) (mem2 (P := fun C => ∀ x ∈ C, x < 2 ^ m) ha hb)
theorem Divide_t {m p : Nat} (F : Fi m p) (a b : List Nat) (ha : ∀ y ∈ a, y < 2 ^ m) (hb : ∀ y ∈ b, y < 2 ^ m) (la : a.length ≤ 1024) (lb : b.length ≤ 1024) (hb0 : trimN b ≠ []) :
    Ev (fun k => gT_Divide.f k (tab m p) (ints a) (ints b)) (ints (divN p m a b).1, ints (divN p m a b).2, 0) := by
  have hl := List.length_pos_iff.2 hb0
  unfold gT_Divide.f
  refine Ev.bind (lists2 F a b ha hb la lb) (ev_pos rfl ?_)
  simp only [trim_f b (show b.length ≤ 281474976710656 by omega), Option.bind_some]
  exact ev_neg (by rw [ints_length]; omega) (Ev.bind (divide_f F a b ha hb (by omega) (by omega) hb0) (Ev.now _))
theorem Divide_0 {m p : Nat} (F : Fi m p) (a b : List Nat) (ha : ∀ y ∈ a, y < 2 ^ m) (hb : ∀ y ∈ b, y < 2 ^ m) (la : a.length ≤ 1024) (lb : b.length ≤ 1024) (hb0 : trimN b = []) :
    Ev (fun k => gT_Divide.f k (tab m p) (ints a) (ints b)) ([], [], 20) := by
  unfold gT_Divide.f
  refine Ev.bind (lists2 F a b ha hb la lb) (ev_pos rfl ?_)
  simp only [trim_f b (show b.length ≤ 281474976710656 by omega), Option.bind_some]
  exact ev_pos (by rw [hb0]; rfl) (Ev.now _)
/-- The greatest common divisor. -/
def finN (p m : Nat) (a : List Nat) : List Nat := if a = [] then [] else trimN (prod p m a [iv p m (a.getD 0 0)])
def gcN (p m : Nat) : Nat → List Nat → List Nat → List Nat
  | 0, a, _ => finN p m a
  | d + 1, a, b => if b = [] then finN p m a else gcN p m d b (divN p m a b).2
theorem fin_f {m p : Nat} (F : Fi m p) (a : List Nat) (ta : Tr a) (ha : ∀ y ∈ a, y < 2 ^ m) (la : a.length ≤ 100000) :
    Ev (fun k => gT_Gcd.l0 k (tab m p) (ints a) []) (ints (finN p m a), 0) := by
  unfold finN
  by_cases c : a = []
  · subst c
    rw [if_pos rfl]
    refine Ev.step (f := fun _ => some (ints [], 0)) (fun k => ?_) (Ev.now _)
    simp only [gT_Gcd.l0]
    rfl
  · rw [if_neg c]
    have hl := List.length_pos_iff.2 c
    obtain ⟨i1, i2, i3⟩ := inv_head F ta c ha
    have e0 : rd (ints a) 0 = ((a.getD 0 0 : Nat) : Int) := rd_ints a 0
    have h := times_any F a [iv p m (a.getD 0 0)] ha (fun y hy => by rw [List.mem_singleton.1 hy]; exact iv_lt F _) (by omega) (by simp)
    refine Ev.step (f := fun k => (gT_times.f k (tab m p) (ints a) (ints [iv p m (a.getD 0 0)])).bind fun t => some (t, 0)) (fun k => ?_) (Ev.bind h (Ev.now _))
    simp only [gT_Gcd.l0]
    rw [if_neg (by simp), if_neg (by rw [ints_length]; omega), if_pos (by rw [ints_length]; omega), e0, inv_t F i1 i2]
    rfl
theorem gcd_l0 {m p : Nat} (F : Fi m p) (d : Nat) : ∀ (a b : List Nat), Tr a → Tr b → (∀ y ∈ a, y < 2 ^ m) → (∀ y ∈ b, y < 2 ^ m) → a.length ≤ 100000 → b.length ≤ 100000 → b.length ≤ d →
    Ev (fun k => gT_Gcd.l0 k (tab m p) (ints a) (ints b)) (ints (gcN p m d a b), 0) := by
  induction d with
  | zero =>
    intro a b ta tb ha hb la lb hd
    have : b = [] := List.length_eq_zero_iff.1 (by omega)
    subst this
    rw [gcN]
    exact fin_f F a ta ha la
  | succ d ih =>
    intro a b ta tb ha hb la lb hd
    rw [gcN]
    by_cases c : b = []
    · subst c
      rw [if_pos rfl]
      exact fin_f F a ta ha la
    · rw [if_neg c]
      have hl := List.length_pos_iff.2 c
      have eb : trimN b = b := tb
      have hbt : trimN b ≠ [] := by rw [eb]; exact c
      have h1 := divN_length p m a b hbt
      rw [eb] at h1
      have h2 := divN_lt F ha hb
      have g := ih b (divN p m a b).2 tb (by unfold divN; exact tr_trim _) hb h2.2 lb (by omega) (by omega)
      refine Ev.step (f := fun k => (gT_divide.f k (tab m p) (ints a) (ints b)).bind fun t => gT_Gcd.l0 k (tab m p) (ints b) t.2) (fun k => ?_) (Ev.bind (divide_f F a b ha hb la lb hbt) g)
      simp only [gT_Gcd.l0]
      rw [if_pos (by rw [ints_length]; omega)]
theorem Gcd_t {m p : Nat} (F : Fi m p) (a b : List Nat) (ha : ∀ y ∈ a, y < 2 ^ m) (hb : ∀ y ∈ b, y < 2 ^ m) (la : a.length ≤ 1024) (lb : b.length ≤ 1024) :
    Ev (fun k => gT_Gcd.f k (tab m p) (ints a) (ints b)) (ints (gcN p m (trimN b).length (trimN a) (trimN b)), 0) := by
  have l1 := trimN_length a
  have l2 := trimN_length b
  unfold gT_Gcd.f
  refine Ev.bind (lists2 F a b ha hb la lb) (ev_pos rfl ?_)
  simp only [trim_f a (show a.length ≤ 281474976710656 by omega), trim_f b (show b.length ≤ 281474976710656 by omega), Option.bind_some]
  exact gcd_l0 F _ (trimN a) (trimN b) (tr_trim a) (tr_trim b) (fun y hy => ha y (trimN_mem hy)) (fun y hy => hb y (trimN_mem hy)) (by omega) (by omega) (Nat.le_refl _)
end Go.Proofs.Ytjdkamhnbheofaa.GalP
