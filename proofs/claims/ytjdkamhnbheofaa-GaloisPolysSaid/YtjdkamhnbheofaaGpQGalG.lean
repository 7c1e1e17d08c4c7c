/- Polynomials over a field: every one of Eval, Plus, Times, Divide, Gcd, Derive, Roots, the program's and the document's: the same. -/
import Derived.Test.YtjdkamhnbheofaaGpQGalI
import Derived.Test.YtjdkamhnbheofaaGpPx12
import Derived.Test.YtjdkamhnbheofaaGpPx14
import Derived.Test.YtjdkamhnbheofaaGpPx15
import Derived.Test.YtjdkamhnbheofaaGpPx16
import Derived.Test.YtjdkamhnbheofaaGpPx18
import Derived.Test.YtjdkamhnbheofaaGpPx19
import Derived.Test.YtjdkamhnbheofaaGpPx20
set_option linter.unusedVariables false
set_option linter.unusedSimpArgs false
namespace Go.Proofs.Ytjdkamhnbheofaa.GalP
open Go.RowKit Go.Proofs.Ytjdkamhnbheofaa.P Go.Proofs.YtjdkamhnbheofaaW.PrintWords Go.Proofs.YtjdkamhnbheofaaW.PrintLast Go.Proofs.YtjdkamhnbheofaaW.PrintMore Go.Proofs.YtjdkamhnbheofaaW.Q
open Go.Proofs.Ytjdkamhnbheofaa.Gal
theorem refProd_any {m p : Nat} (F : Fi m p) (A B : List Nat) (hA : ∀ y ∈ A, y < 2 ^ m) (hB : ∀ y ∈ B, y < 2 ^ m) (la : A.length ≤ 100000) (lb : B.length ≤ 100000) :
    Ev (fun k => r3_product.f k (m : Int) (p : Int) (ints A) (ints B)) (ints (trimN (prod p m A B))) := by
  by_cases ha0 : A = []
  · subst ha0
    have e : trimN (prod p m [] B) = [] := by unfold prod prodr; exact trim_rep _
    rw [e]
    unfold r3_product.f
    refine ev_pos rfl (Ev.step (f := fun _ => some []) (fun k => ?_) (Ev.now _))
    simp only [r3_product.j0, if_true]
  · by_cases hb0 : B = []
    · subst hb0
      rw [trim_prod_nil F A]
      unfold r3_product.f
      have hl := List.length_pos_iff.2 ha0
      refine ev_neg (by rw [ints_length]; omega) (Ev.step (f := fun _ => some []) (fun k => ?_) (Ev.now _))
      simp only [r3_product.j0]
      rfl
    · exact refProd_f F A B hA hB la lb ha0 hb0
section
variable {m p : Nat} (F : Fi m p) {B : List Nat} (hB : ∀ y ∈ B, y < 2 ^ m) (lB : B.length ≤ 100000)
include F hB lB
theorem refdiv_l1 (v c : Nat) (hc : c < 2 ^ m) (X6 : List Int) (r : List Int × List Int) (d : Nat) : ∀ (j : Nat) (out : List Nat), j + d = B.length → B.length ≤ out.length → 1 ≤ out.length → (∀ y ∈ out, y < 2 ^ m) →
    Ev (fun k => r3_divide.l0 k (ints B) (ints ((xadd out j ((B.drop j).map (mu p m c))).drop 1)) (v : Int) X6 (m : Int) (p : Int)) r →
    Ev (fun k => r3_divide.l1 k (ints B) (ints out) (v : Int) X6 (c : Int) (j : Int) (m : Int) (p : Int)) r := by
  have h256 := F.sz256
  induction d with
  | zero =>
    intro j out hj ho h1 hl hk
    rw [show B.drop j = [] from List.drop_of_length_le (by omega), List.map_nil, xadd] at hk
    refine Ev.step (fun k => ?_) hk
    simp only [r3_divide.l1]
    rw [if_neg (by rw [ints_length]; omega), if_pos (by rw [ints_length]; omega), ← ints_drop]
    rfl
  | succ d ih =>
    intro j out hj ho h1 hl hk
    have hjl : j < B.length := by omega
    have ly : B.getD j 0 < 2 ^ m := getD_lt' F.zero_lt hB j
    have lo := getD_lt' F.zero_lt hl j
    have lm := F.mu_lt (b := B.getD j 0) hc
    have lx := Nat.xor_lt_two_pow lo lm
    rw [drop_get hjl, List.map_cons, xadd] at hk
    have g := ih (j + 1) _ (by omega) (by rw [List.length_set]; exact ho) (by rw [List.length_set]; exact h1) (mem_set_lt hl j lx) hk
    have c2 : (0 : Int) ≤ (j : Int) := by omega
    have c3 : (j : Int) < ((ints B).length : Int) := by rw [ints_length]; omega
    have c5 : (j : Int) < ((ints out).length : Int) := by rw [ints_length]; omega
    have b1 : out.getD j 0 < 256 := by omega
    have b2 : mu p m c (B.getD j 0) < 256 := by omega
    have ej : wrap64 ((j : Int) + 1) = ((j + 1 : Nat) : Int) := w64s (by omega)
    refine Ev.step (f := fun k => (r3_quick.f k (m : Int) (p : Int) (c : Int) ((B.getD j 0 : Nat) : Int)).bind fun t => r3_divide.l1 k (ints B) ((ints out).set (j : Int).toNat (Go.bits .xor .u8 ((out.getD j 0 : Nat) : Int) t)) (v : Int) X6 (c : Int) ((j + 1 : Nat) : Int) (m : Int) (p : Int)) (fun k => ?_) (Ev.bind (quick_f F hc ly) (by rw [bxor8 _ _ b1 b2, set_ints]; exact g))
    simp only [r3_divide.l1]
    rw [if_pos c3, if_pos c2, if_pos c5, ej]
    simp only [rd_ints]
theorem refdiv_l0 (hb0 : B ≠ []) (v : Nat) (hv : v < 2 ^ m) (d : Nat) : ∀ (a q : List Nat), a.length + 1 - B.length = d → a.length ≤ 100000 → q.length + d ≤ 1000000 → (∀ y ∈ a, y < 2 ^ m) →
    Ev (fun k => r3_divide.l0 k (ints B) (ints a) (v : Int) (ints q) (m : Int) (p : Int)) (ints (trimN (q ++ (dvR p m B v d a).1)), ints (trimN (dvR p m B v d a).2)) := by
  have hl := List.length_pos_iff.2 hb0
  induction d with
  | zero =>
    intro a q h la lq ha
    rw [dvR]
    refine Ev.step (f := fun k => (r3_Trim.f k (ints q)).bind fun t => (r3_Trim.f k (ints a)).bind fun s => some (t, s)) (fun k => ?_) (Ev.bind (refTrim_f q (by omega)) (Ev.bind (refTrim_f a (by omega)) (by rw [List.append_nil]; exact Ev.now _)))
    simp only [r3_divide.l0]
    rw [if_neg (by rw [ints_length, ints_length]; omega)]
  | succ d ih =>
    intro a q h la lq ha
    have h0 : a.getD 0 0 < 2 ^ m := getD_lt' F.zero_lt ha 0
    have hc : mu p m (a.getD 0 0) v < 2 ^ m := F.mu_lt h0
    have g := ih (stN p m B v a) (q ++ [mu p m (a.getD 0 0) v]) (by rw [stN_length]; omega) (by rw [stN_length]; omega) (by rw [List.length_append, List.length_singleton]; omega) (stN_lt F hB ha)
    rw [List.append_assoc, List.singleton_append] at g
    rw [dvR]
    have g1 := refdiv_l1 F hB lB v (mu p m (a.getD 0 0) v) hc (ints (q ++ [mu p m (a.getD 0 0) v])) _ B.length 0 a (by omega) (by omega) (by omega) ha g
    rw [ints_append] at g1
    have e0 : rd (ints a) 0 = ((a.getD 0 0 : Nat) : Int) := rd_ints a 0
    refine Ev.step (f := fun k => (r3_quick.f k (m : Int) (p : Int) ((a.getD 0 0 : Nat) : Int) (v : Int)).bind fun t => if (ints q).length < 140737488355328 then r3_divide.l1 k (ints B) (ints a) (v : Int) (ints q ++ [t]) t 0 (m : Int) (p : Int) else none) (fun k => ?_) (Ev.bind (quick_f F h0 hv) (ev_pos (by rw [ints_length]; omega) g1))
    simp only [r3_divide.l0]
    rw [if_pos (by rw [ints_length, ints_length]; omega), if_pos (by rw [ints_length]; omega), e0]
end
theorem refdivide_f {m p : Nat} (F : Fi m p) (a b : List Nat) (ha : ∀ y ∈ a, y < 2 ^ m) (hb : ∀ y ∈ b, y < 2 ^ m) (la : a.length ≤ 100000) (lb : b.length ≤ 100000) (hb0 : trimN b ≠ []) :
    Ev (fun k => r3_divide.f k (m : Int) (p : Int) (ints a) (ints b)) (ints (divN p m a b).1, ints (divN p m a b).2) := by
  have l1 := trimN_length a
  have l2 := trimN_length b
  have hl := List.length_pos_iff.2 hb0
  obtain ⟨i1, i2, i3⟩ := inv_head F (tr_trim b) hb0 (fun y hy => hb y (trimN_mem hy))
  have e0 : rd (ints (trimN b)) 0 = (((trimN b).getD 0 0 : Nat) : Int) := rd_ints (trimN b) 0
  unfold r3_divide.f
  refine Ev.bind (refTrim_f a (by omega)) (Ev.bind (refTrim_f b (by omega)) (ev_pos (by rw [ints_length]; omega) ?_))
  rw [e0]
  refine Ev.bind (Inv_r F i1 i2) ?_
  exact refdiv_l0 F (fun y hy => hb y (trimN_mem hy)) (by omega) hb0 (iv p m ((trimN b).getD 0 0)) (iv_lt F _) ((trimN a).length + 1 - (trimN b).length) (trimN a) [] rfl (by omega) (by rw [List.length_nil]; omega) (fun y hy => ha y (trimN_mem hy))
theorem refFin_f {m p : Nat} (F : Fi m p) (a : List Nat) (ta : Tr a) (ha : ∀ y ∈ a, y < 2 ^ m) (la : a.length ≤ 100000) :
    Ev (fun k => r3_Gcd.l0 k (ints a) [] (m : Int) (p : Int)) (ints (finN p m a), 0) := by
  unfold finN
  by_cases c : a = []
  · subst c
    rw [if_pos rfl]
    refine Ev.step (f := fun _ => some (ints [], 0)) (fun k => ?_) (Ev.now _)
    simp only [r3_Gcd.l0]
    rfl
  · rw [if_neg c]
    have hl := List.length_pos_iff.2 c
    obtain ⟨i1, i2, i3⟩ := inv_head F ta c ha
    have e0 : rd (ints a) 0 = ((a.getD 0 0 : Nat) : Int) := rd_ints a 0
    have h := refProd_any F a [iv p m (a.getD 0 0)] ha (fun y hy => by rw [List.mem_singleton.1 hy]; exact iv_lt F _) (by omega) (by simp)
    refine Ev.step (f := fun k => (r3_Inv.f k (m : Int) (p : Int) ((a.getD 0 0 : Nat) : Int)).bind fun bt => (r3_product.f k (m : Int) (p : Int) (ints a) [bt.1]).bind fun t => some (t, 0)) (fun k => ?_) (Ev.bind (Inv_r F i1 i2) (Ev.bind h (Ev.now _)))
    simp only [r3_Gcd.l0]
    rw [if_neg (by simp), if_neg (by rw [ints_length]; omega), if_pos (by rw [ints_length]; omega), e0]
theorem refGcd_l0 {m p : Nat} (F : Fi m p) (d : Nat) : ∀ (a b : List Nat), Tr a → Tr b → (∀ y ∈ a, y < 2 ^ m) → (∀ y ∈ b, y < 2 ^ m) → a.length ≤ 100000 → b.length ≤ 100000 → b.length ≤ d →
    Ev (fun k => r3_Gcd.l0 k (ints a) (ints b) (m : Int) (p : Int)) (ints (gcN p m d a b), 0) := by
  induction d with
  | zero =>
    intro a b ta tb ha hb la lb hd
    have : b = [] := List.length_eq_zero_iff.1 (by omega)
    subst this
    rw [gcN]
    exact refFin_f F a ta ha la
  | succ d ih =>
    intro a b ta tb ha hb la lb hd
    rw [gcN]
    by_cases c : b = []
    · subst c
      rw [if_pos rfl]
      exact refFin_f F a ta ha la
    · rw [if_neg c]
      have hl := List.length_pos_iff.2 c
      have eb : trimN b = b := tb
      have hbt : trimN b ≠ [] := by rw [eb]; exact c
      have h1 := divN_length p m a b hbt
      rw [eb] at h1
      have h2 := divN_lt F ha hb
      have g := ih b (divN p m a b).2 tb (by unfold divN; exact tr_trim _) hb h2.2 lb (by omega) (by omega)
      refine Ev.step (f := fun k => (r3_divide.f k (m : Int) (p : Int) (ints a) (ints b)).bind fun t => r3_Gcd.l0 k (ints b) t.2 (m : Int) (p : Int)) (fun k => ?_) (Ev.bind (refdivide_f F a b ha hb la lb hbt) g)
      simp only [r3_Gcd.l0]
      rw [if_pos (by rw [ints_length]; omega)]
theorem gcN_length {m p : Nat} (d : Nat) : ∀ a b : List Nat, a.length ≤ 1024 → b.length ≤ 1024 → Tr b → (gcN p m d a b).length ≤ 1024 := by
  have fin : ∀ a : List Nat, a.length ≤ 1024 → (finN p m a).length ≤ 1024 := fun a la => by
    unfold finN
    split
    · simp
    · have h := trimN_length (prod p m a [iv p m (a.getD 0 0)])
      rw [prod_length, List.length_singleton] at h
      omega
  induction d with
  | zero => intro a b la lb tb; exact fin a la
  | succ d ih =>
    intro a b la lb tb
    rw [gcN]
    by_cases c : b = []
    · rw [if_pos c]; exact fin a la
    · rw [if_neg c]
      have eb : trimN b = b := tb
      have h1 := divN_length p m a b (by rw [eb]; exact c)
      rw [eb] at h1
      exact ih b _ lb (by omega) (by unfold divN; exact tr_trim _)
theorem refder_l (A : List Nat) (lA : A.length ≤ 100000) (d : Nat) : ∀ i, i + d = A.length - 1 →
    Ev (fun k => r3_Derive.l0 k (ints A) (ints ((derN A).take i)) (i : Int)) (ints (trimN (derN A)), 0) := by
  have hL := derN_length A
  induction d with
  | zero =>
    intro i hi
    rw [List.take_of_length_le (by omega)]
    have ei : wrap64 ((i : Int) + 1) = ((i + 1 : Nat) : Int) := w64s (by omega)
    refine Ev.step (f := fun k => (r3_Trim.f k (ints (derN A))).bind fun t => some (t, 0)) (fun k => ?_) (Ev.bind (refTrim_f _ (by omega)) (Ev.now _))
    simp only [r3_Derive.l0]
    rw [ei, if_neg (by clear ei; rw [ints_length]; omega)]
  | succ d ih =>
    intro i hi
    have g := ih (i + 1) (by omega)
    have ht := take_one (derN A) i (by omega)
    have hlen : ((derN A).take i).length = i := by rw [List.length_take]; omega
    have hd := derN_getD A i
    have c2 : (0 : Int) ≤ (i : Int) := by omega
    have ep := par_eq (n := A.length) (i := i) (by omega) (by omega)
    have ei : wrap64 ((i : Int) + 1) = ((i + 1 : Nat) : Int) := w64s (by omega)
    refine Ev.step (fun k => ?_) g
    simp only [r3_Derive.l0]
    rw [ei, ints_length, ep]
    clear ep ei
    rw [if_pos (by omega)]
    by_cases c : (A.length - 1 - i) % 2 = 1
    · rw [if_pos (by omega), if_pos c2, if_pos (by omega), if_pos (by rw [ints_length]; omega), rd_ints, ht, hd, if_pos ⟨by omega, c⟩, ints_append]
      rfl
    · rw [if_neg (by omega), if_pos (by rw [ints_length]; omega), ht, hd, if_neg (fun h => c h.2), ints_append]
      rfl
theorem refrts_l {m p : Nat} (F : Fi m p) (A : List Nat) (hA : ∀ y ∈ A, y < 2 ^ m) (lA : A.length ≤ 100000) (d : Nat) : ∀ i, i + d = 2 ^ m →
    Ev (fun k => r3_Roots.l0 k (ints A) (ints (rtN p m i A)) (i : Int) (m : Int) (p : Int)) (ints (rtN p m (2 ^ m) A), 0) := by
  have h256 := F.sz256
  induction d with
  | zero =>
    intro i hi
    have : i = 2 ^ m := by omega
    subst this
    refine Ev.step (f := fun _ => some (ints (rtN p m (2 ^ m) A), 0)) (fun k => ?_) (Ev.now _)
    simp only [r3_Roots.l0]
    rw [Size_r F]
    simp only [Option.bind_some]
    rw [if_neg (by omega)]
  | succ d ih =>
    intro i hi
    have hx : i < 2 ^ m := by omega
    have g := ih (i + 1) (by omega)
    rw [rtN_succ] at g
    have em : (i : Int) % 256 = (i : Int) := by omega
    have hl := rtN_length p m i A
    have ei : wrap64 ((i : Int) + 1) = ((i + 1 : Nat) : Int) := w64s (by omega)
    refine Ev.step (f := fun k => (r3_value.f k (m : Int) (p : Int) (ints A) (i : Int)).bind fun t => if t = 0 then (if (ints (rtN p m i A)).length < 140737488355328 then r3_Roots.l0 k (ints A) (ints (rtN p m i A) ++ [(i : Int)]) ((i + 1 : Nat) : Int) (m : Int) (p : Int) else none) else r3_Roots.l0 k (ints A) (ints (rtN p m i A)) ((i + 1 : Nat) : Int) (m : Int) (p : Int)) (fun k => ?_) (Ev.bind (value_f F hx A hA (by omega)) ?_)
    · simp only [r3_Roots.l0]
      rw [Size_r F]
      simp only [Option.bind_some]
      rw [if_pos (by clear ei em; omega), em, ei]
    · clear ei em
      by_cases c : hv p m A i = 0
      · rw [if_pos c, ints_append] at g
        exact ev_pos (by omega) (ev_pos (by rw [ints_length]; omega) g)
      · rw [if_neg c] at g
        exact ev_neg (by omega) g
/-! ### Both sides -/
theorem lerr_ok {m : Nat} {L : List (List Nat)} (c : lerr m L = 0) : ∀ B ∈ L, B.length ≤ 1024 ∧ ∀ x ∈ B, x < 2 ^ m := by
  unfold lerr at c
  by_cases c1 : L.all (fun B => decide (B.length ≤ 1024)) = true
  · rw [if_pos c1] at c
    by_cases c2 : L.all (elems m) = true
    · rw [List.all_eq_true] at c1 c2
      intro B hB
      have h2 := c2 B hB
      unfold elems at h2
      rw [List.all_eq_true] at h2
      exact ⟨of_decide_eq_true (c1 B hB), fun x hx => of_decide_eq_true (h2 x hx)⟩
    · rw [Bool.not_eq_true] at c2
      rw [c2] at c
      exact absurd c (by decide)
  · rw [if_neg c1] at c
    exact absurd c (by decide)
theorem lerr_nil (m : Nat) (A : List Nat) : lerr m [A, []] = lerr m [A] := by
  unfold lerr
  simp [elems]
section
variable {m p : Nat} (F : Fi m p) (A B : List Nat) (hA : ∀ x ∈ A, x < 256) (hB : ∀ x ∈ B, x < 256) (la : A.length ≤ 9223372036854775806) (lb : B.length ≤ 9223372036854775806)
include F hA la
theorem listsE1 : Ev (fun k => gT_lists.f k (tab m p) [ints A]) (lerr m [A]) :=
  have _ := la
  lists_f F [A] (by simp) (fun C hC => by rw [List.mem_singleton.1 hC]; exact hA)
theorem wrongE1 : Ev (fun k => r3_wrong.f k (m : Int) (p : Int) (ints A) []) (lerr m [A]) := by
  have h := wrong_f F A [] hA (by simp) la (by simp)
  rw [lerr_nil] at h
  exact h
theorem Eval_both (x : Nat) (hx : x < 256) : ∃ r : Int × Int, Ev (fun k => gT_Eval.f k (tab m p) (ints A) (x : Int)) r ∧ Ev (fun k => r3_Eval.f k (m : Int) (p : Int) (ints A) (x : Int)) r := by
  have hx1 : ∀ y ∈ [x], y < 256 := fun y hy => by rw [List.mem_singleton.1 hy]; exact hx
  have g : Ev (fun k => gT_lists.f k (tab m p) [ints A, [(x : Int)]]) (lerr m [A, [x]]) := lists_f F [A, [x]] (by simp) (mem2 (P := fun C => ∀ y ∈ C, y < 256) hA hx1)
  have w : Ev (fun k => r3_wrong.f k (m : Int) (p : Int) (ints A) [(x : Int)]) (lerr m [A, [x]]) := wrong_f F A [x] hA hx1 la (by simp)
  unfold gT_Eval.f r3_Eval.f
  by_cases c : lerr m [A, [x]] = 0
  · have o := lerr_ok c
    have o1 := o A (List.mem_cons_self ..)
    have o2 := (o [x] (by simp)).2 x (List.mem_cons_self ..)
    exact ⟨_, Ev.bind g (ev_pos c (Ev.bind (eval_f F o2 A o1.2 (by omega)) (Ev.now _))), Ev.bind w (ev_pos c (Ev.bind (value_f F o2 A o1.2 (by omega)) (Ev.now _)))⟩
  · exact ⟨_, Ev.bind g (ev_neg c (Ev.now _)), Ev.bind w (ev_neg c (Ev.now _))⟩
theorem Derive_both : ∃ r : List Nat, ∃ e : Int, Ev (fun k => gT_Derive.f k (tab m p) (ints A)) (ints r, e) ∧ Ev (fun k => r3_Derive.f k (m : Int) (p : Int) (ints A)) (ints r, e) ∧ r.length ≤ 100000 := by
  have g := listsE1 F A hA la
  have w := wrongE1 F A hA la
  unfold gT_Derive.f r3_Derive.f
  by_cases c : lerr m [A] = 0
  · have o1 := lerr_ok c A (List.mem_cons_self ..)
    have h1 := trimN_length (derN A)
    rw [derN_length] at h1
    have h := refder_l A (by omega) (A.length - 1) 0 (by omega)
    rw [List.take_zero] at h
    exact ⟨_, _, Ev.bind g (ev_pos c (Derive_go A (by omega) _ rfl)), Ev.bind w (ev_pos c h), by omega⟩
  · exact ⟨[], lerr m [A], Ev.bind g (ev_neg c (Ev.now _)), Ev.bind w (ev_neg c (Ev.now _)), by simp⟩
theorem Roots_both : ∃ r : List Nat, ∃ e : Int, Ev (fun k => gT_Roots.f k (tab m p) (ints A)) (ints r, e) ∧ Ev (fun k => r3_Roots.f k (m : Int) (p : Int) (ints A)) (ints r, e) ∧ r.length ≤ 100000 := by
  have g := listsE1 F A hA la
  have w := wrongE1 F A hA la
  have h256 := F.sz256
  unfold gT_Roots.f r3_Roots.f
  by_cases c : lerr m [A] = 0
  · have o1 := lerr_ok c A (List.mem_cons_self ..)
    have ht := refTrim_f A (by omega)
    by_cases c0 : trimN A = []
    · refine ⟨[], 20, Ev.bind g (ev_pos c (Roots_go0 A _ (by omega) c0)), Ev.bind w (ev_pos c (Ev.bind ht ?_)), by simp⟩
      rw [c0]
      refine Ev.succ ?_
      simp only [r3_Roots.j0]
      refine ev_pos rfl (Ev.step (f := fun _ => some ([], 20)) (fun k => ?_) (Ev.now _))
      simp only [r3_Roots.j1]
      rfl
    · have hl := List.length_pos_iff.2 c0
      have hr := rtN_length p m (2 ^ m) A
      refine ⟨rtN p m (2 ^ m) A, 0, Ev.bind g (ev_pos c (Roots_go F A o1.2 (by omega) c0)), Ev.bind w (ev_pos c (Ev.bind ht ?_)), by omega⟩
      have e : (((ints (trimN A)).length : Int) == 0) = false := by rw [ints_length]; simp; omega
      rw [e, c]
      refine Ev.succ ?_
      simp only [r3_Roots.j0, Bool.false_eq_true, if_false]
      refine Ev.succ ?_
      simp only [r3_Roots.j1, if_true]
      exact refrts_l F A o1.2 (by omega) (2 ^ m) 0 (by omega)
  · refine ⟨[], lerr m [A], Ev.bind g (ev_neg c (Ev.now _)), Ev.bind w (ev_neg c ?_), by simp⟩
    refine Ev.succ ?_
    simp only [r3_Roots.j0, Bool.false_eq_true, if_false]
    refine Ev.succ ?_
    simp only [r3_Roots.j1]
    exact ev_neg c (Ev.now _)
include hB lb
theorem listsE2 : Ev (fun k => gT_lists.f k (tab m p) [ints A, ints B]) (lerr m [A, B]) :=
  have _ := la
  have _ := lb
  lists_f F [A, B] (by simp) (mem2 (P := fun C => ∀ x ∈ C, x < 256) hA hB)
theorem Plus_both : ∃ r : List Nat, Ev (fun k => gT_Plus.f k (tab m p) (ints A) (ints B)) (ints r, lerr m [A, B]) ∧ Ev (fun k => r3_Plus.f k (m : Int) (p : Int) (ints A) (ints B)) (ints r, lerr m [A, B]) ∧ r.length ≤ 100000 := by
  have g := listsE2 F A B hA hB la lb
  have w := wrong_f F A B hA hB la lb
  have h256 := F.sz256
  unfold gT_Plus.f r3_Plus.f
  by_cases c : lerr m [A, B] = 0
  · have o := lerr_ok c
    have o1 := o A (List.mem_cons_self ..)
    have o2 := o B (by simp)
    have h1 := plusN_length A B
    rw [c]
    exact ⟨plusN A B, Ev.bind g (ev_pos c (Ev.bind (plus_f A B hA hB (by omega) (by omega)) (Ev.now _))), Ev.bind w (ev_pos c (Ev.bind (refPlus_f A B hA hB (by omega) (by omega)) (Ev.now _))), by omega⟩
  · exact ⟨[], Ev.bind g (ev_neg c (Ev.now _)), Ev.bind w (ev_neg c (Ev.now _)), by simp⟩
theorem Times_both : ∃ r : List Nat, Ev (fun k => gT_Times.f k (tab m p) (ints A) (ints B)) (ints r, lerr m [A, B]) ∧ Ev (fun k => r3_Times.f k (m : Int) (p : Int) (ints A) (ints B)) (ints r, lerr m [A, B]) ∧ r.length ≤ 100000 := by
  have g := listsE2 F A B hA hB la lb
  have w := wrong_f F A B hA hB la lb
  unfold gT_Times.f r3_Times.f
  by_cases c : lerr m [A, B] = 0
  · have o := lerr_ok c
    have o1 := o A (List.mem_cons_self ..)
    have o2 := o B (by simp)
    have h1 := trimN_length (prod p m A B)
    rw [prod_length] at h1
    rw [c]
    exact ⟨trimN (prod p m A B), Ev.bind g (ev_pos c (Ev.bind (times_any F A B o1.2 o2.2 (by omega) (by omega)) (Ev.now _))), Ev.bind w (ev_pos c (Ev.bind (refProd_any F A B o1.2 o2.2 (by omega) (by omega)) (Ev.now _))), by omega⟩
  · exact ⟨[], Ev.bind g (ev_neg c (Ev.now _)), Ev.bind w (ev_neg c (Ev.now _)), by simp⟩
theorem Gcd_both : ∃ r : List Nat, Ev (fun k => gT_Gcd.f k (tab m p) (ints A) (ints B)) (ints r, lerr m [A, B]) ∧ Ev (fun k => r3_Gcd.f k (m : Int) (p : Int) (ints A) (ints B)) (ints r, lerr m [A, B]) ∧ r.length ≤ 100000 := by
  have g := listsE2 F A B hA hB la lb
  have w := wrong_f F A B hA hB la lb
  by_cases c : lerr m [A, B] = 0
  · have o := lerr_ok c
    have o1 := o A (List.mem_cons_self ..)
    have o2 := o B (by simp)
    have l1 := trimN_length A
    have l2 := trimN_length B
    have hn := gcN_length (m := m) (p := p) (trimN B).length (trimN A) (trimN B) (by omega) (by omega) (tr_trim B)
    rw [c]
    refine ⟨_, Gcd_t F A B o1.2 o2.2 o1.1 o2.1, ?_, by omega⟩
    unfold r3_Gcd.f
    refine Ev.bind w (ev_pos c (Ev.bind (refTrim_f A (by omega)) (Ev.bind (refTrim_f B (by omega)) ?_)))
    exact refGcd_l0 F _ (trimN A) (trimN B) (tr_trim A) (tr_trim B) (fun y hy => o1.2 y (trimN_mem hy)) (fun y hy => o2.2 y (trimN_mem hy)) (by omega) (by omega) (Nat.le_refl _)
  · unfold gT_Gcd.f r3_Gcd.f
    exact ⟨[], Ev.bind g (ev_neg c (Ev.now _)), Ev.bind w (ev_neg c (Ev.now _)), by simp⟩
theorem Divide_both : ∃ q r : List Nat, ∃ e : Int, Ev (fun k => gT_Divide.f k (tab m p) (ints A) (ints B)) (ints q, ints r, e) ∧ Ev (fun k => r3_Divide.f k (m : Int) (p : Int) (ints A) (ints B)) (ints q, ints r, e) ∧ q.length ≤ 100000 ∧ r.length ≤ 100000 := by
  have g := listsE2 F A B hA hB la lb
  have w := wrong_f F A B hA hB la lb
  by_cases c : lerr m [A, B] = 0
  · have o := lerr_ok c
    have o1 := o A (List.mem_cons_self ..)
    have o2 := o B (by simp)
    have ht := refTrim_f B (by omega)
    have l2 := trimN_length B
    by_cases c0 : trimN B = []
    · refine ⟨[], [], 20, Divide_0 F A B o1.2 o2.2 o1.1 o2.1 c0, ?_, by simp, by simp⟩
      unfold r3_Divide.f
      refine Ev.bind w (ev_pos c (Ev.bind ht ?_))
      rw [c0]
      refine Ev.step (f := fun _ => some ([], [], 20)) (fun k => ?_) (Ev.now _)
      simp only [r3_Divide.j0]
      rfl
    · have hl := List.length_pos_iff.2 c0
      have hn := divN_length p m A B c0
      refine ⟨_, _, 0, Divide_t F A B o1.2 o2.2 o1.1 o2.1 c0, ?_, by omega, by omega⟩
      unfold r3_Divide.f
      refine Ev.bind w (ev_pos c (Ev.bind ht ?_))
      have e : (((ints (trimN B)).length : Int) == 0) = false := by rw [ints_length]; simp; omega
      rw [e, c]
      refine Ev.succ ?_
      simp only [r3_Divide.j0, Bool.false_eq_true, if_false, if_true]
      exact Ev.bind (refdivide_f F A B o1.2 o2.2 (by omega) (by omega) c0) (Ev.now _)
  · unfold gT_Divide.f r3_Divide.f
    refine ⟨[], [], lerr m [A, B], Ev.bind g (ev_neg c (Ev.now _)), Ev.bind w (ev_neg c ?_), by simp, by simp⟩
    refine Ev.succ ?_
    simp only [r3_Divide.j0, Bool.false_eq_true, if_false]
    exact ev_neg c (Ev.now _)
end
end Go.Proofs.Ytjdkamhnbheofaa.GalP
