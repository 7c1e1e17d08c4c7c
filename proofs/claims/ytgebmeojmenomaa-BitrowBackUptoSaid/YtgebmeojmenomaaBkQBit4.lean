/- A distance is one: the plain laws behind BitrowMetric. -/
import Derived.Test.YtgebmeojmenomaaBkQBit2
import Derived.Test.YtgebmeojmenomaaBkPx8
import Derived.Lib.Bytes
set_option linter.unusedVariables false
set_option linter.unusedSimpArgs false
namespace Go.Proofs.YtgebmeojmenomaaW.Q
open Go.RowKit Go.Proofs.YtgebmeojmenomaaW.PrintWords Go.Proofs.YtgebmeojmenomaaW.PrintLast Go.Proofs.YtgebmeojmenomaaW.PrintMore Go.Proofs.Ytgebmeojmenomaa.P
theorem str_inj {A B : List Nat} (hA : ∀ x ∈ A, x < 256) (hB : ∀ x ∈ B, x < 256) (h : (strOfNums (ints A)).toList = (strOfNums (ints B)).toList) : A = B := by
  rw [Lib.strOfNums_toList, Lib.strOfNums_toList] at h
  have h2 : A.map (fun n : Nat => UInt8.ofNat n) = B.map (fun n : Nat => UInt8.ofNat n) := by
    unfold Lib.bytesOf ints at h
    rw [List.map_map, List.map_map] at h
    exact h
  have h3 := congrArg (List.map UInt8.toNat) h2
  rw [List.map_map, List.map_map] at h3
  have e : ∀ C : List Nat, (∀ x ∈ C, x < 256) → C.map (UInt8.toNat ∘ fun n : Nat => UInt8.ofNat n) = C := by
    intro C hC
    calc C.map (UInt8.toNat ∘ fun n : Nat => UInt8.ofNat n) = C.map id := List.map_congr_left (fun x hx => by
          have := hC x hx
          simp [Nat.mod_eq_of_lt this])
      _ = C := List.map_id C
  rwa [e A hA, e B hB] at h3
theorem bits_l0 (B : List Nat) (hB : B.length ≤ 140737488355328) (hb : ∀ x ∈ B, x < 256) (d : Nat) : ∀ (k i : Nat) (out : List Nat), out.length = B.length → out.take i = (B.map (· % 2)).take i → i + d = B.length → d < k →
    outpostlaw01_bits.l0 k (ints B) (ints out) (i : Int) = some (ints (B.map (· % 2))) := by
  induction d with
  | zero =>
    intro k i out ho ht hi hk
    obtain ⟨k, rfl⟩ : ∃ m, k = m + 1 := ⟨k - 1, by omega⟩
    simp only [outpostlaw01_bits.l0]
    rw [List.take_of_length_le (by omega), List.take_of_length_le (by rw [List.length_map]; omega)] at ht
    rw [ints_length, if_neg (by omega), ht]
  | succ d ih =>
    intro k i out ho ht hi hk
    obtain ⟨k, rfl⟩ : ∃ m, k = m + 1 := ⟨k - 1, by omega⟩
    have h1 := getD_lt hb i
    simp only [outpostlaw01_bits.l0]
    rw [ints_length, if_pos (by omega), if_pos (by omega), if_pos (by rw [ints_length]; omega), rd_ints, show (1 : Int) = ((1 : Nat) : Int) from rfl, band8 _ _ h1 (by decide), nat_mask1, set_ints, show ((1 : Nat) : Int) = 1 from rfl, w64s (by omega)]
    refine ih k (i + 1) _ (by rw [List.length_set]; exact ho) (fill_step (by rw [List.length_map]; omega) (by rw [List.length_map]; exact ho) ht ?_) (by omega) (by omega)
    rw [List.getElem_map, List.getD_eq_getElem?_getD, List.getElem?_eq_getElem (show i < B.length by omega)]
    rfl
theorem bits_f (B : List Nat) (hB : B.length ≤ 140737488355328) (hb : ∀ x ∈ B, x < 256) : Ev (fun k => outpostlaw01_bits.f k (ints B)) (ints (B.map (· % 2))) := by
  refine Ev.intro (B.length + 1) fun k hk => ?_
  unfold outpostlaw01_bits.f
  rw [ints_length, if_pos (by omega), Int.toNat_natCast, if_pos (by omega), ← ints_replicate]
  exact bits_l0 B hB hb B.length k 0 _ (by simp) (by simp) (by omega) (by omega)
theorem vld_mod (B : List Nat) : vld (B.map (· % 2)) = true := by
  unfold vld
  rw [List.all_eq_true]
  intro x hx
  obtain ⟨y, _, rfl⟩ := List.mem_map.1 hx
  simp
  omega
theorem vld_of {B : List Nat} (h : ∀ x ∈ B, x ≤ 1) : vld B = true := by
  unfold vld
  rw [List.all_eq_true]
  intro x hx
  simpa using h x hx
theorem le1_lt {B : List Nat} (h : vld B = true) : ∀ x ∈ B, x < 256 := fun x hx => by have := vld_le h x hx; omega
theorem dist_comm : ∀ A B : List Nat, dist A B = dist B A
  | [], [] => rfl
  | [], _ :: _ => rfl
  | _ :: _, [] => rfl
  | a :: A, b :: B => by
    rw [dist, dist, dist_comm A B]
    by_cases h : a = b
    · rw [if_pos h, if_pos h.symm]
    · rw [if_neg h, if_neg (Ne.symm h)]
theorem dist_tri : ∀ A B C : List Nat, A.length = B.length → dist A C ≤ dist A B + dist B C
  | [], _, _, _ => by simp [dist]
  | _ :: _, [], _, h => by simp at h
  | a :: A, b :: B, [], _ => by simp [dist]
  | a :: A, b :: B, c :: C, h => by
    have ih := dist_tri A B C (by simpa using h)
    simp only [dist]
    by_cases h1 : a = b
    · subst h1
      simp only [if_true]
      omega
    · rw [if_neg h1]
      split <;> split <;> omega
theorem dist_zero : ∀ A B : List Nat, A.length = B.length → (dist A B = 0 ↔ A = B)
  | [], [], _ => by simp [dist]
  | [], _ :: _, h => by simp at h
  | _ :: _, [], h => by simp at h
  | a :: A, b :: B, h => by
    have ih := dist_zero A B (by simpa using h)
    simp only [dist]
    by_cases h1 : a = b
    · subst h1
      simp [ih]
    · rw [if_neg h1]
      constructor
      · intro h; omega
      · intro h; injection h with h _; exact absurd h h1
theorem xor_bits {a b : Nat} (h1 : a ≤ 1) (h2 : b ≤ 1) : a ^^^ b = if a = b then 0 else 1 := by
  rcases (show a = 0 ∨ a = 1 by omega) with rfl | rfl <;> rcases (show b = 0 ∨ b = 1 by omega) with rfl | rfl <;> rfl
theorem weight_xor : ∀ A B : List Nat, (∀ x ∈ A, x ≤ 1) → (∀ x ∈ B, x ≤ 1) → weight (xorL A B) = dist A B
  | [], _, _, _ => by simp [xorL, dist, weight]
  | _ :: _, [], _, _ => by simp [xorL, dist, weight]
  | a :: A, b :: B, hA, hB => by
    have ih := weight_xor A B (fun x hx => hA x (List.mem_cons_of_mem _ hx)) (fun x hx => hB x (List.mem_cons_of_mem _ hx))
    have e : xorL (a :: A) (b :: B) = (a ^^^ b) :: xorL A B := rfl
    rw [e, dist, ← ih, xor_bits (hA a List.mem_cons_self) (hB b List.mem_cons_self)]
    simp [weight]
theorem xor_le : ∀ A B : List Nat, (∀ x ∈ A, x ≤ 1) → (∀ x ∈ B, x ≤ 1) → ∀ x ∈ xorL A B, x ≤ 1
  | [], _, _, _ => by simp [xorL]
  | _ :: _, [], _, _ => by simp [xorL]
  | a :: A, b :: B, hA, hB => by
    have ih := xor_le A B (fun x hx => hA x (List.mem_cons_of_mem _ hx)) (fun x hx => hB x (List.mem_cons_of_mem _ hx))
    intro x hx
    have e : xorL (a :: A) (b :: B) = (a ^^^ b) :: xorL A B := rfl
    rw [e] at hx
    rcases List.mem_cons.1 hx with rfl | hx
    · rw [xor_bits (hA a List.mem_cons_self) (hB b List.mem_cons_self)]; split <;> omega
    · exact ih x hx
theorem xor_back : ∀ A B : List Nat, A.length = B.length → xorL (xorL A B) B = A
  | [], [], _ => rfl
  | [], _ :: _, h => by simp at h
  | _ :: _, [], h => by simp at h
  | a :: A, b :: B, h => by
    have ih := xor_back A B (by simpa using h)
    have e : xorL (xorL (a :: A) (b :: B)) (b :: B) = ((a ^^^ b) ^^^ b) :: xorL (xorL A B) B := rfl
    rw [e, ih, Nat.xor_assoc, Nat.xor_self, Nat.xor_zero]
/-- What the stretch of unlike places is. -/
def Stretch (i : Nat) (s s' : Option (Nat × Nat)) (A B : List Nat) : Prop :=
  long_ s + dist A B ≤ long_ s' ∨ (s = none ∧ dist A B ≤ long_ s')
theorem ends_none : ∀ (i : Nat) (A B : List Nat) (s : Option (Nat × Nat)), dist A B = 0 → ends i s A B = s
  | i, [], _, s, _ => by simp [ends]
  | i, _ :: _, [], s, _ => by simp [ends]
  | i, a :: A, b :: B, s, h => by
    simp only [dist] at h
    by_cases h1 : a = b
    · rw [ends, if_pos h1]
      exact ends_none (i + 1) A B s (by rw [if_pos h1] at h; omega)
    · rw [if_neg h1] at h; omega
/-- Behind the last unlike place, and ahead of the first one, nothing is unlike; all unlike places lie between. -/
theorem ends_some : ∀ (i : Nat) (A B : List Nat) (s : Option (Nat × Nat)), A.length = B.length → (∀ f l, s = some (f, l) → f ≤ l ∧ l < i) → 0 < dist A B →
    ∃ f l, ends i s A B = some (f, l) ∧ i ≤ l ∧ l < i + A.length ∧ (∀ f' l', s = some (f', l') → f = f') ∧ (s = none → i ≤ f ∧ f ≤ l ∧ A.take (f - i) = B.take (f - i) ∧ dist A B ≤ l - f + 1) ∧ A.drop (l + 1 - i) = B.drop (l + 1 - i) ∧ dist A B ≤ l + 1 - i
  | i, [], _, s, _, _, h => by simp [dist] at h
  | i, _ :: _, [], s, h, _, _ => by simp at h
  | i, a :: A, b :: B, s, hl, hs, h => by
    have hl' : A.length = B.length := by simpa using hl
    by_cases h1 : a = b
    · subst h1
      simp only [dist, if_true, Nat.zero_add] at h ⊢
      obtain ⟨f, l, he, h2, h3, h4, h5, h6, h7⟩ := ends_some (i + 1) A B s hl' (fun f l e => by have := hs f l e; omega) h
      refine ⟨f, l, by rw [ends, if_pos rfl]; exact he, by omega, by simp only [List.length_cons]; omega, h4, fun e => ?_, ?_, by omega⟩
      · obtain ⟨g1, g2, g3, g4⟩ := h5 e
        refine ⟨by omega, g2, ?_, g4⟩
        rw [show f - i = (f - (i + 1)) + 1 by omega, List.take_succ_cons, List.take_succ_cons, g3]
      · rw [show l + 1 - i = (l + 1 - (i + 1)) + 1 by omega, List.drop_succ_cons, List.drop_succ_cons, h6]
    · simp only [dist, if_neg h1] at h ⊢
      by_cases h2 : dist A B = 0
      · refine ⟨(s.map (·.1)).getD i, i, by rw [ends, if_neg h1, ends_none _ _ _ _ h2], Nat.le_refl _, by simp, fun f' l' e => by subst e; rfl, fun e => by subst e; simp [h2], ?_, by omega⟩
        rw [show i + 1 - i = 1 by omega, List.drop_succ_cons, List.drop_succ_cons, (dist_zero A B hl').1 h2]
      · obtain ⟨f, l, he, g2, g3, g4, _, g6, g7⟩ := ends_some (i + 1) A B (some ((s.map (·.1)).getD i, i)) hl' (fun f l e => by
          injection e with e
          injection e with e1 e2
          cases s with
          | none => simp at e1; omega
          | some p => obtain ⟨f', l'⟩ := p; have := hs f' l' rfl; simp at e1; omega) (by omega)
        have hf := g4 _ _ rfl
        refine ⟨f, l, by rw [ends, if_neg h1]; exact he, by omega, by simp only [List.length_cons]; omega, fun f' l' e => by subst e; exact hf, fun e => ?_, ?_, by omega⟩
        · subst e
          simp only [Option.map_none, Option.getD_none] at hf
          subst hf
          refine ⟨Nat.le_refl _, by omega, by simp, by omega⟩
        · rw [show l + 1 - i = (l + 1 - (i + 1)) + 1 by omega, List.drop_succ_cons, List.drop_succ_cons, g6]
theorem mn_nat (a b : Nat) : mn (a : Int) (b : Int) = ((min a b : Nat) : Int) := by unfold mn; split <;> omega
end Go.Proofs.YtgebmeojmenomaaW.Q
