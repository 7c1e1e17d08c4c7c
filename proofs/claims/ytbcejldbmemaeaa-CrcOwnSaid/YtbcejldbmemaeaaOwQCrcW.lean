/- Words between the model's whole numbers of 32 bits and plain numbers. -/
import Derived.Test.YtbcejldbmemaeaaOwQCrc
import Derived.Test.YtbcejldbmemaeaaOwWAll
import Derived.Laws.BitsAllLaws
set_option linter.unusedVariables false
set_option linter.unusedSimpArgs false
namespace Go.Proofs.Ytbcejldbmemaeaa.Crc
open Go.RowKit Go.Proofs.YtbcejldbmemaeaaW.PrintWords Go.Proofs.YtbcejldbmemaeaaW.PrintLast Go.Proofs.YtbcejldbmemaeaaW.PrintMore
theorem band32 (a b : Nat) (ha : a < 4294967296) (hb : b < 4294967296) : Go.bits .and .u32 (a : Int) (b : Int) = ((a &&& b : Nat) : Int) := u32_and_nat a b ha hb
theorem bor32 (a b : Nat) (ha : a < 4294967296) (hb : b < 4294967296) : Go.bits .or .u32 (a : Int) (b : Int) = ((a ||| b : Nat) : Int) := u32_or_nat a b ha hb
theorem bxor32 (a b : Nat) (ha : a < 4294967296) (hb : b < 4294967296) : Go.bits .xor .u32 (a : Int) (b : Int) = ((a ^^^ b : Nat) : Int) := u32_xor_nat a b ha hb
theorem and_lt {a b : Nat} (hb : b < 4294967296) : a &&& b < 4294967296 := Nat.lt_of_le_of_lt Nat.and_le_right hb
theorem swp_int (m s p : Nat) (x : Nat) (hp : p = 2 ^ s) (hm : m < 4294967296) (hx : x < 4294967296) :
    Go.bits .or .u32 (Go.bits .and .u32 ((x : Int) / (p : Int)) (m : Int)) (Go.bits .and .u32 (x : Int) (m : Int) * (p : Int) % 4294967296) = ((swp m s x : Nat) : Int) := by
  subst hp
  have e1 : (x : Int) / ((2 ^ s : Nat) : Int) = ((x / 2 ^ s : Nat) : Int) := by simp
  rw [e1, band32 _ _ (Nat.lt_of_le_of_lt (Nat.div_le_self _ _) hx) hm, band32 _ _ hx hm]
  have e2 : ((x &&& m : Nat) : Int) * ((2 ^ s : Nat) : Int) % 4294967296 = (((x &&& m) * 2 ^ s % 4294967296 : Nat) : Int) := by simp
  rw [e2, bor32 _ _ (and_lt hm) (Nat.mod_lt _ (by omega))]
  rfl
theorem swp_lt (m s x : Nat) (hm : m < 4294967296) : swp m s x < 4294967296 := by
  unfold swp
  exact Nat.or_lt_two_pow (n := 32) (and_lt hm) (Nat.mod_lt _ (by omega))
theorem rbs_int (x : Nat) (hx : x < 4294967296) :
    Go.bits .or .u32 (Go.bits .or .u32 (Go.bits .and .u32 ((x : Int) / 256) 16711935) (Go.bits .and .u32 (x : Int) 16711935 * 256 % 4294967296) / 65536)
      (Go.bits .or .u32 (Go.bits .and .u32 ((x : Int) / 256) 16711935) (Go.bits .and .u32 (x : Int) 16711935 * 256 % 4294967296) * 65536 % 4294967296) = ((rbs x : Nat) : Int) := by
  have e := swp_int 16711935 8 256 x rfl (by omega) hx
  rw [show ((256 : Nat) : Int) = 256 from rfl, show ((16711935 : Nat) : Int) = 16711935 from rfl] at e
  have hl := swp_lt 16711935 8 x (by omega)
  rw [e]
  have e1 : ((swp 16711935 8 x : Nat) : Int) / 65536 = ((swp 16711935 8 x / 2 ^ 16 : Nat) : Int) := by simp
  have e2 : ((swp 16711935 8 x : Nat) : Int) * 65536 % 4294967296 = ((swp 16711935 8 x * 2 ^ 16 % 4294967296 : Nat) : Int) := by simp
  rw [e1, e2, bor32 _ _ (Nat.lt_of_le_of_lt (Nat.div_le_self _ _) hl) (Nat.mod_lt _ (by omega))]
  rfl
/-- A sum's bytes: byte i of m; R: the lowest first. -/
def layc (R : Bool) (m x i : Nat) : Nat := if R then x / 2 ^ (8 * i) % 256 else x / 2 ^ (8 * (m - 1 - i)) % 256
def layl (R : Bool) (m x : Nat) : List Nat := (List.range m).map (layc R m x)
theorem layl_length (R : Bool) (m x : Nat) : (layl R m x).length = m := by simp [layl]
theorem lay_done {R : Bool} {m x : Nat} {out : List Int} (hl : out.length = m) (h : ∀ j, j < m → out.getD j 0 = (layc R m x j : Nat)) : out = (layl R m x).map (fun n : Nat => (n : Int)) := by
  refine List.ext_getElem (by simp [hl, layl_length]) fun i h1 h2 => ?_
  have := h i (by omega)
  rw [List.getD_eq_getElem?_getD, List.getElem?_eq_getElem h1] at this
  simp only [Option.getD_some] at this
  rw [this]
  simp [layl]
theorem lay_step {R : Bool} {m x i : Nat} {out : List Int} (hl : i < out.length) (h : ∀ j, j < i → out.getD j 0 = (layc R m x j : Nat)) :
    ∀ j, j < i + 1 → (out.set i ((layc R m x i : Nat) : Int)).getD j 0 = (layc R m x j : Nat) := by
  intro j hj
  by_cases e : i = j
  · subst e
    rw [List.getD_eq_getElem?_getD, List.getElem?_set_self hl]
    rfl
  · rw [List.getD_eq_getElem?_getD, List.getElem?_set_ne e, ← List.getD_eq_getElem?_getD]
    exact h j (by omega)
/-- Numbers that are plain, as whole numbers. -/
def ints (B : List Nat) : List Int := B.map (fun n : Nat => (n : Int))
theorem ints_length (B : List Nat) : (ints B).length = B.length := by simp [ints]
theorem rd_ints (B : List Nat) (i : Nat) : rd (ints B) (i : Int) = ((B.getD i 0 : Nat) : Int) := by
  simp only [rd, ints, Int.toNat_natCast, List.getD_eq_getElem?_getD, List.getElem?_map]
  cases B[i]? <;> simp
theorem drop_get {B : List Nat} {i : Nat} (h : i < B.length) : B.drop i = B.getD i 0 :: B.drop (i + 1) := by
  rw [List.drop_eq_getElem_cons h, List.getD_eq_getElem?_getD, List.getElem?_eq_getElem h]
  rfl
theorem getD_lt {B : List Nat} (h : ∀ x ∈ B, x < 256) (i : Nat) : B.getD i 0 < 256 := by
  rw [List.getD_eq_getElem?_getD]
  by_cases hi : i < B.length
  · rw [List.getElem?_eq_getElem hi]; exact h _ (List.getElem_mem hi)
  · rw [List.getElem?_eq_none (by omega)]; simp
/-- Is it a spec? -/
def okI (W P I O : Int) : Bool := (decide (W = 8) || decide (W = 16) || decide (W = 24) || decide (W = 32)) && (decide (P < 2 ^ W.toNat) && (decide (I < 2 ^ W.toNat) && (decide (O < 2 ^ W.toNat) && decide (Int.tmod P 2 ≠ 0))))
theorem okI_nat (W P I O : Nat) : okI W P I O = true ↔ okN W P I O := by
  have e : Int.tmod (P : Int) 2 = ((P % 2 : Nat) : Int) := by rw [Int.tmod_eq_emod_of_nonneg (by omega)]; simp
  have p : ∀ n : Nat, ((n : Int) < 2 ^ W) ↔ n < 2 ^ W := fun n => by
    rw [← Int.ofNat_lt]; simp
  simp only [okI, okN, Bool.and_eq_true, Bool.or_eq_true, decide_eq_true_eq, Int.toNat_natCast, e, p]
  omega
theorem xor24 {c x : Nat} (hc : c < 4294967296) (hx : x < 256) : Go.bits .xor .u32 (c : Int) (IntKind.u32.wrap (IntKind.u32.wrap (x : Int) * 16777216)) = ((c ^^^ x * 2 ^ 24 : Nat) : Int) := by
  rw [IntKind.wrap_u32', IntKind.wrap_u32', Int.emod_eq_of_lt (a := (x : Int)) (by omega) (by omega)]
  have e : (x : Int) * 16777216 % 4294967296 = ((x * 2 ^ 24 : Nat) : Int) := by
    rw [Int.emod_eq_of_lt (by omega) (by omega)]
    simp
  rw [e, bxor32 _ _ hc (by omega)]
/-- Numbers that are not below nothing, and bytes. -/
def good (P I O : Int) (l : List Int) : Prop := 0 ≤ P ∧ 0 ≤ I ∧ 0 ≤ O ∧ ∀ x ∈ l, 0 ≤ x ∧ x < 256
instance (P I O : Int) (l : List Int) : Decidable (good P I O l) := by unfold good; exact inferInstance
theorem okI_width {W P I O : Int} (h : okI W P I O = true) : W = 8 ∨ W = 16 ∨ W = 24 ∨ W = 32 := by
  simp only [okI, Bool.and_eq_true, Bool.or_eq_true, decide_eq_true_eq] at h
  omega
theorem bytes_of {l : List Int} (h : ∀ x ∈ l, 0 ≤ x ∧ x < 256) : ∃ B : List Nat, l = ints B ∧ ∀ x ∈ B, x < 256 := by
  induction l with
  | nil => exact ⟨[], rfl, by simp⟩
  | cons a l ih =>
    obtain ⟨B, rfl, hB⟩ := ih (fun x hx => h x (List.mem_cons_of_mem _ hx))
    have hb := h a List.mem_cons_self
    refine ⟨a.toNat :: B, ?_, ?_⟩
    · simp only [ints, List.map_cons]
      rw [Int.toNat_of_nonneg hb.1]
    · intro x hx
      rcases List.mem_cons.1 hx with rfl | hx
      · omega
      · exact hB x hx
theorem toNat_ints (B : List Nat) : (ints B).map Int.toNat = B := by
  induction B with
  | nil => rfl
  | cons a B ih =>
    simp only [ints, List.map_cons] at ih ⊢
    rw [ih, Int.toNat_natCast]
theorem ints_take (n : Nat) (B : List Nat) : (ints B).take n = ints (B.take n) := by simp [ints, List.map_take]
/-- What Unseal answers, of a spec that is one. -/
def unsealed (R : Bool) (W P I O : Nat) (B : List Nat) : List Int × Int :=
  if B.length < W / 8 then ([], 31) else if layl R (W / 8) (crc R W P I O (B.take (B.length - W / 8))) = B.drop (B.length - W / 8) then (ints (B.take (B.length - W / 8)), 0) else ([], 32)
theorem getD_ext {A B : List Nat} (hl : A.length = B.length) (h : ∀ i, i < A.length → A.getD i 0 = B.getD i 0) : A = B := by
  refine List.ext_getElem hl fun i h1 h2 => ?_
  have := h i h1
  rwa [List.getD_eq_getElem?_getD, List.getD_eq_getElem?_getD, List.getElem?_eq_getElem h1, List.getElem?_eq_getElem h2] at this
theorem getD_drop (B : List Nat) (n i : Nat) : (B.drop n).getD i 0 = B.getD (n + i) 0 := by
  rw [List.getD_eq_getElem?_getD, List.getD_eq_getElem?_getD, List.getElem?_drop]
theorem byte_eq {M B : List Nat} {L : List Int} {n i : Nat} {a b : Int} (hL : L = ints B) (ha : a = rd (M.map (fun n : Nat => (n : Int))) (i : Int)) (hb : b = rd L ((n + i : Nat) : Int)) (h : b = a) : M.getD i 0 = (B.drop n).getD i 0 := by
  subst hL
  rw [rd_ints] at hb
  have ha2 : a = ((M.getD i 0 : Nat) : Int) := ha.trans (rd_ints M i)
  rw [getD_drop]
  omega
theorem byte_ne {M B : List Nat} {L : List Int} {n i : Nat} {a b : Int} (hL : L = ints B) (ha : a = rd (M.map (fun n : Nat => (n : Int))) (i : Int)) (hb : b = rd L ((n + i : Nat) : Int)) (h : M = B.drop n) : b = a := by
  subst hL
  rw [rd_ints] at hb
  have ha2 : a = ((M.getD i 0 : Nat) : Int) := ha.trans (rd_ints M i)
  rw [h, getD_drop] at ha2
  omega
end Go.Proofs.Ytbcejldbmemaeaa.Crc
