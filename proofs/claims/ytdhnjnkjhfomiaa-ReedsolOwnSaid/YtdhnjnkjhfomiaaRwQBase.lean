/- Plain words for lists of bytes and numbers: no program in sight. -/
import Derived.Test.YtdhnjnkjhfomiaaRwWAll
import Derived.Test.YtdhnjnkjhfomiaaRwQLent
import Derived.Laws.BitsAllLaws
set_option linter.unusedVariables false
set_option linter.unusedSimpArgs false
namespace Go.Proofs.YtdhnjnkjhfomiaaW.Q
open Go.RowKit Go.Proofs.YtdhnjnkjhfomiaaW.PrintWords Go.Proofs.YtdhnjnkjhfomiaaW.PrintLast Go.Proofs.YtdhnjnkjhfomiaaW.PrintMore
def ints (B : List Nat) : List Int := B.map (fun n : Nat => (n : Int))
theorem ints_length (B : List Nat) : (ints B).length = B.length := by simp [ints]
theorem ints_append (A B : List Nat) : ints (A ++ B) = ints A ++ ints B := by simp [ints]
theorem ints_cons (a : Nat) (B : List Nat) : ints (a :: B) = (a : Int) :: ints B := rfl
theorem ints_replicate (n : Nat) : ints (List.replicate n 0) = List.replicate n 0 := by simp [ints]
theorem ints_take (n : Nat) (B : List Nat) : (ints B).take n = ints (B.take n) := by simp [ints,List.map_take]
theorem ints_drop (n : Nat) (B : List Nat) : (ints B).drop n = ints (B.drop n) := by simp [ints,List.map_drop]
theorem rd_ints (B : List Nat) (i : Nat) : rd (ints B) (i : Int) = ((B.getD i 0 : Nat) : Int) := by
  simp only [rd,ints,Int.toNat_natCast,List.getD_eq_getElem?_getD,List.getElem?_map]
  cases B[i]? <;> simp
theorem set_ints (B : List Nat) (i x : Nat) : (ints B).set (i : Int).toNat (x : Int) = ints (B.set i x) := by
  simp [ints,List.map_set]
theorem bytes_of {l : List Int} (h : ∀ x ∈ l,(Lit.int .u8 x).wf = true) : ∃ B : List Nat,l = ints B ∧ ∀ x ∈ B,x < 256 := by
  induction l with
  | nil => exact ⟨[],rfl,by simp⟩
  | cons a l ih =>
    obtain ⟨B,rfl,hB⟩ := ih (fun x hx => h x (List.mem_cons_of_mem _ hx))
    have ha := h a List.mem_cons_self
    have hb : 0 ≤ a ∧ a ≤ 255 := by simpa [Lit.wf,IntKind.min,IntKind.max,IntKind.signed,IntKind.bits] using ha
    refine ⟨a.toNat :: B,?_,?_⟩
    · rw [ints_cons,Int.toNat_of_nonneg hb.1]
    · intro x hx
      rcases List.mem_cons.1 hx with rfl | hx
      · omega
      · exact hB x hx
theorem w64 {n : Int} (h0 : -9223372036854775808 ≤ n) (h1 : n ≤ 9223372036854775807) : wrap64 n = n := by unfold wrap64; omega
theorem w64s {i : Nat} (h1 : i ≤ 9223372036854775806) : wrap64 ((i : Int) + 1) = ((i + 1 : Nat) : Int) := by rw [w64 (by omega) (by omega)]; omega
theorem wu64 {n : Int} (h0 : 0 ≤ n) (h1 : n < 18446744073709551616) : IntKind.u64.wrap n = n := by rw [IntKind.wrap_u64]; omega
theorem tmod_nat (a b : Nat) : Int.tmod (a : Int) (b : Int) = ((a % b : Nat) : Int) := by rw [Int.tmod_eq_emod_of_nonneg (by omega)]; simp
theorem getD_lt {B : List Nat} (h : ∀ x ∈ B,x < 256) (i : Nat) : B.getD i 0 < 256 := by
  rw [List.getD_eq_getElem?_getD]
  by_cases hi : i < B.length
  · rw [List.getElem?_eq_getElem hi]; exact h _ (List.getElem_mem hi)
  · rw [List.getElem?_eq_none (by omega)]; simp
theorem drop_get {B : List Nat} {i : Nat} (h : i < B.length) : B.drop i = B.getD i 0 :: B.drop (i + 1) := by
  rw [List.drop_eq_getElem_cons h,List.getD_eq_getElem?_getD,List.getElem?_eq_getElem h]
  rfl
theorem bxor8 (a b : Nat) (ha : a < 256) (hb : b < 256) : Go.bits .xor .u8 (a : Int) (b : Int) = ((a ^^^ b : Nat) : Int) := u8_xor_nat a b ha hb
theorem Ev.intro {α : Type} {g : Nat → Option α} {r : α} (K : Nat) (h : ∀ k,K ≤ k → g k = some r) : Ev g r := ⟨K,h⟩
theorem Ev.both {α β : Type} {g : Nat → Option α} {f : Nat → Option β} {r : α} {q : β} (h : Ev g r) (h' : Ev f q) : ∃ K,∀ k,K ≤ k → g k = some r ∧ f k = some q := by
  obtain ⟨K,h⟩ := h
  obtain ⟨K',h'⟩ := h'
  exact ⟨max K K',fun k hk => ⟨h k (by omega),h' k (by omega)⟩⟩
end Go.Proofs.YtdhnjnkjhfomiaaW.Q
