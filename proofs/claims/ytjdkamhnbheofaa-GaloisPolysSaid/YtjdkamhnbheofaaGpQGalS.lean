/- Fields: products of polynomials as the program has them; minimal polynomials, of the program and of the document. -/
import Derived.Test.YtjdkamhnbheofaaGpQGalR
import Derived.Test.YtjdkamhnbheofaaGpPx6
set_option linter.unusedVariables false
set_option linter.unusedSimpArgs false
namespace Go.Proofs.Ytjdkamhnbheofaa.Gal
/-- A row of a product: x times b, added from place j on; all rows; the product, with zeros ahead. -/
def addr (p m x : Nat) : List Nat → Nat → List Nat → List Nat
  | out, _, [] => out
  | out, j, y :: b => addr p m x (out.set j (out.getD j 0 ^^^ mu p m x y)) (j + 1) b
def prodr (p m : Nat) (b : List Nat) : List Nat → Nat → List Nat → List Nat
  | out, _, [] => out
  | out, i, x :: a => prodr p m b (addr p m x out i b) (i + 1) a
def prod (p m : Nat) (a b : List Nat) : List Nat := prodr p m b (List.replicate (a.length + b.length - 1) 0) 0 a
/-- Without zeros ahead. -/
def trimN : List Nat → List Nat
  | [] => []
  | x :: l => if x = 0 then trimN l else x :: l
theorem trimN_length (l : List Nat) : (trimN l).length ≤ l.length := by
  induction l with
  | nil => exact Nat.le_refl _
  | cons x l ih =>
    unfold trimN
    split
    · simp only [List.length_cons]; omega
    · exact Nat.le_refl _
theorem trimN_mem {l : List Nat} {y : Nat} (h : y ∈ trimN l) : y ∈ l := by
  induction l with
  | nil => exact h
  | cons x l ih =>
    unfold trimN at h
    split at h
    · exact List.mem_cons_of_mem _ (ih h)
    · exact h
theorem addr_length (p m x : Nat) (b : List Nat) : ∀ out j, (addr p m x out j b).length = out.length := by
  induction b with
  | nil => intro out j; rfl
  | cons y b ih => intro out j; rw [addr, ih, List.length_set]
theorem prodr_length (p m : Nat) (b a : List Nat) : ∀ out i, (prodr p m b out i a).length = out.length := by
  induction a with
  | nil => intro out i; rfl
  | cons x a ih => intro out i; rw [prodr, ih, addr_length]
theorem set_mid (l : List Nat) (w v : Nat) (r : List Nat) : (l ++ w :: r).set l.length v = l ++ v :: r := by
  rw [List.set_append_right _ _ (Nat.le_refl _), Nat.sub_self]
  rfl
theorem mem_set_lt {s : Nat} {out : List Nat} (h : ∀ y ∈ out, y < s) (j : Nat) {v : Nat} (hv : v < s) : ∀ y ∈ out.set j v, y < s := by
  intro y hy
  rcases List.mem_or_eq_of_mem_set hy with h1 | rfl
  · exact h y h1
  · exact hv
theorem getD_lt' {s : Nat} (hs : 0 < s) {l : List Nat} (h : ∀ x ∈ l, x < s) (i : Nat) : l.getD i 0 < s := by
  rw [List.getD_eq_getElem?_getD]
  by_cases c : i < l.length
  · rw [List.getElem?_eq_getElem c]; exact h _ (List.getElem_mem c)
  · rw [List.getElem?_eq_none (by omega)]; exact hs
theorem addr_lt {m p x : Nat} (F : Fi m p) (hx : x < 2 ^ m) (b : List Nat) : ∀ out j, (∀ y ∈ out, y < 2 ^ m) → ∀ y ∈ addr p m x out j b, y < 2 ^ m := by
  induction b with
  | nil => intro out j h; exact h
  | cons z b ih =>
    intro out j h
    rw [addr]
    exact ih _ _ (mem_set_lt h j (Nat.xor_lt_two_pow (getD_lt' F.zero_lt h j) (F.mu_lt hx)))
end Go.Proofs.Ytjdkamhnbheofaa.Gal
namespace Go.Proofs.Ytjdkamhnbheofaa.GalP
open Go.RowKit Go.Proofs.Ytjdkamhnbheofaa.P Go.Proofs.YtjdkamhnbheofaaW.PrintWords Go.Proofs.YtjdkamhnbheofaaW.PrintLast Go.Proofs.YtjdkamhnbheofaaW.PrintMore Go.Proofs.YtjdkamhnbheofaaW.Q
open Go.Proofs.Ytjdkamhnbheofaa.Gal
theorem galTrim_ints (l : List Nat) : galTrim (ints l) = ints (trimN l) := by
  induction l with
  | nil => rfl
  | cons x l ih =>
    rw [ints_cons]
    unfold galTrim trimN
    by_cases c : x = 0
    · subst c; rw [if_pos (show ((0 : Nat) : Int) = 0 from rfl), if_pos rfl]; exact ih
    · rw [if_neg (by omega), if_neg c]; rfl
theorem trim_f (l : List Nat) (h : l.length ≤ 281474976710656) : galois_trim.f (ints l) = some (ints (trimN l)) := by
  unfold galois_trim.f
  rw [if_pos (by rw [ints_length]; exact h), galTrim_ints]
theorem times_l1 {m p : Nat} (F : Fi m p) (A B : List Nat) (hB : ∀ y ∈ B, y < 2 ^ m) (la : A.length ≤ 1000000) (lb : B.length ≤ 1000000) (i x : Nat) (hi : i < A.length) (hx : x < 2 ^ m) (lA : Int) (r : List Int) (d : Nat) :
    ∀ (j : Nat) (out : List Nat), j + d = B.length → out.length = A.length + B.length - 1 → (∀ y ∈ out, y < 2 ^ m) →
    Ev (fun k => gT_times.l0 k (tab m p) (ints B) (ints (addr p m x out (i + j) (B.drop j))) (ints A) lA ((i + 1 : Nat) : Int)) r →
    Ev (fun k => gT_times.l1 k (tab m p) (ints B) (ints out) (i : Int) (x : Int) (ints A) lA (i : Int) (ints B) (B.length : Int) (j : Int)) r := by
  have h256 := F.sz256
  induction d with
  | zero =>
    intro j out hj ho hl hk
    rw [List.drop_of_length_le (by omega)] at hk
    refine Ev.step (fun k => ?_) hk
    simp only [gT_times.l1]
    rw [if_neg (by omega), w64s (by omega)]
    rfl
  | succ d ih =>
    intro j out hj ho hl hk
    have hjl : j < B.length := by omega
    have ly : B.getD j 0 < 2 ^ m := getD_lt' F.zero_lt hB j
    have lo := getD_lt' F.zero_lt hl (i + j)
    have lm := F.mu_lt (b := B.getD j 0) hx
    have lx := Nat.xor_lt_two_pow lo lm
    rw [drop_get hjl, addr, show i + j + 1 = i + (j + 1) by omega] at hk
    refine Ev.step (fun k => ?_) (ih (j + 1) _ (by omega) (by rw [List.length_set]; exact ho) (mem_set_lt hl (i + j) lx) hk)
    simp only [gT_times.l1]
    have c1 : (j : Int) < (B.length : Int) := by omega
    have c2 : (0 : Int) ≤ (j : Int) := by omega
    have c3 : (j : Int) < ((ints B).length : Int) := by rw [ints_length]; omega
    have c4 : (0 : Int) ≤ ((i + j : Nat) : Int) := by omega
    have c5 : ((i + j : Nat) : Int) < ((ints out).length : Int) := by rw [ints_length, ho]; omega
    have c6 : 0 < (tab m p).size := by rw [tab_size]; have := F.sz8; omega
    have b1 : out.getD (i + j) 0 < 256 := by omega
    have b2 : mu p m x (B.getD j 0) < 256 := by omega
    have ej : wrap64 ((j : Int) + 1) = ((j + 1 : Nat) : Int) := w64s (by omega)
    have e1 : wrap64 ((i : Int) + (j : Int)) = ((i + j : Nat) : Int) := by clear ej; rw [w64 (by omega) (by omega)]; omega
    rw [if_pos c1, if_pos c2, if_pos c3, e1, if_pos c4, if_pos c5, if_pos c6, rd_ints, mulc_f F hx ly]
    simp only [Option.bind_some]
    rw [rd_ints, bxor8 _ _ b1 b2, set_ints, ej]
theorem times_l0 {m p : Nat} (F : Fi m p) (A B : List Nat) (hA : ∀ y ∈ A, y < 2 ^ m) (hB : ∀ y ∈ B, y < 2 ^ m) (la : A.length ≤ 1000000) (lb : B.length ≤ 1000000) (d : Nat) :
    ∀ (i : Nat) (out : List Nat), i + d = A.length → out.length = A.length + B.length - 1 → (∀ y ∈ out, y < 2 ^ m) →
    Ev (fun k => gT_times.l0 k (tab m p) (ints B) (ints out) (ints A) (A.length : Int) (i : Int)) (ints (trimN (prodr p m B out i (A.drop i)))) := by
  have h256 := F.sz256
  induction d with
  | zero =>
    intro i out hi ho hl
    refine Ev.step (f := fun _ => some (ints (trimN (prodr p m B out i (A.drop i))))) (fun k => ?_) (Ev.now _)
    simp only [gT_times.l0]
    rw [if_neg (by omega), List.drop_of_length_le (by omega), trim_f out (by omega)]
    rfl
  | succ d ih =>
    intro i out hi ho hl
    have hil : i < A.length := by omega
    have lx : A.getD i 0 < 2 ^ m := getD_lt' F.zero_lt hA i
    have h := ih (i + 1) (addr p m (A.getD i 0) out i B) (by omega) (by rw [addr_length]; exact ho) (addr_lt F lx B out i hl)
    rw [drop_get hil, prodr]
    have h1 := times_l1 F A B hB la lb i (A.getD i 0) hil lx (A.length : Int) _ B.length 0 out (by omega) ho hl (by rw [Nat.add_zero, List.drop_zero]; exact h)
    refine Ev.step (fun k => ?_) h1
    simp only [gT_times.l0]
    rw [if_pos (by omega), if_pos (by omega), if_pos (by rw [ints_length]; omega), rd_ints, ints_length]
    rfl
/-- A product of polynomials, of the program. -/
theorem times_f {m p : Nat} (F : Fi m p) (A B : List Nat) (hA : ∀ y ∈ A, y < 2 ^ m) (hB : ∀ y ∈ B, y < 2 ^ m) (la : A.length ≤ 1000000) (lb : B.length ≤ 1000000) (ha0 : A ≠ []) (hb0 : B ≠ []) :
    Ev (fun k => gT_times.f k (tab m p) (ints A) (ints B)) (ints (trimN (prod p m A B))) := by
  have l1 := List.length_pos_iff.2 ha0
  have l2 := List.length_pos_iff.2 hb0
  unfold gT_times.f
  rw [ints_length, ints_length]
  refine ev_neg (by omega) ?_
  have e : ((B.length : Int) == 0) = false := by simp; omega
  rw [e]
  have h := times_l0 F A B hA hB la lb A.length 0 (List.replicate (A.length + B.length - 1) 0) (by omega) (by simp) (fun y hy => by rw [List.eq_of_mem_replicate hy]; exact F.zero_lt)
  rw [List.drop_zero, ints_replicate] at h
  refine Ev.step (fun k => ?_) h
  simp only [gT_times.j0, Bool.false_eq_true, if_false]
  have e1 : wrap64 ((A.length : Int) + (B.length : Int)) = ((A.length + B.length : Nat) : Int) := by rw [w64 (by omega) (by omega)]; omega
  have e2 : wrap64 (((A.length + B.length : Nat) : Int) - 1) = ((A.length + B.length - 1 : Nat) : Int) := by rw [w64 (by omega) (by omega)]; omega
  rw [ints_length, ints_length, e1, e2, if_pos (by clear e1 e2; omega), if_pos (by clear e1 e2; omega), Int.toNat_natCast]
  rfl
/-! ### Minimal, of the program -/
/-! ### Minimal, of the document -/
end Go.Proofs.Ytjdkamhnbheofaa.GalP
