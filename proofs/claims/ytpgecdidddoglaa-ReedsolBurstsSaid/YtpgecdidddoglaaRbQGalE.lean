/- Fields: lists of elements, values of polynomials, as the program has them; the least polynomial with a root. -/
import Derived.Test.YtpgecdidddoglaaRbPx6
import Derived.Test.YtpgecdidddoglaaRbQGalS
import Derived.Test.YtpgecdidddoglaaRbPx7
set_option linter.unusedVariables false
set_option linter.unusedSimpArgs false
namespace Go.Proofs.Ytpgecdidddoglaa.Gal
def he (p m a : Nat) (n z : Nat) : Nat := hv p m (bl n z) a
namespace Fi
variable {M P : Nat} (F : Fi M P)
include F
end Fi
end Go.Proofs.Ytpgecdidddoglaa.Gal
namespace Go.Proofs.Ytpgecdidddoglaa.GalP
open Go.RowKit Go.Proofs.Ytpgecdidddoglaa.P Go.Proofs.YtpgecdidddoglaaW.PrintWords Go.Proofs.YtpgecdidddoglaaW.PrintLast Go.Proofs.YtpgecdidddoglaaW.PrintMore Go.Proofs.YtpgecdidddoglaaW.Q
open Go.Proofs.Ytpgecdidddoglaa.Gal
theorem rd_L1_ints (L : List (List Nat)) (i : Nat) : rd_L4 (L.map ints) (i : Int) = ints (L.getD i []) := by
  unfold rd_L4
  simp only [Int.toNat_natCast,List.getD_eq_getElem?_getD,List.getElem?_map]
  cases L[i]? <;> rfl
theorem mem_getD {α : Type} {L : List α} {d : α} {i : Nat} (h : i < L.length) : L.getD i d ∈ L := by
  rw [List.getD_eq_getElem?_getD,List.getElem?_eq_getElem h]
  exact List.getElem_mem h
theorem lists_l1 {m p : Nat} (F : Fi m p) (L : List (List Nat)) (hL : L.length ≤ 100) (h1 : ∀ B ∈ L,B.length ≤ 1024) (h2 : ∀ B ∈ L,∀ x ∈ B,x < 2 ^ m) (d : Nat) : ∀ i,i + d = L.length →
    Ev (fun k => gT_lists.l1 k (tab m p) (L.map ints) (L.length : Int) (i : Int)) 0 := by
  have h256 := F.sz256
  induction d with
  | zero =>
    intro i hi
    refine Ev.step (f := fun _ => some 0) (fun k => ?_) (Ev.now _)
    simp only [gT_lists.l1]
    rw [if_neg (by omega)]
  | succ d ih =>
    intro i hi
    have hB : L.getD i [] ∈ L := mem_getD (by omega)
    have hc := check_t F (L.getD i []) (fun x hx => by have := h2 _ hB x hx; omega) (by have := h1 _ hB; omega)
    have hall : (L.getD i []).all (fun x => decide (x < 2 ^ m)) = true := by
      rw [List.all_eq_true]
      exact fun x hx => decide_eq_true (h2 _ hB x hx)
    rw [hall] at hc
    have c1 : (i : Int) < (L.length : Int) := by omega
    have c2 : (0 : Int) ≤ (i : Int) := by omega
    have c3 : (i : Int) < ((L.map ints).length : Int) := by rw [List.length_map]; omega
    have ei : wrap64 ((i : Int) + 1) = ((i + 1 : Nat) : Int) := w64s (by omega)
    refine Ev.step (f := fun k => (gT_check.f k (tab m p) (ints (L.getD i []))).bind fun t => if t = 0 then gT_lists.l1 k (tab m p) (L.map ints) (L.length : Int) ((i + 1 : Nat) : Int) else some t) (fun k => ?_) (Ev.bind hc (ev_pos rfl (ih (i + 1) (by clear ei; omega))))
    simp only [gT_lists.l1]
    rw [if_pos c1,if_pos c2,if_pos c3,rd_L1_ints,ei]
theorem lists_l0 {m p : Nat} (F : Fi m p) (L : List (List Nat)) (hL : L.length ≤ 100) (h1 : ∀ B ∈ L,B.length ≤ 1024) (h2 : ∀ B ∈ L,∀ x ∈ B,x < 2 ^ m) (d : Nat) : ∀ i,i + d = L.length →
    Ev (fun k => gT_lists.l0 k (tab m p) (L.map ints) (L.map ints) (L.length : Int) (i : Int)) 0 := by
  induction d with
  | zero =>
    intro i hi
    refine Ev.step (fun k => ?_) (lists_l1 F L hL h1 h2 L.length 0 (by omega))
    simp only [gT_lists.l0]
    rw [if_neg (by omega),List.length_map]
    rfl
  | succ d ih =>
    intro i hi
    have hB := h1 _ (mem_getD (L := L) (d := []) (show i < L.length by omega))
    have c1 : (i : Int) < (L.length : Int) := by omega
    have c2 : (0 : Int) ≤ (i : Int) := by omega
    have c3 : (i : Int) < ((L.map ints).length : Int) := by rw [List.length_map]; omega
    have c4 : ¬ ((ints (L.getD i [])).length : Int) > 1024 := by rw [ints_length]; omega
    have ei : wrap64 ((i : Int) + 1) = ((i + 1 : Nat) : Int) := w64s (by omega)
    refine Ev.step (fun k => ?_) (ih (i + 1) (by clear ei; omega))
    simp only [gT_lists.l0]
    rw [if_pos c1,if_pos c2,if_pos c3,rd_L1_ints,if_neg c4,ei]
theorem lists_ok {m p : Nat} (F : Fi m p) (L : List (List Nat)) (hL : L.length ≤ 100) (h1 : ∀ B ∈ L,B.length ≤ 1024) (h2 : ∀ B ∈ L,∀ x ∈ B,x < 2 ^ m) :
    Ev (fun k => gT_lists.f k (tab m p) (L.map ints)) 0 := by
  unfold gT_lists.f
  rw [none_f]
  simp only [Option.bind_some,Bool.false_eq_true,if_false]
  have := lists_l0 F L hL h1 h2 L.length 0 (by omega)
  rw [List.length_map]
  exact this
theorem eval_l {m p x : Nat} (F : Fi m p) (hx : x < 2 ^ m) (B : List Nat) (hB : ∀ y ∈ B,y < 2 ^ m) (lb : B.length ≤ 1000000) (d : Nat) : ∀ (i v : Nat),i + d = B.length → v < 2 ^ m →
    Ev (fun k => gT_eval.l0 k (tab m p) (x : Int) (v : Int) (ints B) (B.length : Int) (i : Int)) ((hvf p m x v (B.drop i) : Nat) : Int) := by
  have h256 := F.sz256
  induction d with
  | zero =>
    intro i v hi hv
    rw [List.drop_of_length_le (by omega)]
    refine Ev.step (f := fun _ => some (v : Int)) (fun k => ?_) (Ev.now _)
    simp only [gT_eval.l0]
    rw [if_neg (by omega)]
  | succ d ih =>
    intro i v hi hv
    have hy : B.getD i 0 < 2 ^ m := getD_lt' F.zero_lt hB i
    have lm := F.mu_lt (b := x) hv
    rw [drop_get (by omega),hvf]
    have c1 : (i : Int) < (B.length : Int) := by omega
    have c2 : (0 : Int) ≤ (i : Int) := by omega
    have c3 : (i : Int) < ((ints B).length : Int) := by rw [ints_length]; omega
    have c4 : 0 < (tab m p).size := by rw [tab_size]; have := F.sz8; omega
    have b1 : mu p m v x < 256 := by omega
    have b2 : B.getD i 0 < 256 := by omega
    have ei : wrap64 ((i : Int) + 1) = ((i + 1 : Nat) : Int) := w64s (by omega)
    refine Ev.step (fun k => ?_) (ih (i + 1) (mu p m v x ^^^ B.getD i 0) (by clear ei; omega) (Nat.xor_lt_two_pow lm hy))
    simp only [gT_eval.l0]
    rw [if_pos c1,if_pos c2,if_pos c3,if_pos c4,mulc_f F hv hx]
    simp only [Option.bind_some]
    rw [rd_ints,bxor8 _ _ b1 b2,ei]
theorem eval_f {m p x : Nat} (F : Fi m p) (hx : x < 2 ^ m) (B : List Nat) (hB : ∀ y ∈ B,y < 2 ^ m) (lb : B.length ≤ 1000000) :
    Ev (fun k => gT_eval.f k (tab m p) (ints B) (x : Int)) ((hv p m B x : Nat) : Int) := by
  unfold gT_eval.f
  rw [ints_length]
  exact eval_l F hx B hB lb B.length 0 0 (by omega) F.zero_lt
theorem Eval_t {m p x : Nat} (F : Fi m p) (hx : x < 2 ^ m) (B : List Nat) (hB : ∀ y ∈ B,y < 2 ^ m) (lb : B.length ≤ 1024) :
    Ev (fun k => gT_Eval.f k (tab m p) (ints B) (x : Int)) (((hv p m B x : Nat) : Int),0) := by
  unfold gT_Eval.f
  have h := lists_ok F [B,[x]] (by simp) (fun C hC => by rcases List.mem_cons.1 hC with rfl | hC; exact lb; rw [List.mem_singleton.1 hC]; simp) (fun C hC => by
    rcases List.mem_cons.1 hC with rfl | hC
    · exact hB
    · rw [List.mem_singleton.1 hC]; intro y hy; rw [List.mem_singleton.1 hy]; exact hx)
  exact Ev.bind h (ev_pos rfl (Ev.bind (eval_f F hx B hB (by omega)) (Ev.now _)))
end Go.Proofs.Ytpgecdidddoglaa.GalP
