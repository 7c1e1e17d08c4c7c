/- Polynomials over a field: the errors of lists, as the program and the document have them. -/
import Derived.Test.YtjdkamhnbheofaaGpQGalU
set_option linter.unusedVariables false
set_option linter.unusedSimpArgs false
namespace Go.Proofs.Ytjdkamhnbheofaa.GalP
open Go.RowKit Go.Proofs.Ytjdkamhnbheofaa.P Go.Proofs.YtjdkamhnbheofaaW.PrintWords Go.Proofs.YtjdkamhnbheofaaW.PrintLast Go.Proofs.YtjdkamhnbheofaaW.PrintMore Go.Proofs.YtjdkamhnbheofaaW.Q
open Go.Proofs.Ytjdkamhnbheofaa.Gal
def elems (m : Nat) (B : List Nat) : Bool := B.all (fun x => decide (x < 2 ^ m))
/-- The error of lists. -/
def lerr (m : Nat) (L : List (List Nat)) : Int := if L.all (fun B => decide (B.length ≤ 1024)) then errR (L.all (elems m)) else 6
theorem errR_true : errR true = 0 := rfl
theorem errR_false : errR false = 11 := rfl
theorem liste_l1 {m p : Nat} (F : Fi m p) (L : List (List Nat)) (hL : L.length ≤ 100) (h1 : ∀ B ∈ L, B.length ≤ 1024) (h2 : ∀ B ∈ L, ∀ x ∈ B, x < 256) (d : Nat) : ∀ i, i + d = L.length →
    Ev (fun k => gT_lists.l1 k (tab m p) (L.map ints) (L.length : Int) (i : Int)) (errR ((L.drop i).all (elems m))) := by
  induction d with
  | zero =>
    intro i hi
    rw [List.drop_of_length_le (by omega)]
    refine Ev.step (f := fun _ => some 0) (fun k => ?_) (Ev.now _)
    simp only [gT_lists.l1]
    rw [if_neg (by omega)]
  | succ d ih =>
    intro i hi
    have hil : i < L.length := by omega
    have hB : L.getD i [] ∈ L := mem_getD (by omega)
    have hc := check_t F (L.getD i []) (h2 _ hB) (by have := h1 _ hB; omega)
    have ed : L.drop i = L.getD i [] :: L.drop (i + 1) := by
      rw [List.drop_eq_getElem_cons hil, List.getD_eq_getElem?_getD, List.getElem?_eq_getElem hil]
      rfl
    have c1 : (i : Int) < (L.length : Int) := by omega
    have c2 : (0 : Int) ≤ (i : Int) := by omega
    have c3 : (i : Int) < ((L.map ints).length : Int) := by rw [List.length_map]; omega
    have ei : wrap64 ((i : Int) + 1) = ((i + 1 : Nat) : Int) := w64s (by omega)
    have g := ih (i + 1) (by clear ei; omega)
    refine Ev.step (f := fun k => (gT_check.f k (tab m p) (ints (L.getD i []))).bind fun t => if t = 0 then gT_lists.l1 k (tab m p) (L.map ints) (L.length : Int) ((i + 1 : Nat) : Int) else some t) (fun k => ?_) (Ev.bind hc ?_)
    · simp only [gT_lists.l1]
      rw [if_pos c1, if_pos c2, if_pos c3, rd_L4_ints, ei]
    · rw [ed, List.all_cons]
      cases e : elems m (L.getD i [])
      · unfold elems at e
        rw [e, Bool.false_and, errR_false]
        exact ev_neg (by decide) (Ev.now _)
      · unfold elems at e
        rw [e, Bool.true_and, errR_true]
        exact ev_pos rfl g
theorem liste_l0 {m p : Nat} (F : Fi m p) (L : List (List Nat)) (hL : L.length ≤ 100) (h2 : ∀ B ∈ L, ∀ x ∈ B, x < 256) (d : Nat) : ∀ i, i + d = L.length → (∀ B ∈ L.take i, B.length ≤ 1024) →
    Ev (fun k => gT_lists.l0 k (tab m p) (L.map ints) (L.map ints) (L.length : Int) (i : Int)) (lerr m L) := by
  induction d with
  | zero =>
    intro i hi ht
    rw [List.take_of_length_le (by omega)] at ht
    have g := liste_l1 F L hL ht h2 L.length 0 (by omega)
    rw [List.drop_zero] at g
    unfold lerr
    rw [if_pos (List.all_eq_true.2 (fun B hB => decide_eq_true (ht B hB)))]
    refine Ev.step (fun k => ?_) g
    simp only [gT_lists.l0]
    rw [if_neg (by omega), List.length_map]
    rfl
  | succ d ih =>
    intro i hi ht
    have hil : i < L.length := by omega
    have hB : L.getD i [] ∈ L := mem_getD (by omega)
    have c1 : (i : Int) < (L.length : Int) := by omega
    have c2 : (0 : Int) ≤ (i : Int) := by omega
    have c3 : (i : Int) < ((L.map ints).length : Int) := by rw [List.length_map]; omega
    by_cases c : (L.getD i []).length ≤ 1024
    · have c4 : ¬ ((ints (L.getD i [])).length : Int) > 1024 := by rw [ints_length]; omega
      have ei : wrap64 ((i : Int) + 1) = ((i + 1 : Nat) : Int) := w64s (by omega)
      have et : L.take (i + 1) = L.take i ++ [L.getD i []] := by
        rw [List.take_succ_eq_append_getElem hil, List.getD_eq_getElem?_getD, List.getElem?_eq_getElem hil]
        rfl
      refine Ev.step (fun k => ?_) (ih (i + 1) (by clear ei; omega) (fun B hB2 => by
        rw [et] at hB2
        rcases List.mem_append.1 hB2 with h | h
        · exact ht B h
        · rw [List.mem_singleton.1 h]; exact c))
      simp only [gT_lists.l0]
      rw [if_pos c1, if_pos c2, if_pos c3, rd_L4_ints, if_neg c4, ei]
    · have c4 : ((ints (L.getD i [])).length : Int) > 1024 := by rw [ints_length]; omega
      unfold lerr
      have hno : ¬ (L.all (fun B => decide (B.length ≤ 1024)) = true) := fun h => by
        rw [List.all_eq_true] at h
        exact c (of_decide_eq_true (h _ hB))
      rw [if_neg hno]
      refine Ev.step (f := fun _ => some 6) (fun k => ?_) (Ev.now _)
      simp only [gT_lists.l0]
      rw [if_pos c1, if_pos c2, if_pos c3, rd_L4_ints, if_pos c4]
theorem lists_f {m p : Nat} (F : Fi m p) (L : List (List Nat)) (hL : L.length ≤ 100) (h2 : ∀ B ∈ L, ∀ x ∈ B, x < 256) :
    Ev (fun k => gT_lists.f k (tab m p) (L.map ints)) (lerr m L) := by
  unfold gT_lists.f
  rw [none_f]
  simp only [Option.bind_some, Bool.false_eq_true, if_false]
  have := liste_l0 F L hL h2 L.length 0 (by omega) (fun B h => by simp at h)
  rw [List.length_map]
  exact this
theorem wrong_f {m p : Nat} (F : Fi m p) (a b : List Nat) (ha : ∀ x ∈ a, x < 256) (hb : ∀ x ∈ b, x < 256) (la : a.length ≤ 9223372036854775806) (lb : b.length ≤ 9223372036854775806) :
    Ev (fun k => r3_wrong.f k (m : Int) (p : Int) (ints a) (ints b)) (lerr m [a, b]) := by
  unfold r3_wrong.f lerr
  simp only [List.all_cons, List.all_nil, Bool.and_true]
  rw [ints_length, ints_length]
  have big : Ev (fun k => r3_wrong.j0 k (ints a) (ints b) true (m : Int) (p : Int)) 6 := by
    refine Ev.step (f := fun _ => some 6) (fun k => ?_) (Ev.now _)
    simp only [r3_wrong.j0]
    rfl
  by_cases c1 : a.length ≤ 1024
  · refine ev_neg (by omega) ?_
    by_cases c2 : b.length ≤ 1024
    · rw [if_pos (by rw [decide_eq_true c1, decide_eq_true c2]; rfl), decide_eq_false (by omega)]
      refine Ev.step (f := fun k => (r3_over.f k (m : Int) (p : Int) (ints a)).bind fun t => if t = true then some 11 else (r3_over.f k (m : Int) (p : Int) (ints b)).bind fun t => if t = true then some 11 else some 0) (fun k => ?_) (Ev.bind (over_f F a ha la) ?_)
      · simp only [r3_wrong.j0, Bool.false_eq_true, if_false]
      · cases e1 : elems m a
        · unfold elems at e1
          rw [e1, Bool.false_and, errR_false]
          exact ev_pos rfl (Ev.now _)
        · unfold elems at e1
          rw [e1, Bool.true_and]
          refine ev_neg (by decide) (Ev.bind (over_f F b hb lb) ?_)
          cases e2 : elems m b
          · unfold elems at e2
            rw [e2, errR_false]
            exact ev_pos rfl (Ev.now _)
          · unfold elems at e2
            rw [e2, errR_true]
            exact ev_neg (by decide) (Ev.now _)
    · rw [if_neg (by rw [decide_eq_false c2, Bool.and_false]; simp), decide_eq_true (by omega)]
      exact big
  · rw [if_neg (by rw [decide_eq_false c1, Bool.false_and]; simp)]
    exact ev_pos (by omega) big
end Go.Proofs.Ytjdkamhnbheofaa.GalP
