/- For every field, every list of bytes, taken as a polynomial, and every second list: values at points, and the polynomial through them. The plain law of GaloisPoints; no condition. -/
import Derived.Test.YtjdkamhnbheofaaGqPx93
import Derived.Test.YtjdkamhnbheofaaGqQGalJ
import Derived.Test.YtjdkamhnbheofaaGqPx12
set_option linter.unusedVariables false
set_option linter.unusedSimpArgs false
namespace Go.Proofs.Ytjdkamhnbheofaa.Pure
open Go.RowKit Go.Proofs.Ytjdkamhnbheofaa.P Go.Proofs.YtjdkamhnbheofaaW.PrintWords Go.Proofs.YtjdkamhnbheofaaW.PrintLast Go.Proofs.YtjdkamhnbheofaaW.Q Go.Proofs.Ytjdkamhnbheofaa.GalP Go.Proofs.Ytjdkamhnbheofaa.Gal
theorem range_getD (n j : Nat) (h : j < n) : (List.range n).getD j 0 = j := by
  rw [List.getD_eq_getElem?_getD, List.getElem?_range h]
  rfl
theorem range_take (n j : Nat) (h : j ≤ n) : (List.range n).take j = List.range j := by
  rw [List.take_range, Nat.min_eq_left h]
theorem range_new (n j : Nat) (h : j < n) : (List.range n).getD j 0 ∉ (List.range n).take j := by
  rw [range_getD n j h, range_take n j (by omega), List.mem_range]
  omega
theorem range_lt {m n : Nat} (h : n ≤ 2 ^ m) : ∀ x ∈ List.range n, x < 2 ^ m := fun x hx => by
  have := List.mem_range.1 hx
  omega
section
variable {m p : Nat} (F : Fi m p) {P B : List Nat} (tP : Tr P) (lP : ∀ y ∈ P, y < 2 ^ m) (nP : P.length + 1 ≤ 2 ^ m) (hB : ∀ x ∈ B, x < 256)
include F
theorem points_l1 (n : Nat) (S R : List Nat) (hS : S.length ≤ n) (hn : n ≤ 2 ^ m) (lR : ∀ y ∈ R, y < 2 ^ m) (nR : R.length ≤ 1024) (hv1 : ∀ j, j < S.length → hv p m R j = S.getD j 0) (d : Nat) : ∀ i, i + d = S.length →
    Ev (fun k => outpostlaw32_GaloisPoints.l1 k (tab m p) (ints (List.range n)) (ints S) (ints R) (i : Int)) true := by
  have h256 := F.sz256
  induction d with
  | zero =>
    intro i hi
    refine Ev.step (f := fun _ => some true) (fun k => ?_) (Ev.now _)
    simp only [outpostlaw32_GaloisPoints.l1]
    rw [if_neg (by rw [ints_length]; omega)]
  | succ d ih =>
    intro i hi
    have hin : i < n := by omega
    have g := ih (i + 1) (by omega)
    have e := Eval_t F (show i < 2 ^ m by omega) R lR nR
    rw [hv1 i (by omega)] at e
    have c1 : (i : Int) < ((ints S).length : Int) := by rw [ints_length]; omega
    have c2 : (0 : Int) ≤ (i : Int) := by omega
    have c3 : (i : Int) < ((ints (List.range n)).length : Int) := by rw [ints_length, List.length_range]; omega
    have er : rd (ints (List.range n)) (i : Int) = (i : Int) := by rw [rd_ints, range_getD n i hin]
    have ei : wrap64 ((i : Int) + 1) = ((i + 1 : Nat) : Int) := w64s (by omega)
    refine Ev.succ ?_
    simp only [outpostlaw32_GaloisPoints.l1]
    rw [er, ei]
    clear ei
    refine ev_pos c1 (ev_pos c2 (ev_pos c3 (Ev.bind e ?_)))
    simp only [outpostlaw32_num.f, Option.bind_some, if_true]
    exact ev_pos (by rw [rd_ints]) g
include hB nP
theorem points_j2 : Ev (fun k => outpostlaw32_GaloisPoints.j2 k (ints B) (tab m p) (ints (List.range (P.length + 1))) false (m : Int) (p : Int)) true := by
  have h256 := F.sz256
  have hS := rowN_length m (P.length + 1) B
  have lS := rowN_lt F (P.length + 1) B
  have h8 := F.sz8
  obtain ⟨S, hSe⟩ : ∃ S, S = rowN m (P.length + 1) B := ⟨_, rfl⟩
  rw [← hSe] at hS lS
  have hSn : S.length ≤ P.length + 1 := by omega
  have g1 := row_f F (P.length + 1) B hB (by omega)
  rw [← hSe] at g1
  have et : (ints (List.range (P.length + 1))).take (((ints S).length : Int) : Int).toNat = ints (List.range S.length) := by rw [Int.toNat_natCast, ints_take, ints_length, range_take _ _ hSn]
  obtain ⟨R, r1, r2, r3, r4, r5⟩ := Through_t F (List.range S.length) S (range_lt (by omega)) lS (by rw [List.length_range]; omega) (by rw [List.length_range]) (fun j hj => range_new _ j (by rw [List.length_range] at hj; exact hj))
  rw [List.length_range] at r2 r3
  have r2' : ∀ j, j < S.length → hv p m R j = S.getD j 0 := fun j hj => by
    have h := r2 j hj
    rw [range_getD _ j hj] at h
    exact h
  have el : ((ints (List.range (P.length + 1))).length : Int) = ((P.length + 1 : Nat) : Int) := by rw [ints_length, List.length_range]
  refine Ev.succ ?_
  simp only [outpostlaw32_GaloisPoints.j2, Bool.false_eq_true, if_false]
  rw [el]
  refine Ev.bind g1 (ev_pos (by omega) (ev_pos (by rw [ints_length]; omega) ?_))
  rw [et]
  refine Ev.bind r1 ?_
  simp only [outpostlaw32_num.f, Option.bind_some, if_true]
  rw [decide_eq_false (by rw [ints_length, ints_length]; omega)]
  refine Ev.succ ?_
  simp only [outpostlaw32_GaloisPoints.j3, Bool.false_eq_true, if_false]
  exact points_l1 F (P.length + 1) S R hSn nP r5 (by omega) r2' S.length 0 (by omega)
include tP lP
theorem points_l0 (d : Nat) : ∀ i, i + d = P.length + 1 →
    Ev (fun k => outpostlaw32_GaloisPoints.l0 k (ints B) (tab m p) (ints P) (ints (List.range i)) (ints ((List.range i).map (hv p m P))) (i : Int) (m : Int) (p : Int)) true := by
  have h256 := F.sz256
  have h8 := F.sz8
  induction d with
  | zero =>
    intro i hi
    have : i = P.length + 1 := by omega
    subst this
    obtain ⟨R, r1, r2, r3, r4, r5⟩ := Through_t F (List.range (P.length + 1)) ((List.range (P.length + 1)).map (hv p m P)) (range_lt (by omega)) (fun y hy => by
      obtain ⟨x, hx, rfl⟩ := List.mem_map.1 hy
      have := List.mem_range.1 hx
      exact F.hv_lt (by omega) lP) (by rw [List.length_range]; omega) (by rw [List.length_map]) (fun j hj => range_new _ j (by rw [List.length_range] at hj; exact hj))
    rw [List.length_range] at r2 r3
    have e : R = P := only_one F r4 tP r5 lP (P.length + 1) r3 (by omega) nP (fun j hj => by
      have h := r2 j hj
      rw [range_getD _ j hj] at h
      rw [h, List.getD_eq_getElem?_getD, List.getElem?_map, List.getElem?_range hj]
      rfl)
    rw [e] at r1
    have sf : outpostlaw32_same.f (ints P) (ints P) = some true := by
      unfold outpostlaw32_same.f
      rw [beq_self_eq_true]
    refine Ev.succ ?_
    simp only [outpostlaw32_GaloisPoints.l0]
    refine ev_neg (by rw [ints_length]; omega) (Ev.bind r1 ?_)
    simp only [outpostlaw32_num.f, Option.bind_some, if_true, sf, Bool.not_true]
    exact points_j2 F nP hB
  | succ d ih =>
    intro i hi
    have g := ih (i + 1) (by omega)
    rw [List.range_succ, List.map_append, ints_append, ints_append] at g
    have em : (i : Int) % 256 = (i : Int) := by omega
    have ei : wrap64 ((i : Int) + 1) = ((i + 1 : Nat) : Int) := w64s (by omega)
    refine Ev.succ ?_
    simp only [outpostlaw32_GaloisPoints.l0]
    rw [em, ei]
    clear em ei
    refine ev_pos (by rw [ints_length]; omega) (Ev.bind (Eval_t F (show i < 2 ^ m by omega) P lP (by omega)) ?_)
    simp only [outpostlaw32_num.f, Option.bind_some, if_true]
    exact ev_pos (by rw [ints_length, List.length_range]; omega) (ev_pos (by rw [ints_length, List.length_map, List.length_range]; omega) g)
end
theorem GaloisPoints : outpostlaw32_GaloisPoints.Pure := by
  intro M Q l1 l2 hM hQ ml1 sl1 hl1 ml2 sl2 hl2
  obtain ⟨A, rfl, hA⟩ := bytes_of hl1
  obtain ⟨B, rfl, hB⟩ := bytes_of hl2
  refine Ev.rounds (g := fun k => outpostlaw32_GaloisPoints.f k M Q (ints A) (ints B)) ?_
  unfold outpostlaw32_GaloisPoints.f
  rcases made_f M Q (wf_i64 hM) (wf_u64 hQ) with h | ⟨m, p, rfl, rfl, F, h⟩
  · refine Ev.bind h ?_
    refine ev_neg (by simp) ?_
    exact Ev.step (f := fun _ => some true) (fun k => by simp only [outpostlaw32_GaloisPoints.j0, if_true]) (Ev.now _)
  · refine Ev.bind h ?_
    refine ev_pos rfl ?_
    have h256 := F.sz256
    have h8 := F.sz8
    have n1 := rowN_length m (2 ^ m - 1) A
    have t1 := trimN_length (rowN m (2 ^ m - 1) A)
    have l1 : ∀ y ∈ trimN (rowN m (2 ^ m - 1) A), y < 2 ^ m := fun y hy => rowN_lt F _ A y (trimN_mem hy)
    have ew : wrap64 (((2 ^ m : Nat) : Int) - 1) = ((2 ^ m - 1 : Nat) : Int) := by rw [w64 (by omega) (by omega)]; omega
    refine Ev.succ ?_
    simp only [outpostlaw32_GaloisPoints.j0, Bool.not_true, Bool.false_eq_true, if_false]
    rw [Size_r F]
    simp only [Option.bind_some]
    rw [ew]
    clear ew
    refine Ev.bind (row_f F (2 ^ m - 1) A hA (by omega)) (Ev.bind (refTrim_f _ (by omega)) ?_)
    exact points_l0 F (tr_trim _) l1 (by omega) hB (P := trimN (rowN m (2 ^ m - 1) A)) _ 0 (Nat.zero_add _)
end Go.Proofs.Ytjdkamhnbheofaa.Pure
