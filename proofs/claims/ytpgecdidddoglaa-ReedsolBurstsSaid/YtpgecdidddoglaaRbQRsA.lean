/- Reedsol: powers, checks, opening, what the field does, errors of words, syndromes: of both. -/
import Derived.Test.YtpgecdidddoglaaRbPx11
import Derived.Test.YtpgecdidddoglaaRbPx2
import Derived.Test.YtpgecdidddoglaaRbPx5
import Derived.Test.YtpgecdidddoglaaRbPx6
import Derived.Test.YtpgecdidddoglaaRbPx8
import Derived.Test.YtpgecdidddoglaaRbPx9
import Derived.Test.YtpgecdidddoglaaRbQGalM
import Derived.Test.YtpgecdidddoglaaRbQGalT
import Derived.Test.YtpgecdidddoglaaRbQGalE
import Derived.Test.YtpgecdidddoglaaRbQGalU
import Derived.Test.YtpgecdidddoglaaRbPx7
import Derived.Test.YtpgecdidddoglaaRbPx3
set_option linter.unusedVariables false
set_option linter.unusedSimpArgs false
namespace Go.Proofs.Ytpgecdidddoglaa.GalP
open Go.RowKit Go.Proofs.Ytpgecdidddoglaa.P Go.Proofs.YtpgecdidddoglaaW.PrintWords Go.Proofs.YtpgecdidddoglaaW.PrintLast Go.Proofs.YtpgecdidddoglaaW.PrintMore Go.Proofs.YtpgecdidddoglaaW.Q
open Go.Proofs.Ytpgecdidddoglaa.Gal
theorem shl1 (m : Nat) (h : m ≤ 8) : shl .i64 1 (m : Int) = ((2 ^ m : Nat) : Int) := by
  rcases (show m = 0 ∨ m = 1 ∨ m = 2 ∨ m = 3 ∨ m = 4 ∨ m = 5 ∨ m = 6 ∨ m = 7 ∨ m = 8 by omega) with rfl | rfl | rfl | rfl | rfl | rfl | rfl | rfl | rfl <;> decide +kernel
theorem q1_f {m p : Nat} (F : Fi m p) (P : Int) : r4_q1.f (m : Int) P = some ((2 ^ m - 1 : Nat) : Int) := by
  have h8 := F.eight
  have s8 := F.sz8
  have s256 := F.sz256
  unfold r4_q1.f
  rw [wu64 (by omega) (by omega),if_pos (by omega),shl1 m h8,w64 (by omega) (by omega)]
  congr 1
  omega
structure Cd (m p f n : Nat) : Prop where
  F : Fi m p
  hf : f ≤ 2 ^ m - 2
  n1 : 1 ≤ n
  n2 : n ≤ 2 ^ m - 2
  ck : Ev (fun k => galois_Check.f k (m : Int) (p : Int)) 0
theorem checks_f (M P A B : Int) (hM : -9223372036854775808 ≤ M ∧ M ≤ 9223372036854775807) (hP : 0 ≤ P ∧ P < 18446744073709551616) :
    ∃ c : Int,Ev (fun k => reedsol_Check.f k M P A B) c ∧ Ev (fun k => r4_Check.f k M P A B) c ∧ (c ≠ 0 ∨ c = 0 ∧ ∃ m p f n : Nat,M = m ∧ P = p ∧ A = f ∧ B = n ∧ Cd m p f n) := by
  obtain ⟨c,g1,g2,hc⟩ := check_f M P hM hP
  unfold reedsol_Check.f r4_Check.f
  rcases hc with rfl | ⟨rfl,m,p,rfl,rfl,F⟩
  · exact ⟨320,Ev.bind g1 (ev_neg (by decide) (Ev.now _)),Ev.bind g2 (ev_neg (by decide) (Ev.now _)),.inl (by decide)⟩
  have h8 := F.eight
  have s8 := F.sz8
  have s256 := F.sz256
  have e1 : wrap64 (shl .i64 1 (m : Int) - 2) = ((2 ^ m - 2 : Nat) : Int) := by rw [shl1 m h8,w64 (by omega) (by omega)]; omega
  have e2 : wrap64 (((2 ^ m - 1 : Nat) : Int) - 1) = ((2 ^ m - 2 : Nat) : Int) := by rw [w64 (by omega) (by omega)]; omega
  have m0 : (0 : Int) ≤ (m : Int) := by clear e1 e2; omega
  by_cases c1 : A < 0
  · exact ⟨330,Ev.bind g1 (ev_pos rfl (ev_pos m0 (ev_pos c1 (Ev.now _)))),Ev.bind g2 (ev_pos rfl (ev_pos c1 (Ev.now _))),.inl (by decide)⟩
  by_cases c2 : A > ((2 ^ m - 2 : Nat) : Int)
  · refine ⟨330,Ev.bind g1 (ev_pos rfl (ev_pos m0 (ev_neg c1 (ev_pos (by rw [e1]; exact c2) (Ev.now _))))),Ev.bind g2 (ev_pos rfl (ev_neg c1 ?_)),.inl (by decide)⟩
    rw [q1_f F]
    simp only [Option.bind_some]
    exact ev_pos (by rw [e2]; exact c2) (Ev.now _)
  by_cases c3 : B < 1
  · refine ⟨330,Ev.bind g1 (ev_pos rfl (ev_pos m0 (ev_neg c1 (ev_neg (by rw [e1]; exact c2) (ev_pos c3 (Ev.now _)))))),Ev.bind g2 (ev_pos rfl (ev_neg c1 ?_)),.inl (by decide)⟩
    rw [q1_f F]
    simp only [Option.bind_some]
    exact ev_neg (by rw [e2]; exact c2) (ev_pos c3 (Ev.now _))
  by_cases c4 : B > ((2 ^ m - 2 : Nat) : Int)
  · refine ⟨330,Ev.bind g1 (ev_pos rfl (ev_pos m0 (ev_neg c1 (ev_neg (by rw [e1]; exact c2) (ev_neg c3 (ev_pos (by rw [e1]; exact c4) (Ev.now _))))))),Ev.bind g2 (ev_pos rfl (ev_neg c1 ?_)),.inl (by decide)⟩
    rw [q1_f F]
    simp only [Option.bind_some]
    exact ev_neg (by rw [e2]; exact c2) (ev_neg c3 (ev_pos (by rw [e2]; exact c4) (Ev.now _)))
  refine ⟨0,Ev.bind g1 (ev_pos rfl (ev_pos m0 (ev_neg c1 (ev_neg (by rw [e1]; exact c2) (ev_neg c3 (ev_neg (by rw [e1]; exact c4) (Ev.now _))))))),Ev.bind g2 (ev_pos rfl (ev_neg c1 ?_)),.inr ⟨rfl,m,p,A.toNat,B.toNat,rfl,rfl,?_,?_,F,?_,?_,?_,g1⟩⟩
  · rw [q1_f F]
    simp only [Option.bind_some]
    exact ev_neg (by rw [e2]; exact c2) (ev_neg c3 (ev_neg (by rw [e2]; exact c4) (Ev.now _)))
  all_goals clear e1 e2; omega
def cod (m p f n : Nat) : RCode := ⟨m,p,f,n,tab m p⟩
theorem cod_size (m p f n : Nat) : (cod m p f n).size = 2 ^ m := rfl
theorem open_ok {m p f n : Nat} (C : Cd m p f n) (h : Ev (fun k => reedsol_Check.f k (m : Int) (p : Int) (f : Int) (n : Int)) 0) : Ev (fun k => reedsol_open.f k (m : Int) (p : Int) (f : Int) (n : Int)) (cod m p f n,0) := by
  unfold reedsol_open.f
  refine Ev.bind h (ev_pos rfl (Ev.bind (new_ok C.F C.ck) (ev_pos rfl (ev_pos ?_ (Ev.now _)))))
  rw [tab_size]
  have := C.F.sz8
  omega
theorem Check_0 {m p f n : Nat} (C : Cd m p f n) : Ev (fun k => reedsol_Check.f k (m : Int) (p : Int) (f : Int) (n : Int)) 0 := by
  have h8 := C.F.eight
  have s8 := C.F.sz8
  have s256 := C.F.sz256
  have h1 := C.hf
  have h2 := C.n1
  have h3 := C.n2
  have c1 : ¬ ((f : Int) < 0) := by omega
  have c2 : ¬ ((f : Int) > ((2 ^ m - 2 : Nat) : Int)) := by omega
  have c3 : ¬ ((n : Int) < 1) := by omega
  have c4 : ¬ ((n : Int) > ((2 ^ m - 2 : Nat) : Int)) := by omega
  have m0 : (0 : Int) ≤ (m : Int) := by omega
  have e1 : wrap64 (shl .i64 1 (m : Int) - 2) = ((2 ^ m - 2 : Nat) : Int) := by rw [shl1 m h8,w64 (by omega) (by omega)]; omega
  unfold reedsol_Check.f
  exact Ev.bind C.ck (ev_pos rfl (ev_pos m0 (ev_neg c1 (ev_neg (by rw [e1]; exact c2) (ev_neg c3 (ev_neg (by rw [e1]; exact c4) (Ev.now _)))))))
section
variable {m p f n : Nat} (C : Cd m p f n)
include C
theorem open_t : Ev (fun k => reedsol_open.f k (m : Int) (p : Int) (f : Int) (n : Int)) (cod m p f n,0) := open_ok C (Check_0 C)
theorem mul_o {a b : Nat} (ha : a < 2 ^ m) (hb : b < 2 ^ m) : Ev (fun k => reedsol_open_1.f k (cod m p f n) (a : Int) (b : Int)) ((mu p m a b : Nat) : Int) := by
  unfold reedsol_open_1.f
  exact Ev.bind (Mul_t C.F ha hb) (Ev.now _)
theorem div_o {a b : Nat} (ha : a < 2 ^ m) (hb0 : 0 < b) (hb : b < 2 ^ m) : Ev (fun k => reedsol_open_2.f k (cod m p f n) (a : Int) (b : Int)) ((mu p m a (iv p m b) : Nat) : Int) := by
  unfold reedsol_open_2.f
  exact Ev.bind (Div_t C.F ha hb0 hb) (Ev.now _)
theorem at_o {x : Nat} (hx : x < 2 ^ m) (B : List Nat) (hB : ∀ y ∈ B,y < 2 ^ m) (lb : B.length ≤ 1024) : Ev (fun k => reedsol_open_3.f k (cod m p f n) (ints B) (x : Int)) ((hv p m B x : Nat) : Int) := by
  unfold reedsol_open_3.f
  exact Ev.bind (Eval_t C.F hx B hB lb) (Ev.now _)
theorem exp_i (x : Int) : gT_Exp.f (cod m p f n) x = some ((pw p (2 ^ m) (ex_of m x) : Nat) : Int) := by
  unfold gT_Exp.f
  rw [show (cod m p f n).T = tab m p from rfl,none_f]
  simp only [Option.bind_some,Bool.false_eq_true,if_false]
  have := power_t (q := 1) C.F x (by omega)
  rw [Nat.mul_one] at this
  exact this
theorem exp_o (x : Nat) : gT_Exp.f (cod m p f n) (x : Int) = some ((pw p (2 ^ m) x : Nat) : Int) := by
  rw [exp_i C,ex_of_nat,C.F.fld.mod]
theorem right_l (B : List Nat) (hB : ∀ x ∈ B,x < 256) (hl : B.length ≤ 9223372036854775806) (d : Nat) : ∀ i : Nat,i + d = B.length →
    Ev (fun k => reedsol_code_right.l0 k (cod m p f n) (ints B) (B.length : Int) (i : Int)) ((B.drop i).all (fun x => decide (x < 2 ^ m))) := by
  have s8 := C.F.sz8
  induction d with
  | zero =>
    intro i hi
    refine Ev.step (f := fun _ => some true) (fun k => ?_) ?_
    · simp only [reedsol_code_right.l0]
      rw [if_neg (by omega)]
    · rw [List.drop_of_length_le (by omega)]
      exact Ev.now _
  | succ d ih =>
    intro i hi
    have hil : i < B.length := by omega
    have hx : B.getD i 0 < 256 := getD_lt hB i
    rw [drop_get hil]
    simp only [List.all_cons]
    have hr : wrap64 (rd (ints B) (i : Int)) = ((B.getD i 0 : Nat) : Int) := by rw [rd_ints,w64 (by omega) (by omega)]
    refine Ev.step (f := fun k => if ((B.getD i 0 : Nat) : Int) ≥ ((2 ^ m : Nat) : Int) then some false else reedsol_code_right.l0 k (cod m p f n) (ints B) (B.length : Int) ((i + 1 : Nat) : Int)) (fun k => ?_) ?_
    · simp only [reedsol_code_right.l0]
      rw [if_pos (by omega),if_pos (by omega),if_pos (by rw [ints_length]; omega),if_pos (by rw [cod_size]; omega),hr,cod_size,w64s (by omega)]
    · by_cases c : B.getD i 0 < 2 ^ m
      · rw [decide_eq_true c,Bool.true_and]
        exact ev_neg (by omega) (ih (i + 1) (by omega))
      · rw [decide_eq_false c,Bool.false_and]
        exact ev_pos (by omega) (Ev.now _)
theorem right_f (B : List Nat) (hB : ∀ x ∈ B,x < 256) (hl : B.length ≤ 9223372036854775806) :
    Ev (fun k => reedsol_code_right.f k (cod m p f n) (ints B)) (B.all (fun x => decide (x < 2 ^ m))) := by
  unfold reedsol_code_right.f
  have := right_l C B hB hl B.length 0 (by omega)
  rw [List.drop_zero] at this
  rw [ints_length]
  exact this
end
section
variable {m p f n : Nat} (C : Cd m p f n)
include C
end
def syn (p m f n : Nat) (B : List Nat) : List Nat := (List.range n).map (fun j => hv p m B (pw p (2 ^ m) (f + j)))
theorem syn_length (p m f n : Nat) (B : List Nat) : (syn p m f n B).length = n := by unfold syn; rw [List.length_map,List.length_range]
theorem syn_getD (p m f n : Nat) (B : List Nat) {i : Nat} (h : i < n) : (syn p m f n B).getD i 0 = hv p m B (pw p (2 ^ m) (f + i)) := by
  unfold syn
  rw [List.getD_eq_getElem?_getD,List.getElem?_map,List.getElem?_range h]
  rfl
theorem syn_lt {m p f n : Nat} (F : Fi m p) {B : List Nat} (hB : ∀ y ∈ B,y < 2 ^ m) : ∀ y ∈ syn p m f n B,y < 2 ^ m := by
  intro y hy
  unfold syn at hy
  obtain ⟨j,_,rfl⟩ := List.mem_map.1 hy
  exact F.hv_lt (F.pw_lt _) hB
theorem take_one (l : List Nat) (i : Nat) (h : i < l.length) : l.take (i + 1) = l.take i ++ [l.getD i 0] := by
  rw [List.take_succ_eq_append_getElem h,List.getD_eq_getElem?_getD,List.getElem?_eq_getElem h]
  rfl
theorem fill_set (S : List Nat) (n i : Nat) (hn : S.length = n) (h : i < n) : (S.take i ++ List.replicate (n - i) 0).set i (S.getD i 0) = S.take (i + 1) ++ List.replicate (n - (i + 1)) 0 := by
  rw [take_one S i (by omega),show n - i = (n - (i + 1)) + 1 by omega,List.replicate_succ,List.append_assoc,List.singleton_append]
  have h1 : (S.take i).length = i := by rw [List.length_take]; omega
  have h2 := set_mid (S.take i) 0 (S.getD i 0) (List.replicate (n - (i + 1)) 0)
  rw [h1] at h2
  exact h2
def allz (l : List Nat) : Bool := l.all (fun y => decide (y = 0))
theorem allz_snoc (l : List Nat) (y : Nat) : allz (l ++ [y]) = (allz l && decide (y = 0)) := by unfold allz; simp
theorem nat_beq0 (n : Nat) : ((n : Int) == 0) = decide (n = 0) := by
  by_cases c : n = 0
  · subst c; rfl
  · rw [decide_eq_false c]; simp; exact c
section
variable {m p f n : Nat} (C : Cd m p f n) (B : List Nat) (hB : ∀ y ∈ B,y < 2 ^ m) (lb : B.length ≤ 2 ^ m - 1)
include C hB lb
theorem syn_l (d : Nat) : ∀ i : Nat,i + d = n →
    Ev (fun k => reedsol_code_syndromes.l0 k (cod m p f n) (ints B) (ints ((syn p m f n B).take i ++ List.replicate (n - i) 0)) (allz ((syn p m f n B).take i)) (n : Int) (i : Int)) (ints (syn p m f n B),allz (syn p m f n B)) := by
  have s8 := C.F.sz8
  have s256 := C.F.sz256
  have hn2 := C.n2
  have hf := C.hf
  obtain ⟨S,hS⟩ : ∃ S,S = syn p m f n B := ⟨_,rfl⟩
  have lS : S.length = n := by rw [hS]; exact syn_length _ _ _ _ _
  rw [← hS]
  induction d with
  | zero =>
    intro i hi
    have e1 : S.take i = S := List.take_of_length_le (by omega)
    rw [e1,show n - i = 0 by omega,List.replicate_zero,List.append_nil]
    refine Ev.step (f := fun _ => some (ints S,allz S)) (fun k => ?_) (Ev.now _)
    simp only [reedsol_code_syndromes.l0]
    rw [if_neg (by omega)]
  | succ d ih =>
    intro i hi
    have hin : i < n := by omega
    have g := ih (i + 1) (by omega)
    have hv_ := syn_getD p m f n B hin
    rw [← hS] at hv_
    have c1 : (i : Int) < (n : Int) := by omega
    have c2 : 0 < (cod m p f n).size := by rw [cod_size]; omega
    have c3 : (0 : Int) ≤ (i : Int) := by omega
    have c4 : (i : Int) < ((ints (S.take i ++ List.replicate (n - i) 0)).length : Int) := by rw [ints_length,List.length_append,List.length_take,List.length_replicate]; omega
    have e0 : (cod m p f n).First = (f : Int) := rfl
    have a1 := at_o C (C.F.pw_lt (f + i)) B hB (by omega)
    rw [← hv_] at a1
    have ei : wrap64 ((i : Int) + 1) = ((i + 1 : Nat) : Int) := w64s (by omega)
    have ef : wrap64 ((f : Int) + (i : Int)) = ((f + i : Nat) : Int) := by clear ei; rw [w64 (by omega) (by omega)]; omega
    refine Ev.succ ?_
    simp only [reedsol_code_syndromes.l0]
    refine ev_pos c1 (ev_pos c2 ?_)
    rw [e0,ef,exp_o C]
    simp only [Option.bind_some]
    refine Ev.bind a1 (ev_pos c3 (ev_pos c4 ?_))
    rw [set_ints,fill_set S n i lS hin,ei]
    rw [take_one S i (by rw [lS]; exact hin),allz_snoc] at g
    rw [nat_beq0]
    by_cases c : allz (S.take i) = true
    · rw [c,Bool.true_and,← take_one S i (by rw [lS]; exact hin)] at g
      exact ev_pos c g
    · have c' : allz (S.take i) = false := by cases h : allz (S.take i) with | true => exact absurd h c | false => rfl
      rw [c',Bool.false_and,← take_one S i (by rw [lS]; exact hin)] at g
      exact ev_neg c g
theorem syn_f : Ev (fun k => reedsol_code_syndromes.f k (cod m p f n) (ints B)) (ints (syn p m f n B),allz (syn p m f n B)) := by
  have s8 := C.F.sz8
  have s256 := C.F.sz256
  have hn2 := C.n2
  have g := syn_l C B hB lb n 0 (by omega)
  unfold reedsol_code_syndromes.f
  have e0 : (cod m p f n).Par = (n : Int) := rfl
  rw [e0]
  refine ev_pos (by rw [cod_size]; omega) (ev_pos (by omega) (ev_pos (by omega) ?_))
  simp only [Option.bind_some]
  rw [Int.toNat_natCast,List.length_replicate,← ints_replicate]
  rw [List.take_zero,List.nil_append] at g
  exact g
end
section
variable {m p f n : Nat} (C : Cd m p f n) (B : List Nat) (hB : ∀ x ∈ B,x < 256) (hl : B.length ≤ 9223372036854775806)
include C hB hl
end
end Go.Proofs.Ytpgecdidddoglaa.GalP
