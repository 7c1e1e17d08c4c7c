/- Reedsol: generator and code words of both. -/
import Derived.Test.YtpgecdidddoglaaRbPx5
import Derived.Test.YtpgecdidddoglaaRbQRsA
import Derived.Test.YtpgecdidddoglaaRbPx8
import Derived.Test.YtpgecdidddoglaaRbPx9
set_option linter.unusedVariables false
set_option linter.unusedSimpArgs false
namespace Go.Proofs.Ytpgecdidddoglaa.GalP
open Go.RowKit Go.Proofs.Ytpgecdidddoglaa.P Go.Proofs.YtpgecdidddoglaaW.PrintWords Go.Proofs.YtpgecdidddoglaaW.PrintLast Go.Proofs.YtpgecdidddoglaaW.PrintMore Go.Proofs.YtpgecdidddoglaaW.Q
open Go.Proofs.Ytpgecdidddoglaa.Gal
def genN (p m f : Nat) : Nat → List Nat
  | 0 => [1]
  | j + 1 => xadd (genN p m f j ++ [0]) 1 ((genN p m f j).map (fun x => mu p m x (pw p (2 ^ m) (f + j))))
theorem genN_length (p m f : Nat) : ∀ j,(genN p m f j).length = j + 1 := by
  intro j
  induction j with
  | zero => rfl
  | succ j ih => rw [genN,xadd_length,List.length_append,ih]; rfl
theorem genN_lt {m p : Nat} (F : Fi m p) (f : Nat) : ∀ j,∀ y ∈ genN p m f j,y < 2 ^ m := by
  intro j
  induction j with
  | zero => intro y hy; rw [List.mem_singleton.1 hy]; exact F.one_lt
  | succ j ih =>
    rw [genN]
    refine xadd_lt _ _ _ (fun y hy => ?_) (fun y hy => ?_)
    · rcases List.mem_append.1 hy with hy | hy
      · exact ih y hy
      · rw [List.mem_singleton.1 hy]; exact F.zero_lt
    · obtain ⟨x,hx,rfl⟩ := List.mem_map.1 hy
      exact F.mu_lt (ih x hx)
def encW (p m : Nat) (g : List Nat) : Nat → Nat → List Nat → List Nat
  | 0,_,W => W
  | d + 1,i,W => encW p m g d (i + 1) (xadd W i (g.map (fun x => mu p m (W.getD i 0) x)))
theorem encW_length (p m : Nat) (g : List Nat) : ∀ d i W,(encW p m g d i W).length = W.length := by
  intro d
  induction d with
  | zero => intro i W; rfl
  | succ d ih => intro i W; rw [encW,ih,xadd_length]
theorem encW_step_lt {m p : Nat} (F : Fi m p) {g W : List Nat} (hW : ∀ y ∈ W,y < 2 ^ m) (i : Nat) : ∀ y ∈ xadd W i (g.map (fun x => mu p m (W.getD i 0) x)),y < 2 ^ m :=
  xadd_lt _ _ _ hW (fun y hy => by
    obtain ⟨x,_,rfl⟩ := List.mem_map.1 hy
    exact F.mu_lt (getD_lt' F.zero_lt hW i))
theorem encW_lt {m p : Nat} (F : Fi m p) {g : List Nat} : ∀ d i W,(∀ y ∈ W,y < 2 ^ m) → ∀ y ∈ encW p m g d i W,y < 2 ^ m := by
  intro d
  induction d with
  | zero => intro i W h; exact h
  | succ d ih => intro i W h; rw [encW]; exact ih _ _ (encW_step_lt F h i)
def encN (p m f n : Nat) (D : List Nat) : List Nat := D ++ (encW p m (genN p m f n) D.length 0 (D ++ List.replicate n 0)).drop D.length
theorem encN_length (p m f n : Nat) (D : List Nat) : (encN p m f n D).length = D.length + n := by
  unfold encN
  rw [List.length_append,List.length_drop,encW_length,List.length_append,List.length_replicate]
  omega
theorem pad_lt {m n : Nat} {D : List Nat} (h0 : 0 < 2 ^ m) (h : ∀ y ∈ D,y < 2 ^ m) : ∀ y ∈ D ++ List.replicate n 0,y < 2 ^ m := by
  intro y hy
  rcases List.mem_append.1 hy with hy | hy
  · exact h y hy
  · rw [List.eq_of_mem_replicate hy]; exact h0
theorem encN_lt {m p : Nat} (F : Fi m p) (f n : Nat) {D : List Nat} (hD : ∀ y ∈ D,y < 2 ^ m) : ∀ y ∈ encN p m f n D,y < 2 ^ m := by
  intro y hy
  unfold encN at hy
  rcases List.mem_append.1 hy with hy | hy
  · exact hD y hy
  · exact encW_lt F _ _ _ (pad_lt F.zero_lt hD) y (List.mem_of_mem_drop hy)
theorem ints_nil_append (l : List Int) : ([] : List Int) ++ l = l := rfl
section
variable {m p f n : Nat} (C : Cd m p f n)
include C
theorem gen_l1 {g : List Nat} (hg : ∀ y ∈ g,y < 2 ^ m) (lg_ : g.length ≤ 1000) {c : Nat} (hc : c < 2 ^ m) (j : Nat) (hj : j < n) (d : Nat) : ∀ (i : Nat) (Z : List Nat) (r : List Int),i + d = g.length → Z.length = g.length + 1 → (∀ y ∈ Z,y < 2 ^ m) →
    Ev (fun k => reedsol_code_generator.l0 k (cod m p f n) (ints (xadd Z (i + 1) ((g.drop i).map (fun x => mu p m x c)))) (n : Int) ((j + 1 : Nat) : Int)) r →
    Ev (fun k => reedsol_code_generator.l1 k (cod m p f n) (c : Int) (ints Z) (n : Int) (j : Int) (ints g) (g.length : Int) (i : Int)) r := by
  have s8 := C.F.sz8
  have s256 := C.F.sz256
  have hn2 := C.n2
  induction d with
  | zero =>
    intro i Z r hi lZ hZ h
    rw [List.drop_of_length_le (by omega),List.map_nil,xadd] at h
    have c1 : ¬ ((i : Int) < (g.length : Int)) := by omega
    have ej : wrap64 ((j : Int) + 1) = ((j + 1 : Nat) : Int) := w64s (by omega)
    refine Ev.succ ?_
    simp only [reedsol_code_generator.l1]
    refine ev_neg c1 ?_
    rw [ej]
    exact h
  | succ d ih =>
    intro i Z r hi lZ hZ h
    have hgi : g.getD i 0 < 2 ^ m := getD_lt' C.F.zero_lt hg i
    have hzi : Z.getD (i + 1) 0 < 2 ^ m := getD_lt' C.F.zero_lt hZ (i + 1)
    have hm := C.F.mu_lt (b := c) hgi
    have hx : Z.getD (i + 1) 0 ^^^ mu p m (g.getD i 0) c < 2 ^ m := Nat.xor_lt_two_pow hzi hm
    rw [drop_get (by omega),List.map_cons,xadd] at h
    have q := ih (i + 1) (Z.set (i + 1) (Z.getD (i + 1) 0 ^^^ mu p m (g.getD i 0) c)) r (by omega) (by rw [List.length_set]; exact lZ) (mem_set_lt hZ (i + 1) hx) h
    have c1 : (i : Int) < (g.length : Int) := by omega
    have c2 : (0 : Int) ≤ (i : Int) := by omega
    have c3 : (i : Int) < ((ints g).length : Int) := by rw [ints_length]; omega
    have c4 : (0 : Int) ≤ ((i + 1 : Nat) : Int) := by omega
    have c5 : ((i + 1 : Nat) : Int) < ((ints Z).length : Int) := by rw [ints_length]; omega
    have c6 : 0 < (cod m p f n).size := by rw [cod_size]; omega
    have b1 : Z.getD (i + 1) 0 < 256 := by omega
    have b2 : mu p m (g.getD i 0) c < 256 := by omega
    have a1 := mul_o C hgi hc
    have ei : wrap64 ((i : Int) + 1) = ((i + 1 : Nat) : Int) := w64s (by omega)
    refine Ev.succ ?_
    simp only [reedsol_code_generator.l1]
    rw [ei,rd_ints,rd_ints]
    refine ev_pos c1 (ev_pos c2 (ev_pos c3 (ev_pos c4 (ev_pos c5 (ev_pos c6 (Ev.bind a1 ?_))))))
    rw [bxor8 _ _ b1 b2,set_ints]
    exact q
theorem gen_l0 (d : Nat) : ∀ j : Nat,j + d = n → Ev (fun k => reedsol_code_generator.l0 k (cod m p f n) (ints (genN p m f j)) (n : Int) (j : Int)) (ints (genN p m f n)) := by
  have s8 := C.F.sz8
  have s256 := C.F.sz256
  have hn2 := C.n2
  have hf := C.hf
  induction d with
  | zero =>
    intro j hj
    rw [show j = n by omega]
    refine Ev.step (f := fun _ => some (ints (genN p m f n))) (fun k => ?_) (Ev.now _)
    simp only [reedsol_code_generator.l0]
    rw [if_neg (by omega)]
  | succ d ih =>
    intro j hj
    have hjn : j < n := by omega
    have g := ih (j + 1) (by omega)
    rw [genN] at g
    have lg_ := genN_length p m f j
    have hg := genN_lt C.F f j
    have hz : ∀ y ∈ genN p m f j ++ [0],y < 2 ^ m := pad_lt (n := 1) C.F.zero_lt hg
    have q := gen_l1 C hg (by omega) (C.F.pw_lt (f + j)) j hjn (genN p m f j).length 0 (genN p m f j ++ [0]) _ (by omega) (by rw [List.length_append]; rfl) hz (by rw [List.drop_zero]; exact g)
    have c1 : (j : Int) < (n : Int) := by omega
    have c2 : 0 < (cod m p f n).size := by rw [cod_size]; omega
    have c3 : (([] : List Int)).length + (ints (genN p m f j)).length < 140737488355328 := by rw [ints_length]; show 0 + _ < _; omega
    have c4 : (ints (genN p m f j)).length < 140737488355328 := by rw [ints_length]; omega
    have e0 : (cod m p f n).First = (f : Int) := rfl
    have ei : ints (genN p m f j) ++ [0] = ints (genN p m f j ++ [0]) := by rw [ints_append]; rfl
    have ef : wrap64 ((f : Int) + (j : Int)) = ((f + j : Nat) : Int) := by rw [w64 (by omega) (by omega)]; omega
    refine Ev.succ ?_
    simp only [reedsol_code_generator.l0]
    refine ev_pos c1 (ev_pos c2 ?_)
    rw [e0,ef,exp_o C]
    refine Ev.bind (Ev.now _) (ev_pos c3 (Ev.bind (Ev.now _) ?_))
    rw [ints_nil_append]
    refine ev_pos c4 ?_
    rw [ei,ints_length]
    exact q
theorem gen_f : Ev (fun k => reedsol_code_generator.f k (cod m p f n)) (ints (genN p m f n)) := by
  have s8 := C.F.sz8
  unfold reedsol_code_generator.f
  refine ev_pos (by rw [cod_size]; omega) ?_
  exact gen_l0 C n 0 (by omega)
theorem enc_l1 {D : List Nat} {g : List Nat} (hg : ∀ y ∈ g,y < 2 ^ m) (lg_ : g.length = n + 1) (lD : D.length + n ≤ 2 ^ m - 1) {c : Nat} (hc : c < 2 ^ m) (i : Nat) (hi : i < D.length) (d : Nat) : ∀ (j : Nat) (Z : List Nat) (r : List Int),j + d = g.length → Z.length = D.length + n → (∀ y ∈ Z,y < 2 ^ m) →
    Ev (fun k => reedsol_code_encode.l0 k (cod m p f n) (ints D) (ints g) (ints (xadd Z (i + j) ((g.drop j).map (fun x => mu p m c x)))) (D.length : Int) ((i + 1 : Nat) : Int)) r →
    Ev (fun k => reedsol_code_encode.l1 k (cod m p f n) (ints D) (ints g) (ints Z) (i : Int) (c : Int) (D.length : Int) (i : Int) (ints g) (g.length : Int) (j : Int)) r := by
  have s8 := C.F.sz8
  have s256 := C.F.sz256
  have hn2 := C.n2
  induction d with
  | zero =>
    intro j Z r hj lZ hZ h
    rw [List.drop_of_length_le (by omega),List.map_nil,xadd] at h
    have c1 : ¬ ((j : Int) < (g.length : Int)) := by omega
    have ei : wrap64 ((i : Int) + 1) = ((i + 1 : Nat) : Int) := w64s (by omega)
    refine Ev.succ ?_
    simp only [reedsol_code_encode.l1]
    refine ev_neg c1 ?_
    rw [ei]
    exact h
  | succ d ih =>
    intro j Z r hj lZ hZ h
    have hgj : g.getD j 0 < 2 ^ m := getD_lt' C.F.zero_lt hg j
    have hzi : Z.getD (i + j) 0 < 2 ^ m := getD_lt' C.F.zero_lt hZ (i + j)
    have hm := C.F.mu_lt (b := g.getD j 0) hc
    have hx : Z.getD (i + j) 0 ^^^ mu p m c (g.getD j 0) < 2 ^ m := Nat.xor_lt_two_pow hzi hm
    rw [drop_get (by omega),List.map_cons,xadd] at h
    have q := ih (j + 1) (Z.set (i + j) (Z.getD (i + j) 0 ^^^ mu p m c (g.getD j 0))) r (by omega) (by rw [List.length_set]; exact lZ) (mem_set_lt hZ (i + j) hx) (by rw [← Nat.add_assoc]; exact h)
    have c1 : (j : Int) < (g.length : Int) := by omega
    have c2 : (0 : Int) ≤ (j : Int) := by omega
    have c3 : (j : Int) < ((ints g).length : Int) := by rw [ints_length]; omega
    have c4 : (0 : Int) ≤ ((i + j : Nat) : Int) := by omega
    have c5 : ((i + j : Nat) : Int) < ((ints Z).length : Int) := by rw [ints_length]; omega
    have c6 : 0 < (cod m p f n).size := by rw [cod_size]; omega
    have b1 : Z.getD (i + j) 0 < 256 := by omega
    have b2 : mu p m c (g.getD j 0) < 256 := by omega
    have a1 := mul_o C hc hgj
    have ej : wrap64 ((j : Int) + 1) = ((j + 1 : Nat) : Int) := w64s (by omega)
    have eij : wrap64 ((i : Int) + (j : Int)) = ((i + j : Nat) : Int) := by clear ej; rw [w64 (by omega) (by omega)]; omega
    refine Ev.succ ?_
    simp only [reedsol_code_encode.l1]
    rw [eij,ej,rd_ints,rd_ints]
    refine ev_pos c1 (ev_pos c2 (ev_pos c3 (ev_pos c4 (ev_pos c5 (ev_pos c6 (Ev.bind a1 ?_))))))
    rw [bxor8 _ _ b1 b2,set_ints]
    exact q
theorem enc_l0 {D : List Nat} {g : List Nat} (hg : ∀ y ∈ g,y < 2 ^ m) (lg_ : g.length = n + 1) (lD : D.length + n ≤ 2 ^ m - 1) (d : Nat) : ∀ (i : Nat) (Z : List Nat),i + d = D.length → Z.length = D.length + n → (∀ y ∈ Z,y < 2 ^ m) →
    Ev (fun k => reedsol_code_encode.l0 k (cod m p f n) (ints D) (ints g) (ints Z) (D.length : Int) (i : Int)) (ints (D ++ (encW p m g d i Z).drop D.length)) := by
  have s8 := C.F.sz8
  have s256 := C.F.sz256
  have hn2 := C.n2
  induction d with
  | zero =>
    intro i Z hi lZ hZ
    rw [encW]
    have e1 : min D.length Z.length = D.length := by omega
    refine Ev.step (f := fun _ => some (ints (D ++ Z.drop D.length))) (fun k => ?_) (Ev.now _)
    simp only [reedsol_code_encode.l0]
    rw [if_neg (by omega),if_pos (by rw [ints_length,ints_length]; omega),ints_length,ints_length,e1,ints_append,ints_take,ints_drop,List.take_length]
  | succ d ih =>
    intro i Z hi lZ hZ
    have hiD : i < D.length := by omega
    have hc : Z.getD i 0 < 2 ^ m := getD_lt' C.F.zero_lt hZ i
    have q := ih (i + 1) (xadd Z i (g.map (fun x => mu p m (Z.getD i 0) x))) (by omega) (by rw [xadd_length]; exact lZ) (encW_step_lt C.F hZ i)
    have q1 := enc_l1 C hg lg_ lD hc i hiD g.length 0 Z _ (by omega) lZ hZ (by rw [List.drop_zero,Nat.add_zero]; exact q)
    have c1 : (i : Int) < (D.length : Int) := by omega
    have c2 : (0 : Int) ≤ (i : Int) := by omega
    have c3 : (i : Int) < ((ints Z).length : Int) := by rw [ints_length]; omega
    refine Ev.succ ?_
    simp only [reedsol_code_encode.l0]
    refine ev_pos c1 (ev_pos c2 (ev_pos c3 ?_))
    rw [rd_ints,ints_length]
    exact q1
theorem enc_f {D : List Nat} (hD : ∀ y ∈ D,y < 2 ^ m) (lD : D.length + n ≤ 2 ^ m - 1) : Ev (fun k => reedsol_code_encode.f k (cod m p f n) (ints D)) (ints (encN p m f n D)) := by
  have s8 := C.F.sz8
  have s256 := C.F.sz256
  have hn2 := C.n2
  have q := enc_l0 C (D := D) (genN_lt C.F f n) (genN_length p m f n) lD D.length 0 (D ++ List.replicate n 0) (by omega) (by rw [List.length_append,List.length_replicate]) (pad_lt C.F.zero_lt hD)
  have e0 : (cod m p f n).Par = (n : Int) := rfl
  have e2 : (ints D).take (min D.length (List.replicate (D.length + n) (0 : Int)).length) ++ (List.replicate (D.length + n) (0 : Int)).drop (min D.length (List.replicate (D.length + n) (0 : Int)).length) = ints (D ++ List.replicate n 0) := by
    rw [List.length_replicate,show min D.length (D.length + n) = D.length by omega,ints_take,List.take_length,List.drop_replicate,show D.length + n - D.length = n by omega,ints_append,ints_replicate]
  have e1 : wrap64 (((ints D).length : Int) + (n : Int)) = ((D.length + n : Nat) : Int) := by rw [ints_length,w64 (by omega) (by omega)]; omega
  unfold reedsol_code_encode.f encN
  refine Ev.bind (gen_f C) ?_
  rw [e0,e1,Int.toNat_natCast]
  clear e1
  refine ev_pos (by rw [cod_size]; omega) (ev_pos (by omega) (ev_pos (by omega) (Ev.bind (Ev.now _) (ev_pos (by rw [ints_length,List.length_replicate]; omega) ?_))))
  rw [ints_length,e2]
  exact q
end
section
variable {m p f n : Nat} (C : Cd m p f n)
include C
end
end Go.Proofs.Ytpgecdidddoglaa.GalP
