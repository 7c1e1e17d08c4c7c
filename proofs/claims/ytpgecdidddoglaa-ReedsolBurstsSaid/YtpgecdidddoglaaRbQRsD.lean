/- Reedsol's decoder in plain numbers: products with the lowest coefficient first, values, the shortest recurrence (Berlekamp and Massey). -/
import Derived.Test.YtpgecdidddoglaaRbQRsT
import Derived.Test.YtpgecdidddoglaaRbPx12
import Derived.Test.YtpgecdidddoglaaRbPx13
import Derived.Test.YtpgecdidddoglaaRbPx14
set_option linter.unusedVariables false
set_option linter.unusedSimpArgs false
namespace Go.Proofs.Ytpgecdidddoglaa.GalP
open Go.RowKit Go.Proofs.Ytpgecdidddoglaa.P Go.Proofs.YtpgecdidddoglaaW.PrintWords Go.Proofs.YtpgecdidddoglaaW.PrintLast Go.Proofs.YtpgecdidddoglaaW.PrintMore Go.Proofs.YtpgecdidddoglaaW.Q
open Go.Proofs.Ytpgecdidddoglaa.Gal
def pl (p m : Nat) (B : List Nat) : List Nat → Nat → List Nat → List Nat
  | [],_,out => out
  | x :: A,i,out => pl p m B A (i + 1) (xadd out i (B.map (fun y => mu p m x y)))
def plow (p m : Nat) (A B : List Nat) (N : Nat) : List Nat := pl p m B A 0 (List.replicate (min N (A.length + B.length - 1)) 0)
theorem pl_length (p m : Nat) (B A : List Nat) : ∀ i out,(pl p m B A i out).length = out.length := by
  induction A with
  | nil => intro i out; rfl
  | cons x A ih => intro i out; rw [pl,ih,xadd_length]
theorem plow_length (p m : Nat) (A B : List Nat) (N : Nat) : (plow p m A B N).length = min N (A.length + B.length - 1) := by
  unfold plow
  rw [pl_length,List.length_replicate]
theorem pl_lt {m p : Nat} (F : Fi m p) (B A : List Nat) : (∀ y ∈ A,y < 2 ^ m) → ∀ i out,(∀ y ∈ out,y < 2 ^ m) → ∀ y ∈ pl p m B A i out,y < 2 ^ m := by
  induction A with
  | nil => intro _ i out h; exact h
  | cons x A ih =>
    intro hA i out h
    rw [pl]
    refine ih (fun z hz => hA z (List.mem_cons_of_mem _ hz)) _ _ (xadd_lt _ _ _ h (fun y hy => ?_))
    obtain ⟨z,_,rfl⟩ := List.mem_map.1 hy
    exact F.mu_lt (hA x (List.mem_cons_self ..))
theorem plow_lt {m p : Nat} (F : Fi m p) {A : List Nat} (hA : ∀ y ∈ A,y < 2 ^ m) (B : List Nat) (N : Nat) : ∀ y ∈ plow p m A B N,y < 2 ^ m :=
  pl_lt F B A hA 0 _ (mem_zeros F.zero_lt)
theorem mx_nat (a : Nat) : Go.Proofs.YtpgecdidddoglaaW.PrintWords.mx 0 ((a : Int) - 1) = ((a - 1 : Nat) : Int) := by
  unfold Go.Proofs.YtpgecdidddoglaaW.PrintWords.mx
  split <;> omega
theorem mx_nn (a b : Nat) : Go.Proofs.YtpgecdidddoglaaW.PrintWords.mx (a : Int) (b : Int) = ((max a b : Nat) : Int) := by
  unfold Go.Proofs.YtpgecdidddoglaaW.PrintWords.mx
  split <;> omega
section
variable {m p f n : Nat} (C : Cd m p f n)
include C
theorem pr_l1 {A B : List Nat} (hB : ∀ y ∈ B,y < 2 ^ m) (lA : A.length ≤ 100000) (lB : B.length ≤ 100000) {c : Nat} (hc : c < 2 ^ m) (i : Nat) (hi : i < A.length) (d : Nat) : ∀ (j : Nat) (Z : List Nat) (r : List Int),j + d = B.length → (∀ y ∈ Z,y < 2 ^ m) →
    Ev (fun k => reedsol_code_product.l0 k (cod m p f n) (ints B) (ints (xadd Z (i + j) ((B.drop j).map (fun x => mu p m c x)))) (ints A) (A.length : Int) ((i + 1 : Nat) : Int)) r →
    Ev (fun k => reedsol_code_product.l1 k (cod m p f n) (ints B) (ints Z) (i : Int) (c : Int) (ints A) (A.length : Int) (i : Int) (ints B) (B.length : Int) (j : Int)) r := by
  have s8 := C.F.sz8
  have s256 := C.F.sz256
  induction d with
  | zero =>
    intro j Z r hj hZ h
    rw [List.drop_of_length_le (by omega),List.map_nil,xadd] at h
    have c1 : ¬ ((j : Int) < (B.length : Int)) := by omega
    have ei : wrap64 ((i : Int) + 1) = ((i + 1 : Nat) : Int) := w64s (by omega)
    refine Ev.succ ?_
    simp only [reedsol_code_product.l1]
    refine ev_neg c1 ?_
    rw [ei]
    exact h
  | succ d ih =>
    intro j Z r hj hZ h
    have hgj : B.getD j 0 < 2 ^ m := getD_lt' C.F.zero_lt hB j
    have hzi : Z.getD (i + j) 0 < 2 ^ m := getD_lt' C.F.zero_lt hZ (i + j)
    have hm := C.F.mu_lt (b := B.getD j 0) hc
    have hx : Z.getD (i + j) 0 ^^^ mu p m c (B.getD j 0) < 2 ^ m := Nat.xor_lt_two_pow hzi hm
    rw [drop_get (by omega),List.map_cons,xadd] at h
    have q := ih (j + 1) (Z.set (i + j) (Z.getD (i + j) 0 ^^^ mu p m c (B.getD j 0))) r (by omega) (mem_set_lt hZ (i + j) hx) (by rw [← Nat.add_assoc]; exact h)
    have c1 : (j : Int) < (B.length : Int) := by omega
    have c2 : (0 : Int) ≤ (j : Int) := by omega
    have c3 : (j : Int) < ((ints B).length : Int) := by rw [ints_length]; omega
    have c4 : (0 : Int) ≤ ((i + j : Nat) : Int) := by omega
    have c6 : 0 < (cod m p f n).size := by rw [cod_size]; omega
    have b1 : Z.getD (i + j) 0 < 256 := by omega
    have b2 : mu p m c (B.getD j 0) < 256 := by omega
    have a1 := mul_o C hc hgj
    have lz := ints_length Z
    by_cases cz : i + j < Z.length
    · have c5 : ((i + j : Nat) : Int) < ((ints Z).length : Int) := by omega
      have ej : wrap64 ((j : Int) + 1) = ((j + 1 : Nat) : Int) := w64s (by omega)
      have eij : wrap64 ((i : Int) + (j : Int)) = ((i + j : Nat) : Int) := by clear ej; rw [w64 (by omega) (by omega)]; omega
      refine Ev.succ ?_
      simp only [reedsol_code_product.l1]
      rw [eij,ej,rd_ints,rd_ints]
      refine ev_pos c1 (ev_pos c2 (ev_pos c3 (ev_pos c5 (ev_pos c4 (ev_pos c6 (Ev.bind a1 ?_))))))
      rw [bxor8 _ _ b1 b2,set_ints]
      exact q
    · have c5 : ¬ (((i + j : Nat) : Int) < ((ints Z).length : Int)) := by omega
      rw [List.set_eq_of_length_le (by omega)] at q
      have ej : wrap64 ((j : Int) + 1) = ((j + 1 : Nat) : Int) := w64s (by omega)
      have eij : wrap64 ((i : Int) + (j : Int)) = ((i + j : Nat) : Int) := by clear ej; rw [w64 (by omega) (by omega)]; omega
      refine Ev.succ ?_
      simp only [reedsol_code_product.l1]
      rw [eij,ej]
      refine ev_pos c1 (ev_pos c2 (ev_pos c3 (ev_neg c5 ?_)))
      exact q
theorem pr_l0 {A B : List Nat} (hA : ∀ y ∈ A,y < 2 ^ m) (hB : ∀ y ∈ B,y < 2 ^ m) (lA : A.length ≤ 100000) (lB : B.length ≤ 100000) (d : Nat) : ∀ (i : Nat) (Z : List Nat),i + d = A.length → (∀ y ∈ Z,y < 2 ^ m) →
    Ev (fun k => reedsol_code_product.l0 k (cod m p f n) (ints B) (ints Z) (ints A) (A.length : Int) (i : Int)) (ints (pl p m B (A.drop i) i Z)) := by
  induction d with
  | zero =>
    intro i Z hi hZ
    rw [List.drop_of_length_le (by omega),pl]
    refine Ev.succ ?_
    simp only [reedsol_code_product.l0]
    exact ev_neg (by omega) (Ev.now _)
  | succ d ih =>
    intro i Z hi hZ
    have hiD : i < A.length := by omega
    have hc : A.getD i 0 < 2 ^ m := getD_lt' C.F.zero_lt hA i
    have hx : ∀ y ∈ xadd Z i (B.map (fun x => mu p m (A.getD i 0) x)),y < 2 ^ m := xadd_lt _ _ _ hZ (fun y hy => by
      obtain ⟨z,_,rfl⟩ := List.mem_map.1 hy
      exact C.F.mu_lt hc)
    have q := ih (i + 1) (xadd Z i (B.map (fun x => mu p m (A.getD i 0) x))) (by omega) hx
    have q1 := pr_l1 C hB lA lB hc i hiD B.length 0 Z _ (by omega) hZ (by rw [List.drop_zero,Nat.add_zero]; exact q)
    have c1 : (i : Int) < (A.length : Int) := by omega
    have c2 : (0 : Int) ≤ (i : Int) := by omega
    have c3 : (i : Int) < ((ints A).length : Int) := by rw [ints_length]; omega
    rw [drop_get hiD,pl]
    refine Ev.succ ?_
    simp only [reedsol_code_product.l0]
    refine ev_pos c1 (ev_pos c2 (ev_pos c3 ?_))
    rw [rd_ints,ints_length]
    exact q1
theorem prod_f {A B : List Nat} (hA : ∀ y ∈ A,y < 2 ^ m) (hB : ∀ y ∈ B,y < 2 ^ m) (lA : A.length ≤ 100000) (lB : B.length ≤ 100000) (N : Nat) (hN : N ≤ 1000000) : Ev (fun k => reedsol_code_product.f k (cod m p f n) (ints A) (ints B) (N : Int)) (ints (plow p m A B N)) := by
  have q := pr_l0 C hA hB lA lB A.length 0 (List.replicate (min N (A.length + B.length - 1)) 0) (by omega) (mem_zeros C.F.zero_lt)
  rw [List.drop_zero,ints_replicate] at q
  have e : mn (N : Int) (Go.Proofs.YtpgecdidddoglaaW.PrintWords.mx 0 (wrap64 (wrap64 (((ints A).length : Int) + ((ints B).length : Int)) - 1))) = ((min N (A.length + B.length - 1) : Nat) : Int) := by
    have e1 : wrap64 (((ints A).length : Int) + ((ints B).length : Int)) = ((A.length + B.length : Nat) : Int) := by
      rw [ints_length,ints_length,w64 (by omega) (by omega)]; omega
    rw [e1]
    clear e1
    rw [w64 (by omega) (by omega),mx_nat]
    unfold mn
    split <;> omega
  unfold reedsol_code_product.f plow
  rw [e,Int.toNat_natCast,ints_length]
  clear e
  exact ev_pos (by omega) (ev_pos (by omega) q)
theorem val_l {x : Nat} (hx : x < 2 ^ m) {P : List Nat} (hP : ∀ y ∈ P,y < 2 ^ m) (lP : P.length ≤ 100000) (d : Nat) : ∀ (v : Nat),d ≤ P.length → v < 2 ^ m →
    Ev (fun k => reedsol_code_value.l0 k (cod m p f n) (ints P) (x : Int) (v : Int) ((d : Int) - 1)) ((hvf p m x v (P.take d).reverse : Nat) : Int) := by
  have s8 := C.F.sz8
  have s256 := C.F.sz256
  induction d with
  | zero =>
    intro v hd hv
    refine Ev.succ ?_
    simp only [reedsol_code_value.l0]
    exact ev_neg (by omega) (Ev.now _)
  | succ d ih =>
    intro v hd hv
    have hp : P.getD d 0 < 2 ^ m := getD_lt' C.F.zero_lt hP d
    have hm := C.F.mu_lt (b := x) hv
    have q := ih (mu p m v x ^^^ P.getD d 0) (by omega) (Nat.xor_lt_two_pow hm hp)
    have b1 : P.getD d 0 < 256 := by omega
    have b2 : mu p m v x < 256 := by omega
    have e0 : ((d + 1 : Nat) : Int) - 1 = (d : Int) := by omega
    have c6 : 0 < (cod m p f n).size := by rw [cod_size]; omega
    have c1 : (d : Int) ≥ 0 := by omega
    have c2 : (0 : Int) ≤ (d : Int) := by omega
    have c3 : (d : Int) < ((ints P).length : Int) := by rw [ints_length]; omega
    rw [take_one P d (by omega),List.reverse_append]
    refine Ev.succ ?_
    simp only [reedsol_code_value.l0]
    rw [e0]
    refine ev_pos c1 (ev_pos c6 (Ev.bind (mul_o C hv hx) (ev_pos c2 (ev_pos c3 ?_))))
    rw [rd_ints,bxor8 _ _ b2 b1,w64 (by omega) (by omega)]
    exact q
theorem val_f {x : Nat} (hx : x < 2 ^ m) {P : List Nat} (hP : ∀ y ∈ P,y < 2 ^ m) (lP : P.length ≤ 100000) : Ev (fun k => reedsol_code_value.f k (cod m p f n) (ints P) (x : Int)) ((hv p m P.reverse x : Nat) : Int) := by
  have q := val_l C hx hP lP P.length 0 (Nat.le_refl _) C.F.zero_lt
  rw [List.take_length] at q
  unfold reedsol_code_value.f
  rw [ints_length,w64 (by omega) (by omega)]
  exact q
end
structure BM where
  now : List Nat
  was : List Nat
  L : Nat
  gap : Nat
  old : Nat
def dsum (p m : Nat) (row now : List Nat) (n : Nat) : Nat → Nat → Nat → Nat
  | 0,_,v => v
  | c + 1,i,v => dsum p m row now n c (i + 1) (v ^^^ mu p m (now.getD i 0) (row.getD (n - i) 0))
def dis (p m : Nat) (row : List Nat) (n : Nat) (s : BM) : Nat := dsum p m row s.now n (min s.L (s.now.length - 1)) 1 (row.getD n 0)
def nextN (p m : Nat) (s : BM) (d : Nat) : List Nat := xadd (s.now ++ List.replicate (max s.now.length (s.was.length + s.gap) - s.now.length) 0) s.gap (s.was.map (fun y => mu p m (mu p m d (iv p m s.old)) y))
def bmS (p m : Nat) (row : List Nat) (n : Nat) (s : BM) : BM :=
  if dis p m row n s = 0 then { s with gap := s.gap + 1 }
  else if 2 * s.L ≤ n then ⟨nextN p m s (dis p m row n s),s.now,n + 1 - s.L,1,dis p m row n s⟩
  else ⟨nextN p m s (dis p m row n s),s.was,s.L,s.gap + 1,s.old⟩
def bmR (p m : Nat) (row : List Nat) : Nat → Nat → BM → BM
  | 0,_,s => s
  | c + 1,n,s => bmR p m row c (n + 1) (bmS p m row n s)
def bm0 : BM := ⟨[1],[1],0,1,1⟩
def locN (p m : Nat) (row : List Nat) : BM := bmR p m row row.length 0 bm0
structure BMok (m n : Nat) (s : BM) : Prop where
  h1 : ∀ y ∈ s.now,y < 2 ^ m
  h2 : ∀ y ∈ s.was,y < 2 ^ m
  L : s.L ≤ n
  g1 : 1 ≤ s.gap
  old : 0 < s.old ∧ s.old < 2 ^ m
  n1 : 1 ≤ s.now.length ∧ s.now.length ≤ n + 1
  w1 : s.was.length + s.gap ≤ n + 2
section
variable {m p : Nat} (F : Fi m p)
include F
theorem dsum_lt {row now : List Nat} (hr : ∀ y ∈ row,y < 2 ^ m) (hn : ∀ y ∈ now,y < 2 ^ m) (n : Nat) : ∀ c i v,v < 2 ^ m → dsum p m row now n c i v < 2 ^ m := by
  intro c
  induction c with
  | zero => intro i v hv; exact hv
  | succ c ih => intro i v hv; exact ih _ _ (Nat.xor_lt_two_pow hv (F.mu_lt (getD_lt' F.zero_lt hn i)))
theorem dis_lt {row : List Nat} (hr : ∀ y ∈ row,y < 2 ^ m) {n : Nat} {s : BM} (h : BMok m n s) : dis p m row n s < 2 ^ m := dsum_lt F hr h.h1 n _ _ _ (getD_lt' F.zero_lt hr n)
omit F in
theorem nextN_length (s : BM) (d : Nat) : (nextN p m s d).length = max s.now.length (s.was.length + s.gap) := by
  unfold nextN
  rw [xadd_length,List.length_append,List.length_replicate]
  omega
theorem nextN_lt {n : Nat} {s : BM} (h : BMok m n s) {d : Nat} (hd : d < 2 ^ m) : ∀ y ∈ nextN p m s d,y < 2 ^ m := by
  refine xadd_lt _ _ _ (mem_app_lt h.h1 (mem_zeros F.zero_lt)) (fun y hy => ?_)
  obtain ⟨z,_,rfl⟩ := List.mem_map.1 hy
  exact F.mu_lt (F.mu_lt hd)
theorem bmS_ok {row : List Nat} (hr : ∀ y ∈ row,y < 2 ^ m) {n : Nat} {s : BM} (h : BMok m n s) : BMok m (n + 1) (bmS p m row n s) := by
  have hd := dis_lt F hr h
  have hx := nextN_lt F h hd
  have lx := nextN_length (p := p) (m := m) s (dis p m row n s)
  obtain ⟨h1,h2,h3,h4,h5,h6,h7⟩ := h
  unfold bmS
  by_cases c : dis p m row n s = 0
  · rw [if_pos c]
    exact ⟨h1,h2,by show s.L ≤ n + 1; omega,by show 1 ≤ s.gap + 1; omega,h5,by show 1 ≤ s.now.length ∧ s.now.length ≤ n + 1 + 1; omega,by show s.was.length + (s.gap + 1) ≤ n + 1 + 2; omega⟩
  · rw [if_neg c]
    by_cases c2 : 2 * s.L ≤ n
    · rw [if_pos c2]
      exact ⟨hx,h1,by show n + 1 - s.L ≤ n + 1; omega,Nat.le_refl _,⟨by show 0 < dis p m row n s; omega,hd⟩,by show 1 ≤ (nextN p m s _).length ∧ (nextN p m s _).length ≤ n + 1 + 1; rw [lx]; omega,by show s.now.length + 1 ≤ n + 1 + 2; omega⟩
    · rw [if_neg c2]
      exact ⟨hx,h2,by show s.L ≤ n + 1; omega,by show 1 ≤ s.gap + 1; omega,h5,by show 1 ≤ (nextN p m s _).length ∧ (nextN p m s _).length ≤ n + 1 + 1; rw [lx]; omega,by show s.was.length + (s.gap + 1) ≤ n + 1 + 2; omega⟩
theorem bmR_ok {row : List Nat} (hr : ∀ y ∈ row,y < 2 ^ m) : ∀ c n s,BMok m n s → BMok m (n + c) (bmR p m row c n s) := by
  intro c
  induction c with
  | zero => intro n s h; exact h
  | succ c ih =>
    intro n s h
    have := ih (n + 1) _ (bmS_ok F hr h)
    rw [show n + 1 + c = n + (c + 1) by omega] at this
    exact this
theorem bm0_ok : BMok m 0 bm0 := ⟨fun y hy => by rw [List.mem_singleton.1 hy]; exact F.one_lt,fun y hy => by rw [List.mem_singleton.1 hy]; exact F.one_lt,Nat.le_refl _,Nat.le_refl _,⟨Nat.one_pos,F.one_lt⟩,⟨Nat.le_refl _,Nat.le_refl _⟩,Nat.le_refl _⟩
theorem locN_ok {row : List Nat} (hr : ∀ y ∈ row,y < 2 ^ m) : BMok m row.length (locN p m row) := by
  have := bmR_ok F hr row.length 0 bm0 (bm0_ok F)
  rw [Nat.zero_add] at this
  exact this
end
section
variable {m p f n : Nat} (C : Cd m p f n)
include C
theorem bm_l1 {row : List Nat} (hr : ∀ y ∈ row,y < 2 ^ m) (lr : row.length ≤ 100000) {q : Nat} (hq : q < row.length) {s : BM} (h : BMok m q s) (r : List Int × Int) (c : Nat) : ∀ (i v : Nat),1 ≤ i → i + c = min s.L (s.now.length - 1) + 1 → v < 2 ^ m →
    Ev (fun k => reedsol_code_locator.j2 k (cod m p f n) (ints row) (ints s.now) (ints s.was) (s.L : Int) (s.gap : Int) (s.old : Int) (q : Int) ((dsum p m row s.now q c i v : Nat) : Int) (row.length : Int) (q : Int)) r →
    Ev (fun k => reedsol_code_locator.l1 k (cod m p f n) (ints row) (ints s.now) (ints s.was) (s.L : Int) (s.gap : Int) (s.old : Int) (q : Int) (v : Int) (i : Int) (row.length : Int) (q : Int)) r := by
  have s8 := C.F.sz8
  have s256 := C.F.sz256
  have hL := h.L
  have hn1 := h.n1
  induction c with
  | zero =>
    intro i v hi hc hv g
    rw [dsum] at g
    have ln := ints_length s.now
    refine Ev.succ ?_
    simp only [reedsol_code_locator.l1]
    by_cases c1 : (i : Int) ≤ (s.L : Int)
    · exact ev_pos c1 (ev_neg (by omega) g)
    · exact ev_neg c1 g
  | succ c ih =>
    intro i v hi hc hv g
    have hx : s.now.getD i 0 < 2 ^ m := getD_lt' C.F.zero_lt h.h1 i
    have hy : row.getD (q - i) 0 < 2 ^ m := getD_lt' C.F.zero_lt hr (q - i)
    have hm := C.F.mu_lt (b := row.getD (q - i) 0) hx
    rw [dsum] at g
    have g2 := ih (i + 1) (v ^^^ mu p m (s.now.getD i 0) (row.getD (q - i) 0)) (by omega) (by omega) (Nat.xor_lt_two_pow hv hm) g
    have c1 : (i : Int) ≤ (s.L : Int) := by omega
    have c2 : (i : Int) < ((ints s.now).length : Int) := by rw [ints_length]; omega
    have c3 : 0 < (cod m p f n).size := by rw [cod_size]; omega
    have c4 : (0 : Int) ≤ (i : Int) := by omega
    have c5 : (0 : Int) ≤ ((q - i : Nat) : Int) := by omega
    have c6 : ((q - i : Nat) : Int) < ((ints row).length : Int) := by rw [ints_length]; omega
    have b1 : v < 256 := by omega
    have b2 : mu p m (s.now.getD i 0) (row.getD (q - i) 0) < 256 := by omega
    have a1 := mul_o C hx hy
    have ei : wrap64 ((i : Int) + 1) = ((i + 1 : Nat) : Int) := w64s (by omega)
    have eq : wrap64 ((q : Int) - (i : Int)) = ((q - i : Nat) : Int) := by clear ei; rw [w64 (by omega) (by omega)]; omega
    refine Ev.succ ?_
    simp only [reedsol_code_locator.l1]
    rw [eq,ei,rd_ints,rd_ints]
    refine ev_pos c1 (ev_pos c2 (ev_pos c3 (ev_pos c4 (ev_pos c5 (ev_pos c6 (Ev.bind a1 ?_))))))
    rw [bxor8 _ _ b1 b2]
    exact g2
theorem bm_l2 {row : List Nat} (lr : row.length ≤ 100000) {q : Nat} (hq : q < row.length) {s : BM} (h : BMok m q s) {kk : Nat} (hk : kk < 2 ^ m) (dd : Nat) (r : List Int × Int) (c : Nat) : ∀ (j : Nat) (Z : List Nat),j + c = s.was.length → s.was.length + s.gap ≤ Z.length → (∀ y ∈ Z,y < 2 ^ m) →
    (Ev (fun k => if wrap64 (2 * (s.L : Int)) ≤ (q : Int) then reedsol_code_locator.l0 k (cod m p f n) (ints row) (ints (xadd Z (s.gap + j) ((s.was.drop j).map (fun y => mu p m kk y)))) (ints s.now) (wrap64 (wrap64 ((q : Int) + 1) - (s.L : Int))) 1 (dd : Int) (row.length : Int) (wrap64 ((q : Int) + 1)) else reedsol_code_locator.l0 k (cod m p f n) (ints row) (ints (xadd Z (s.gap + j) ((s.was.drop j).map (fun y => mu p m kk y)))) (ints s.was) (s.L : Int) (wrap64 ((s.gap : Int) + 1)) (s.old : Int) (row.length : Int) (wrap64 ((q : Int) + 1))) r) →
    Ev (fun k => reedsol_code_locator.l2 k (cod m p f n) (ints row) (ints s.now) (ints s.was) (s.L : Int) (s.gap : Int) (s.old : Int) (q : Int) (dd : Int) (ints Z) (kk : Int) (row.length : Int) (q : Int) (ints s.was) (s.was.length : Int) (j : Int)) r := by
  have s8 := C.F.sz8
  have s256 := C.F.sz256
  have hw1 := h.w1
  induction c with
  | zero =>
    intro j Z hj lZ hZ g
    rw [List.drop_of_length_le (by omega),List.map_nil,xadd] at g
    refine Ev.succ ?_
    simp only [reedsol_code_locator.l2]
    exact ev_neg (by omega) g
  | succ c ih =>
    intro j Z hj lZ hZ g
    have hy : s.was.getD j 0 < 2 ^ m := getD_lt' C.F.zero_lt h.h2 j
    have hz : Z.getD (s.gap + j) 0 < 2 ^ m := getD_lt' C.F.zero_lt hZ _
    have hm := C.F.mu_lt (b := s.was.getD j 0) hk
    have hx : Z.getD (s.gap + j) 0 ^^^ mu p m kk (s.was.getD j 0) < 2 ^ m := Nat.xor_lt_two_pow hz hm
    rw [drop_get (by omega),List.map_cons,xadd] at g
    have g2 := ih (j + 1) (Z.set (s.gap + j) (Z.getD (s.gap + j) 0 ^^^ mu p m kk (s.was.getD j 0))) (by omega) (by rw [List.length_set]; exact lZ) (mem_set_lt hZ _ hx) (by rw [← Nat.add_assoc]; exact g)
    have c1 : (j : Int) < (s.was.length : Int) := by omega
    have c2 : (0 : Int) ≤ (j : Int) := by omega
    have c3 : (j : Int) < ((ints s.was).length : Int) := by rw [ints_length]; omega
    have c4 : (0 : Int) ≤ ((s.gap + j : Nat) : Int) := by omega
    have c5 : ((s.gap + j : Nat) : Int) < ((ints Z).length : Int) := by rw [ints_length]; omega
    have c6 : 0 < (cod m p f n).size := by rw [cod_size]; omega
    have b1 : Z.getD (s.gap + j) 0 < 256 := by omega
    have b2 : mu p m kk (s.was.getD j 0) < 256 := by omega
    have a1 := mul_o C hk hy
    have ej : wrap64 ((j : Int) + 1) = ((j + 1 : Nat) : Int) := w64s (by omega)
    have eg : wrap64 ((j : Int) + (s.gap : Int)) = ((s.gap + j : Nat) : Int) := by clear ej; rw [w64 (by omega) (by omega)]; omega
    refine Ev.succ ?_
    simp only [reedsol_code_locator.l2]
    rw [eg,ej,rd_ints,rd_ints]
    refine ev_pos c1 (ev_pos c2 (ev_pos c3 (ev_pos c4 (ev_pos c5 (ev_pos c6 (Ev.bind a1 ?_))))))
    rw [bxor8 _ _ b1 b2,set_ints]
    exact g2
theorem bm_l0 {row : List Nat} (hr : ∀ y ∈ row,y < 2 ^ m) (lr : row.length ≤ 100000) (c : Nat) : ∀ (q : Nat) (s : BM),q + c = row.length → BMok m q s →
    Ev (fun k => reedsol_code_locator.l0 k (cod m p f n) (ints row) (ints s.now) (ints s.was) (s.L : Int) (s.gap : Int) (s.old : Int) (row.length : Int) (q : Int)) (ints (bmR p m row c q s).now,(((bmR p m row c q s).L : Nat) : Int)) := by
  have s8 := C.F.sz8
  have s256 := C.F.sz256
  induction c with
  | zero =>
    intro q s hq h
    refine Ev.succ ?_
    simp only [reedsol_code_locator.l0]
    exact ev_neg (by omega) (Ev.now _)
  | succ c ih =>
    intro q s hq h
    have hqr : q < row.length := by omega
    have h3 := h.L
    have h6 := h.n1
    have h7 := h.w1
    have hg := h.g1
    have g := ih (q + 1) _ (by omega) (bmS_ok C.F hr h)
    have hd := dis_lt C.F hr h
    have hrq : row.getD q 0 < 2 ^ m := getD_lt' C.F.zero_lt hr q
    have j2 : Ev (fun k => reedsol_code_locator.j2 k (cod m p f n) (ints row) (ints s.now) (ints s.was) (s.L : Int) (s.gap : Int) (s.old : Int) (q : Int) ((dis p m row q s : Nat) : Int) (row.length : Int) (q : Int)) (ints (bmR p m row c (q + 1) (bmS p m row q s)).now,(((bmR p m row c (q + 1) (bmS p m row q s)).L : Nat) : Int)) := by
      unfold bmS at g ⊢
      by_cases c0 : dis p m row q s = 0
      · rw [if_pos c0] at g ⊢
        have eg : wrap64 ((s.gap : Int) + 1) = ((s.gap + 1 : Nat) : Int) := w64s (by omega)
        have eq : wrap64 ((q : Int) + 1) = ((q + 1 : Nat) : Int) := by clear eg; exact w64s (by omega)
        refine Ev.succ ?_
        simp only [reedsol_code_locator.j2]
        rw [eg,eq]
        clear eg eq
        exact ev_pos (by omega) g
      · rw [if_neg c0] at g ⊢
        have hx := nextN_lt C.F h hd
        have hk : mu p m (dis p m row q s) (iv p m s.old) < 2 ^ m := C.F.mu_lt hd
        have a2 := div_o C (f := f) (n := n) hd h.old.1 h.old.2
        have lM : s.now.length ≤ max s.now.length (s.was.length + s.gap) := Nat.le_max_left ..
        have lM2 : s.was.length + s.gap ≤ max s.now.length (s.was.length + s.gap) := Nat.le_max_right ..
        have lM3 : max s.now.length (s.was.length + s.gap) ≤ q + 2 := Nat.max_le.2 ⟨by omega,by omega⟩
        have fin : Ev (fun k => if wrap64 (2 * (s.L : Int)) ≤ (q : Int) then reedsol_code_locator.l0 k (cod m p f n) (ints row) (ints (nextN p m s (dis p m row q s))) (ints s.now) (wrap64 (wrap64 ((q : Int) + 1) - (s.L : Int))) 1 ((dis p m row q s : Nat) : Int) (row.length : Int) (wrap64 ((q : Int) + 1)) else reedsol_code_locator.l0 k (cod m p f n) (ints row) (ints (nextN p m s (dis p m row q s))) (ints s.was) (s.L : Int) (wrap64 ((s.gap : Int) + 1)) (s.old : Int) (row.length : Int) (wrap64 ((q : Int) + 1))) (ints (bmR p m row c (q + 1) (if 2 * s.L ≤ q then ⟨nextN p m s (dis p m row q s),s.now,q + 1 - s.L,1,dis p m row q s⟩ else ⟨nextN p m s (dis p m row q s),s.was,s.L,s.gap + 1,s.old⟩)).now,(((bmR p m row c (q + 1) (if 2 * s.L ≤ q then ⟨nextN p m s (dis p m row q s),s.now,q + 1 - s.L,1,dis p m row q s⟩ else ⟨nextN p m s (dis p m row q s),s.was,s.L,s.gap + 1,s.old⟩)).L : Nat) : Int)) := by
          have e1 : wrap64 ((q : Int) + 1) = ((q + 1 : Nat) : Int) := w64s (by omega)
          have e2 : wrap64 (2 * (s.L : Int)) = ((2 * s.L : Nat) : Int) := by clear e1; rw [w64 (by omega) (by omega)]; omega
          have e3 : wrap64 (((q + 1 : Nat) : Int) - (s.L : Int)) = ((q + 1 - s.L : Nat) : Int) := by clear e1 e2; rw [w64 (by omega) (by omega)]; omega
          have e4 : wrap64 ((s.gap : Int) + 1) = ((s.gap + 1 : Nat) : Int) := by clear e1 e2 e3; exact w64s (by omega)
          rw [e1,e2,e3,e4]
          clear e1 e2 e3 e4
          by_cases c2 : 2 * s.L ≤ q
          · rw [if_pos c2] at g ⊢
            exact ev_pos (by omega) g
          · rw [if_neg c2] at g ⊢
            exact ev_neg (by omega) g
        have l2 := bm_l2 C lr hqr h hk (dis p m row q s) _ s.was.length 0 (s.now ++ List.replicate (max s.now.length (s.was.length + s.gap) - s.now.length) 0) (by omega) (by rw [List.length_append,List.length_replicate]; omega) (mem_app_lt h.h1 (mem_zeros C.F.zero_lt)) (by
          rw [Nat.add_zero,List.drop_zero]
          exact fin)
        have eM : Go.Proofs.YtpgecdidddoglaaW.PrintWords.mx ((ints s.now).length : Int) (wrap64 (((ints s.was).length : Int) + (s.gap : Int))) = ((max s.now.length (s.was.length + s.gap) : Nat) : Int) := by
          have e1 : wrap64 (((ints s.was).length : Int) + (s.gap : Int)) = ((s.was.length + s.gap : Nat) : Int) := by rw [ints_length,w64 (by omega) (by omega)]; omega
          rw [e1,ints_length,mx_nn]
        have eZ : (ints s.now).take (min (ints s.now).length (List.replicate (max s.now.length (s.was.length + s.gap)) (0 : Int)).length) ++ (List.replicate (max s.now.length (s.was.length + s.gap)) (0 : Int)).drop (min (ints s.now).length (List.replicate (max s.now.length (s.was.length + s.gap)) (0 : Int)).length) = ints (s.now ++ List.replicate (max s.now.length (s.was.length + s.gap) - s.now.length) 0) := by
          rw [ints_length,List.length_replicate,Nat.min_eq_left lM,ints_take,List.take_length,List.drop_replicate,ints_append,ints_replicate]
        have lrep : (List.replicate (max s.now.length (s.was.length + s.gap)) (0 : Int)).length = max s.now.length (s.was.length + s.gap) := List.length_replicate ..
        refine Ev.succ ?_
        simp only [reedsol_code_locator.j2]
        rw [eM,Int.toNat_natCast]
        clear eM
        refine ev_neg (by omega) (ev_pos (by omega) (ev_pos (by omega) (Ev.bind (Ev.now _) (ev_pos (by rw [lrep,ints_length]; omega) (ev_pos (by rw [cod_size]; omega) (Ev.bind a2 ?_))))))
        rw [eZ,ints_length]
        exact l2
    have l1 := bm_l1 C hr lr hqr h _ (min s.L (s.now.length - 1)) 1 (row.getD q 0) (Nat.le_refl _) (by omega) hrq j2
    have c1 : (q : Int) < (row.length : Int) := by omega
    have c2 : (0 : Int) ≤ (q : Int) := by omega
    have c3 : (q : Int) < ((ints row).length : Int) := by rw [ints_length]; omega
    refine Ev.succ ?_
    simp only [reedsol_code_locator.l0]
    refine ev_pos c1 (ev_pos c2 (ev_pos c3 ?_))
    rw [rd_ints]
    exact l1
theorem loc_f {row : List Nat} (hr : ∀ y ∈ row,y < 2 ^ m) (lr : row.length ≤ 100000) : Ev (fun k => reedsol_code_locator.f k (cod m p f n) (ints row)) (ints (locN p m row).now,(((locN p m row).L : Nat) : Int)) := by
  unfold reedsol_code_locator.f
  rw [ints_length]
  exact bm_l0 C hr lr row.length 0 bm0 (by omega) (bm0_ok C.F)
end
end Go.Proofs.Ytpgecdidddoglaa.GalP
