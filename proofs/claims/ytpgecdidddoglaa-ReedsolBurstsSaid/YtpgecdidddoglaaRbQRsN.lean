/- Reedsol: where a code word is near, mend answers it. Plain numbers. -/
import Derived.Test.YtpgecdidddoglaaRbQRsF
set_option linter.unusedVariables false
set_option linter.unusedSimpArgs false
namespace Go.Proofs.Ytpgecdidddoglaa.GalP
open Go.RowKit Go.Proofs.Ytpgecdidddoglaa.P Go.Proofs.YtpgecdidddoglaaW.PrintWords Go.Proofs.YtpgecdidddoglaaW.PrintLast Go.Proofs.YtpgecdidddoglaaW.PrintMore Go.Proofs.YtpgecdidddoglaaW.Q
open Go.Proofs.Ytpgecdidddoglaa.Gal
def cntT (gone : List Bool) : Nat → Nat → Nat
  | 0,_ => 0
  | c + 1,i => (if gone.getD i false = true then 1 else 0) + cntT gone c (i + 1)
def cntB (P : Nat → Bool) : Nat → Nat → Nat
  | 0,_ => 0
  | c + 1,i => (if P i = true then 1 else 0) + cntB P c (i + 1)
theorem filter_length (P : Nat → Bool) : ∀ c i,((List.range' i c).filter P).length = cntB P c i := by
  intro c
  induction c with
  | zero => intro i; rfl
  | succ c ih =>
    intro i
    rw [List.range'_succ,cntB,← ih]
    by_cases h : P i = true
    · rw [List.filter_cons_of_pos h,if_pos h,List.length_cons,Nat.add_comm]
    · rw [List.filter_cons_of_neg h,if_neg h,Nat.zero_add]
theorem cnt_nz (P : Nat → Bool) (Y : List Nat) (h : ∀ i,i < Y.length → (P i = true ↔ Y.getD i 0 ≠ 0)) : ∀ c i,i + c = Y.length → cntB P c i = nz (Y.drop i) := by
  intro c
  induction c with
  | zero => intro i hi; rw [List.drop_of_length_le (by omega)]; rfl
  | succ c ih =>
    intro i hi
    rw [cntB,drop_get (by omega),nz,ih (i + 1) (by omega)]
    congr 1
    by_cases z : Y.getD i 0 = 0
    · rw [if_pos z,if_neg (fun e => (h i (by omega)).1 e z)]
    · rw [if_neg z,if_pos ((h i (by omega)).2 z)]
theorem cnt_both (P : Nat → Bool) (gone : List Bool) (Y : List Nat) (h : ∀ i,i < Y.length → (P i = true ↔ gone.getD i false = true ∨ Y.getD i 0 ≠ 0) ∧ (gone.getD i false = true → Y.getD i 0 = 0)) : ∀ c i,i + c = Y.length → cntB P c i = cntT gone c i + nz (Y.drop i) := by
  intro c
  induction c with
  | zero => intro i hi; rw [List.drop_of_length_le (by omega)]; rfl
  | succ c ih =>
    intro i hi
    obtain ⟨h1,h2⟩ := h i (by omega)
    rw [cntB,cntT,drop_get (by omega),nz,ih (i + 1) (by omega)]
    by_cases g : gone.getD i false = true
    · rw [if_pos g,if_pos (h1.2 (.inl g)),if_pos (h2 g)]; omega
    · rw [if_neg g]
      by_cases z : Y.getD i 0 = 0
      · rw [if_pos z,if_neg (fun e => (h1.1 e).elim g (fun e => e z))]; omega
      · rw [if_neg z,if_pos (h1.2 (.inr z))]; omega
theorem wr_nz (W out : List Nat) (gone : List Bool) (Y : List Nat) (h : ∀ i,i < Y.length → (Y.getD i 0 = 0 ↔ out.getD i 0 = W.getD i 0 ∨ gone.getD i false = true)) : ∀ c i q,i + c = Y.length → wrN W out gone c i q = q + nz (Y.drop i) := by
  intro c
  induction c with
  | zero => intro i q hi; rw [List.drop_of_length_le (by omega)]; rfl
  | succ c ih =>
    intro i q hi
    have h1 := h i (by omega)
    rw [wrN,drop_get (by omega),nz,ih (i + 1) _ (by omega)]
    by_cases a : out.getD i 0 = W.getD i 0
    · rw [if_pos a,if_pos (h1.2 (.inl a))]; omega
    · rw [if_neg a]
      by_cases g : gone.getD i false = true
      · rw [if_pos g,if_pos (h1.2 (.inr g))]; omega
      · rw [if_neg g,if_neg (fun e => (h1.1 e).elim a g)]; omega
def tk (m len i : Nat) : Nat := ex_of m (-((len - 1 - i : Nat) : Int))
def hp (p m : Nat) (Q : List Nat) (h j : Nat) : Nat := xs (fun l => mu p m (Q.getD l 0) (pw p (2 ^ m) ((j - l) * h))) (j + 1)
def gv (p m : Nat) (Q : List Nat) (h t n : Nat) : Nat := xs (fun j => mu p m (pw p (2 ^ m) (t * j)) (hp p m Q h j)) n
section
variable {m p : Nat} (F : Fi m p)
include F
theorem pw_one_iff (a : Nat) : pw p (2 ^ m) a = 1 ↔ a % (2 ^ m - 1) = 0 := by
  have h := F.fld.eq_iff a 0
  rw [Nat.zero_mod] at h
  exact h
theorem tk_inv {len i : Nat} (h : i < len) : pw p (2 ^ m) (tk m len i + (len - 1 - i)) = 1 := by
  rw [pw_one_iff F]
  have ho := F.ord_pos
  unfold tk ex_of
  have h1 := Int.emod_nonneg (-((len - 1 - i : Nat) : Int)) (b := ((2 ^ m - 1 : Nat) : Int)) (by omega)
  have h2 : ((-((len - 1 - i : Nat) : Int)) % ((2 ^ m - 1 : Nat) : Int) + ((len - 1 - i : Nat) : Int)) % ((2 ^ m - 1 : Nat) : Int) = 0 := by
    rw [Int.emod_add_emod,Int.add_left_neg,Int.zero_emod]
  generalize (-((len - 1 - i : Nat) : Int)) % ((2 ^ m - 1 : Nat) : Int) = z at h1 h2 ⊢
  obtain ⟨q,rfl⟩ := Int.eq_ofNat_of_zero_le h1
  rw [Int.toNat_natCast]
  have h3 : (((q + (len - 1 - i)) % (2 ^ m - 1) : Nat) : Int) = 0 := by rw [Int.natCast_emod,Int.natCast_add]; exact h2
  exact Int.ofNat_eq_zero.1 h3
theorem tk_only {len i k : Nat} (hl : len ≤ 2 ^ m - 1) (hi : i < len) (hk : k < len) (h : pw p (2 ^ m) (tk m len k + (len - 1 - i)) = 1) : i = k := by
  have h2 := (tk_inv F hk).trans h.symm
  rw [← F.mu_pw,← F.mu_pw] at h2
  have h3 := F.mu_cancel (F.pw_pos _) (F.pw_lt _) (F.pw_lt _) (F.pw_lt _) h2
  rcases Nat.lt_trichotomy (len - 1 - k) (len - 1 - i) with c | c | c
  · have := pw_unlike F (i := len - 1 - k) (j := len - 1 - i) (by omega) (by omega) (by omega)
    rw [h3,Nat.xor_self] at this; omega
  · omega
  · have := pw_unlike F (i := len - 1 - k) (j := len - 1 - i) (by omega) (by omega) (by omega)
    rw [h3,Nat.xor_self] at this; omega
theorem ev_two {X t : Nat} (hX : X < 2 ^ m) : ev p m [1,X] t = 1 ^^^ mu p m X (pw p (2 ^ m) t) := by
  have h1 : ∀ y ∈ ([] : List Nat),y < 2 ^ m := fun y hy => by cases hy
  have h2 : ∀ y ∈ [X],y < 2 ^ m := fun y hy => by rw [List.mem_singleton.1 hy]; exact hX
  rw [ev_cons F 1 F.one_lt h2,ev_cons F X hX h1,show ev p m [] t = 0 from rfl,F.mu_zero_left,Nat.xor_zero]
theorem eraN_full (gone : List Bool) (len fc : Nat) : ∀ c i A,(∀ y ∈ A,y < 2 ^ m) → 1 ≤ A.length → A.length + cntT gone c i ≤ fc + 1 →
    (eraN p m gone len fc c i A).length = A.length + cntT gone c i ∧ (eraN p m gone len fc c i A).getD 0 0 = A.getD 0 0 ∧
      ∀ t,ev p m (eraN p m gone len fc c i A) t = 0 ↔ ev p m A t = 0 ∨ ∃ k,i ≤ k ∧ k < i + c ∧ gone.getD k false = true ∧ pw p (2 ^ m) (t + (len - 1 - k)) = 1 := by
  intro c
  induction c with
  | zero =>
    intro i A _ _ _
    refine ⟨rfl,rfl,fun t => ⟨fun h => .inl h,fun h => ?_⟩⟩
    rcases h with h | ⟨k,h1,h2,_⟩
    · exact h
    · omega
  | succ c ih =>
    intro i A hA lA hl
    rw [cntT] at hl
    rw [eraN,cntT]
    by_cases g : gone.getD i false = true
    · rw [if_pos g] at hl
      rw [if_pos g,if_pos g]
      have hX := F.pw_lt (len - 1 - i)
      have hE : ∀ y ∈ [1,pw p (2 ^ m) (len - 1 - i)],y < 2 ^ m := fun y hy => by
        rcases List.mem_cons.1 hy with rfl | hy
        · exact F.one_lt
        · rw [List.mem_singleton.1 hy]; exact hX
      have lp : (plow p m A [1,pw p (2 ^ m) (len - 1 - i)] (fc + 1)).length = A.length + 1 := by
        rw [plow_length,show [1,pw p (2 ^ m) (len - 1 - i)].length = 2 from rfl]; omega
      obtain ⟨q1,q2,q3⟩ := ih (i + 1) (plow p m A [1,pw p (2 ^ m) (len - 1 - i)] (fc + 1)) (plow_lt F hA _ _) (by omega) (by omega)
      refine ⟨by rw [q1,lp]; omega,?_,fun t => ?_⟩
      · rw [q2,plow_cv F _ _ _ _ (by rw [show [1,pw p (2 ^ m) (len - 1 - i)].length = 2 from rfl]; omega)]
        show 0 ^^^ mu p m (A.getD 0 0) 1 = _
        rw [Nat.zero_xor,F.mu_one' (getD_lt' F.zero_lt hA 0)]
      · rw [q3,ev_plow F hA hE lA (by show 1 ≤ 2; omega) _ t (by show A.length + 2 ≤ fc + 1 + 1; omega),mu_eq0 F (ev_lt F hA t) (ev_lt F hE t),ev_two F hX,F.mu_pw]
        have hx : 1 ^^^ pw p (2 ^ m) (len - 1 - i + t) = 0 ↔ pw p (2 ^ m) (t + (len - 1 - i)) = 1 := by
          rw [Nat.add_comm t]
          constructor
          · intro h; exact (xor_eq_zero h).symm
          · intro h; rw [h,Nat.xor_self]
        rw [hx]
        constructor
        · rintro ((h | h) | ⟨k,h1,h2,h3,h4⟩)
          · exact .inl h
          · exact .inr ⟨i,Nat.le_refl _,by omega,g,h⟩
          · exact .inr ⟨k,by omega,by omega,h3,h4⟩
        · rintro (h | ⟨k,h1,h2,h3,h4⟩)
          · exact .inl (.inl h)
          · rcases Nat.eq_or_lt_of_le h1 with h5 | h5
            · subst h5; exact .inl (.inr h4)
            · exact .inr ⟨k,by omega,by omega,h3,h4⟩
    · rw [if_neg g] at hl
      rw [if_neg g,if_neg g]
      obtain ⟨q1,q2,q3⟩ := ih (i + 1) A hA lA (by omega)
      refine ⟨by rw [q1]; omega,q2,fun t => ?_⟩
      rw [q3]
      constructor
      · rintro (h | ⟨k,h1,h2,h3,h4⟩)
        · exact .inl h
        · exact .inr ⟨k,by omega,by omega,h3,h4⟩
      · rintro (h | ⟨k,h1,h2,h3,h4⟩)
        · exact .inl h
        · rcases Nat.eq_or_lt_of_le h1 with h5 | h5
          · subst h5; exact absurd h3 g
          · exact .inr ⟨k,by omega,by omega,h3,h4⟩
theorem hp_lt {Q : List Nat} (hQ : ∀ y ∈ Q,y < 2 ^ m) (h j : Nat) : hp p m Q h j < 2 ^ m := xs_lt F _ (fun k _ => F.mu_lt (getD_lt' F.zero_lt hQ k))
theorem gv_lt {Q : List Nat} (h t n : Nat) : gv p m Q h t n < 2 ^ m := xs_lt F _ (fun k _ => F.mu_lt (F.pw_lt _))
theorem hp_succ {Q : List Nat} (hQ : ∀ y ∈ Q,y < 2 ^ m) (h j : Nat) : hp p m Q h (j + 1) = mu p m (hp p m Q h j) (pw p (2 ^ m) h) ^^^ Q.getD (j + 1) 0 := by
  unfold hp
  rw [xs,Nat.sub_self,Nat.zero_mul,xs_mur F _ _ (fun k _ => F.mu_lt (getD_lt' F.zero_lt hQ k))]
  congr 1
  · refine xs_congr _ (fun l hl => ?_)
    rw [F.mu_assoc (getD_lt' F.zero_lt hQ l) (F.pw_lt _) (F.pw_lt _),F.mu_pw,show j + 1 - l = (j - l) + 1 by omega,Nat.add_mul,Nat.one_mul]
  · exact F.mu_one' (getD_lt' F.zero_lt hQ (j + 1))
omit F in
theorem hp_cons (c0 : Nat) (cs : List Nat) (h j : Nat) : hp p m (c0 :: cs) h (j + 1) = mu p m c0 (pw p (2 ^ m) ((j + 1) * h)) ^^^ hp p m cs h j := by
  unfold hp
  rw [xs_front]
  congr 1
  exact xs_congr _ (fun l _ => by rw [show j + 1 - (l + 1) = j - l by omega]; rfl)
theorem hp_end (h : Nat) : ∀ (Q : List Nat) (j : Nat),(∀ y ∈ Q,y < 2 ^ m) → Q.length ≤ j + 1 → hp p m Q h j = mu p m (hv p m Q (pw p (2 ^ m) h)) (pw p (2 ^ m) (h * (j + 1 - Q.length))) := by
  intro Q
  induction Q with
  | nil =>
    intro j _ _
    have e : hp p m [] h j = 0 := xs_nil _ (fun l _ => by rw [getD_over [] l (Nat.zero_le _),F.mu_zero_left])
    rw [e,show hv p m [] (pw p (2 ^ m) h) = 0 from rfl,F.mu_zero_left]
  | cons c0 cs ih =>
    intro j hQ hl
    have h0 := hQ c0 (List.mem_cons_self ..)
    have hcs : ∀ y ∈ cs,y < 2 ^ m := fun z hz => hQ z (List.mem_cons_of_mem _ hz)
    rw [List.length_cons] at hl
    rw [hv_cons F h c0 h0 hcs,F.mu_add_left (F.mu_lt h0) (F.hv_lt (F.pw_lt h) hcs),List.length_cons,F.mu_assoc h0 (F.pw_lt _) (F.pw_lt _),F.mu_pw]
    cases j with
    | zero =>
      have : cs = [] := List.length_eq_zero_iff.1 (by omega)
      subst this
      show 0 ^^^ mu p m c0 (pw p (2 ^ m) ((0 - 0) * h)) = mu p m c0 (pw p (2 ^ m) (h * 0 + h * 0)) ^^^ mu p m 0 _
      rw [Nat.zero_xor,F.mu_zero_left,Nat.xor_zero,Nat.zero_sub,Nat.zero_mul,Nat.mul_zero]
    | succ j =>
      rw [hp_cons,ih j hcs (by omega),show j + 1 + 1 - (cs.length + 1) = j + 1 - cs.length by omega]
      congr 3
      rw [← Nat.mul_add,Nat.mul_comm h,show cs.length + (j + 1 - cs.length) = j + 1 by omega]
theorem gv_rec {Q : List Nat} (hQ : ∀ y ∈ Q,y < 2 ^ m) (h t : Nat) : ∀ N,gv p m Q h t (N + 1) = xs (fun l => mu p m (Q.getD l 0) (pw p (2 ^ m) (t * l))) (N + 1) ^^^ mu p m (pw p (2 ^ m) (h + t)) (gv p m Q h t N) := by
  intro N
  induction N with
  | zero =>
    show 0 ^^^ mu p m (pw p (2 ^ m) (t * 0)) (0 ^^^ mu p m (Q.getD 0 0) (pw p (2 ^ m) ((0 - 0) * h))) = (0 ^^^ mu p m (Q.getD 0 0) (pw p (2 ^ m) (t * 0))) ^^^ mu p m (pw p (2 ^ m) (h + t)) 0
    have hq := getD_lt' F.zero_lt hQ 0
    rw [F.mu_zero_right,Nat.xor_zero,Nat.zero_xor,Nat.zero_xor,Nat.zero_xor,Nat.mul_zero,Nat.zero_sub,Nat.zero_mul,show pw p (2 ^ m) 0 = 1 from rfl,F.mu_one' hq,F.mu_one hq]
  | succ N ih =>
    have hq := getD_lt' F.zero_lt hQ (N + 1)
    have hh := hp_lt F hQ h N
    have e1 : gv p m Q h t (N + 1 + 1) = gv p m Q h t (N + 1) ^^^ mu p m (pw p (2 ^ m) (t * (N + 1))) (hp p m Q h (N + 1)) := rfl
    have e2 : gv p m Q h t (N + 1) = gv p m Q h t N ^^^ mu p m (pw p (2 ^ m) (t * N)) (hp p m Q h N) := rfl
    have e3 : xs (fun l => mu p m (Q.getD l 0) (pw p (2 ^ m) (t * l))) (N + 1 + 1) = xs (fun l => mu p m (Q.getD l 0) (pw p (2 ^ m) (t * l))) (N + 1) ^^^ mu p m (Q.getD (N + 1) 0) (pw p (2 ^ m) (t * (N + 1))) := rfl
    rw [e1,e3]
    conv => rhs; rw [e2]
    rw [ih,hp_succ F hQ,F.mu_add_right,F.mu_add_right]
    have e4 : mu p m (pw p (2 ^ m) (t * (N + 1))) (mu p m (hp p m Q h N) (pw p (2 ^ m) h)) = mu p m (pw p (2 ^ m) (h + t)) (mu p m (pw p (2 ^ m) (t * N)) (hp p m Q h N)) := by
      rw [F.mu_comm hh (F.pw_lt h),← F.mu_assoc (F.pw_lt _) (F.pw_lt _) hh,← F.mu_assoc (F.pw_lt _) (F.pw_lt _) hh,F.mu_pw,F.mu_pw]
      rw [show t * (N + 1) + h = h + t + t * N by rw [Nat.mul_add,Nat.mul_one]; omega]
    rw [e4,F.mu_comm (F.pw_lt _) hq,xor4,Nat.xor_comm (mu p m (pw p (2 ^ m) (h + t)) (gv p m Q h t N)),Nat.xor_comm (mu p m (pw p (2 ^ m) (h + t)) (gv p m Q h t N))]
    generalize xs (fun l => mu p m (Q.getD l 0) (pw p (2 ^ m) (t * l))) (N + 1) = a
    generalize mu p m (Q.getD (N + 1) 0) (pw p (2 ^ m) (t * (N + 1))) = b
    generalize mu p m (pw p (2 ^ m) (h + t)) (gv p m Q h t N) = c
    generalize mu p m (pw p (2 ^ m) (h + t)) (mu p m (pw p (2 ^ m) (t * N)) (hp p m Q h N)) = d
    rw [xor4,Nat.xor_assoc]
theorem gv_other {Q : List Nat} (hQ : ∀ y ∈ Q,y < 2 ^ m) {h t n : Nat} (lQ : Q.length ≤ n + 1) (r1 : hv p m Q (pw p (2 ^ m) h) = 0) (r2 : ev p m Q t = 0) (h1 : pw p (2 ^ m) (h + t) ≠ 1) : gv p m Q h t n = 0 := by
  have e := gv_rec F hQ h t n
  have e1 : gv p m Q h t (n + 1) = gv p m Q h t n ^^^ mu p m (pw p (2 ^ m) (t * n)) (hp p m Q h n) := rfl
  rw [e1,hp_end F h Q n hQ lQ,r1,F.mu_zero_left,F.mu_zero_right,Nat.xor_zero,← ev_more F t (n + 1) lQ,r2,Nat.zero_xor] at e
  rcases Nat.eq_zero_or_pos (gv p m Q h t n) with c | c
  · exact c
  · exfalso
    apply h1
    have hg := gv_lt F (Q := Q) h t n
    have e2 : mu p m (gv p m Q h t n) (pw p (2 ^ m) (h + t)) = mu p m (gv p m Q h t n) 1 := by rw [F.mu_comm hg (F.pw_lt _),← e,F.mu_one' hg]
    exact F.mu_cancel c hg (F.pw_lt _) F.one_lt e2
theorem slN_getD (b : List Nat) (i : Nat) : (slN b).getD i 0 = if i % 2 = 0 then b.getD (i + 1) 0 else 0 := by
  have _ := F
  unfold slN
  by_cases c : i < b.length - 1
  · rw [slP_getD b _ i c]
    by_cases c2 : i % 2 = 0
    · rw [if_pos c2,if_pos ⟨c2,by omega⟩]
    · rw [if_neg c2,if_neg (fun h => c2 h.1)]
  · rw [getD_over _ _ (by rw [slP_length]; omega),getD_over b _ (by omega)]
    split <;> rfl
theorem gv_same {Q : List Nat} (hQ : ∀ y ∈ Q,y < 2 ^ m) {h t n : Nat} (lQ : Q.length ≤ n + 1) (r2 : ev p m Q t = 0) (h1 : pw p (2 ^ m) (h + t) = 1) : gv p m Q h t n = mu p m (pw p (2 ^ m) t) (ev p m (slN Q) t) := by
  have e1 : gv p m Q h t n = xs (fun j => xs (fun l => mu p m (Q.getD l 0) (pw p (2 ^ m) (t * l))) (j + 1)) n := by
    unfold gv hp
    refine xs_congr _ (fun j _ => ?_)
    rw [xs_mu F]
    refine xs_congr _ (fun l hl => ?_)
    have hq := getD_lt' F.zero_lt hQ l
    rw [F.mu_comm (F.pw_lt _) (F.mu_lt hq),F.mu_assoc hq (F.pw_lt _) (F.pw_lt _),F.mu_pw]
    obtain ⟨q,hq2⟩ : ∃ q,j = l + q := ⟨j - l,by omega⟩
    rw [hq2,show l + q - l = q by omega,show q * h + t * (l + q) = q * (h + t) + t * l by rw [Nat.mul_add,Nat.mul_add,Nat.mul_comm t q]; omega,← F.mu_pw,pw_mul_one F h1,F.mu_one (F.pw_lt _)]
  rw [e1,xs_odd,← ev_more F t (n + 1) lQ,r2,ite_self,Nat.zero_xor,xs_front]
  have e0 : (if 0 % 2 = 1 then mu p m (Q.getD 0 0) (pw p (2 ^ m) (t * 0)) else 0) = 0 := rfl
  rw [e0,Nat.zero_xor,ev_more F t n (by unfold slN; rw [slP_length]; omega),xs_mu F]
  refine xs_congr _ (fun l _ => ?_)
  rw [slN_getD F]
  have hq := getD_lt' F.zero_lt hQ (l + 1)
  by_cases c : l % 2 = 0
  · rw [if_pos (by omega),if_pos c,F.mu_comm (F.pw_lt _) (F.mu_lt hq),F.mu_assoc hq (F.pw_lt _) (F.pw_lt _),F.mu_pw,Nat.mul_add,Nat.mul_one]
  · rw [if_neg (by omega),if_neg c,F.mu_zero_left,F.mu_zero_right]
end
end Go.Proofs.Ytpgecdidddoglaa.GalP
