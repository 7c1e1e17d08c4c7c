/- Reedsol: where a code word is near, mend finds it (the errors' places and what they are worth, after Forney). Plain numbers. -/
import Derived.Test.YtpgecdidddoglaaRbQRsB
import Derived.Test.YtpgecdidddoglaaRbQRsY
set_option linter.unusedVariables false
set_option linter.unusedSimpArgs false
namespace Go.Proofs.Ytpgecdidddoglaa.GalP
open Go.RowKit Go.Proofs.Ytpgecdidddoglaa.P Go.Proofs.YtpgecdidddoglaaW.PrintWords Go.Proofs.YtpgecdidddoglaaW.PrintLast Go.Proofs.YtpgecdidddoglaaW.PrintMore Go.Proofs.YtpgecdidddoglaaW.Q
open Go.Proofs.Ytpgecdidddoglaa.Gal
def ev (p m : Nat) (l : List Nat) (t : Nat) : Nat := xs (fun j => mu p m (l.getD j 0) (pw p (2 ^ m) (t * j))) l.length
theorem xs_rev (n : Nat) : ∀ g : Nat → Nat,xs g n = xs (fun k => g (n - 1 - k)) n := by
  induction n with
  | zero => intro g; rfl
  | succ n ih =>
    intro g
    rw [xs_front (fun k => g (n + 1 - 1 - k)) n,xs,ih g,Nat.xor_comm]
    congr 1
    exact xs_congr n (fun k hk => by rw [show n + 1 - 1 - (k + 1) = n - 1 - k by omega])
theorem xs_odd (w : Nat → Nat) (n : Nat) : xs (fun j => xs w (j + 1)) n = (if n % 2 = 1 then xs w (n + 1) else 0) ^^^ xs (fun l => if l % 2 = 1 then w l else 0) (n + 1) := by
  induction n with
  | zero =>
    show 0 = 0 ^^^ (0 ^^^ 0)
    rw [Nat.xor_self,Nat.xor_self]
  | succ n ih =>
    have e1 : xs (fun l => if l % 2 = 1 then w l else 0) (n + 1 + 1) = xs (fun l => if l % 2 = 1 then w l else 0) (n + 1) ^^^ (if (n + 1) % 2 = 1 then w (n + 1) else 0) := rfl
    have e2 : xs w (n + 1 + 1) = xs w (n + 1) ^^^ w (n + 1) := rfl
    rw [xs,ih,e1,e2]
    generalize xs w (n + 1) = a
    generalize xs (fun l => if l % 2 = 1 then w l else 0) (n + 1) = b
    generalize w (n + 1) = c
    by_cases h : n % 2 = 1
    · rw [if_pos h,if_neg (by omega),if_neg (by omega),Nat.xor_zero,Nat.zero_xor,Nat.xor_comm a b,Nat.xor_assoc,Nat.xor_self,Nat.xor_zero]
    · rw [if_neg h,if_pos (by omega),if_pos (by omega),Nat.zero_xor,Nat.xor_comm b c,Nat.xor_assoc a c (c ^^^ b),← Nat.xor_assoc c c b,Nat.xor_self,Nat.zero_xor,Nat.xor_comm]
theorem xadd_getD' (l : List Nat) : ∀ out off j,j < out.length → (xadd out off l).getD j 0 = out.getD j 0 ^^^ (if off ≤ j then l.getD (j - off) 0 else 0) := by
  induction l with
  | nil =>
    intro out off j h
    rw [xadd]
    split
    · rw [getD_over [] _ (Nat.zero_le _),Nat.xor_zero]
    · rw [Nat.xor_zero]
  | cons y l ih =>
    intro out off j h
    rw [xadd,ih _ _ _ (by rw [List.length_set]; exact h),getD_set]
    by_cases c : j = off
    · subst c
      rw [if_pos ⟨rfl,by omega⟩,if_neg (by omega),if_pos (Nat.le_refl _),Nat.sub_self,Nat.xor_zero]
      rfl
    · rw [if_neg (by omega)]
      by_cases c2 : off + 1 ≤ j
      · rw [if_pos c2,if_pos (by omega),show j - off = (j - (off + 1)) + 1 by omega]
        rfl
      · rw [if_neg c2,if_neg (by omega)]
def pf (p m : Nat) (φ : Nat → Nat) : List Nat → Nat
  | [] => 0
  | y :: l => mu p m y (φ l.length) ^^^ pf p m φ l
def tq (p m f : Nat) : List Nat → List Nat
  | [] => []
  | y :: l => mu p m y (pw p (2 ^ m) (f * l.length)) :: tq p m f l
theorem tq_length (p m f : Nat) (l : List Nat) : (tq p m f l).length = l.length := by
  induction l with
  | nil => rfl
  | cons y l ih => rw [tq,List.length_cons,List.length_cons,ih]
theorem tq_getD (p m f : Nat) (l : List Nat) : ∀ i,i < l.length → (tq p m f l).getD i 0 = mu p m (l.getD i 0) (pw p (2 ^ m) (f * (l.length - 1 - i))) := by
  induction l with
  | nil => intro i h; exact absurd h (Nat.not_lt_zero _)
  | cons y l ih =>
    intro i h
    rw [List.length_cons] at h
    cases i with
    | zero => rw [tq,List.length_cons,show l.length + 1 - 1 - 0 = l.length by omega]; rfl
    | succ i =>
      rw [List.length_cons,show l.length + 1 - 1 - (i + 1) = l.length - 1 - i by omega]
      exact ih i (by omega)
section
variable {m p : Nat} (F : Fi m p)
include F
theorem xs_lt {g : Nat → Nat} (n : Nat) (h : ∀ k,k < n → g k < 2 ^ m) : xs g n < 2 ^ m := by
  induction n with
  | zero => exact F.zero_lt
  | succ n ih => exact Nat.xor_lt_two_pow (ih (fun k hk => h k (by omega))) (h n (by omega))
theorem xs_mur {g : Nat → Nat} (c n : Nat) (h : ∀ k,k < n → g k < 2 ^ m) : mu p m (xs g n) c = xs (fun k => mu p m (g k) c) n := by
  induction n with
  | zero => exact F.mu_zero_left c
  | succ n ih => rw [xs,xs,F.mu_add_left (xs_lt F n (fun k hk => h k (by omega))) (h n (by omega)),ih (fun k hk => h k (by omega))]
theorem ev_lt {l : List Nat} (hl : ∀ y ∈ l,y < 2 ^ m) (t : Nat) : ev p m l t < 2 ^ m := xs_lt F _ (fun k _ => F.mu_lt (getD_lt' F.zero_lt hl k))
theorem ev_cons (a : Nat) {l : List Nat} (ha : a < 2 ^ m) (hl : ∀ y ∈ l,y < 2 ^ m) (t : Nat) : ev p m (a :: l) t = a ^^^ mu p m (ev p m l t) (pw p (2 ^ m) t) := by
  unfold ev
  rw [List.length_cons,xs_front]
  have e0 : mu p m ((a :: l).getD 0 0) (pw p (2 ^ m) (t * 0)) = a := F.mu_one' ha
  rw [e0,xs_mur F _ _ (fun k _ => F.mu_lt (getD_lt' F.zero_lt hl k))]
  congr 1
  refine xs_congr _ (fun k _ => ?_)
  show mu p m (l.getD k 0) (pw p (2 ^ m) (t * (k + 1))) = _
  rw [F.mu_assoc (getD_lt' F.zero_lt hl k) (F.pw_lt _) (F.pw_lt _),F.mu_pw,Nat.mul_add,Nat.mul_one]
theorem ev_hv {l : List Nat} (hl : ∀ y ∈ l,y < 2 ^ m) (t : Nat) : hv p m l.reverse (pw p (2 ^ m) t) = ev p m l t := by
  induction l with
  | nil => rfl
  | cons a l ih =>
    have hl' : ∀ y ∈ l,y < 2 ^ m := fun z hz => hl z (List.mem_cons_of_mem _ hz)
    rw [ev_cons F a (hl a (List.mem_cons_self ..)) hl',← ih hl',List.reverse_cons]
    unfold hv
    rw [hvf_append]
    show mu p m (hvf p m _ 0 l.reverse) _ ^^^ a = _
    rw [Nat.xor_comm]
theorem ev_more {l : List Nat} (t M : Nat) (h : l.length ≤ M) : ev p m l t = xs (fun j => mu p m (l.getD j 0) (pw p (2 ^ m) (t * j))) M := by
  obtain ⟨q,rfl⟩ : ∃ q,M = l.length + q := ⟨M - l.length,by omega⟩
  rw [xs_split,xs_nil q (fun k _ => by rw [getD_over l _ (by omega),F.mu_zero_left]),Nat.xor_zero]
  rfl
theorem ev_xadd {out l : List Nat} (ho : ∀ y ∈ out,y < 2 ^ m) (hl : ∀ y ∈ l,y < 2 ^ m) (i t : Nat) (h : i + l.length ≤ out.length) : ev p m (xadd out i l) t = ev p m out t ^^^ mu p m (pw p (2 ^ m) (t * i)) (ev p m l t) := by
  have e1 : ev p m (xadd out i l) t = ev p m out t ^^^ xs (fun j => mu p m (if i ≤ j then l.getD (j - i) 0 else 0) (pw p (2 ^ m) (t * j))) out.length := by
    unfold ev
    rw [xadd_length,← xs_xor]
    refine xs_congr _ (fun j _ => ?_)
    rw [xadd_getD _ _ _ _ h,F.mu_add_left (getD_lt' F.zero_lt ho j)]
    split
    · exact getD_lt' F.zero_lt hl _
    · exact F.zero_lt
  rw [e1]
  congr 1
  obtain ⟨q,hq⟩ : ∃ q,out.length = i + q := ⟨out.length - i,by omega⟩
  rw [hq,xs_split,xs_nil i (fun k hk => by rw [if_neg (by omega),F.mu_zero_left]),Nat.zero_xor,ev_more F t q (by omega),xs_mu F]
  refine xs_congr _ (fun k _ => ?_)
  rw [if_pos (by omega),show i + k - i = k by omega,Nat.mul_add,← F.mu_pw,← F.mu_assoc (getD_lt' F.zero_lt hl k) (F.pw_lt _) (F.pw_lt _),F.mu_comm (getD_lt' F.zero_lt hl k) (F.pw_lt _),F.mu_assoc (F.pw_lt _) (getD_lt' F.zero_lt hl k) (F.pw_lt _)]
theorem ev_scale {l : List Nat} (hl : ∀ y ∈ l,y < 2 ^ m) {c : Nat} (hc : c < 2 ^ m) (t : Nat) : ev p m (l.map (fun y => mu p m c y)) t = mu p m c (ev p m l t) := by
  unfold ev
  rw [List.length_map,xs_mu F]
  exact xs_congr _ (fun k _ => by rw [map_mu_getD F,F.mu_assoc hc (getD_lt' F.zero_lt hl k) (F.pw_lt _)])
theorem ev_pl {B : List Nat} (hB : ∀ y ∈ B,y < 2 ^ m) (lB : 1 ≤ B.length) (t : Nat) (A : List Nat) : (∀ y ∈ A,y < 2 ^ m) → ∀ i out,(∀ y ∈ out,y < 2 ^ m) → i + A.length + B.length ≤ out.length + 1 →
    ev p m (pl p m B A i out) t = ev p m out t ^^^ mu p m (pw p (2 ^ m) (t * i)) (mu p m (ev p m A t) (ev p m B t)) := by
  induction A with
  | nil =>
    intro _ i out _ _
    rw [pl,show ev p m [] t = 0 from rfl,F.mu_zero_left,F.mu_zero_right,Nat.xor_zero]
  | cons x A ih =>
    intro hA i out ho hl
    rw [List.length_cons] at hl
    have hx := hA x (List.mem_cons_self ..)
    have hA' : ∀ y ∈ A,y < 2 ^ m := fun z hz => hA z (List.mem_cons_of_mem _ hz)
    have hM : ∀ y ∈ B.map (fun y => mu p m x y),y < 2 ^ m := fun y hy => by
      obtain ⟨z,_,rfl⟩ := List.mem_map.1 hy
      exact F.mu_lt hx
    have eA := ev_lt F hA' t
    have eB := ev_lt F hB t
    rw [pl,ih hA' _ _ (xadd_lt _ _ _ ho hM) (by rw [xadd_length]; omega),ev_xadd F ho hM i t (by rw [List.length_map]; omega),ev_scale F hB hx,ev_cons F x hx hA',Nat.xor_assoc]
    congr 1
    rw [F.mu_add_left hx (F.mu_lt eA),F.mu_add_right]
    congr 1
    rw [Nat.mul_add,Nat.mul_one,← F.mu_pw,F.mu_assoc (F.pw_lt _) (F.pw_lt _) (F.mu_lt eA)]
    congr 1
    rw [← F.mu_assoc (F.pw_lt _) eA eB,F.mu_comm (F.pw_lt _) eA]
theorem ev_plow {A B : List Nat} (hA : ∀ y ∈ A,y < 2 ^ m) (hB : ∀ y ∈ B,y < 2 ^ m) (lA : 1 ≤ A.length) (lB : 1 ≤ B.length) (N t : Nat) (h : A.length + B.length ≤ N + 1) : ev p m (plow p m A B N) t = mu p m (ev p m A t) (ev p m B t) := by
  unfold plow
  rw [ev_pl F hB lB t A hA 0 _ (mem_zeros F.zero_lt) (by rw [List.length_replicate]; omega)]
  have e0 : ev p m (List.replicate (min N (A.length + B.length - 1)) 0) t = 0 := xs_nil _ (fun k _ => by rw [getD_rep,F.mu_zero_left])
  rw [e0,Nat.zero_xor,Nat.mul_zero]
  exact F.mu_one (F.mu_lt (ev_lt F hA t))
theorem pl_getD {B : List Nat} (A : List Nat) : ∀ i out j,j < out.length → (pl p m B A i out).getD j 0 = out.getD j 0 ^^^ cvs p m i A B j := by
  induction A with
  | nil =>
    intro i out j h
    unfold cvs
    rw [pl]
    split
    · rw [cv_nil F,Nat.xor_zero]
    · rw [Nat.xor_zero]
  | cons x A ih =>
    intro i out j h
    rw [pl,ih _ _ _ (by rw [xadd_length]; exact h),xadd_getD' _ _ _ _ h,Nat.xor_assoc]
    congr 1
    unfold cvs
    by_cases c : i ≤ j
    · rw [if_pos c,if_pos c,map_mu_getD F]
      rcases Nat.eq_zero_or_pos (j - i) with c2 | c2
      · rw [if_neg (by omega),c2,Nat.xor_zero]
        show mu p m x (B.getD 0 0) = 0 ^^^ mu p m x (B.getD 0 0)
        rw [Nat.zero_xor]
      · rw [if_pos (by omega)]
        obtain ⟨q,hq⟩ : ∃ q,j - i = q + 1 := ⟨j - i - 1,by omega⟩
        rw [hq,cv_cons,show j - (i + 1) = q by omega]
    · rw [if_neg c,if_neg c,if_neg (by omega),Nat.xor_zero]
theorem plow_cv (A B : List Nat) (N j : Nat) (h : j < min N (A.length + B.length - 1)) : (plow p m A B N).getD j 0 = cv p m A B j := by
  unfold plow
  rw [pl_getD F A 0 _ j (by rw [List.length_replicate]; exact h),getD_rep,Nat.zero_xor]
  unfold cvs
  rw [if_pos (Nat.zero_le _),Nat.sub_zero]
theorem cv_comm {A B : List Nat} (hA : ∀ y ∈ A,y < 2 ^ m) (hB : ∀ y ∈ B,y < 2 ^ m) (j : Nat) : cv p m A B j = cv p m B A j := by
  unfold cv
  rw [xs_rev]
  refine xs_congr _ (fun k hk => ?_)
  rw [show j + 1 - 1 - k = j - k by omega,show j - (j - k) = k by omega]
  exact F.mu_comm (getD_lt' F.zero_lt hA _) (getD_lt' F.zero_lt hB _)
theorem tq_lt (f : Nat) {l : List Nat} (hl : ∀ y ∈ l,y < 2 ^ m) : ∀ y ∈ tq p m f l,y < 2 ^ m := by
  induction l with
  | nil => intro y hy; cases hy
  | cons z l ih =>
    intro y hy
    rw [tq] at hy
    rcases List.mem_cons.1 hy with rfl | hy
    · exact F.mu_lt (hl z (List.mem_cons_self ..))
    · exact ih (fun z hz => hl z (List.mem_cons_of_mem _ hz)) y hy
theorem hv_tq (f j : Nat) {l : List Nat} (hl : ∀ y ∈ l,y < 2 ^ m) : hv p m (tq p m f l) (pw p (2 ^ m) j) = hv p m l (pw p (2 ^ m) (f + j)) := by
  induction l with
  | nil => rfl
  | cons y l ih =>
    have hy := hl y (List.mem_cons_self ..)
    have hl' : ∀ y ∈ l,y < 2 ^ m := fun z hz => hl z (List.mem_cons_of_mem _ hz)
    rw [tq,hv_cons F j _ (F.mu_lt hy) (tq_lt F f hl'),hv_cons F (f + j) y hy hl',ih hl',tq_length,F.mu_assoc hy (F.pw_lt _) (F.pw_lt _),F.mu_pw,Nat.add_mul]
theorem rev_ev {l : List Nat} (hl : ∀ y ∈ l,y < 2 ^ m) (s t : Nat) (h : pw p (2 ^ m) (s + t) = 1) : mu p m (hv p m l (pw p (2 ^ m) s)) (pw p (2 ^ m) s) = mu p m (pw p (2 ^ m) (s * l.length)) (ev p m l t) := by
  induction l with
  | nil =>
    show mu p m 0 _ = mu p m _ 0
    rw [F.mu_zero_left,F.mu_zero_right]
  | cons y l ih =>
    have hy := hl y (List.mem_cons_self ..)
    have hl' : ∀ y ∈ l,y < 2 ^ m := fun z hz => hl z (List.mem_cons_of_mem _ hz)
    have hE := ev_lt F hl' t
    rw [hv_cons F s y hy hl',F.mu_add_left (F.mu_lt hy) (F.hv_lt (F.pw_lt s) hl'),ih hl',ev_cons F y hy hl',F.mu_add_right,List.length_cons]
    congr 1
    · rw [F.mu_assoc hy (F.pw_lt _) (F.pw_lt _),F.mu_pw,F.mu_comm hy (F.pw_lt _),Nat.mul_add,Nat.mul_one]
    · rw [F.mu_comm hE (F.pw_lt t),← F.mu_assoc (F.pw_lt _) (F.pw_lt t) hE,F.mu_pw,Nat.mul_add,Nat.mul_one,Nat.add_assoc,← F.mu_pw,h,F.mu_one' (F.pw_lt _)]
theorem rev_zero {l : List Nat} (hl : ∀ y ∈ l,y < 2 ^ m) {s t : Nat} (h : pw p (2 ^ m) (s + t) = 1) : hv p m l (pw p (2 ^ m) s) = 0 ↔ ev p m l t = 0 := by
  have e := rev_ev F hl s t h
  have h1 := F.hv_lt (F.pw_lt s) hl
  have h2 := ev_lt F hl t
  constructor
  · intro c
    rw [c,F.mu_zero_left] at e
    rcases Nat.eq_zero_or_pos (ev p m l t) with d | d
    · exact d
    · have := F.mu_pos (F.pw_pos (s * l.length)) (F.pw_lt _) d h2; omega
  · intro c
    rw [c,F.mu_zero_right] at e
    rcases Nat.eq_zero_or_pos (hv p m l (pw p (2 ^ m) s)) with d | d
    · exact d
    · have := F.mu_pos d h1 (F.pw_pos s) (F.pw_lt _); omega
theorem mu_eq0 {a b : Nat} (ha : a < 2 ^ m) (hb : b < 2 ^ m) : mu p m a b = 0 ↔ a = 0 ∨ b = 0 := by
  constructor
  · intro h
    rcases Nat.eq_zero_or_pos a with c | c
    · exact .inl c
    · rcases Nat.eq_zero_or_pos b with d | d
      · exact .inr d
      · have := F.mu_pos c ha d hb; omega
  · rintro (rfl | rfl)
    · exact F.mu_zero_left _
    · exact F.mu_zero_right _
theorem pw_mul_one {s : Nat} (h : pw p (2 ^ m) s = 1) (k : Nat) : pw p (2 ^ m) (k * s) = 1 := by
  induction k with
  | zero => rw [Nat.zero_mul]; rfl
  | succ k ih => rw [Nat.succ_mul,← F.mu_pw,ih,h,F.mu_one F.one_lt]
theorem hv_pf (s : Nat) {l : List Nat} (hl : ∀ y ∈ l,y < 2 ^ m) : hv p m l (pw p (2 ^ m) s) = pf p m (fun h => pw p (2 ^ m) (s * h)) l := by
  induction l with
  | nil => rfl
  | cons y l ih => rw [hv_cons F s y (hl y (List.mem_cons_self ..)) (fun z hz => hl z (List.mem_cons_of_mem _ hz)),pf,ih (fun z hz => hl z (List.mem_cons_of_mem _ hz))]
theorem pf_xor (φ ψ : Nat → Nat) (l : List Nat) : pf p m (fun h => φ h ^^^ ψ h) l = pf p m φ l ^^^ pf p m ψ l := by
  induction l with
  | nil => show 0 = 0 ^^^ 0; rw [Nat.xor_self]
  | cons y l ih => rw [pf,pf,pf,ih,F.mu_add_right,xor4]
theorem pf_nil (l : List Nat) : pf p m (fun _ => 0) l = 0 := by
  induction l with
  | nil => rfl
  | cons y l ih => rw [pf,ih,F.mu_zero_right,Nat.xor_self]
theorem pf_mu {c : Nat} (hc : c < 2 ^ m) {φ : Nat → Nat} (hφ : ∀ h,φ h < 2 ^ m) {l : List Nat} (hl : ∀ y ∈ l,y < 2 ^ m) : mu p m c (pf p m φ l) = pf p m (fun h => mu p m c (φ h)) l := by
  induction l with
  | nil => exact F.mu_zero_right c
  | cons y l ih =>
    have hy := hl y (List.mem_cons_self ..)
    rw [pf,pf,F.mu_add_right,ih (fun z hz => hl z (List.mem_cons_of_mem _ hz)),← F.mu_assoc hc hy (hφ _),F.mu_comm hc hy,F.mu_assoc hy hc (hφ _)]
theorem pf_xs {c : Nat → Nat} (hc : ∀ j,c j < 2 ^ m) {φ : Nat → Nat → Nat} (hφ : ∀ j h,φ j h < 2 ^ m) {l : List Nat} (hl : ∀ y ∈ l,y < 2 ^ m) (n : Nat) : xs (fun j => mu p m (c j) (pf p m (φ j) l)) n = pf p m (fun h => xs (fun j => mu p m (c j) (φ j h)) n) l := by
  induction n with
  | zero => exact (pf_nil F l).symm
  | succ n ih =>
    rw [xs,ih,pf_mu F (hc n) (hφ n) hl,← pf_xor F]
    rfl
theorem pf_one {φ : Nat → Nat} (l : List Nat) : ∀ k,k < l.length → (∀ i,i < l.length → i ≠ k → l.getD i 0 = 0 ∨ φ (l.length - 1 - i) = 0) → pf p m φ l = mu p m (l.getD k 0) (φ (l.length - 1 - k)) := by
  induction l with
  | nil => intro k h; exact absurd h (Nat.not_lt_zero _)
  | cons y l ih =>
    intro k hk h
    rw [List.length_cons] at hk h
    have rest : (∀ i,i < l.length → i + 1 ≠ k → l.getD i 0 = 0 ∨ φ (l.length - 1 - i) = 0) := fun i hi hne => by
      have := h (i + 1) (by omega) hne
      rw [show l.length + 1 - 1 - (i + 1) = l.length - 1 - i by omega] at this
      exact this
    rw [pf,List.length_cons]
    cases k with
    | zero =>
      have z : pf p m φ l = 0 := by
        have : ∀ l : List Nat,(∀ i,i < l.length → l.getD i 0 = 0 ∨ φ (l.length - 1 - i) = 0) → pf p m φ l = 0 := by
          intro l
          induction l with
          | nil => intro _; rfl
          | cons y l ih2 =>
            intro h2
            rw [List.length_cons] at h2
            have e0 := h2 0 (by omega)
            rw [show l.length + 1 - 1 - 0 = l.length by omega] at e0
            rw [pf,ih2 (fun i hi => by
              have := h2 (i + 1) (by omega)
              rw [show l.length + 1 - 1 - (i + 1) = l.length - 1 - i by omega] at this
              exact this),Nat.xor_zero]
            rcases e0 with e0 | e0
            · rw [show y = 0 from e0,F.mu_zero_left]
            · rw [e0,F.mu_zero_right]
        exact this l (fun i hi => rest i hi (by omega))
      rw [z,Nat.xor_zero,show l.length + 1 - 1 - 0 = l.length by omega]
      rfl
    | succ k =>
      have e0 := h 0 (by omega) (by omega)
      rw [show l.length + 1 - 1 - 0 = l.length by omega] at e0
      have z : mu p m y (φ l.length) = 0 := by
        rcases e0 with e0 | e0
        · rw [show y = 0 from e0,F.mu_zero_left]
        · rw [e0,F.mu_zero_right]
      rw [z,Nat.zero_xor,ih k (by omega) (fun i hi hne => rest i hi (by omega)),show l.length + 1 - 1 - (k + 1) = l.length - 1 - k by omega]
      rfl
theorem roots_list (c : Nat → Nat) {P : List Nat} (hP : P.Nodup) (inj : ∀ i ∈ P,∀ j ∈ P,c i = c j → i = j) {l : List Nat} (hl : ∀ y ∈ l,y < 2 ^ m) (ll : l.length ≤ P.length) (h : ∀ i ∈ P,c i < 2 ^ m ∧ hv p m l (c i) = 0) : ∀ y ∈ l,y = 0 := by
  have mem : ∀ i,i < P.length → P.getD i 0 ∈ P := fun i hi => by
    rw [List.getD_eq_getElem?_getD,List.getElem?_eq_getElem hi]
    exact List.getElem_mem hi
  refine F.roots_zero (fun i => c (P.getD i 0)) P.length l ll hl (fun i j hi hj e => ?_) (fun i hi => h _ (mem i hi))
  have e2 := inj _ (mem i hi) _ (mem j hj) e
  rw [List.getD_eq_getElem?_getD,List.getElem?_eq_getElem hi,List.getD_eq_getElem?_getD,List.getElem?_eq_getElem hj] at e2
  exact (List.getElem_inj hP).1 e2
end
end Go.Proofs.Ytpgecdidddoglaa.GalP
