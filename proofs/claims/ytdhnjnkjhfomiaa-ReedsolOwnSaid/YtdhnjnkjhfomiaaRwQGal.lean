/- Fields with 2^M elements: powers of the element 2, products bit by bit; plain numbers, no program in sight. -/
set_option linter.unusedVariables false
set_option linter.unusedSimpArgs false
namespace Go.Proofs.Ytdhnjnkjhfomiaa.Gal
def stp (P sz x : Nat) : Nat := if sz ≤ 2 * x then 2 * x ^^^ P else 2 * x
def pw (P sz : Nat) : Nat → Nat
  | 0 => 1
  | n + 1 => stp P sz (pw P sz n)
def chk (P sz : Nat) : Nat → Nat → Nat → Option Nat
  | 0,x,m => if x = 1 then some m else none
  | n + 1,x,m => if x < sz && x != 0 && !m.testBit x then chk P sz n (stp P sz x) (m ||| 2 ^ x) else none
def good (P sz : Nat) : Bool := chk P sz (sz - 1) 1 0 == some (2 ^ sz - 2)
theorem testBit_one (x y : Nat) : (2 ^ x).testBit y = decide (x = y) := by rw [Nat.testBit_two_pow]
theorem chk_spec {P sz : Nat} : ∀ (n i x m r : Nat),x = pw P sz i → chk P sz n x m = some r →
    (∀ j,j < n → pw P sz (i + j) < sz ∧ pw P sz (i + j) ≠ 0 ∧ m.testBit (pw P sz (i + j)) = false ∧ ∀ j',j' < j → pw P sz (i + j') ≠ pw P sz (i + j)) ∧
      pw P sz (i + n) = 1 ∧ ∀ y,r.testBit y = true → m.testBit y = true ∨ ∃ j,j < n ∧ pw P sz (i + j) = y := by
  intro n
  induction n with
  | zero =>
    intro i x m r hx h
    unfold chk at h
    by_cases c : x = 1
    · rw [if_pos c] at h
      obtain rfl := Option.some.inj h
      exact ⟨fun j hj => by omega,by rw [Nat.add_zero,← hx]; exact c,fun y hy => .inl hy⟩
    · rw [if_neg c] at h
      cases h
  | succ n ih =>
    intro i x m r hx h
    unfold chk at h
    by_cases c : (x < sz && x != 0 && !m.testBit x) = true
    · rw [if_pos c] at h
      simp only [Bool.and_eq_true,decide_eq_true_eq,bne_iff_ne,Bool.not_eq_true'] at c
      obtain ⟨⟨c1,c2⟩,c3⟩ := c
      obtain ⟨h1,h2,h3⟩ := ih (i + 1) (stp P sz x) (m ||| 2 ^ x) r (by rw [hx]; rfl) h
      have e : ∀ j,i + 1 + j = i + (j + 1) := fun j => by omega
      refine ⟨fun j hj => ?_,by rw [← e]; exact h2,fun y hy => ?_⟩
      · cases j with
        | zero => rw [Nat.add_zero,← hx]; exact ⟨c1,c2,c3,fun j' hj' => by omega⟩
        | succ j =>
          obtain ⟨a1,a2,a3,a4⟩ := h1 j (by omega)
          rw [e] at a1 a2 a3 a4
          rw [Nat.testBit_or,Bool.or_eq_false_iff] at a3
          refine ⟨a1,a2,a3.1,fun j' hj' => ?_⟩
          cases j' with
          | zero =>
            rw [Nat.add_zero,← hx]
            have := a3.2
            rw [testBit_one] at this
            exact of_decide_eq_false this
          | succ j' => have := a4 j' (by omega); rwa [e] at this
      · rcases h3 y hy with h | ⟨j,hj,h⟩
        · rw [Nat.testBit_or,Bool.or_eq_true] at h
          rcases h with h | h
          · exact .inl h
          · rw [testBit_one] at h
            exact .inr ⟨0,by omega,by rw [Nat.add_zero,← hx]; exact of_decide_eq_true h⟩
        · exact .inr ⟨j + 1,by omega,by rw [← e]; exact h⟩
    · rw [if_neg c] at h
      cases h
structure Fld (P sz : Nat) : Prop where
  two : 4 ≤ sz
  lt : ∀ n,pw P sz n < sz
  ne : ∀ n,pw P sz n ≠ 0
  per : ∀ n,pw P sz (n + (sz - 1)) = pw P sz n
  inj : ∀ i j,i < sz - 1 → j < sz - 1 → pw P sz i = pw P sz j → i = j
  all : ∀ x,0 < x → x < sz → ∃ n,n < sz - 1 ∧ pw P sz n = x
theorem fld_of_good {P sz : Nat} (h4 : 4 ≤ sz) (h : good P sz = true) : Fld P sz := by
  have hc : chk P sz (sz - 1) 1 0 = some (2 ^ sz - 2) := by simpa [good] using h
  obtain ⟨h1,h2,h3⟩ := chk_spec (sz - 1) 0 1 0 _ rfl hc
  simp only [Nat.zero_add] at h1 h2 h3
  have per : ∀ n,pw P sz (n + (sz - 1)) = pw P sz n := by
    intro n
    induction n with
    | zero => rw [Nat.zero_add]; exact h2
    | succ n ih => rw [Nat.succ_add]; simp only [pw]; rw [ih]
  have red : ∀ n,∃ j,j < sz - 1 ∧ pw P sz n = pw P sz j := by
    intro n
    induction n using Nat.strongRecOn with
    | _ n ih =>
      by_cases c : n < sz - 1
      · exact ⟨n,c,rfl⟩
      · obtain ⟨j,hj,e⟩ := ih (n - (sz - 1)) (by omega)
        refine ⟨j,hj,?_⟩
        have e2 := per (n - (sz - 1))
        rw [show n - (sz - 1) + (sz - 1) = n by omega] at e2
        rw [← e,e2]
  refine ⟨h4,fun n => ?_,fun n => ?_,per,fun i j hi hj e => ?_,fun x hx0 hx => ?_⟩
  · obtain ⟨j,hj,e⟩ := red n
    rw [e]
    exact (h1 j hj).1
  · obtain ⟨j,hj,e⟩ := red n
    rw [e]
    exact (h1 j hj).2.1
  · rcases Nat.lt_trichotomy i j with c | c | c
    · exact absurd e ((h1 j hj).2.2.2 i c)
    · exact c
    · exact absurd e.symm ((h1 i hi).2.2.2 j c)
  · have ht : (2 ^ sz - 2).testBit x = true := by
      have e2 : 2 ^ sz - 2 = 2 * (2 ^ (sz - 1) - 1) := by
        obtain ⟨s,rfl⟩ : ∃ s,sz = s + 1 := ⟨sz - 1,by omega⟩
        rw [Nat.add_sub_cancel,Nat.pow_succ]
        omega
      obtain ⟨y,rfl⟩ : ∃ y,x = y + 1 := ⟨x - 1,by omega⟩
      rw [e2,Nat.testBit_succ,Nat.mul_div_cancel_left _ (by omega),Nat.testBit_two_pow_sub_one]
      exact decide_eq_true (by omega)
    rcases h3 x ht with h | h
    · simp at h
    · exact h
namespace Fld
variable {P sz : Nat} (F : Fld P sz)
include F
theorem per_mul (n k : Nat) : pw P sz (n + k * (sz - 1)) = pw P sz n := by
  induction k with
  | zero => rw [Nat.zero_mul,Nat.add_zero]
  | succ k ih => rw [Nat.succ_mul,← Nat.add_assoc,F.per,ih]
theorem mod (n : Nat) : pw P sz (n % (sz - 1)) = pw P sz n := by
  have h := F.per_mul (n % (sz - 1)) (n / (sz - 1))
  rw [Nat.mul_comm,Nat.mod_add_div] at h
  exact h.symm
end Fld
def lgn (P sz : Nat) : Nat → Nat → Nat
  | 0,_ => 0
  | n + 1,x => if pw P sz n = x then n else lgn P sz n x
theorem lgn_pw {P sz : Nat} (F : Fld P sz) (i : Nat) : ∀ n,i < n → n ≤ sz - 1 → lgn P sz n (pw P sz i) = i := by
  intro n
  induction n with
  | zero => intro h; omega
  | succ n ih =>
    intro h1 h2
    unfold lgn
    by_cases c : pw P sz n = pw P sz i
    · rw [if_pos c]
      exact F.inj _ _ (by omega) (by omega) c
    · rw [if_neg c]
      refine ih ?_ (by omega)
      rcases Nat.lt_or_ge i n with h | h
      · exact h
      · exact absurd (show pw P sz n = pw P sz i by rw [show i = n by omega]) c
def lg (P sz x : Nat) : Nat := lgn P sz (sz - 1) x
theorem lg_lt {P sz : Nat} (F : Fld P sz) (x : Nat) : lg P sz x < sz - 1 := by
  have h4 := F.two
  have : ∀ n,lgn P sz n x ≤ n - 1 := by
    intro n
    induction n with
    | zero => exact Nat.le_refl _
    | succ n ih =>
      unfold lgn
      split
      · omega
      · omega
  have := this (sz - 1)
  unfold lg
  omega
theorem lg_pw {P sz : Nat} (F : Fld P sz) (i : Nat) : lg P sz (pw P sz i) = i % (sz - 1) := by
  have h4 := F.two
  rw [← F.mod i]
  exact lgn_pw F _ _ (Nat.mod_lt _ (by omega)) (Nat.le_refl _)
theorem pw_lg {P sz : Nat} (F : Fld P sz) {x : Nat} (h0 : 0 < x) (h : x < sz) : pw P sz (lg P sz x) = x := by
  obtain ⟨n,hn,rfl⟩ := F.all x h0 h
  rw [lg_pw F,F.mod]
theorem two_xor (a b : Nat) : 2 * (a ^^^ b) = (2 * a) ^^^ (2 * b) := by
  have := Nat.shiftLeft_xor_distrib (a := a) (b := b) (i := 1)
  simp only [Nat.shiftLeft_eq,Nat.pow_one] at this
  rw [Nat.mul_comm 2,this,Nat.mul_comm a,Nat.mul_comm b]
theorem top_bit {M x : Nat} (h : x < 2 ^ (M + 1)) : (2 ^ M ≤ x) ↔ x.testBit M = true := by
  constructor
  · intro h1
    have h2 : x.testBit M = true := by
      rw [Nat.testBit_eq_decide_div_mod_eq]
      have : x / 2 ^ M = 1 := by
        have hp := Nat.pow_pos (n := M) (show 0 < 2 by omega)
        rw [Nat.pow_succ] at h
        exact Nat.div_eq_of_lt_le (by omega) (by omega)
      rw [this]
      rfl
    exact h2
  · intro h1
    exact Nat.ge_two_pow_of_testBit h1
theorem stp_eq {P M x : Nat} (hx : x < 2 ^ M) : stp P (2 ^ M) x = 2 * x ^^^ (if (2 * x).testBit M then P else 0) := by
  unfold stp
  have h2 : 2 * x < 2 ^ (M + 1) := by rw [Nat.pow_succ]; omega
  by_cases c : 2 ^ M ≤ 2 * x
  · rw [if_pos c,if_pos ((top_bit h2).1 c)]
  · rw [if_neg c,if_neg (fun h => c ((top_bit h2).2 h)),Nat.xor_zero]
theorem xor4 (a b c d : Nat) : (a ^^^ b) ^^^ (c ^^^ d) = (a ^^^ c) ^^^ (b ^^^ d) := by
  rw [Nat.xor_assoc,Nat.xor_assoc,← Nat.xor_assoc b,← Nat.xor_assoc c,Nat.xor_comm b c]
theorem ite_xor (p q : Bool) (P : Nat) : (if (p ^^ q) = true then P else 0) = (if p = true then P else 0) ^^^ (if q = true then P else 0) := by
  cases p <;> cases q <;> simp
theorem stp_xor {P M x y : Nat} (hx : x < 2 ^ M) (hy : y < 2 ^ M) : stp P (2 ^ M) (x ^^^ y) = stp P (2 ^ M) x ^^^ stp P (2 ^ M) y := by
  rw [stp_eq hx,stp_eq hy,stp_eq (Nat.xor_lt_two_pow hx hy),two_xor,Nat.testBit_xor,ite_xor,xor4]
theorem stp_lt {P M x : Nat} (h1 : 2 ^ M ≤ P) (h2 : P < 2 ^ (M + 1)) (hx : x < 2 ^ M) : stp P (2 ^ M) x < 2 ^ M := by
  unfold stp
  have h3 : 2 * x < 2 ^ (M + 1) := by rw [Nat.pow_succ]; omega
  by_cases c : 2 ^ M ≤ 2 * x
  · rw [if_pos c]
    have a := (top_bit h3).1 c
    have b := (top_bit h2).1 h1
    have h4 : 2 * x ^^^ P < 2 ^ (M + 1) := Nat.xor_lt_two_pow h3 h2
    rcases Nat.lt_or_ge (2 * x ^^^ P) (2 ^ M) with h | h
    · exact h
    · have := (top_bit h4).1 h
      rw [Nat.testBit_xor,a,b] at this
      cases this
  · rw [if_neg c]
    omega
def qm (P sz : Nat) : Nat → Nat → Nat → Nat
  | 0,_,_ => 0
  | n + 1,a,b => (if b % 2 = 1 then a else 0) ^^^ qm P sz n (stp P sz a) (b / 2)
section
variable {P M : Nat} (h1 : 2 ^ M ≤ P) (h2 : P < 2 ^ (M + 1))
include h1 h2
theorem qm_lt (n : Nat) : ∀ {a b : Nat},a < 2 ^ M → qm P (2 ^ M) n a b < 2 ^ M := by
  induction n with
  | zero => intro a b _; exact Nat.pow_pos (by omega)
  | succ n ih =>
    intro a b ha
    refine Nat.xor_lt_two_pow ?_ (ih (stp_lt h1 h2 ha))
    split
    · exact ha
    · exact Nat.pow_pos (by omega)
omit h1 h2 in
theorem stp_zero : stp P (2 ^ M) 0 = 0 := by
  unfold stp
  have := Nat.pow_pos (n := M) (show 0 < 2 by omega)
  rw [if_neg (by omega)]
omit h1 h2 in
theorem qm_zero_left (n : Nat) : ∀ b,qm P (2 ^ M) n 0 b = 0 := by
  induction n with
  | zero => intro b; rfl
  | succ n ih =>
    intro b
    unfold qm
    rw [stp_zero,ih]
    simp
omit h1 h2 in
theorem qm_zero_right (n : Nat) : ∀ a,qm P (2 ^ M) n a 0 = 0 := by
  induction n with
  | zero => intro b; rfl
  | succ n ih =>
    intro a
    unfold qm
    rw [Nat.zero_div,ih]
    simp
theorem qm_add_left (n : Nat) : ∀ {a a' b : Nat},a < 2 ^ M → a' < 2 ^ M → qm P (2 ^ M) n (a ^^^ a') b = qm P (2 ^ M) n a b ^^^ qm P (2 ^ M) n a' b := by
  induction n with
  | zero => intro a a' b _ _; simp [qm]
  | succ n ih =>
    intro a a' b ha ha'
    simp only [qm]
    rw [stp_xor ha ha',ih (stp_lt h1 h2 ha) (stp_lt h1 h2 ha')]
    by_cases c : b % 2 = 1
    · rw [if_pos c,if_pos c,if_pos c,xor4]
    · rw [if_neg c,if_neg c,if_neg c,Nat.zero_xor,Nat.zero_xor,Nat.zero_xor]
theorem qm_stp (n : Nat) : ∀ {a b : Nat},a < 2 ^ M → qm P (2 ^ M) n (stp P (2 ^ M) a) b = stp P (2 ^ M) (qm P (2 ^ M) n a b) := by
  induction n with
  | zero => intro a b _; exact (stp_zero).symm
  | succ n ih =>
    intro a b ha
    simp only [qm]
    rw [stp_xor (by split; exact ha; exact Nat.pow_pos (by omega)) (qm_lt h1 h2 n (stp_lt h1 h2 ha)),ih (stp_lt h1 h2 ha)]
    congr 1
    split
    · rfl
    · exact (stp_zero).symm
omit h1 h2 in
theorem qm_add_right (n : Nat) : ∀ {a b b' : Nat},qm P (2 ^ M) n a (b ^^^ b') = qm P (2 ^ M) n a b ^^^ qm P (2 ^ M) n a b' := by
  induction n with
  | zero => intro a b b'; simp [qm]
  | succ n ih =>
    intro a b b'
    simp only [qm]
    have e1 : (b ^^^ b') / 2 = b / 2 ^^^ b' / 2 := by
      have := Nat.shiftRight_xor_distrib (a := b) (b := b') (i := 1)
      simpa only [Nat.shiftRight_eq_div_pow,Nat.pow_one] using this
    have e2 : (if (b ^^^ b') % 2 = 1 then a else 0) = (if b % 2 = 1 then a else 0) ^^^ (if b' % 2 = 1 then a else 0) := by
      have e3 : (b ^^^ b') % 2 = (b % 2) ^^^ (b' % 2) := by
        have := Nat.xor_mod_two_pow (a := b) (b := b') (n := 1)
        simpa only [Nat.pow_one] using this
      rcases Nat.mod_two_eq_zero_or_one b with hb | hb <;> rcases Nat.mod_two_eq_zero_or_one b' with hb' | hb' <;> rw [e3,hb,hb'] <;> simp
    rw [e1,e2,ih,xor4]
omit h1 h2 in
theorem qm_low (n : Nat) : ∀ {k b : Nat},n + k ≤ M → b < 2 ^ n → qm P (2 ^ M) n (2 ^ k) b = 2 ^ k * b := by
  induction n with
  | zero =>
    intro k b _ hb
    have : b = 0 := by simpa using hb
    subst this
    rfl
  | succ n ih =>
    intro k b hk hb
    have hs : b / 2 < 2 ^ n := by rw [Nat.pow_succ] at hb; omega
    simp only [qm]
    by_cases c : n = 0
    · subst c
      have hb2 : b < 2 := by simpa using hb
      rcases (show b = 0 ∨ b = 1 by omega) with rfl | rfl <;> simp [qm]
    · have e1 : stp P (2 ^ M) (2 ^ k) = 2 ^ (k + 1) := by
        unfold stp
        have : 2 ^ (k + 1) < 2 ^ M := Nat.pow_lt_pow_right (by omega) (by omega)
        rw [← Nat.pow_succ',if_neg (by omega)]
      rw [e1,ih (by omega) hs]
      have e2 : 2 ^ k * b = 2 ^ (k + 1) * (b / 2) + (if b % 2 = 1 then 2 ^ k else 0) := by
        have hb3 : b = 2 * (b / 2) + b % 2 := (Nat.div_add_mod b 2).symm
        by_cases c2 : b % 2 = 1
        · rw [if_pos c2]
          conv => lhs; rw [hb3,c2]
          rw [Nat.mul_add,Nat.mul_one,← Nat.mul_assoc,Nat.pow_succ]
        · rw [if_neg c2]
          conv => lhs; rw [hb3,show b % 2 = 0 by omega]
          rw [Nat.add_zero,Nat.add_zero,← Nat.mul_assoc,Nat.pow_succ]
      rw [e2,Nat.xor_comm]
      have hlt : (if b % 2 = 1 then 2 ^ k else 0) < 2 ^ (k + 1) := by
        have := Nat.pow_pos (n := k) (show 0 < 2 by omega)
        split
        · rw [Nat.pow_succ]; omega
        · exact Nat.pow_pos (by omega)
      rw [Nat.two_pow_add_eq_or_of_lt hlt]
      refine Nat.eq_of_testBit_eq fun i => ?_
      rw [Nat.testBit_xor,Nat.testBit_or,Nat.testBit_two_pow_mul]
      by_cases ci : k + 1 ≤ i
      · rw [Nat.testBit_lt_two_pow (Nat.lt_of_lt_of_le hlt (Nat.pow_le_pow_right (by omega) ci))]
        simp
      · simp [ci]
omit h1 h2 in
theorem qm_one {b : Nat} (hb : b < 2 ^ M) : qm P (2 ^ M) M 1 b = b := by
  have := qm_low (P := P) (M := M) M (k := 0) (b := b) (Nat.le_refl _) hb
  rw [Nat.pow_zero,Nat.one_mul] at this
  exact this
end
def mu (P M a b : Nat) : Nat := qm P (2 ^ M) M a b
structure Fi (M P : Nat) : Prop where
  lo : 2 ^ M ≤ P
  hi : P < 2 ^ (M + 1)
  three : 3 ≤ M
  eight : M ≤ 8
  fld : Fld P (2 ^ M)
namespace Fi
variable {M P : Nat} (F : Fi M P)
include F
theorem sz8 : 8 ≤ 2 ^ M := Nat.pow_le_pow_right (n := 2) (by omega) (show 3 ≤ M from F.three)
theorem sz256 : 2 ^ M ≤ 256 := Nat.pow_le_pow_right (n := 2) (by omega) (show M ≤ 8 from F.eight)
theorem mu_lt {a b : Nat} (ha : a < 2 ^ M) : mu P M a b < 2 ^ M := qm_lt F.lo F.hi M ha
theorem pw_lt (n : Nat) : pw P (2 ^ M) n < 2 ^ M := F.fld.lt n
theorem mu_pw (i j : Nat) : mu P M (pw P (2 ^ M) i) (pw P (2 ^ M) j) = pw P (2 ^ M) (i + j) := by
  induction i with
  | zero => rw [Nat.zero_add]; exact qm_one (F.fld.lt j)
  | succ i ih =>
    rw [show i + 1 + j = (i + j) + 1 by omega]
    simp only [pw]
    rw [← ih]
    exact qm_stp F.lo F.hi M (F.fld.lt i)
theorem mu_zero_left (b : Nat) : mu P M 0 b = 0 := have _ := F; qm_zero_left M b
theorem mu_zero_right (a : Nat) : mu P M a 0 = 0 := have _ := F; qm_zero_right M a
theorem mu_eq {a b : Nat} (ha0 : 0 < a) (ha : a < 2 ^ M) (hb0 : 0 < b) (hb : b < 2 ^ M) : mu P M a b = pw P (2 ^ M) (lg P (2 ^ M) a + lg P (2 ^ M) b) := by
  conv => lhs; rw [← pw_lg F.fld ha0 ha,← pw_lg F.fld hb0 hb]
  exact F.mu_pw _ _
theorem mu_comm {a b : Nat} (ha : a < 2 ^ M) (hb : b < 2 ^ M) : mu P M a b = mu P M b a := by
  rcases Nat.eq_zero_or_pos a with rfl | ha0
  · rw [F.mu_zero_left,F.mu_zero_right]
  rcases Nat.eq_zero_or_pos b with rfl | hb0
  · rw [F.mu_zero_left,F.mu_zero_right]
  rw [F.mu_eq ha0 ha hb0 hb,F.mu_eq hb0 hb ha0 ha,Nat.add_comm]
theorem mu_assoc {a b c : Nat} (ha : a < 2 ^ M) (hb : b < 2 ^ M) (hc : c < 2 ^ M) : mu P M (mu P M a b) c = mu P M a (mu P M b c) := by
  rcases Nat.eq_zero_or_pos a with rfl | ha0
  · rw [F.mu_zero_left,F.mu_zero_left,F.mu_zero_left]
  rcases Nat.eq_zero_or_pos b with rfl | hb0
  · rw [F.mu_zero_right,F.mu_zero_left,F.mu_zero_right]
  rcases Nat.eq_zero_or_pos c with rfl | hc0
  · rw [F.mu_zero_right,F.mu_zero_right,F.mu_zero_right]
  rw [← pw_lg F.fld ha0 ha,← pw_lg F.fld hb0 hb,← pw_lg F.fld hc0 hc,F.mu_pw,F.mu_pw,F.mu_pw,F.mu_pw,Nat.add_assoc]
theorem mu_add_left {a b c : Nat} (ha : a < 2 ^ M) (hb : b < 2 ^ M) : mu P M (a ^^^ b) c = mu P M a c ^^^ mu P M b c := qm_add_left F.lo F.hi M ha hb
theorem mu_add_right {a b c : Nat} : mu P M a (b ^^^ c) = mu P M a b ^^^ mu P M a c := have _ := F; qm_add_right M
theorem mu_one {a : Nat} (ha : a < 2 ^ M) : mu P M 1 a = a := have _ := F; qm_one ha
theorem one_lt : 1 < 2 ^ M := by have := F.sz8; omega
theorem mu_one' {a : Nat} (ha : a < 2 ^ M) : mu P M a 1 = a := by rw [F.mu_comm ha F.one_lt,F.mu_one ha]
theorem ord_pos : 0 < 2 ^ M - 1 := by have := F.sz8; omega
theorem lg_lt (a : Nat) : lg P (2 ^ M) a < 2 ^ M - 1 := Gal.lg_lt F.fld a
end Fi
end Go.Proofs.Ytdhnjnkjhfomiaa.Gal
