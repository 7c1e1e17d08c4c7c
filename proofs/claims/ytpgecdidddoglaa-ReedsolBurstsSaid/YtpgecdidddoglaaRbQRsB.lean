/- Berlekamp and Massey: where a row is a sum of e powers, and the row has at least 2 e places, the shortest recurrence has the powers' elements as its roots. Plain numbers. -/
import Derived.Test.YtpgecdidddoglaaRbQRsD
set_option linter.unusedVariables false
set_option linter.unusedSimpArgs false
namespace Go.Proofs.Ytpgecdidddoglaa.GalP
open Go.RowKit Go.Proofs.Ytpgecdidddoglaa.P Go.Proofs.YtpgecdidddoglaaW.PrintWords Go.Proofs.YtpgecdidddoglaaW.PrintLast Go.Proofs.YtpgecdidddoglaaW.PrintMore Go.Proofs.YtpgecdidddoglaaW.Q
open Go.Proofs.Ytpgecdidddoglaa.Gal
def xs (g : Nat → Nat) : Nat → Nat
  | 0 => 0
  | n + 1 => xs g n ^^^ g n
theorem xs_congr {g h : Nat → Nat} (n : Nat) (e : ∀ k,k < n → g k = h k) : xs g n = xs h n := by
  induction n with
  | zero => rfl
  | succ n ih => rw [xs,xs,ih (fun k hk => e k (by omega)),e n (by omega)]
theorem xs_nil {g : Nat → Nat} (n : Nat) (e : ∀ k,k < n → g k = 0) : xs g n = 0 := by
  induction n with
  | zero => rfl
  | succ n ih => rw [xs,ih (fun k hk => e k (by omega)),e n (by omega),Nat.xor_self]
theorem xs_xor (g h : Nat → Nat) (n : Nat) : xs (fun k => g k ^^^ h k) n = xs g n ^^^ xs h n := by
  induction n with
  | zero => show 0 = 0 ^^^ 0; rw [Nat.xor_self]
  | succ n ih => rw [xs,xs,xs,ih,xor4]
theorem xs_split (g : Nat → Nat) (a b : Nat) : xs g (a + b) = xs g a ^^^ xs (fun k => g (a + k)) b := by
  induction b with
  | zero => rw [Nat.add_zero,xs,Nat.xor_zero]
  | succ b ih => rw [← Nat.add_assoc,xs,xs,ih,Nat.xor_assoc]
theorem xs_front (g : Nat → Nat) (n : Nat) : xs g (n + 1) = g 0 ^^^ xs (fun k => g (k + 1)) n := by
  have h := xs_split g 1 n
  rw [Nat.add_comm 1 n] at h
  rw [h]
  have e : xs g 1 = g 0 := by show 0 ^^^ g 0 = g 0; rw [Nat.zero_xor]
  rw [e]
  congr 1
  exact xs_congr n (fun k _ => by rw [Nat.add_comm 1 k])
def cv (p m : Nat) (c r : List Nat) (j : Nat) : Nat := xs (fun k => mu p m (c.getD k 0) (r.getD (j - k) 0)) (j + 1)
def cvs (p m g : Nat) (c r : List Nat) (j : Nat) : Nat := if g ≤ j then cv p m c r (j - g) else 0
def tv (p m : Nat) (c : List Nat) : List Nat → List Nat
  | [] => []
  | y :: l => mu p m y (hv p m c (pw p (2 ^ m) l.length)) :: tv p m c l
theorem tv_length (p m : Nat) (c l : List Nat) : (tv p m c l).length = l.length := by
  induction l with
  | nil => rfl
  | cons y l ih => rw [tv,List.length_cons,List.length_cons,ih]
theorem tv_getD (p m : Nat) (c l : List Nat) : ∀ i,i < l.length → (tv p m c l).getD i 0 = mu p m (l.getD i 0) (hv p m c (pw p (2 ^ m) (l.length - 1 - i))) := by
  induction l with
  | nil => intro i h; exact absurd h (Nat.not_lt_zero _)
  | cons y l ih =>
    intro i h
    rw [List.length_cons] at h
    cases i with
    | zero => rw [tv,List.length_cons,show l.length + 1 - 1 - 0 = l.length by omega]; rfl
    | succ i =>
      rw [List.length_cons,show l.length + 1 - 1 - (i + 1) = l.length - 1 - i by omega]
      exact ih i (by omega)
section
variable {m p : Nat} (F : Fi m p)
include F
theorem xs_mu (c : Nat) (g : Nat → Nat) (n : Nat) : mu p m c (xs g n) = xs (fun k => mu p m c (g k)) n := by
  induction n with
  | zero => exact F.mu_zero_right c
  | succ n ih => rw [xs,xs,F.mu_add_right,ih]
theorem cv_nil (r : List Nat) (j : Nat) : cv p m [] r j = 0 := xs_nil _ (fun k _ => by
  show mu p m (([] : List Nat).getD k 0) _ = 0
  rw [getD_over [] k (Nat.zero_le _),F.mu_zero_left])
omit F in
theorem cv_cons (c0 : Nat) (cs r : List Nat) (j : Nat) : cv p m (c0 :: cs) r (j + 1) = mu p m c0 (r.getD (j + 1) 0) ^^^ cv p m cs r j := by
  unfold cv
  rw [xs_front]
  congr 1
  exact xs_congr _ (fun k _ => by rw [show j + 1 - (k + 1) = j - k by omega]; rfl)
theorem tv_lt (c : List Nat) (l : List Nat) (hl : ∀ y ∈ l,y < 2 ^ m) : ∀ y ∈ tv p m c l,y < 2 ^ m := by
  induction l with
  | nil => intro y hy; cases hy
  | cons z l ih =>
    intro y hy
    rw [tv] at hy
    rcases List.mem_cons.1 hy with rfl | hy
    · exact F.mu_lt (hl z (List.mem_cons_self ..))
    · exact ih (fun z hz => hl z (List.mem_cons_of_mem _ hz)) y hy
theorem tv_none (l : List Nat) (x : Nat) : hv p m (tv p m [] l) x = 0 := by
  have e : tv p m [] l = List.replicate l.length 0 := by
    refine list_ext_getD (by rw [tv_length,List.length_replicate]) (fun i => ?_)
    rw [getD_rep]
    by_cases c : i < l.length
    · rw [tv_getD _ _ _ _ _ c,show hv p m [] (pw p (2 ^ m) (l.length - 1 - i)) = 0 from rfl,F.mu_zero_right]
    · exact getD_over _ _ (by rw [tv_length]; omega)
  rw [e]
  exact hvf_rep F _ _
theorem hv_tv_cons (s c0 : Nat) {cs : List Nat} (hc0 : c0 < 2 ^ m) (hcs : ∀ y ∈ cs,y < 2 ^ m) (l : List Nat) (hl : ∀ y ∈ l,y < 2 ^ m) :
    hv p m (tv p m (c0 :: cs) l) (pw p (2 ^ m) s) = mu p m c0 (hv p m l (pw p (2 ^ m) (s + cs.length))) ^^^ hv p m (tv p m cs l) (pw p (2 ^ m) s) := by
  induction l with
  | nil =>
    show 0 = mu p m c0 0 ^^^ 0
    rw [F.mu_zero_right,Nat.xor_self]
  | cons y l ih =>
    have hy := hl y (List.mem_cons_self ..)
    have hl' : ∀ y ∈ l,y < 2 ^ m := fun z hz => hl z (List.mem_cons_of_mem _ hz)
    have a1 := F.pw_lt (s * l.length)
    have a2 := F.pw_lt (l.length * cs.length)
    have a3 := F.hv_lt (F.pw_lt l.length) hcs
    have b1 : mu p m c0 (pw p (2 ^ m) (l.length * cs.length)) < 2 ^ m := F.mu_lt hc0
    rw [tv,tv,hv_cons F s _ (F.mu_lt hy) (tv_lt F _ l hl'),hv_cons F s _ (F.mu_lt hy) (tv_lt F _ l hl'),hv_cons F (s + cs.length) y hy hl',tv_length,tv_length,ih hl',hv_cons F l.length c0 hc0 hcs]
    rw [F.mu_add_right (a := c0),F.mu_add_right (a := y),F.mu_add_left (F.mu_lt hy) (F.mu_lt hy)]
    have e : mu p m (mu p m y (mu p m c0 (pw p (2 ^ m) (l.length * cs.length)))) (pw p (2 ^ m) (s * l.length)) = mu p m c0 (mu p m y (pw p (2 ^ m) ((s + cs.length) * l.length))) := by
      rw [F.mu_assoc hy b1 a1,F.mu_assoc hc0 a2 a1,F.mu_pw,← F.mu_assoc hy hc0 (F.pw_lt _),F.mu_comm hy hc0,F.mu_assoc hc0 hy (F.pw_lt _)]
      rw [show l.length * cs.length + s * l.length = (s + cs.length) * l.length by rw [Nat.add_mul,Nat.mul_comm l.length,Nat.add_comm]]
    rw [e,xor4]
theorem cv_tv {row Y : List Nat} {N : Nat} (hY : ∀ y ∈ Y,y < 2 ^ m) (hr : ∀ t,t < N → row.getD t 0 = hv p m Y (pw p (2 ^ m) t)) : ∀ (c : List Nat) (j : Nat),(∀ y ∈ c,y < 2 ^ m) → c.length ≤ j + 1 → j < N → cv p m c row j = hv p m (tv p m c Y) (pw p (2 ^ m) (j + 1 - c.length)) := by
  intro c
  induction c with
  | nil => intro j _ _ _; rw [cv_nil F,tv_none F]
  | cons c0 cs ih =>
    intro j hc hl hj
    have h0 := hc c0 (List.mem_cons_self ..)
    have hcs : ∀ y ∈ cs,y < 2 ^ m := fun z hz => hc z (List.mem_cons_of_mem _ hz)
    rw [List.length_cons] at hl
    rw [hv_tv_cons F _ c0 h0 hcs Y hY,List.length_cons]
    cases j with
    | zero =>
      have : cs = [] := List.length_eq_zero_iff.1 (by omega)
      subst this
      rw [tv_none F,Nat.xor_zero]
      show 0 ^^^ mu p m c0 (row.getD 0 0) = _
      rw [Nat.zero_xor,hr 0 hj]
      rfl
    | succ j =>
      rw [cv_cons,ih j hcs (by omega) (by omega),hr (j + 1) hj]
      rw [show j + 1 + 1 - (cs.length + 1) + cs.length = j + 1 by omega,show j + 1 + 1 - (cs.length + 1) = j + 1 - cs.length by omega]
theorem nz_tv (c l : List Nat) : nz (tv p m c l) ≤ nz l := nz_le _ _ (tv_length ..) (fun i hi => by
  by_cases h : i < l.length
  · rw [tv_getD _ _ _ _ _ h,hi,F.mu_zero_left]
  · exact getD_over _ _ (by rw [tv_length]; omega))
omit F in
theorem dsum_xs (row now : List Nat) (n : Nat) : ∀ c i v,dsum p m row now n c i v = v ^^^ xs (fun k => mu p m (now.getD (i + k) 0) (row.getD (n - (i + k)) 0)) c := by
  intro c
  induction c with
  | zero => intro i v; rw [dsum,xs,Nat.xor_zero]
  | succ c ih =>
    intro i v
    rw [dsum,ih,xs_front,Nat.xor_assoc,Nat.add_zero]
    congr 2
    exact xs_congr c (fun k _ => by rw [show i + 1 + k = i + (k + 1) by omega])
theorem dis_cv {row : List Nat} (hr : ∀ y ∈ row,y < 2 ^ m) {n : Nat} {s : BM} (z1 : s.now.getD 0 0 = 1) (ln : s.now.length ≤ s.L + 1) (hL : s.L ≤ n) (n1 : 1 ≤ s.now.length) : dis p m row n s = cv p m s.now row n := by
  unfold dis cv
  rw [dsum_xs,xs_front,z1,Nat.sub_zero,F.mu_one (getD_lt' F.zero_lt hr n)]
  congr 1
  rw [Nat.min_eq_right (by omega)]
  obtain ⟨q,hq⟩ : ∃ q,n = (s.now.length - 1) + q := ⟨n - (s.now.length - 1),by omega⟩
  have e := xs_split (fun k => mu p m (s.now.getD (k + 1) 0) (row.getD (n - (k + 1)) 0)) (s.now.length - 1) q
  rw [← hq] at e
  rw [e,xs_nil q (fun k _ => by rw [getD_over s.now _ (by omega),F.mu_zero_left]),Nat.xor_zero]
  exact xs_congr _ (fun k _ => by rw [Nat.add_comm 1 k])
omit F in
theorem next_getD (s : BM) (d k : Nat) : (nextN p m s d).getD k 0 = s.now.getD k 0 ^^^ (if s.gap ≤ k then (s.was.map (fun y => mu p m (mu p m d (iv p m s.old)) y)).getD (k - s.gap) 0 else 0) := by
  unfold nextN
  rw [xadd_getD _ _ _ _ (by rw [List.length_map,List.length_append,List.length_replicate]; omega),getD_app,getD_rep]
  congr 1
  split
  · rfl
  · exact (getD_over _ _ (by omega)).symm
theorem map_mu_getD (c : Nat) (l : List Nat) (k : Nat) : (l.map (fun y => mu p m c y)).getD k 0 = mu p m c (l.getD k 0) := by
  simp only [List.getD_eq_getElem?_getD,List.getElem?_map]
  cases l[k]? with
  | none => exact (F.mu_zero_right c).symm
  | some y => rfl
theorem cv_next {row : List Nat} (hr : ∀ y ∈ row,y < 2 ^ m) (s : BM) (hn : ∀ y ∈ s.now,y < 2 ^ m) (hw : ∀ y ∈ s.was,y < 2 ^ m) {d : Nat} (hd : d < 2 ^ m) (j : Nat) :
    cv p m (nextN p m s d) row j = cv p m s.now row j ^^^ mu p m (mu p m d (iv p m s.old)) (cvs p m s.gap s.was row j) := by
  have hk : mu p m d (iv p m s.old) < 2 ^ m := F.mu_lt hd
  generalize hkk : mu p m d (iv p m s.old) = kk at hk
  have e1 : cv p m (nextN p m s d) row j = cv p m s.now row j ^^^ xs (fun k => mu p m (if s.gap ≤ k then mu p m kk (s.was.getD (k - s.gap) 0) else 0) (row.getD (j - k) 0)) (j + 1) := by
    unfold cv
    rw [← xs_xor]
    refine xs_congr _ (fun k _ => ?_)
    show mu p m ((nextN p m s d).getD k 0) _ = _
    rw [next_getD,hkk,map_mu_getD F,F.mu_add_left (getD_lt' F.zero_lt hn k)]
    split
    · exact F.mu_lt hk
    · exact F.zero_lt
  rw [e1]
  congr 1
  unfold cvs
  by_cases c : s.gap ≤ j
  · rw [if_pos c]
    obtain ⟨q,hq⟩ : ∃ q,j + 1 = s.gap + q := ⟨j + 1 - s.gap,by omega⟩
    rw [hq,xs_split,xs_nil s.gap (fun k hk2 => by rw [if_neg (by omega),F.mu_zero_left]),Nat.zero_xor]
    unfold cv
    rw [xs_mu F,show j - s.gap + 1 = q by omega]
    refine xs_congr _ (fun k hk2 => ?_)
    show mu p m (if s.gap ≤ s.gap + k then _ else _) _ = _
    rw [if_pos (by omega),show s.gap + k - s.gap = k by omega,show j - s.gap - k = j - (s.gap + k) by omega]
    exact F.mu_assoc hk (getD_lt' F.zero_lt hw k) (getD_lt' F.zero_lt hr _)
  · rw [if_neg c,F.mu_zero_right]
    exact xs_nil _ (fun k hk2 => by rw [if_neg (by omega),F.mu_zero_left])
end
structure Gen (p m : Nat) (row : List Nat) (e n : Nat) (s : BM) : Prop where
  ok : BMok m n s
  z1 : s.now.getD 0 0 = 1
  ln : s.now.length ≤ s.L + 1
  gen : ∀ j,s.L ≤ j → j < n → cv p m s.now row j = 0
  le : s.L ≤ e
  lw : s.was.length + s.gap + s.L ≤ n + 2
  wz : ∀ j,n + 1 ≤ j + s.L → j < n → cvs p m s.gap s.was row j = 0
  wo : s.L = 0 ∨ cvs p m s.gap s.was row n = s.old
section
variable {m p : Nat} (F : Fi m p) {row Y : List Nat} {N e : Nat} (hY : ∀ y ∈ Y,y < 2 ^ m) (lY : Y.length ≤ 2 ^ m - 1) (hr0 : ∀ y ∈ row,y < 2 ^ m) (hr : ∀ t,t < N → row.getD t 0 = hv p m Y (pw p (2 ^ m) t)) (he : nz Y ≤ e)
include F hY lY hr0 hr he
omit hr0 in
theorem all_zero {c : List Nat} (hc : ∀ y ∈ c,y < 2 ^ m) {L n : Nat} (lc : c.length ≤ L + 1) (hn : n ≤ N) (hen : e + L ≤ n) (g : ∀ j,L ≤ j → j < n → cv p m c row j = 0) : ∀ i,(tv p m c Y).getD i 0 = 0 := by
  refine few_zero F e (L + 1 - c.length) (tv p m c Y) (tv_lt F c Y hY) (by rw [tv_length]; exact lY) (Nat.le_trans (nz_tv F c Y) he) (fun j hj => ?_)
  have h1 := cv_tv F hY hr c (L + j) hc (by omega) (by omega)
  rw [g (L + j) (by omega) (by omega),show L + j + 1 - c.length = L + 1 - c.length + j by omega] at h1
  exact h1.symm
theorem massey {n : Nat} (hn : n < N) {s : BM} (h : Gen p m row e n s) (hd : dis p m row n s ≠ 0) : n + 1 ≤ e + s.L := by
  rcases Nat.lt_or_ge n (e + s.L) with c | c
  · omega
  · exfalso
    apply hd
    rw [dis_cv F hr0 h.z1 h.ln h.ok.L h.ok.n1.1,cv_tv F hY hr s.now n h.ok.h1 (by have := h.ln; have := h.ok.L; omega) hn]
    have hz := all_zero F hY lY hr he h.ok.h1 h.ln (by omega) c h.gen
    have e1 : tv p m s.now Y = List.replicate Y.length 0 := list_ext_getD (by rw [tv_length,List.length_replicate]) (fun i => by rw [hz i,getD_rep])
    rw [e1]
    exact hvf_rep F _ _
theorem gen_next {n : Nat} (hn : n < N) {s : BM} (h : Gen p m row e n s) : Gen p m row e (n + 1) (bmS p m row n s) := by
  have hd := dis_lt F hr0 h.ok
  have ed := dis_cv F hr0 h.z1 h.ln h.ok.L h.ok.n1.1
  have hok := bmS_ok F hr0 h.ok
  have hms := massey F hY lY hr0 hr he hn h
  have hnx := cv_next F hr0 s h.ok.h1 h.ok.h2 hd
  have lx := nextN_length (p := p) (m := m) s (dis p m row n s)
  obtain ⟨ok,z1,ln,gen,le,lw,wz,wo⟩ := h
  have hL := ok.L
  have hg := ok.g1
  have hold := ok.old
  have nx0 : (nextN p m s (dis p m row n s)).getD 0 0 = 1 := by rw [next_getD,if_neg (by omega),Nat.xor_zero,z1]
  have shift : ∀ j,cvs p m (s.gap + 1) s.was row (j + 1) = cvs p m s.gap s.was row j := fun j => by
    unfold cvs
    by_cases c : s.gap ≤ j
    · rw [if_pos c,if_pos (by omega),show j + 1 - (s.gap + 1) = j - s.gap by omega]
    · rw [if_neg c,if_neg (by omega)]
  have wz2 : ∀ j,n + 2 ≤ j + s.L → j < n + 1 → cvs p m (s.gap + 1) s.was row j = 0 := fun j h1 h2 => by
    cases j with
    | zero => unfold cvs; rw [if_neg (by omega)]
    | succ j => rw [shift]; exact wz j (by omega) (by omega)
  have wo2 : s.L = 0 ∨ cvs p m (s.gap + 1) s.was row (n + 1) = s.old := by rw [shift]; exact wo
  -- what the new recurrence leaves
  have gen2 : dis p m row n s ≠ 0 → ∀ j,s.L ≤ j → n + 1 ≤ j + s.L → j < n + 1 → cv p m (nextN p m s (dis p m row n s)) row j = 0 := fun hd0 j h1 h2 h3 => by
    rw [hnx]
    rcases Nat.lt_or_ge j n with c | c
    · rw [gen j h1 c,wz j h2 c,F.mu_zero_right,Nat.xor_self]
    · obtain rfl : j = n := by omega
      have hL0 : s.L ≠ 0 := by omega
      rcases wo with wo | wo
      · exact absurd wo hL0
      · rw [wo,← ed,F.mu_assoc hd (iv_lt F s.old) hold.2,F.mu_comm (iv_lt F s.old) hold.2,mu_iv F hold.1 hold.2,F.mu_one' hd,Nat.xor_self]
  unfold bmS at hok ⊢
  by_cases c : dis p m row n s = 0
  · rw [if_pos c] at hok ⊢
    refine ⟨hok,z1,ln,fun j h1 h2 => ?_,le,by show s.was.length + (s.gap + 1) + s.L ≤ n + 1 + 2; omega,wz2,wo2⟩
    rcases Nat.lt_or_ge j n with c2 | c2
    · exact gen j h1 c2
    · obtain rfl : j = n := by omega
      rw [← ed]; exact c
  · rw [if_neg c] at hok ⊢
    have hm := hms c
    by_cases c2 : 2 * s.L ≤ n
    · rw [if_pos c2] at hok ⊢
      refine ⟨hok,nx0,by show (nextN p m s _).length ≤ n + 1 - s.L + 1; rw [lx]; omega,fun j h1 h2 => ?_,by show n + 1 - s.L ≤ e; omega,by show s.now.length + 1 + (n + 1 - s.L) ≤ n + 1 + 2; omega,fun j h1 h2 => ?_,.inr ?_⟩
      · have h1' : n + 1 - s.L ≤ j := h1
        exact gen2 c j (by omega) (by omega) h2
      · have h1' : n + 1 + 1 ≤ j + (n + 1 - s.L) := h1
        show cvs p m 1 s.now row j = 0
        unfold cvs
        rw [if_pos (by omega)]
        exact gen (j - 1) (by omega) (by omega)
      · show cvs p m 1 s.now row (n + 1) = _
        unfold cvs
        rw [if_pos (by omega),show n + 1 - 1 = n by omega]
        exact ed.symm
    · rw [if_neg c2] at hok ⊢
      refine ⟨hok,nx0,by show (nextN p m s _).length ≤ s.L + 1; rw [lx]; omega,fun j h1 h2 => ?_,le,by show s.was.length + (s.gap + 1) + s.L ≤ n + 1 + 2; omega,wz2,wo2⟩
      have h1' : s.L ≤ j := h1
      exact gen2 c j h1' (by omega) h2
theorem gen_rounds : ∀ c n s,n + c ≤ N → Gen p m row e n s → Gen p m row e (n + c) (bmR p m row c n s) := by
  intro c
  induction c with
  | zero => intro n s _ h; exact h
  | succ c ih =>
    intro n s hn h
    have := ih (n + 1) _ (by omega) (gen_next F hY lY hr0 hr he (by omega) h)
    rw [show n + 1 + c = n + (c + 1) by omega] at this
    exact this
omit hY lY hr0 hr he in
theorem gen_start : Gen p m row e 0 bm0 := ⟨bm0_ok F,rfl,Nat.le_refl _,fun j _ h => absurd h (Nat.not_lt_zero _),Nat.zero_le _,Nat.le_refl _,fun j _ h => absurd h (Nat.not_lt_zero _),.inl rfl⟩
theorem loc_roots (hN : row.length = N) (h2 : 2 * e ≤ N) : (locN p m row).L ≤ e ∧ (locN p m row).now.length ≤ (locN p m row).L + 1 ∧ (locN p m row).now.getD 0 0 = 1 ∧ ∀ i,i < Y.length → Y.getD i 0 ≠ 0 → hv p m (locN p m row).now (pw p (2 ^ m) (Y.length - 1 - i)) = 0 := by
  have g := gen_rounds F hY lY hr0 hr he row.length 0 bm0 (by omega) (gen_start F)
  rw [Nat.zero_add] at g
  refine ⟨g.le,g.ln,g.z1,fun i hi h0 => ?_⟩
  have hle := g.le
  have hz := all_zero F hY lY hr he g.ok.h1 g.ln (by omega) (by omega) g.gen i
  rw [tv_getD _ _ _ _ _ hi] at hz
  have hx := F.hv_lt (F.pw_lt (Y.length - 1 - i)) g.ok.h1
  rcases Nat.eq_zero_or_pos (hv p m (bmR p m row row.length 0 bm0).now (pw p (2 ^ m) (Y.length - 1 - i))) with c | c
  · exact c
  · have := F.mu_pos (Nat.pos_of_ne_zero h0) (getD_lt' F.zero_lt hY i) c hx
    omega
end
end Go.Proofs.Ytpgecdidddoglaa.GalP
