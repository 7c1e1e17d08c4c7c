/- Reedsol: where a code word is near (twice the errors and the erasures no more than the parity), mend answers it. Plain numbers. -/
import Derived.Test.YtpgecdidddoglaaRbQRsN
set_option linter.unusedVariables false
set_option linter.unusedSimpArgs false
namespace Go.Proofs.Ytpgecdidddoglaa.GalP
open Go.RowKit Go.Proofs.Ytpgecdidddoglaa.P Go.Proofs.YtpgecdidddoglaaW.PrintWords Go.Proofs.YtpgecdidddoglaaW.PrintLast Go.Proofs.YtpgecdidddoglaaW.PrintMore Go.Proofs.YtpgecdidddoglaaW.Q
open Go.Proofs.Ytpgecdidddoglaa.Gal
theorem places_nodup (P : Nat → Bool) (L : Nat) : ((List.range' 0 L).filter P).Nodup := List.Pairwise.filter _ List.nodup_range'
theorem places_mem (P : Nat → Bool) (L i : Nat) : i ∈ (List.range' 0 L).filter P ↔ i < L ∧ P i = true := by
  rw [List.mem_filter,List.mem_range'_1]
  constructor
  · rintro ⟨⟨_,h⟩,h2⟩; exact ⟨by omega,h2⟩
  · rintro ⟨h,h2⟩; exact ⟨⟨Nat.zero_le _,by omega⟩,h2⟩
section
variable {m p : Nat} (F : Fi m p)
include F
theorem X_inj {L i j : Nat} (hL : L ≤ 2 ^ m - 1) (hi : i < L) (hj : j < L) (h : pw p (2 ^ m) (L - 1 - i) = pw p (2 ^ m) (L - 1 - j)) : i = j := by
  rcases Nat.lt_trichotomy i j with c | c | c
  · have := pw_unlike F (i := L - 1 - i) (j := L - 1 - j) (by omega) (by omega) (by omega)
    rw [h,Nat.xor_self] at this; omega
  · exact c
  · have := pw_unlike F (i := L - 1 - i) (j := L - 1 - j) (by omega) (by omega) (by omega)
    rw [h,Nat.xor_self] at this; omega
theorem t_inj {L i j : Nat} (hL : L ≤ 2 ^ m - 1) (hi : i < L) (hj : j < L) (h : pw p (2 ^ m) (tk m L i) = pw p (2 ^ m) (tk m L j)) : i = j := by
  have h1 := tk_inv F hi
  rw [← F.mu_pw,h,F.mu_pw] at h1
  exact tk_only F hL hi hj h1
theorem now_roots {Y now : List Nat} (lY : Y.length ≤ 2 ^ m - 1) (hn : ∀ y ∈ now,y < 2 ^ m) (ln : now.length ≤ nz Y + 1) (n0 : now.getD 0 0 = 1) (n1 : 1 ≤ now.length) (r : ∀ i,i < Y.length → Y.getD i 0 ≠ 0 → hv p m now (pw p (2 ^ m) (Y.length - 1 - i)) = 0) (k : Nat) (hk : k < Y.length) :
    hv p m now (pw p (2 ^ m) (Y.length - 1 - k)) = 0 ↔ Y.getD k 0 ≠ 0 := by
  refine ⟨fun h0 hz => ?_,r k hk⟩
  have hP := places_nodup (fun i => decide (Y.getD i 0 ≠ 0)) Y.length
  have hm := places_mem (fun i => decide (Y.getD i 0 ≠ 0)) Y.length
  have hlen : ((List.range' 0 Y.length).filter (fun i => decide (Y.getD i 0 ≠ 0))).length = nz Y := by
    rw [filter_length,cnt_nz (fun i => decide (Y.getD i 0 ≠ 0)) Y (fun i _ => by rw [decide_eq_true_eq]) Y.length 0 (by omega),List.drop_zero]
  generalize (List.range' 0 Y.length).filter (fun i => decide (Y.getD i 0 ≠ 0)) = P at hP hm hlen
  have hm2 : ∀ i,i ∈ P ↔ i < Y.length ∧ Y.getD i 0 ≠ 0 := fun i => by rw [hm,decide_eq_true_eq]
  have nk : k ∉ P := fun h => ((hm2 k).1 h).2 hz
  have all := roots_list F (fun i => pw p (2 ^ m) (Y.length - 1 - i)) (P := k :: P) (List.nodup_cons.2 ⟨nk,hP⟩) (fun i hi j hj e => by
    have a1 : i < Y.length := by
      rcases List.mem_cons.1 hi with rfl | hi
      · exact hk
      · exact ((hm2 i).1 hi).1
    have a2 : j < Y.length := by
      rcases List.mem_cons.1 hj with rfl | hj
      · exact hk
      · exact ((hm2 j).1 hj).1
    exact X_inj F lY a1 a2 e) hn (by rw [List.length_cons,hlen]; exact ln) (fun i hi => by
    refine ⟨F.pw_lt _,?_⟩
    rcases List.mem_cons.1 hi with rfl | hi
    · exact h0
    · exact r i ((hm2 i).1 hi).1 ((hm2 i).1 hi).2)
  have := all (now.getD 0 0) (by
    rw [List.getD_eq_getElem?_getD,List.getElem?_eq_getElem (show 0 < now.length by omega)]
    exact List.getElem_mem _)
  omega
theorem slope_pos {Q : List Nat} {L n : Nat} (hL : L ≤ 2 ^ m - 1) (hQ : ∀ y ∈ Q,y < 2 ^ m) (q0 : Q.getD 0 0 = 1) (lQ : Q.length ≤ n + 1) {P : List Nat} (hP : P.Nodup) (hm : ∀ i ∈ P,i < L ∧ ev p m Q (tk m L i) = 0) (lP : Q.length ≤ P.length + 1) (k : Nat) (hk : k ∈ P) : ev p m (slN Q) (tk m L k) ≠ 0 := by
  intro hz
  obtain ⟨kL,kr⟩ := hm k hk
  have hx : hv p m Q (pw p (2 ^ m) (L - 1 - k)) = 0 := (rev_zero F hQ (by rw [Nat.add_comm]; exact tk_inv F kL)).2 kr
  have hG : ∀ y ∈ (List.range (Q.length - 1)).map (hp p m Q (L - 1 - k)),y < 2 ^ m := fun y hy => by
    obtain ⟨j,_,rfl⟩ := List.mem_map.1 hy
    exact hp_lt F hQ _ j
  have lG : ((List.range (Q.length - 1)).map (hp p m Q (L - 1 - k))).length = Q.length - 1 := by rw [List.length_map,List.length_range]
  have gG : ∀ j,j < Q.length - 1 → ((List.range (Q.length - 1)).map (hp p m Q (L - 1 - k))).getD j 0 = hp p m Q (L - 1 - k) j := fun j hj => by
    rw [List.getD_eq_getElem?_getD,List.getElem?_map,List.getElem?_range hj]
    rfl
  have q1 : 2 ≤ Q.length := by
    rcases Nat.lt_or_ge Q.length 2 with c | c
    · exfalso
      have e0 : ev p m Q (tk m L k) = 1 := by
        rw [ev_more F _ 1 (by omega)]
        show 0 ^^^ mu p m (Q.getD 0 0) (pw p (2 ^ m) (tk m L k * 0)) = 1
        rw [q0,Nat.zero_xor,Nat.mul_zero]
        exact F.mu_one F.one_lt
      omega
    · exact c
  have evG : ∀ t,ev p m ((List.range (Q.length - 1)).map (hp p m Q (L - 1 - k))) t = gv p m Q (L - 1 - k) t n := fun t => by
    rw [ev_more F t n (by omega)]
    unfold gv
    refine xs_congr _ (fun j _ => ?_)
    by_cases c : j < Q.length - 1
    · rw [gG j c,F.mu_comm (hp_lt F hQ _ j) (F.pw_lt _)]
    · rw [getD_over _ _ (by omega),F.mu_zero_left,hp_end F _ Q j hQ (by omega),hx,F.mu_zero_left,F.mu_zero_right]
  have all := roots_list F (fun i => pw p (2 ^ m) (tk m L i)) hP (fun i hi j hj e => t_inj F hL (hm i hi).1 (hm j hj).1 e) (reverse_lt hG) (by rw [List.length_reverse,lG]; omega) (fun i hi => by
    refine ⟨F.pw_lt _,?_⟩
    show hv p m _ (pw p (2 ^ m) (tk m L i)) = 0
    rw [ev_hv F hG,evG]
    by_cases c : i = k
    · subst c
      rw [gv_same F hQ lQ kr (by rw [Nat.add_comm]; exact tk_inv F kL),hz,F.mu_zero_right]
    · exact gv_other F hQ lQ hx (hm i hi).2 (fun e => c (tk_only F hL kL (hm i hi).1 (by rw [Nat.add_comm]; exact e)).symm))
  have h0 := all (hp p m Q (L - 1 - k) 0) (by
    rw [List.mem_reverse]
    exact List.mem_map.2 ⟨0,List.mem_range.2 (by omega),rfl⟩)
  have e1 : hp p m Q (L - 1 - k) 0 = 1 := by
    show 0 ^^^ mu p m (Q.getD 0 0) (pw p (2 ^ m) ((0 - 0) * (L - 1 - k))) = 1
    rw [q0,Nat.zero_xor,Nat.zero_sub,Nat.zero_mul]
    exact F.mu_one F.one_lt
  omega
end
theorem fix_all (p m f L : Nat) (both worth slope W Z : List Nat) (lW : W.length = L) (lZ : Z.length = L) (h : ∀ k,k < L → (hv p m both.reverse (bkN p m L k) = 0 → hv p m slope.reverse (bkN p m L k) ≠ 0 ∧ W.getD k 0 ^^^ magN p m f L worth slope k = Z.getD k 0) ∧ (hv p m both.reverse (bkN p m L k) ≠ 0 → W.getD k 0 = Z.getD k 0)) :
    ∀ c i out,i + c = L → out.length = L → (∀ j,j < i → out.getD j 0 = Z.getD j 0) → (∀ j,i ≤ j → out.getD j 0 = W.getD j 0) → fixN p m f L both worth slope c i out = some Z := by
  intro c
  induction c with
  | zero =>
    intro i out hi lo h1 h2
    rw [fixN]
    refine congrArg some (list_ext_getD (by omega) (fun j => ?_))
    by_cases c : j < i
    · exact h1 j c
    · rw [getD_over out j (by omega),getD_over Z j (by omega)]
  | succ c ih =>
    intro i out hi lo h1 h2
    obtain ⟨a1,a2⟩ := h i (by omega)
    rw [fixN]
    by_cases r : hv p m both.reverse (bkN p m L i) = 0
    · obtain ⟨b1,b2⟩ := a1 r
      rw [if_pos r,if_neg b1]
      refine ih (i + 1) _ (by omega) (by rw [List.length_set]; exact lo) (fun j hj => ?_) (fun j hj => ?_)
      · rw [getD_set]
        by_cases c2 : j = i
        · rw [if_pos ⟨c2,by omega⟩,h2 i (Nat.le_refl _),b2,c2]
        · rw [if_neg (fun e => c2 e.1)]; exact h1 j (by omega)
      · rw [getD_set,if_neg (by omega)]; exact h2 j (by omega)
    · rw [if_neg r]
      refine ih (i + 1) out (by omega) lo (fun j hj => ?_) (fun j hj => h2 j (by omega))
      by_cases c2 : j = i
      · rw [c2,h2 i (Nat.le_refl _)]; exact a2 r
      · exact h1 j (by omega)
theorem sc_inv {m p : Nat} (F : Fi m p) (f L k : Nat) (hk : k < L) : mu p m (scN p m f L k) (pw p (2 ^ m) (f * (L - 1 - k) + tk m L k)) = 1 := by
  unfold scN
  rw [F.mu_pw,pw_one_iff F]
  have ho := F.ord_pos
  unfold tk ex_of
  generalize L - 1 - k = h
  have h1 := Int.emod_nonneg ((h : Int) * Int.tmod (1 - (f : Int)) ((2 ^ m - 1 : Nat) : Int)) (b := ((2 ^ m - 1 : Nat) : Int)) (by omega)
  have h2 := Int.emod_nonneg (-(h : Int)) (b := ((2 ^ m - 1 : Nat) : Int)) (by omega)
  have hT : (Int.tmod (1 - (f : Int)) ((2 ^ m - 1 : Nat) : Int)) % ((2 ^ m - 1 : Nat) : Int) = (1 - (f : Int)) % ((2 ^ m - 1 : Nat) : Int) := by
    have e := Int.tmod_add_mul_tdiv (1 - (f : Int)) ((2 ^ m - 1 : Nat) : Int)
    conv => rhs; rw [← e]
    rw [Int.add_mul_emod_self_left]
  have h3 : (((h : Int) * Int.tmod (1 - (f : Int)) ((2 ^ m - 1 : Nat) : Int)) % ((2 ^ m - 1 : Nat) : Int) + ((f : Int) * (h : Int) + (-(h : Int)) % ((2 ^ m - 1 : Nat) : Int))) % ((2 ^ m - 1 : Nat) : Int) = 0 := by
    rw [Int.mul_emod,hT,← Int.mul_emod,Int.emod_add_emod,← Int.add_assoc,Int.add_emod_emod]
    rw [show (h : Int) * (1 - (f : Int)) + (f : Int) * (h : Int) + -(h : Int) = 0 by rw [Int.mul_sub,Int.mul_one,Int.mul_comm (h : Int) (f : Int)]; omega]
    exact Int.zero_emod _
  generalize ((h : Int) * Int.tmod (1 - (f : Int)) ((2 ^ m - 1 : Nat) : Int)) % ((2 ^ m - 1 : Nat) : Int) = a at h1 h3 ⊢
  generalize (-(h : Int)) % ((2 ^ m - 1 : Nat) : Int) = b at h2 h3 ⊢
  obtain ⟨a',rfl⟩ := Int.eq_ofNat_of_zero_le h1
  obtain ⟨b',rfl⟩ := Int.eq_ofNat_of_zero_le h2
  rw [Int.toNat_natCast,Int.toNat_natCast]
  have h4 : (((a' + (f * h + b')) % (2 ^ m - 1) : Nat) : Int) = 0 := by rw [Int.natCast_emod,Int.natCast_add,Int.natCast_add,Int.natCast_mul]; exact h3
  exact Int.ofNat_eq_zero.1 h4
theorem mend_near {m p f n : Nat} (C : Cd m p f n) {W Z : List Nat} (hW : ∀ y ∈ W,y < 2 ^ m) (hZ : ∀ y ∈ Z,y < 2 ^ m) (lZ : Z.length = W.length) (lW : W.length ≤ 2 ^ m - 1) (sZ : syn p m f n Z = List.replicate n 0)
    {gone : List Bool} (lg : gone.length = W.length) {fc : Nat} (hc : cntT gone W.length 0 = fc) (near : 2 * wrN W Z gone W.length 0 0 + fc ≤ n) : mendN p m f n W gone fc = (Z,true) := by
  have F := C.F
  have n1 := C.n1
  -- the errors
  have lE : (zx W Z).length = W.length := zx_length lZ.symm
  have hE := zx_lt hW hZ
  have eE : ∀ i,(zx W Z).getD i 0 = 0 ↔ W.getD i 0 = Z.getD i 0 := fun i => by
    rw [zx_getD lZ.symm]
    exact ⟨xor_eq_zero,fun h => by rw [h,Nat.xor_self]⟩
  have eS : syn p m f n W = syn p m f n (zx W Z) := by
    have z := zx_zeros (syn p m f n W)
    rw [syn_length] at z
    rw [syn_zx F f n lZ.symm hW hZ,sZ,z]
  have hS := syn_lt (f := f) (n := n) F hW
  have lS := syn_length p m f n W
  -- the errors, each with its locator's power
  have lE' := tq_length p m f (zx W Z)
  have hE' := tq_lt F f hE
  have gE' := tq_getD p m f (zx W Z)
  have S_t : ∀ t,t < n → (syn p m f n W).getD t 0 = hv p m (tq p m f (zx W Z)) (pw p (2 ^ m) t) := fun t ht => by
    rw [eS,syn_getD p m f n _ ht,hv_tq F f t hE]
  -- the erased places
  have h1 : ∀ y ∈ [1],y < 2 ^ m := fun y hy => by rw [List.mem_singleton.1 hy]; exact F.one_lt
  obtain ⟨lA,A0,Ar⟩ := eraN_full F gone W.length fc W.length 0 [1] h1 (Nat.le_refl _) (by show 1 + cntT gone W.length 0 ≤ fc + 1; omega)
  have hA := (eraN_ok F gone W.length fc W.length 0 [1] h1 (Nat.le_refl _) (by show 1 ≤ fc + 1; omega)).1
  rw [hc,show [1].length = 1 from rfl] at lA
  have A0' : (eraN p m gone W.length fc W.length 0 [1]).getD 0 0 = 1 := A0
  have Ag : ∀ k,k < W.length → (ev p m (eraN p m gone W.length fc W.length 0 [1]) (tk m W.length k) = 0 ↔ gone.getD k false = true) := fun k hk => by
    rw [Ar]
    have e1 : ev p m [1] (tk m W.length k) = 1 := by
      show 0 ^^^ mu p m 1 (pw p (2 ^ m) (tk m W.length k * 0)) = 1
      rw [Nat.zero_xor,Nat.mul_zero]
      exact F.mu_one F.one_lt
    constructor
    · rintro (h | ⟨i,_,i2,i3,i4⟩)
      · omega
      · rw [← tk_only F lW (by omega) hk i4]; exact i3
    · intro h
      exact .inr ⟨k,Nat.zero_le _,by omega,h,tk_inv F hk⟩
  generalize hall : eraN p m gone W.length fc W.length 0 [1] = A at lA A0' Ag hA
  generalize hE1 : tq p m f (zx W Z) = E' at lE' hE' gE' S_t
  -- what the recurrence sees
  have lY : (tv p m A E').length = W.length := by rw [tv_length]; omega
  have hY := tv_lt F A E' hE'
  have inv2 : ∀ k,k < W.length → pw p (2 ^ m) (W.length - 1 - k + tk m W.length k) = 1 := fun k hk => by rw [Nat.add_comm]; exact tk_inv F hk
  have Yz : ∀ i,i < W.length → ((tv p m A E').getD i 0 = 0 ↔ Z.getD i 0 = W.getD i 0 ∨ gone.getD i false = true) := fun i hi => by
    rw [tv_getD _ _ _ _ i (by omega),mu_eq0 F (getD_lt' F.zero_lt hE' i) (F.hv_lt (F.pw_lt _) hA),gE' i (by omega),mu_eq0 F (getD_lt' F.zero_lt hE i) (F.pw_lt _),eE,lE',lE,rev_zero F hA (inv2 i hi),Ag i hi]
    have := F.pw_pos (f * (W.length - 1 - i))
    constructor
    · rintro ((h | h) | h)
      · exact .inl h.symm
      · omega
      · exact .inr h
    · rintro (h | h)
      · exact .inl (.inl h.symm)
      · exact .inr h
  have nzY : wrN W Z gone W.length 0 0 = nz (tv p m A E') := by
    rw [wr_nz W Z gone (tv p m A E') (fun i hi => Yz i (by omega)) W.length 0 0 (by omega),List.drop_zero,Nat.zero_add]
  rw [nzY] at near
  have lT : (plow p m (syn p m f n W) A n).length = n := by rw [plow_length]; omega
  have hT := plow_lt F hS A n
  have eT : fillN n (plow p m (syn p m f n W) A n) = plow p m (syn p m f n W) A n := by
    unfold fillN
    rw [lT,Nat.sub_self,List.replicate_zero,List.append_nil]
  have lrow : ((plow p m (syn p m f n W) A n).drop fc).length = n - fc := by rw [List.length_drop,lT]
  have hrow : ∀ y ∈ (plow p m (syn p m f n W) A n).drop fc,y < 2 ^ m := fun y hy => hT y (List.mem_of_mem_drop hy)
  have row_t : ∀ t,t < n - fc → ((plow p m (syn p m f n W) A n).drop fc).getD t 0 = hv p m (tv p m A E') (pw p (2 ^ m) t) := fun t ht => by
    have e1 : ((plow p m (syn p m f n W) A n).drop fc).getD t 0 = (plow p m (syn p m f n W) A n).getD (fc + t) 0 := by simp only [List.getD_eq_getElem?_getD,List.getElem?_drop]
    rw [e1,plow_cv F _ _ _ _ (by omega),cv_comm F hS hA,cv_tv F hE' S_t A (fc + t) hA (by omega) (by omega),show fc + t + 1 - A.length = t by omega]
  obtain ⟨b1,b2,b3,b4⟩ := loc_roots F hY (by omega) hrow row_t (Nat.le_refl _) lrow (by omega)
  have bok := locN_ok F hrow
  generalize hloc : locN p m ((plow p m (syn p m f n W) A n).drop fc) = s at b1 b2 b3 b4 bok
  have bn := bok.n1.1
  have bh := bok.h1
  have nowr := fun k hk => now_roots F (by omega) bh (by omega) b3 bn b4 k hk
  rw [lY] at nowr
  -- all roots
  have lQ : (plow p m A s.now (A.length + s.now.length)).length = A.length + s.now.length - 1 := by rw [plow_length]; omega
  have hQ := plow_lt F hA s.now (A.length + s.now.length)
  have q0 : (plow p m A s.now (A.length + s.now.length)).getD 0 0 = 1 := by
    rw [plow_cv F _ _ _ _ (by omega)]
    show 0 ^^^ mu p m (A.getD 0 0) (s.now.getD 0 0) = 1
    rw [Nat.zero_xor,A0',b3]
    exact F.mu_one F.one_lt
  have Qr : ∀ k,k < W.length → (ev p m (plow p m A s.now (A.length + s.now.length)) (tk m W.length k) = 0 ↔ gone.getD k false = true ∨ W.getD k 0 ≠ Z.getD k 0) := fun k hk => by
    rw [ev_plow F hA bh (by omega) bn _ _ (by omega),mu_eq0 F (ev_lt F hA _) (ev_lt F bh _),Ag k hk,← rev_zero F bh (inv2 k hk),nowr k hk]
    have := Yz k hk
    constructor
    · rintro (h | h)
      · exact .inl h
      · exact .inr (fun e => h (this.2 (.inl e.symm)))
    · rintro (h | h)
      · exact .inl h
      · by_cases g : gone.getD k false = true
        · exact .inl g
        · exact .inr (fun e => (this.1 e).elim (fun e => h e.symm) g)
  generalize hboth : plow p m A s.now (A.length + s.now.length) = Q at lQ hQ q0 Qr
  have lQn : Q.length ≤ n + 1 := by omega
  -- the places
  have hP := places_nodup (fun i => gone.getD i false || decide (W.getD i 0 ≠ Z.getD i 0)) W.length
  have hPm : ∀ i,i ∈ (List.range' 0 W.length).filter (fun i => gone.getD i false || decide (W.getD i 0 ≠ Z.getD i 0)) ↔ i < W.length ∧ (gone.getD i false = true ∨ W.getD i 0 ≠ Z.getD i 0) := fun i => by
    rw [places_mem,Bool.or_eq_true,decide_eq_true_eq]
  have hPl : ((List.range' 0 W.length).filter (fun i => gone.getD i false || decide (W.getD i 0 ≠ Z.getD i 0))).length = fc + nz (tv p m A E') := by
    rw [filter_length,cnt_both (fun i => gone.getD i false || decide (W.getD i 0 ≠ Z.getD i 0)) gone (tv p m A E') (fun i hi => ?_) W.length 0 (by omega),hc,List.drop_zero]
    have := Yz i (by omega)
    rw [Bool.or_eq_true,decide_eq_true_eq]
    refine ⟨⟨fun h => ?_,fun h => ?_⟩,fun h => this.2 (.inr h)⟩
    · rcases h with h | h
      · exact .inl h
      · by_cases g : gone.getD i false = true
        · exact .inl g
        · exact .inr (fun e => (this.1 e).elim (fun e => h e.symm) g)
    · rcases h with h | h
      · exact .inl h
      · exact .inr (fun e => h (this.2 (.inl e.symm)))
  generalize (List.range' 0 W.length).filter (fun i => gone.getD i false || decide (W.getD i 0 ≠ Z.getD i 0)) = P at hP hPm hPl
  have slope := fun k (hk : k ∈ P) => slope_pos F lW hQ q0 lQn hP (fun i hi => ⟨((hPm i).1 hi).1,(Qr i ((hPm i).1 hi).1).2 ((hPm i).1 hi).2⟩) (by omega) k hk
  -- what the places are worth
  have hw := plow_lt F hS Q n
  have lw : (plow p m (syn p m f n W) Q n).length = n := by rw [plow_length]; omega
  have worth : ∀ k,k ∈ P → ev p m (plow p m (syn p m f n W) Q n) (tk m W.length k) = mu p m (E'.getD k 0) (mu p m (pw p (2 ^ m) (tk m W.length k)) (ev p m (slN Q) (tk m W.length k))) := fun k hk => by
    obtain ⟨kL,kr⟩ := (hPm k).1 hk
    have e1 : ev p m (plow p m (syn p m f n W) Q n) (tk m W.length k) = pf p m (fun h => gv p m Q h (tk m W.length k) n) E' := by
      have e2 : ∀ j,j < n → (plow p m (syn p m f n W) Q n).getD j 0 = pf p m (fun h => hp p m Q h j) E' := fun j hj => by
        rw [plow_cv F _ _ _ _ (by omega),cv_comm F hS hQ]
        unfold cv
        rw [xs_congr (h := fun l => mu p m (Q.getD l 0) (pf p m (fun h => pw p (2 ^ m) ((j - l) * h)) E')) _ (fun l hl => by rw [S_t (j - l) (by omega),hv_pf F _ hE'])]
        exact pf_xs F (fun l => getD_lt' F.zero_lt hQ l) (fun l h => F.pw_lt _) hE' (j + 1)
      unfold ev
      rw [lw,xs_congr (h := fun j => mu p m (pw p (2 ^ m) (tk m W.length k * j)) (pf p m (fun h => hp p m Q h j) E')) _ (fun j hj => by rw [e2 j hj,F.mu_comm (by rw [← e2 j hj]; exact getD_lt' F.zero_lt hw j) (F.pw_lt _)])]
      exact pf_xs F (fun j => F.pw_lt _) (fun j h => hp_lt F hQ h j) hE' n
    rw [e1,pf_one F E' k (by omega) (fun i hi hne => ?_)]
    · rw [lE',lE]
      show mu p m (E'.getD k 0) (gv p m Q (W.length - 1 - k) (tk m W.length k) n) = _
      rw [gv_same F hQ lQn ((Qr k kL).2 kr) (inv2 k kL)]
    · rw [lE',lE]
      have iL : i < W.length := by omega
      by_cases z : W.getD i 0 = Z.getD i 0
      · left
        rw [gE' i (by omega),(eE i).2 z,F.mu_zero_left]
      · right
        exact gv_other F hQ lQn ((rev_zero F hQ (inv2 i iL)).2 ((Qr i iL).2 (.inr z))) ((Qr k kL).2 kr) (fun e => hne (tk_only F lW iL kL (by rw [Nat.add_comm]; exact e)))
  have fin := fix_all p m f W.length Q (plow p m (syn p m f n W) Q n) (slN Q) W Z rfl lZ (fun k hk => ?_) W.length 0 W (by omega) rfl (fun j hj => absurd hj (Nat.not_lt_zero _)) (fun j _ => rfl)
  · unfold mendN
    rw [if_neg (by omega),lg,hall,eT,hloc,if_neg (by omega),hboth,fin]
    show (Z,allz (syn p m f n Z) && decide (2 * wrN W Z gone W.length 0 0 ≤ n - fc)) = (Z,true)
    have az : allz (syn p m f n Z) = true := by
      rw [sZ]
      unfold allz
      exact List.all_eq_true.2 (fun y hy => decide_eq_true (List.eq_of_mem_replicate hy))
    rw [az,nzY,decide_eq_true (by omega)]
    rfl
  · have hsl := slN_lt F.zero_lt hQ
    show (hv p m Q.reverse (pw p (2 ^ m) (tk m W.length k)) = 0 → hv p m (slN Q).reverse (pw p (2 ^ m) (tk m W.length k)) ≠ 0 ∧ _) ∧ (hv p m Q.reverse (pw p (2 ^ m) (tk m W.length k)) ≠ 0 → _)
    rw [ev_hv F hQ,ev_hv F hsl]
    refine ⟨fun h0 => ?_,fun h0 => ?_⟩
    · have hk2 : k ∈ P := (hPm k).2 ⟨hk,(Qr k hk).1 h0⟩
      have hs0 := slope k hk2
      refine ⟨hs0,?_⟩
      have hs1 := ev_lt F hsl (tk m W.length k)
      have hEk := getD_lt' F.zero_lt hE k
      have hE'k := getD_lt' F.zero_lt hE' k
      have em : magN p m f W.length (plow p m (syn p m f n W) Q n) (slN Q) k = (zx W Z).getD k 0 := by
        unfold magN
        show mu p m (scN p m f W.length k) (mu p m (hv p m (plow p m (syn p m f n W) Q n).reverse (pw p (2 ^ m) (tk m W.length k))) (iv p m (hv p m (slN Q).reverse (pw p (2 ^ m) (tk m W.length k))))) = _
        rw [ev_hv F hw,ev_hv F hsl,worth k hk2]
        generalize ev p m (slN Q) (tk m W.length k) = sl at hs0 hs1
        have hsc : scN p m f W.length k < 2 ^ m := F.pw_lt _
        have ht := F.pw_lt (tk m W.length k)
        rw [← F.mu_assoc hE'k ht hs1,F.mu_assoc (F.mu_lt hE'k) hs1 (iv_lt F sl),mu_iv F (Nat.pos_of_ne_zero hs0) hs1,F.mu_one' (F.mu_lt hE'k)]
        rw [gE' k (by omega),lE,F.mu_assoc hEk (F.pw_lt _) ht,F.mu_pw,← F.mu_assoc hsc hEk (F.pw_lt _),F.mu_comm hsc hEk,F.mu_assoc hEk hsc (F.pw_lt _),sc_inv F f W.length k hk,F.mu_one' hEk]
      rw [em,zx_getD lZ.symm,← Nat.xor_assoc,Nat.xor_self,Nat.zero_xor]
    · by_cases z : W.getD k 0 = Z.getD k 0
      · exact z
      · exact absurd ((Qr k hk).2 (.inr z)) h0
end Go.Proofs.Ytpgecdidddoglaa.GalP
