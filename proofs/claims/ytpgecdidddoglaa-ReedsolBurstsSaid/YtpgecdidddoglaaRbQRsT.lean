/- Reedsol: the plain theory of code words: values of sums, the generator's roots, code words have no syndromes, words with few places unlike nothing. -/
import Derived.Test.YtpgecdidddoglaaRbQRsG
set_option linter.unusedVariables false
set_option linter.unusedSimpArgs false
namespace Go.Proofs.Ytpgecdidddoglaa.GalP
open Go.RowKit Go.Proofs.Ytpgecdidddoglaa.P Go.Proofs.YtpgecdidddoglaaW.PrintWords Go.Proofs.YtpgecdidddoglaaW.PrintLast Go.Proofs.YtpgecdidddoglaaW.PrintMore Go.Proofs.YtpgecdidddoglaaW.Q
open Go.Proofs.Ytpgecdidddoglaa.Gal
def zx (a b : List Nat) : List Nat := List.zipWith (· ^^^ ·) a b
theorem zx_length {a b : List Nat} (h : a.length = b.length) : (zx a b).length = a.length := by unfold zx; rw [List.length_zipWith]; omega
theorem zx_getD {a b : List Nat} (h : a.length = b.length) (i : Nat) : (zx a b).getD i 0 = a.getD i 0 ^^^ b.getD i 0 := by
  unfold zx
  by_cases c : i < a.length
  · simp only [List.getD_eq_getElem?_getD,List.getElem?_zipWith]
    rw [List.getElem?_eq_getElem c,List.getElem?_eq_getElem (by omega)]
    rfl
  · rw [getD_over _ i (by rw [List.length_zipWith]; omega),getD_over a i (by omega),getD_over b i (by omega)]
    rfl
theorem getD_app (a b : List Nat) (i : Nat) : (a ++ b).getD i 0 = if i < a.length then a.getD i 0 else b.getD (i - a.length) 0 := by
  simp only [List.getD_eq_getElem?_getD]
  split
  · rw [List.getElem?_append_left (by assumption)]
  · rw [List.getElem?_append_right (by omega)]
theorem getD_rep (n i : Nat) : (List.replicate n 0).getD i 0 = 0 := by
  by_cases c : i < n
  · simp only [List.getD_eq_getElem?_getD,List.getElem?_replicate,if_pos c]; rfl
  · exact getD_over _ _ (by rw [List.length_replicate]; omega)
theorem xadd_zx (l out : List Nat) (off e : Nat) (h : out.length = off + l.length + e) : xadd out off l = zx out (List.replicate off 0 ++ (l ++ List.replicate e 0)) := by
  have hl : out.length = (List.replicate off 0 ++ (l ++ List.replicate e 0)).length := by simp only [List.length_append,List.length_replicate]; omega
  refine list_ext_getD (by rw [xadd_length,zx_length hl]) (fun i => ?_)
  rw [xadd_getD _ _ _ _ (by omega),zx_getD hl,getD_app,List.length_replicate,getD_rep]
  congr 1
  by_cases c : off ≤ i
  · rw [if_pos c,if_neg (by omega),getD_app,getD_rep]
    split
    · rfl
    · exact getD_over _ _ (by omega)
  · rw [if_neg c,if_pos (by omega)]
theorem mem_zeros {m n : Nat} (h0 : 0 < 2 ^ m) : ∀ y ∈ List.replicate n 0,y < 2 ^ m := fun y hy => by rw [List.eq_of_mem_replicate hy]; exact h0
theorem mem_app_lt {m : Nat} {a b : List Nat} (ha : ∀ y ∈ a,y < 2 ^ m) (hb : ∀ y ∈ b,y < 2 ^ m) : ∀ y ∈ a ++ b,y < 2 ^ m := fun y hy => (List.mem_append.1 hy).elim (ha y) (hb y)
section
variable {m p : Nat} (F : Fi m p)
include F
theorem hvf_rep (x n : Nat) : hvf p m x 0 (List.replicate n 0) = 0 := by
  induction n with
  | zero => rfl
  | succ n ih => rw [List.replicate_succ,hvf,F.mu_zero_left,Nat.xor_self]; exact ih
theorem hvf_pre (x n : Nat) (l : List Nat) : hvf p m x 0 (List.replicate n 0 ++ l) = hvf p m x 0 l := by
  rw [hvf_append,hvf_rep F]
theorem hv_pre (x n : Nat) (l : List Nat) : hv p m (List.replicate n 0 ++ l) x = hv p m l x := hvf_pre F x n l
theorem hv_post {x : Nat} {l : List Nat} (h : hv p m l x = 0) (n : Nat) : hv p m (l ++ List.replicate n 0) x = 0 := by
  unfold hv at *
  rw [hvf_append,h,hvf_rep F]
omit F in
theorem hv_snoc0 (x : Nat) (l : List Nat) : hv p m (l ++ [0]) x = mu p m (hv p m l x) x := by
  unfold hv
  rw [hvf_append]
  simp only [hvf]
  rw [Nat.xor_zero]
theorem hv_zx {x : Nat} (hx : x < 2 ^ m) {a b : List Nat} (h : a.length = b.length) (ha : ∀ y ∈ a,y < 2 ^ m) (hb : ∀ y ∈ b,y < 2 ^ m) : hv p m (zx a b) x = hv p m a x ^^^ hv p m b x := by
  have := F.hvf_xor hx a b 0 0 h F.zero_lt F.zero_lt ha hb
  rw [Nat.xor_self] at this
  exact this
omit F in
theorem zx_lt {a b : List Nat} (ha : ∀ y ∈ a,y < 2 ^ m) (hb : ∀ y ∈ b,y < 2 ^ m) : ∀ y ∈ zx a b,y < 2 ^ m := Fi.zip_lt a b ha hb
theorem hv_xadd {x : Nat} (hx : x < 2 ^ m) {l out : List Nat} {off : Nat} (e : Nat) (h : out.length = off + l.length + e) (ho : ∀ y ∈ out,y < 2 ^ m) (hl : ∀ y ∈ l,y < 2 ^ m) :
    hv p m (xadd out off l) x = hv p m out x ^^^ hv p m (l ++ List.replicate e 0) x := by
  rw [xadd_zx l out off e h,hv_zx F hx (by simp only [List.length_append,List.length_replicate]; omega) ho (mem_app_lt (mem_zeros F.zero_lt) (mem_app_lt hl (mem_zeros F.zero_lt))),hv_pre F]
theorem hvf_sc {c x : Nat} (hc : c < 2 ^ m) (hx : x < 2 ^ m) (l : List Nat) : ∀ v,v < 2 ^ m → (∀ y ∈ l,y < 2 ^ m) → hvf p m x (mu p m c v) (l.map (fun y => mu p m c y)) = mu p m c (hvf p m x v l) := by
  induction l with
  | nil => intro v _ _; rfl
  | cons y l ih =>
    intro v hv hl
    have hy := hl y (List.mem_cons_self ..)
    rw [List.map_cons,hvf,hvf,F.mu_assoc hc hv hx,← F.mu_add_right]
    exact ih _ (Nat.xor_lt_two_pow (F.mu_lt hv) hy) (fun z hz => hl z (List.mem_cons_of_mem _ hz))
theorem hv_sc {c x : Nat} (hc : c < 2 ^ m) (hx : x < 2 ^ m) {l : List Nat} (hl : ∀ y ∈ l,y < 2 ^ m) : hv p m (l.map (fun y => mu p m c y)) x = mu p m c (hv p m l x) := by
  have := hvf_sc F hc hx l 0 F.zero_lt hl
  rw [F.mu_zero_right] at this
  exact this
theorem hv_sc' {c x : Nat} (hc : c < 2 ^ m) (hx : x < 2 ^ m) {l : List Nat} (hl : ∀ y ∈ l,y < 2 ^ m) : hv p m (l.map (fun y => mu p m y c)) x = mu p m (hv p m l x) c := by
  rw [show l.map (fun y => mu p m y c) = l.map (fun y => mu p m c y) from List.map_congr_left (fun y hy => F.mu_comm (hl y hy) hc),hv_sc F hc hx hl,F.mu_comm hc (F.hv_lt hx hl)]
theorem gen_step {x : Nat} (hx : x < 2 ^ m) (f j : Nat) : hv p m (genN p m f (j + 1)) x = mu p m (hv p m (genN p m f j) x) (x ^^^ pw p (2 ^ m) (f + j)) := by
  have hg := genN_lt F f j
  have hm : ∀ y ∈ (genN p m f j).map (fun x => mu p m x (pw p (2 ^ m) (f + j))),y < 2 ^ m := fun y hy => by
    obtain ⟨z,hz,rfl⟩ := List.mem_map.1 hy
    exact F.mu_lt (hg z hz)
  rw [genN,hv_xadd F hx 0 (by rw [List.length_append,List.length_map,List.length_singleton]; omega) (mem_app_lt hg (fun y hy => by rw [List.mem_singleton.1 hy]; exact F.zero_lt)) hm]
  rw [List.replicate_zero,List.append_nil,hv_snoc0,hv_sc' F (F.pw_lt _) hx hg,← F.mu_add_right]
theorem gen_root (f i : Nat) : ∀ j,i < j → hv p m (genN p m f j) (pw p (2 ^ m) (f + i)) = 0 := by
  intro j
  induction j with
  | zero => intro h; omega
  | succ j ih =>
    intro h
    rw [gen_step F (F.pw_lt _)]
    by_cases c : i = j
    · rw [c,Nat.xor_self,F.mu_zero_right]
    · rw [ih (by omega),F.mu_zero_left]
omit F in
theorem gen_head (f : Nat) : ∀ j,(genN p m f j).getD 0 0 = 1 := by
  intro j
  induction j with
  | zero => rfl
  | succ j ih =>
    rw [genN,xadd_getD _ _ _ _ (by rw [List.length_append,List.length_map,List.length_singleton]; omega),if_neg (by omega),Nat.xor_zero,getD_app,if_pos (by rw [genN_length]; omega),ih]
theorem encW_hv {x : Nat} (hx : x < 2 ^ m) {g : List Nat} (hg : ∀ y ∈ g,y < 2 ^ m) (g0 : g ≠ []) (h0 : hv p m g x = 0) : ∀ d i W,(∀ y ∈ W,y < 2 ^ m) → i + d + g.length ≤ W.length + 1 → hv p m (encW p m g d i W) x = hv p m W x := by
  intro d
  induction d with
  | zero => intro i W _ _; rfl
  | succ d ih =>
    intro i W hW hl
    have gl : 0 < g.length := List.length_pos_iff.2 g0
    have hc : W.getD i 0 < 2 ^ m := getD_lt' F.zero_lt hW i
    have hm : ∀ y ∈ g.map (fun x => mu p m (W.getD i 0) x),y < 2 ^ m := fun y hy => by
      obtain ⟨z,hz,rfl⟩ := List.mem_map.1 hy
      exact F.mu_lt hc
    rw [encW,ih _ _ (encW_step_lt F hW i) (by rw [xadd_length]; omega),hv_xadd F hx (W.length - i - g.length) (by rw [List.length_map]; omega) hW hm]
    rw [hv_post F (by rw [hv_sc F hc hx hg,h0,F.mu_zero_right]),Nat.xor_zero]
theorem encW_zero {g : List Nat} (g1 : g.getD 0 0 = 1) (g0 : g ≠ []) : ∀ d i W,(∀ y ∈ W,y < 2 ^ m) → i + d + g.length ≤ W.length + 1 → (∀ j,j < i → W.getD j 0 = 0) → ∀ j,j < i + d → (encW p m g d i W).getD j 0 = 0 := by
  intro d
  induction d with
  | zero => intro i W _ _ h j hj; exact h j (by omega)
  | succ d ih =>
    intro i W hW hl h j hj
    have gl : 0 < g.length := List.length_pos_iff.2 g0
    have hc : W.getD i 0 < 2 ^ m := getD_lt' F.zero_lt hW i
    rw [encW]
    refine ih (i + 1) _ (encW_step_lt F hW i) (by rw [xadd_length]; omega) (fun k hk => ?_) j (by omega)
    rw [xadd_getD _ _ _ _ (by rw [List.length_map]; omega)]
    by_cases c : k = i
    · subst c
      rw [if_pos (Nat.le_refl _),Nat.sub_self]
      have e : (g.map (fun x => mu p m (W.getD k 0) x)).getD 0 0 = W.getD k 0 := by
        rw [List.getD_eq_getElem?_getD,List.getElem?_map,List.getElem?_eq_getElem gl]
        rw [List.getD_eq_getElem?_getD,List.getElem?_eq_getElem gl] at g1
        simp only [Option.getD_some] at g1
        rw [g1]
        exact F.mu_one' hc
      rw [e,Nat.xor_self]
    · rw [if_neg (by omega),Nat.xor_zero,h k (by omega)]
omit F in
theorem zeros_then (d : Nat) (W : List Nat) (h : ∀ j,j < d → W.getD j 0 = 0) (hl : d ≤ W.length) : W = List.replicate d 0 ++ W.drop d := by
  refine list_ext_getD (by rw [List.length_append,List.length_replicate,List.length_drop]; omega) (fun i => ?_)
  rw [getD_app,List.length_replicate,getD_rep]
  split
  · exact h i (by assumption)
  · simp only [List.getD_eq_getElem?_getD,List.getElem?_drop]
    rw [show d + (i - d) = i by omega]
theorem enc_root (f n i : Nat) (hi : i < n) {D : List Nat} (hD : ∀ y ∈ D,y < 2 ^ m) : hv p m (encN p m f n D) (pw p (2 ^ m) (f + i)) = 0 := by
  have hx := F.pw_lt (f + i)
  have hp := pad_lt (n := n) F.zero_lt hD
  have g0 : genN p m f n ≠ [] := fun h => by have := genN_length p m f n; rw [h] at this; exact absurd this (by rw [List.length_nil]; omega)
  have lp : (D ++ List.replicate n 0).length = D.length + n := by rw [List.length_append,List.length_replicate]
  have hl : 0 + D.length + (genN p m f n).length ≤ (D ++ List.replicate n 0).length + 1 := by rw [genN_length,lp]; omega
  have h1 := encW_hv F hx (genN_lt F f n) g0 (gen_root F f i n hi) D.length 0 _ hp hl
  have h2 := zeros_then D.length (encW p m (genN p m f n) D.length 0 (D ++ List.replicate n 0)) (fun j hj => encW_zero F (gen_head f n) g0 D.length 0 _ hp hl (fun j hj => by omega) j (by omega)) (by rw [encW_length,lp]; omega)
  have hR : ∀ y ∈ (encW p m (genN p m f n) D.length 0 (D ++ List.replicate n 0)).drop D.length,y < 2 ^ m := fun y hy => encW_lt F _ _ _ hp y (List.mem_of_mem_drop hy)
  rw [h2,hv_pre F] at h1
  unfold encN
  generalize (encW p m (genN p m f n) D.length 0 (D ++ List.replicate n 0)).drop D.length = R at h1 h2 hR
  have lR : R.length = n := by
    have := congrArg List.length h2
    rw [encW_length,lp,List.length_append,List.length_replicate] at this
    omega
  have e : D ++ R = zx (D ++ List.replicate n 0) (List.replicate D.length 0 ++ R) := by
    refine list_ext_getD (by rw [zx_length (by simp only [List.length_append,List.length_replicate]; omega)]; simp only [List.length_append,List.length_replicate]; omega) (fun i => ?_)
    rw [zx_getD (by simp only [List.length_append,List.length_replicate]; omega),getD_app,getD_app,getD_app,List.length_replicate,getD_rep,getD_rep]
    split
    · rw [Nat.xor_zero]
    · rw [Nat.zero_xor]
  rw [e,hv_zx F hx (by simp only [List.length_append,List.length_replicate]; omega) hp (mem_app_lt (mem_zeros F.zero_lt) hR),hv_pre F,h1,Nat.xor_self]
theorem syn_enc (f n : Nat) {D : List Nat} (hD : ∀ y ∈ D,y < 2 ^ m) : syn p m f n (encN p m f n D) = List.replicate n 0 := by
  refine list_ext_getD (by rw [syn_length,List.length_replicate]) (fun i => ?_)
  rw [getD_rep]
  by_cases c : i < n
  · rw [syn_getD p m f n _ c,enc_root F f n i c hD]
  · exact getD_over _ _ (by rw [syn_length]; omega)
theorem syn_zx (f n : Nat) {a b : List Nat} (h : a.length = b.length) (ha : ∀ y ∈ a,y < 2 ^ m) (hb : ∀ y ∈ b,y < 2 ^ m) : syn p m f n (zx a b) = zx (syn p m f n a) (syn p m f n b) := by
  have hl : (syn p m f n a).length = (syn p m f n b).length := by rw [syn_length,syn_length]
  refine list_ext_getD (by rw [syn_length,zx_length hl,syn_length]) (fun i => ?_)
  rw [zx_getD hl]
  by_cases c : i < n
  · rw [syn_getD p m f n _ c,syn_getD p m f n _ c,syn_getD p m f n _ c,hv_zx F (F.pw_lt _) h ha hb]
  · rw [getD_over _ _ (by rw [syn_length]; omega),getD_over _ _ (by rw [syn_length]; omega),getD_over _ _ (by rw [syn_length]; omega)]
    rfl
omit F in
theorem zx_zeros (a : List Nat) : zx a (List.replicate a.length 0) = a := by
  have hl : a.length = (List.replicate a.length 0).length := by rw [List.length_replicate]
  refine list_ext_getD (zx_length hl) (fun i => ?_)
  rw [zx_getD hl,getD_rep,Nat.xor_zero]
end
def nz : List Nat → Nat
  | [] => 0
  | c :: l => (if c = 0 then 0 else 1) + nz l
theorem nz_le (a : List Nat) : ∀ b : List Nat,a.length = b.length → (∀ i,b.getD i 0 = 0 → a.getD i 0 = 0) → nz a ≤ nz b := by
  induction a with
  | nil => intro b _ _; exact Nat.zero_le _
  | cons x a ih =>
    intro b hl h
    cases b with
    | nil => exact absurd hl (by rw [List.length_cons,List.length_nil]; omega)
    | cons y b =>
      have h1 := ih b (by rw [List.length_cons,List.length_cons] at hl; omega) (fun i hi => h (i + 1) hi)
      have h0 : y = 0 → x = 0 := h 0
      rw [nz,nz]
      by_cases c : y = 0
      · rw [if_pos c,if_pos (h0 c)]; omega
      · rw [if_neg c]; split <;> omega
theorem nz_lt (a : List Nat) : ∀ (b : List Nat) (k : Nat),a.length = b.length → (∀ i,b.getD i 0 = 0 → a.getD i 0 = 0) → a.getD k 0 = 0 → b.getD k 0 ≠ 0 → nz a < nz b := by
  induction a with
  | nil =>
    intro b k hl _ _ hk
    have : b = [] := List.length_eq_zero_iff.1 hl.symm
    subst this
    exact absurd rfl hk
  | cons x a ih =>
    intro b k hl h h1 h2
    cases b with
    | nil => exact absurd rfl h2
    | cons y b =>
      have hl' : a.length = b.length := by rw [List.length_cons,List.length_cons] at hl; omega
      have h0 : y = 0 → x = 0 := h 0
      rw [nz,nz]
      cases k with
      | zero =>
        have e1 : x = 0 := h1
        have e2 : y ≠ 0 := h2
        have := nz_le a b hl' (fun i hi => h (i + 1) hi)
        rw [if_pos e1,if_neg e2]; omega
      | succ k =>
        have := ih b k hl' (fun i hi => h (i + 1) hi) h1 h2
        by_cases c : y = 0
        · rw [if_pos c,if_pos (h0 c)]; omega
        · rw [if_neg c]; split <;> omega
theorem nz_zero (a : List Nat) : nz a = 0 → ∀ y ∈ a,y = 0 := by
  induction a with
  | nil => intro _ y hy; cases hy
  | cons x a ih =>
    intro h y hy
    rw [nz] at h
    rcases List.mem_cons.1 hy with rfl | hy
    · by_cases c : y = 0
      · exact c
      · rw [if_neg c] at h; omega
    · exact ih (by omega) y hy
def tw (p m r : Nat) : List Nat → List Nat
  | [] => []
  | c :: l => mu p m c (pw p (2 ^ m) l.length ^^^ r) :: tw p m r l
theorem tw_length (p m r : Nat) (l : List Nat) : (tw p m r l).length = l.length := by
  induction l with
  | nil => rfl
  | cons c l ih => rw [tw,List.length_cons,List.length_cons,ih]
theorem tw_getD (p m r : Nat) (l : List Nat) : ∀ i,i < l.length → (tw p m r l).getD i 0 = mu p m (l.getD i 0) (pw p (2 ^ m) (l.length - 1 - i) ^^^ r) := by
  induction l with
  | nil => intro i h; exact absurd h (Nat.not_lt_zero _)
  | cons c l ih =>
    intro i h
    rw [List.length_cons] at h
    cases i with
    | zero => rw [tw,List.length_cons,show l.length + 1 - 1 - 0 = l.length by omega]; rfl
    | succ i =>
      rw [List.length_cons,show l.length + 1 - 1 - (i + 1) = l.length - 1 - i by omega]
      exact ih i (by omega)
section
variable {m p : Nat} (F : Fi m p)
include F
theorem tw_lt (r : Nat) (l : List Nat) (hl : ∀ y ∈ l,y < 2 ^ m) : ∀ y ∈ tw p m r l,y < 2 ^ m := by
  induction l with
  | nil => intro y hy; cases hy
  | cons c l ih =>
    intro y hy
    rw [tw] at hy
    rcases List.mem_cons.1 hy with rfl | hy
    · exact F.mu_lt (hl c (List.mem_cons_self ..))
    · exact ih (fun z hz => hl z (List.mem_cons_of_mem _ hz)) y hy
theorem hvf_split (s : Nat) (l : List Nat) : ∀ v,v < 2 ^ m → (∀ y ∈ l,y < 2 ^ m) → hvf p m (pw p (2 ^ m) s) v l = mu p m v (pw p (2 ^ m) (s * l.length)) ^^^ hvf p m (pw p (2 ^ m) s) 0 l := by
  induction l with
  | nil =>
    intro v hv _
    rw [List.length_nil,Nat.mul_zero]
    exact (by rw [show pw p (2 ^ m) 0 = 1 from rfl,F.mu_one' hv]; exact (Nat.xor_zero v).symm)
  | cons c l ih =>
    intro v hv hl
    have hc := hl c (List.mem_cons_self ..)
    have hl' : ∀ y ∈ l,y < 2 ^ m := fun z hz => hl z (List.mem_cons_of_mem _ hz)
    have h1 := F.mu_lt (b := pw p (2 ^ m) s) hv
    rw [hvf,hvf,ih _ (Nat.xor_lt_two_pow h1 hc) hl',F.mu_zero_left,Nat.zero_xor,ih c hc hl',F.mu_add_left h1 hc,F.mu_assoc hv (F.pw_lt _) (F.pw_lt _),F.mu_pw,List.length_cons,Nat.xor_assoc]
    rw [show s * (l.length + 1) = s + s * l.length by rw [Nat.mul_add,Nat.mul_one,Nat.add_comm]]
theorem hv_cons (s c : Nat) {l : List Nat} (hc : c < 2 ^ m) (hl : ∀ y ∈ l,y < 2 ^ m) : hv p m (c :: l) (pw p (2 ^ m) s) = mu p m c (pw p (2 ^ m) (s * l.length)) ^^^ hv p m l (pw p (2 ^ m) s) := by
  unfold hv
  rw [hvf,F.mu_zero_left,Nat.zero_xor,hvf_split F s l c hc hl]
theorem hv_tw (s : Nat) {r : Nat} (hr : r < 2 ^ m) (l : List Nat) (hl : ∀ y ∈ l,y < 2 ^ m) : hv p m (tw p m r l) (pw p (2 ^ m) s) = hv p m l (pw p (2 ^ m) (s + 1)) ^^^ mu p m r (hv p m l (pw p (2 ^ m) s)) := by
  induction l with
  | nil =>
    show 0 = 0 ^^^ mu p m r 0
    rw [F.mu_zero_right,Nat.xor_self]
  | cons c l ih =>
    have hc := hl c (List.mem_cons_self ..)
    have hl' : ∀ y ∈ l,y < 2 ^ m := fun z hz => hl z (List.mem_cons_of_mem _ hz)
    have hq := F.pw_lt l.length
    have hx := F.pw_lt (s * l.length)
    rw [tw,hv_cons F s _ (F.mu_lt hc) (tw_lt F r l hl'),tw_length,ih hl',hv_cons F (s + 1) c hc hl',hv_cons F s c hc hl',F.mu_add_right,F.mu_add_right]
    rw [F.mu_add_left (F.mu_lt hc) (F.mu_lt hc),F.mu_assoc hc hq hx,F.mu_pw,show l.length + s * l.length = (s + 1) * l.length by rw [Nat.add_mul,Nat.one_mul,Nat.add_comm]]
    rw [F.mu_comm hc hr,F.mu_assoc hr hc hx,xor4]
theorem pw_unlike {i j : Nat} (hi : i < 2 ^ m - 1) (hj : j < 2 ^ m - 1) (h : i ≠ j) : 0 < pw p (2 ^ m) i ^^^ pw p (2 ^ m) j := by
  rcases Nat.eq_zero_or_pos (pw p (2 ^ m) i ^^^ pw p (2 ^ m) j) with c | c
  · have := (F.fld.eq_iff i j).1 (xor_eq_zero c)
    rw [Nat.mod_eq_of_lt hi,Nat.mod_eq_of_lt hj] at this
    exact absurd this h
  · exact c
theorem few_zero : ∀ (n s : Nat) (E : List Nat),(∀ y ∈ E,y < 2 ^ m) → E.length ≤ 2 ^ m - 1 → nz E ≤ n → (∀ j,j < n → hv p m E (pw p (2 ^ m) (s + j)) = 0) → ∀ i,E.getD i 0 = 0 := by
  intro n
  induction n with
  | zero =>
    intro s E _ _ h _ i
    by_cases c : i < E.length
    · rw [List.getD_eq_getElem?_getD,List.getElem?_eq_getElem c]
      exact nz_zero E (by omega) _ (List.getElem_mem c)
    · exact getD_over _ _ (by omega)
  | succ n ih =>
    intro s E hE hl hn h k
    by_cases hk : E.getD k 0 = 0
    · exact hk
    exfalso
    have kl : k < E.length := by
      rcases Nat.lt_or_ge k E.length with c | c
      · exact c
      · exact absurd (getD_over _ _ c) hk
    have hr := F.pw_lt (E.length - 1 - k)
    have t0 := ih s (tw p m (pw p (2 ^ m) (E.length - 1 - k)) E) (tw_lt F _ E hE) (by rw [tw_length]; exact hl)
      (by
        have := nz_lt (tw p m (pw p (2 ^ m) (E.length - 1 - k)) E) E k (tw_length ..) (fun i hi => by
          by_cases c : i < E.length
          · rw [tw_getD _ _ _ _ _ c,hi,F.mu_zero_left]
          · exact getD_over _ _ (by rw [tw_length]; omega)) (by rw [tw_getD _ _ _ _ _ kl,Nat.xor_self,F.mu_zero_right]) hk
        omega)
      (fun j hj => by
        have e1 := h j (by omega)
        have e2 := h (j + 1) (by omega)
        rw [hv_tw F _ hr E hE,e1,F.mu_zero_right,Nat.xor_zero]
        exact e2)
    have only : ∀ i,i ≠ k → E.getD i 0 = 0 := fun i hi => by
      by_cases c : i < E.length
      · have h1 := t0 i
        rw [tw_getD _ _ _ _ _ c] at h1
        rcases Nat.eq_zero_or_pos (E.getD i 0) with z | z
        · exact z
        · have h2 := pw_unlike F (i := E.length - 1 - i) (j := E.length - 1 - k) (by omega) (by omega) (by omega)
          have h3 := F.mu_pos z (getD_lt' F.zero_lt hE i) h2 (Nat.xor_lt_two_pow (F.pw_lt _) (F.pw_lt _))
          omega
      · exact getD_over _ _ (by omega)
    have e : E = List.replicate k 0 ++ (E.getD k 0 :: List.replicate (E.length - 1 - k) 0) := by
      refine list_ext_getD (by rw [List.length_append,List.length_cons,List.length_replicate,List.length_replicate]; omega) (fun i => ?_)
      rw [getD_app,List.length_replicate,getD_rep]
      by_cases c : i < k
      · rw [if_pos c,only i (by omega)]
      · rw [if_neg c]
        by_cases c2 : i = k
        · rw [c2,Nat.sub_self]; rfl
        · rw [only i c2,show i - k = (i - k - 1) + 1 by omega]
          exact (getD_rep _ _).symm
    have h0 := h 0 (by omega)
    rw [Nat.add_zero] at h0
    have hc := getD_lt' F.zero_lt hE k
    rw [e,hv_pre F,hv_cons F s _ hc (mem_zeros F.zero_lt),List.length_replicate] at h0
    have hz : hv p m (List.replicate (E.length - 1 - k) 0) (pw p (2 ^ m) s) = 0 := hvf_rep F _ _
    rw [hz,Nat.xor_zero] at h0
    have := F.mu_pos (Nat.pos_of_ne_zero hk) hc (F.pw_pos (s * (E.length - 1 - k))) (F.pw_lt _)
    omega
end
end Go.Proofs.Ytpgecdidddoglaa.GalP
