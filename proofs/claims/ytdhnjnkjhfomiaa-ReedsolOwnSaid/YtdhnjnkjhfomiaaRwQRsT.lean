/- Reedsol: the plain theory of code words: values of sums, the generator's roots, code words have no syndromes, words with few places unlike nothing. -/
import Derived.Test.YtdhnjnkjhfomiaaRwQRsG
set_option linter.unusedVariables false
set_option linter.unusedSimpArgs false
namespace Go.Proofs.Ytdhnjnkjhfomiaa.GalP
open Go.RowKit Go.Proofs.Ytdhnjnkjhfomiaa.P Go.Proofs.YtdhnjnkjhfomiaaW.PrintWords Go.Proofs.YtdhnjnkjhfomiaaW.PrintLast Go.Proofs.YtdhnjnkjhfomiaaW.PrintMore Go.Proofs.YtdhnjnkjhfomiaaW.Q
open Go.Proofs.Ytdhnjnkjhfomiaa.Gal
def zx (a b : List Nat) : List Nat := List.zipWith (· ^^^ ·) a b
theorem zx_length {a b : List Nat} (h : a.length = b.length) : (zx a b).length = a.length := by unfold zx; rw [List.length_zipWith]; omega
theorem zx_getD {a b : List Nat} (h : a.length = b.length) (i : Nat) : (zx a b).getD i 0 = a.getD i 0 ^^^ b.getD i 0 := by
  unfold zx
  by_cases c : i < a.length
  · simp only [List.getD_eq_getElem?_getD,List.getElem?_zipWith]
    rw [List.getElem?_eq_getElem c,List.getElem?_eq_getElem (by omega)]
    rfl
  · rw [getD_over _ i (by rw [List.length_zipWith]; omega),getD_over a i (by omega),getD_over b i (by omega)]
    rfl
theorem getD_app (a b : List Nat) (i : Nat) : (a ++ b).getD i 0 = if i < a.length then a.getD i 0 else b.getD (i - a.length) 0 := by
  simp only [List.getD_eq_getElem?_getD]
  split
  · rw [List.getElem?_append_left (by assumption)]
  · rw [List.getElem?_append_right (by omega)]
theorem getD_rep (n i : Nat) : (List.replicate n 0).getD i 0 = 0 := by
  by_cases c : i < n
  · simp only [List.getD_eq_getElem?_getD,List.getElem?_replicate,if_pos c]; rfl
  · exact getD_over _ _ (by rw [List.length_replicate]; omega)
theorem xadd_zx (l out : List Nat) (off e : Nat) (h : out.length = off + l.length + e) : xadd out off l = zx out (List.replicate off 0 ++ (l ++ List.replicate e 0)) := by
  have hl : out.length = (List.replicate off 0 ++ (l ++ List.replicate e 0)).length := by simp only [List.length_append,List.length_replicate]; omega
  refine list_ext_getD (by rw [xadd_length,zx_length hl]) (fun i => ?_)
  rw [xadd_getD _ _ _ _ (by omega),zx_getD hl,getD_app,List.length_replicate,getD_rep]
  congr 1
  by_cases c : off ≤ i
  · rw [if_pos c,if_neg (by omega),getD_app,getD_rep]
    split
    · rfl
    · exact getD_over _ _ (by omega)
  · rw [if_neg c,if_pos (by omega)]
theorem mem_zeros {m n : Nat} (h0 : 0 < 2 ^ m) : ∀ y ∈ List.replicate n 0,y < 2 ^ m := fun y hy => by rw [List.eq_of_mem_replicate hy]; exact h0
theorem mem_app_lt {m : Nat} {a b : List Nat} (ha : ∀ y ∈ a,y < 2 ^ m) (hb : ∀ y ∈ b,y < 2 ^ m) : ∀ y ∈ a ++ b,y < 2 ^ m := fun y hy => (List.mem_append.1 hy).elim (ha y) (hb y)
section
variable {m p : Nat} (F : Fi m p)
include F
theorem hvf_rep (x n : Nat) : hvf p m x 0 (List.replicate n 0) = 0 := by
  induction n with
  | zero => rfl
  | succ n ih => rw [List.replicate_succ,hvf,F.mu_zero_left,Nat.xor_self]; exact ih
theorem hvf_pre (x n : Nat) (l : List Nat) : hvf p m x 0 (List.replicate n 0 ++ l) = hvf p m x 0 l := by
  rw [hvf_append,hvf_rep F]
theorem hv_pre (x n : Nat) (l : List Nat) : hv p m (List.replicate n 0 ++ l) x = hv p m l x := hvf_pre F x n l
theorem hv_post {x : Nat} {l : List Nat} (h : hv p m l x = 0) (n : Nat) : hv p m (l ++ List.replicate n 0) x = 0 := by
  unfold hv at *
  rw [hvf_append,h,hvf_rep F]
omit F in
theorem hv_snoc0 (x : Nat) (l : List Nat) : hv p m (l ++ [0]) x = mu p m (hv p m l x) x := by
  unfold hv
  rw [hvf_append]
  simp only [hvf]
  rw [Nat.xor_zero]
theorem hv_zx {x : Nat} (hx : x < 2 ^ m) {a b : List Nat} (h : a.length = b.length) (ha : ∀ y ∈ a,y < 2 ^ m) (hb : ∀ y ∈ b,y < 2 ^ m) : hv p m (zx a b) x = hv p m a x ^^^ hv p m b x := by
  have := F.hvf_xor hx a b 0 0 h F.zero_lt F.zero_lt ha hb
  rw [Nat.xor_self] at this
  exact this
theorem hv_xadd {x : Nat} (hx : x < 2 ^ m) {l out : List Nat} {off : Nat} (e : Nat) (h : out.length = off + l.length + e) (ho : ∀ y ∈ out,y < 2 ^ m) (hl : ∀ y ∈ l,y < 2 ^ m) :
    hv p m (xadd out off l) x = hv p m out x ^^^ hv p m (l ++ List.replicate e 0) x := by
  rw [xadd_zx l out off e h,hv_zx F hx (by simp only [List.length_append,List.length_replicate]; omega) ho (mem_app_lt (mem_zeros F.zero_lt) (mem_app_lt hl (mem_zeros F.zero_lt))),hv_pre F]
theorem hvf_sc {c x : Nat} (hc : c < 2 ^ m) (hx : x < 2 ^ m) (l : List Nat) : ∀ v,v < 2 ^ m → (∀ y ∈ l,y < 2 ^ m) → hvf p m x (mu p m c v) (l.map (fun y => mu p m c y)) = mu p m c (hvf p m x v l) := by
  induction l with
  | nil => intro v _ _; rfl
  | cons y l ih =>
    intro v hv hl
    have hy := hl y (List.mem_cons_self ..)
    rw [List.map_cons,hvf,hvf,F.mu_assoc hc hv hx,← F.mu_add_right]
    exact ih _ (Nat.xor_lt_two_pow (F.mu_lt hv) hy) (fun z hz => hl z (List.mem_cons_of_mem _ hz))
theorem hv_sc {c x : Nat} (hc : c < 2 ^ m) (hx : x < 2 ^ m) {l : List Nat} (hl : ∀ y ∈ l,y < 2 ^ m) : hv p m (l.map (fun y => mu p m c y)) x = mu p m c (hv p m l x) := by
  have := hvf_sc F hc hx l 0 F.zero_lt hl
  rw [F.mu_zero_right] at this
  exact this
theorem hv_sc' {c x : Nat} (hc : c < 2 ^ m) (hx : x < 2 ^ m) {l : List Nat} (hl : ∀ y ∈ l,y < 2 ^ m) : hv p m (l.map (fun y => mu p m y c)) x = mu p m (hv p m l x) c := by
  rw [show l.map (fun y => mu p m y c) = l.map (fun y => mu p m c y) from List.map_congr_left (fun y hy => F.mu_comm (hl y hy) hc),hv_sc F hc hx hl,F.mu_comm hc (F.hv_lt hx hl)]
theorem gen_step {x : Nat} (hx : x < 2 ^ m) (f j : Nat) : hv p m (genN p m f (j + 1)) x = mu p m (hv p m (genN p m f j) x) (x ^^^ pw p (2 ^ m) (f + j)) := by
  have hg := genN_lt F f j
  have hm : ∀ y ∈ (genN p m f j).map (fun x => mu p m x (pw p (2 ^ m) (f + j))),y < 2 ^ m := fun y hy => by
    obtain ⟨z,hz,rfl⟩ := List.mem_map.1 hy
    exact F.mu_lt (hg z hz)
  rw [genN,hv_xadd F hx 0 (by rw [List.length_append,List.length_map,List.length_singleton]; omega) (mem_app_lt hg (fun y hy => by rw [List.mem_singleton.1 hy]; exact F.zero_lt)) hm]
  rw [List.replicate_zero,List.append_nil,hv_snoc0,hv_sc' F (F.pw_lt _) hx hg,← F.mu_add_right]
theorem gen_root (f i : Nat) : ∀ j,i < j → hv p m (genN p m f j) (pw p (2 ^ m) (f + i)) = 0 := by
  intro j
  induction j with
  | zero => intro h; omega
  | succ j ih =>
    intro h
    rw [gen_step F (F.pw_lt _)]
    by_cases c : i = j
    · rw [c,Nat.xor_self,F.mu_zero_right]
    · rw [ih (by omega),F.mu_zero_left]
omit F in
theorem gen_head (f : Nat) : ∀ j,(genN p m f j).getD 0 0 = 1 := by
  intro j
  induction j with
  | zero => rfl
  | succ j ih =>
    rw [genN,xadd_getD _ _ _ _ (by rw [List.length_append,List.length_map,List.length_singleton]; omega),if_neg (by omega),Nat.xor_zero,getD_app,if_pos (by rw [genN_length]; omega),ih]
theorem encW_hv {x : Nat} (hx : x < 2 ^ m) {g : List Nat} (hg : ∀ y ∈ g,y < 2 ^ m) (g0 : g ≠ []) (h0 : hv p m g x = 0) : ∀ d i W,(∀ y ∈ W,y < 2 ^ m) → i + d + g.length ≤ W.length + 1 → hv p m (encW p m g d i W) x = hv p m W x := by
  intro d
  induction d with
  | zero => intro i W _ _; rfl
  | succ d ih =>
    intro i W hW hl
    have gl : 0 < g.length := List.length_pos_iff.2 g0
    have hc : W.getD i 0 < 2 ^ m := getD_lt' F.zero_lt hW i
    have hm : ∀ y ∈ g.map (fun x => mu p m (W.getD i 0) x),y < 2 ^ m := fun y hy => by
      obtain ⟨z,hz,rfl⟩ := List.mem_map.1 hy
      exact F.mu_lt hc
    rw [encW,ih _ _ (encW_step_lt F hW i) (by rw [xadd_length]; omega),hv_xadd F hx (W.length - i - g.length) (by rw [List.length_map]; omega) hW hm]
    rw [hv_post F (by rw [hv_sc F hc hx hg,h0,F.mu_zero_right]),Nat.xor_zero]
theorem encW_zero {g : List Nat} (g1 : g.getD 0 0 = 1) (g0 : g ≠ []) : ∀ d i W,(∀ y ∈ W,y < 2 ^ m) → i + d + g.length ≤ W.length + 1 → (∀ j,j < i → W.getD j 0 = 0) → ∀ j,j < i + d → (encW p m g d i W).getD j 0 = 0 := by
  intro d
  induction d with
  | zero => intro i W _ _ h j hj; exact h j (by omega)
  | succ d ih =>
    intro i W hW hl h j hj
    have gl : 0 < g.length := List.length_pos_iff.2 g0
    have hc : W.getD i 0 < 2 ^ m := getD_lt' F.zero_lt hW i
    rw [encW]
    refine ih (i + 1) _ (encW_step_lt F hW i) (by rw [xadd_length]; omega) (fun k hk => ?_) j (by omega)
    rw [xadd_getD _ _ _ _ (by rw [List.length_map]; omega)]
    by_cases c : k = i
    · subst c
      rw [if_pos (Nat.le_refl _),Nat.sub_self]
      have e : (g.map (fun x => mu p m (W.getD k 0) x)).getD 0 0 = W.getD k 0 := by
        rw [List.getD_eq_getElem?_getD,List.getElem?_map,List.getElem?_eq_getElem gl]
        rw [List.getD_eq_getElem?_getD,List.getElem?_eq_getElem gl] at g1
        simp only [Option.getD_some] at g1
        rw [g1]
        exact F.mu_one' hc
      rw [e,Nat.xor_self]
    · rw [if_neg (by omega),Nat.xor_zero,h k (by omega)]
omit F in
theorem zeros_then (d : Nat) (W : List Nat) (h : ∀ j,j < d → W.getD j 0 = 0) (hl : d ≤ W.length) : W = List.replicate d 0 ++ W.drop d := by
  refine list_ext_getD (by rw [List.length_append,List.length_replicate,List.length_drop]; omega) (fun i => ?_)
  rw [getD_app,List.length_replicate,getD_rep]
  split
  · exact h i (by assumption)
  · simp only [List.getD_eq_getElem?_getD,List.getElem?_drop]
    rw [show d + (i - d) = i by omega]
theorem enc_root (f n i : Nat) (hi : i < n) {D : List Nat} (hD : ∀ y ∈ D,y < 2 ^ m) : hv p m (encN p m f n D) (pw p (2 ^ m) (f + i)) = 0 := by
  have hx := F.pw_lt (f + i)
  have hp := pad_lt (n := n) F.zero_lt hD
  have g0 : genN p m f n ≠ [] := fun h => by have := genN_length p m f n; rw [h] at this; exact absurd this (by rw [List.length_nil]; omega)
  have lp : (D ++ List.replicate n 0).length = D.length + n := by rw [List.length_append,List.length_replicate]
  have hl : 0 + D.length + (genN p m f n).length ≤ (D ++ List.replicate n 0).length + 1 := by rw [genN_length,lp]; omega
  have h1 := encW_hv F hx (genN_lt F f n) g0 (gen_root F f i n hi) D.length 0 _ hp hl
  have h2 := zeros_then D.length (encW p m (genN p m f n) D.length 0 (D ++ List.replicate n 0)) (fun j hj => encW_zero F (gen_head f n) g0 D.length 0 _ hp hl (fun j hj => by omega) j (by omega)) (by rw [encW_length,lp]; omega)
  have hR : ∀ y ∈ (encW p m (genN p m f n) D.length 0 (D ++ List.replicate n 0)).drop D.length,y < 2 ^ m := fun y hy => encW_lt F _ _ _ hp y (List.mem_of_mem_drop hy)
  rw [h2,hv_pre F] at h1
  unfold encN
  generalize (encW p m (genN p m f n) D.length 0 (D ++ List.replicate n 0)).drop D.length = R at h1 h2 hR
  have lR : R.length = n := by
    have := congrArg List.length h2
    rw [encW_length,lp,List.length_append,List.length_replicate] at this
    omega
  have e : D ++ R = zx (D ++ List.replicate n 0) (List.replicate D.length 0 ++ R) := by
    refine list_ext_getD (by rw [zx_length (by simp only [List.length_append,List.length_replicate]; omega)]; simp only [List.length_append,List.length_replicate]; omega) (fun i => ?_)
    rw [zx_getD (by simp only [List.length_append,List.length_replicate]; omega),getD_app,getD_app,getD_app,List.length_replicate,getD_rep,getD_rep]
    split
    · rw [Nat.xor_zero]
    · rw [Nat.zero_xor]
  rw [e,hv_zx F hx (by simp only [List.length_append,List.length_replicate]; omega) hp (mem_app_lt (mem_zeros F.zero_lt) hR),hv_pre F,h1,Nat.xor_self]
theorem syn_enc (f n : Nat) {D : List Nat} (hD : ∀ y ∈ D,y < 2 ^ m) : syn p m f n (encN p m f n D) = List.replicate n 0 := by
  refine list_ext_getD (by rw [syn_length,List.length_replicate]) (fun i => ?_)
  rw [getD_rep]
  by_cases c : i < n
  · rw [syn_getD p m f n _ c,enc_root F f n i c hD]
  · exact getD_over _ _ (by rw [syn_length]; omega)
omit F in
theorem zx_self {a b : List Nat} (hl : a.length = b.length) : zx a b = List.replicate a.length 0 ↔ a = b := by
  constructor
  · intro h
    refine list_ext_getD hl (fun i => ?_)
    have h1 := congrArg (fun l => l.getD i 0) h
    simp only [zx_getD hl,getD_rep] at h1
    exact xor_eq_zero h1
  · rintro rfl
    refine list_ext_getD (by rw [zx_length rfl,List.length_replicate]) (fun i => ?_)
    rw [zx_getD rfl,getD_rep,Nat.xor_self]
end
def nz : List Nat → Nat
  | [] => 0
  | c :: l => (if c = 0 then 0 else 1) + nz l
theorem nz_rep (n : Nat) : nz (List.replicate n 0) = 0 := by
  induction n with
  | zero => rfl
  | succ n ih => rw [List.replicate_succ,nz,ih]; rfl
section
variable {m p : Nat} (F : Fi m p)
include F
end
end Go.Proofs.Ytdhnjnkjhfomiaa.GalP
