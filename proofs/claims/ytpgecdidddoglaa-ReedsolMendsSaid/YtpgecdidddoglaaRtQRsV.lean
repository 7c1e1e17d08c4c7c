/- Reedsol: a code word that is struck, no more than can be mended (for ReedsolMends): what holds after each hit, and what Decode then answers. Plain numbers. -/
import Derived.Test.YtpgecdidddoglaaRtQRsW
set_option linter.unusedVariables false
set_option linter.unusedSimpArgs false
namespace Go.Proofs.Ytpgecdidddoglaa.GalP
open Go.RowKit Go.Proofs.Ytpgecdidddoglaa.P Go.Proofs.YtpgecdidddoglaaW.PrintWords Go.Proofs.YtpgecdidddoglaaW.PrintLast Go.Proofs.YtpgecdidddoglaaW.PrintMore Go.Proofs.YtpgecdidddoglaaW.Q
open Go.Proofs.Ytpgecdidddoglaa.Gal
theorem plN_append (len : Nat) (a b : List Int) : ∀ g q,plN len (a ++ b) g q = (plN len a g q).bind (fun z => plN len b z.1 z.2) := by
  induction a with
  | nil => intro g q; rfl
  | cons e a ih =>
    intro g q
    rw [List.cons_append,plN,plN]
    split
    · rfl
    · split
      · exact ih g q
      · exact ih _ _
theorem cntB_congr {P Q : Nat → Bool} : ∀ c i,(∀ k,i ≤ k → k < i + c → P k = Q k) → cntB P c i = cntB Q c i := by
  intro c
  induction c with
  | zero => intro i _; rfl
  | succ c ih => intro i e; rw [cntB,cntB,e i (Nat.le_refl _) (by omega),ih (i + 1) (fun k h1 h2 => e k (by omega) (by omega))]
theorem cntB_one {P Q : Nat → Bool} {a : Nat} (hp : P a = false) (hq : Q a = true) (h : ∀ k,k ≠ a → P k = Q k) : ∀ c i,i ≤ a → a < i + c → cntB Q c i = cntB P c i + 1 := by
  intro c
  induction c with
  | zero => intro i h1 h2; omega
  | succ c ih =>
    intro i h1 h2
    rw [cntB,cntB]
    by_cases e : i = a
    · subst e
      rw [hp,hq,if_pos rfl,if_neg Bool.false_ne_true,cntB_congr (P := P) (Q := Q) c (i + 1) (fun k h3 h4 => h k (by omega))]
      omega
    · rw [h i e,ih (i + 1) (by omega) (by omega)]
      omega
structure Hs (m P : Nat) (w out : List Nat) (named gone : List Bool) (er : List Int) (cost : Nat) : Prop where
  lo : out.length = w.length
  ho : ∀ y ∈ out,y < 2 ^ m
  ln : named.length = w.length
  lg : gone.length = w.length
  un : ∀ k,out.getD k 0 ≠ w.getD k 0 → named.getD k false = true
  gn : ∀ k,gone.getD k false = true → named.getD k false = true
  pe : plN w.length er (List.replicate w.length false) 0 = some (gone,cntT gone w.length 0)
  co : cost = 2 * cntB (fun k => named.getD k false && !gone.getD k false) w.length 0 + cntT gone w.length 0
  le : cost ≤ P
  lr : er.length = cntT gone w.length 0
theorem rep_false (L k : Nat) : (List.replicate L false).getD k false = false := by
  simp only [List.getD_eq_getElem?_getD,List.getElem?_replicate]
  split <;> rfl
theorem Hs.start {m P : Nat} {w : List Nat} (hw : ∀ y ∈ w,y < 2 ^ m) : Hs m P w w (List.replicate w.length false) (List.replicate w.length false) [] 0 := by
  refine ⟨rfl,hw,List.length_replicate ..,List.length_replicate ..,fun k h => absurd rfl h,fun k h => h,?_,?_,Nat.zero_le _,(cntT_none ..).symm⟩
  · rw [cntT_none]; rfl
  · rw [cntT_none]
    have : ∀ c i,cntB (fun k => (List.replicate w.length false).getD k false && !(List.replicate w.length false).getD k false) c i = 0 := by
      intro c
      induction c with
      | zero => intro i; rfl
      | succ c ih => intro i; rw [cntB,ih,rep_false]; rfl
    rw [this]
section
variable {m P : Nat} {w out : List Nat} {named gone : List Bool} {er : List Int} {cost : Nat} (h : Hs m P w out named gone er cost) {a v : Nat} (ha : a < w.length) (hn : ¬ named.getD a false = true) (hv : v < 2 ^ m)
include h ha hn hv
theorem Hs.err (hc : cost + 2 ≤ P) : Hs m P w (out.set a v) (named.set a true) gone er (cost + 2) := by
  have hng : gone.getD a false = false := by
    cases e : gone.getD a false with
    | false => rfl
    | true => exact absurd (h.gn a e) hn
  have hnf : named.getD a false = false := by
    cases e : named.getD a false with
    | false => rfl
    | true => exact absurd e hn
  refine ⟨by rw [List.length_set]; exact h.lo,mem_set_lt h.ho a hv,by rw [List.length_set]; exact h.ln,h.lg,fun k hk => ?_,fun k hk => ?_,h.pe,?_,hc,h.lr⟩
  · rw [getD_setB]
    by_cases e : k = a
    · rw [if_pos ⟨e,by rw [h.ln]; exact ha⟩]
    · rw [if_neg (fun z => e z.1)]
      rw [getD_set,if_neg (fun z => e z.1)] at hk
      exact h.un k hk
  · rw [getD_setB]
    split
    · rfl
    · exact h.gn k hk
  · have e1 := cntB_one (P := fun k => named.getD k false && !gone.getD k false) (Q := fun k => (named.set a true).getD k false && !gone.getD k false) (a := a) (by simp only [hnf,Bool.false_and]) (by simp only [getD_setB,hng]; rw [if_pos ⟨trivial,by rw [h.ln]; exact ha⟩]; rfl) (fun k hk => by simp only [getD_setB]; rw [if_neg (fun z => hk z.1)]) w.length 0 (Nat.zero_le _) (by omega)
    have := h.co
    omega
theorem Hs.say (hc : cost + 1 ≤ P) : Hs m P w (out.set a v) (named.set a true) (gone.set a true) (er ++ [(a : Int)]) (cost + 1) := by
  have hng : ¬ gone.getD a false = true := fun e => hn (h.gn a e)
  have hnf : named.getD a false = false := by
    cases e : named.getD a false with
    | false => rfl
    | true => exact absurd e hn
  have hcT := cntT_set (g := gone) (p := a) (by rw [h.lg]; exact ha) hng w.length 0 (Nat.zero_le _) (by omega)
  refine ⟨by rw [List.length_set]; exact h.lo,mem_set_lt h.ho a hv,by rw [List.length_set]; exact h.ln,by rw [List.length_set]; exact h.lg,fun k hk => ?_,fun k hk => ?_,?_,?_,hc,?_⟩
  · rw [getD_setB]
    by_cases e : k = a
    · rw [if_pos ⟨e,by rw [h.ln]; exact ha⟩]
    · rw [if_neg (fun z => e z.1)]
      rw [getD_set,if_neg (fun z => e z.1)] at hk
      exact h.un k hk
  · rw [getD_setB]
    by_cases e : k = a
    · rw [if_pos ⟨e,by rw [h.ln]; exact ha⟩]
    · rw [if_neg (fun z => e z.1)]
      rw [getD_setB,if_neg (fun z => e z.1)] at hk
      exact h.gn k hk
  · rw [plN_append,h.pe,Option.bind_some,plN,if_neg (by omega),Int.toNat_natCast,if_neg hng,hcT]
    rfl
  · have e1 : cntB (fun k => (named.set a true).getD k false && !(gone.set a true).getD k false) w.length 0 = cntB (fun k => named.getD k false && !gone.getD k false) w.length 0 := by
      refine cntB_congr _ _ (fun k _ _ => ?_)
      by_cases e : k = a
      · subst e
        have z : (gone.set k true).getD k false = true := by rw [getD_setB,if_pos ⟨rfl,by rw [h.lg]; exact ha⟩]
        rw [z,hnf,Bool.not_true,Bool.and_false,Bool.false_and]
      · rw [getD_setB,getD_setB,if_neg (fun z => e z.1),if_neg (fun z => e z.1)]
    have := h.co
    rw [e1,hcT]
    omega
  · rw [List.length_append,List.length_singleton,hcT,h.lr]
end
theorem wr_le (W Z : List Nat) (gone named : List Bool) (h : ∀ k,W.getD k 0 ≠ Z.getD k 0 → named.getD k false = true) : ∀ c i q,wrN W Z gone c i q ≤ q + cntB (fun k => named.getD k false && !gone.getD k false) c i := by
  intro c
  induction c with
  | zero => intro i q; exact Nat.le_refl _
  | succ c ih =>
    intro i q
    rw [wrN,cntB]
    by_cases a : Z.getD i 0 = W.getD i 0
    · rw [if_pos a]
      have := ih (i + 1) q
      omega
    · rw [if_neg a]
      have hn := h i (fun e => a e.symm)
      by_cases g : gone.getD i false = true
      · rw [if_pos g]
        have := ih (i + 1) q
        omega
      · have g' : gone.getD i false = false := by
          cases e : gone.getD i false with
          | false => rfl
          | true => exact absurd e g
        rw [if_neg g,hn,g']
        have := ih (i + 1) (q + 1)
        show _ ≤ q + (1 + _)
        omega
theorem Hs.dec {m p f n : Nat} (C : Cd m p f n) {w out : List Nat} {named gone : List Bool} {er : List Int} {cost : Nat} (h : Hs m n w out named gone er cost) (hw : ∀ y ∈ w,y < 2 ^ m) (ln : n ≤ w.length) (lw : w.length ≤ 2 ^ m - 1) (sw : syn p m f n w = List.replicate n 0) :
    decR p m f n out er = (w.take (w.length - n),nz (zx w out),0) := by
  have near : Near p m f n out gone (cntT gone out.length 0) w := by
    refine ⟨hw,h.lo.symm,sw,?_⟩
    have h1 := wr_le out w gone named h.un out.length 0 0
    have h2 := h.co
    have h3 := h.le
    rw [h.lo] at h1 ⊢
    omega
  have hm := near_mend C h.ho (by rw [h.lo]; exact lw) (by rw [h.lg,h.lo]) rfl near
  unfold decR
  rw [if_pos (wE_ok (by rw [h.lo]; exact ln) (by rw [h.lo]; exact lw) h.ho),h.lo,h.pe]
  rw [h.lo] at hm
  dsimp only
  rw [hm,if_pos rfl]
end Go.Proofs.Ytpgecdidddoglaa.GalP
