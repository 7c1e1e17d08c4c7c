/- Reedsol: a code word that is struck, no more than can be mended (for ReedsolMends): what holds after each hit, and what Decode then answers. Plain numbers. -/
import Derived.Test.YtpgecdidddoglaaRbQRsW
set_option linter.unusedVariables false
set_option linter.unusedSimpArgs false
namespace Go.Proofs.Ytpgecdidddoglaa.GalP
open Go.RowKit Go.Proofs.Ytpgecdidddoglaa.P Go.Proofs.YtpgecdidddoglaaW.PrintWords Go.Proofs.YtpgecdidddoglaaW.PrintLast Go.Proofs.YtpgecdidddoglaaW.PrintMore Go.Proofs.YtpgecdidddoglaaW.Q
open Go.Proofs.Ytpgecdidddoglaa.Gal
theorem cntB_congr {P Q : Nat → Bool} : ∀ c i,(∀ k,i ≤ k → k < i + c → P k = Q k) → cntB P c i = cntB Q c i := by
  intro c
  induction c with
  | zero => intro i _; rfl
  | succ c ih => intro i e; rw [cntB,cntB,e i (Nat.le_refl _) (by omega),ih (i + 1) (fun k h1 h2 => e k (by omega) (by omega))]
structure Hs (m P : Nat) (w out : List Nat) (named gone : List Bool) (er : List Int) (cost : Nat) : Prop where
  lo : out.length = w.length
  ho : ∀ y ∈ out,y < 2 ^ m
  ln : named.length = w.length
  lg : gone.length = w.length
  un : ∀ k,out.getD k 0 ≠ w.getD k 0 → named.getD k false = true
  gn : ∀ k,gone.getD k false = true → named.getD k false = true
  pe : plN w.length er (List.replicate w.length false) 0 = some (gone,cntT gone w.length 0)
  co : cost = 2 * cntB (fun k => named.getD k false && !gone.getD k false) w.length 0 + cntT gone w.length 0
  le : cost ≤ P
  lr : er.length = cntT gone w.length 0
theorem rep_false (L k : Nat) : (List.replicate L false).getD k false = false := by
  simp only [List.getD_eq_getElem?_getD,List.getElem?_replicate]
  split <;> rfl
theorem Hs.start {m P : Nat} {w : List Nat} (hw : ∀ y ∈ w,y < 2 ^ m) : Hs m P w w (List.replicate w.length false) (List.replicate w.length false) [] 0 := by
  refine ⟨rfl,hw,List.length_replicate ..,List.length_replicate ..,fun k h => absurd rfl h,fun k h => h,?_,?_,Nat.zero_le _,(cntT_none ..).symm⟩
  · rw [cntT_none]; rfl
  · rw [cntT_none]
    have : ∀ c i,cntB (fun k => (List.replicate w.length false).getD k false && !(List.replicate w.length false).getD k false) c i = 0 := by
      intro c
      induction c with
      | zero => intro i; rfl
      | succ c ih => intro i; rw [cntB,ih,rep_false]; rfl
    rw [this]
section
variable {m P : Nat} {w out : List Nat} {named gone : List Bool} {er : List Int} {cost : Nat} (h : Hs m P w out named gone er cost) {a v : Nat} (ha : a < w.length) (hn : ¬ named.getD a false = true) (hv : v < 2 ^ m)
include h ha hn hv
end
theorem wr_le (W Z : List Nat) (gone named : List Bool) (h : ∀ k,W.getD k 0 ≠ Z.getD k 0 → named.getD k false = true) : ∀ c i q,wrN W Z gone c i q ≤ q + cntB (fun k => named.getD k false && !gone.getD k false) c i := by
  intro c
  induction c with
  | zero => intro i q; exact Nat.le_refl _
  | succ c ih =>
    intro i q
    rw [wrN,cntB]
    by_cases a : Z.getD i 0 = W.getD i 0
    · rw [if_pos a]
      have := ih (i + 1) q
      omega
    · rw [if_neg a]
      have hn := h i (fun e => a e.symm)
      by_cases g : gone.getD i false = true
      · rw [if_pos g]
        have := ih (i + 1) q
        omega
      · have g' : gone.getD i false = false := by
          cases e : gone.getD i false with
          | false => rfl
          | true => exact absurd e g
        rw [if_neg g,hn,g']
        have := ih (i + 1) (q + 1)
        show _ ≤ q + (1 + _)
        omega
end Go.Proofs.Ytpgecdidddoglaa.GalP
