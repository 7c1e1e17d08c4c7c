/- Reedsol: what Decode answers, in words: the data of the near code word, or that there is none. Plain numbers. -/
import Derived.Test.YtpgecdidddoglaaRbQRsZ
set_option linter.unusedVariables false
set_option linter.unusedSimpArgs false
namespace Go.Proofs.Ytpgecdidddoglaa.GalP
open Go.RowKit Go.Proofs.Ytpgecdidddoglaa.P Go.Proofs.YtpgecdidddoglaaW.PrintWords Go.Proofs.YtpgecdidddoglaaW.PrintLast Go.Proofs.YtpgecdidddoglaaW.PrintMore Go.Proofs.YtpgecdidddoglaaW.Q
open Go.Proofs.Ytpgecdidddoglaa.Gal
theorem getD_setB (g : List Bool) (p : Nat) (v : Bool) (i : Nat) : (g.set p v).getD i false = if i = p ∧ p < g.length then v else g.getD i false := by
  simp only [List.getD_eq_getElem?_getD,List.getElem?_set]
  by_cases c : p = i
  · subst c
    by_cases h : p < g.length
    · simp [h]
    · rw [if_pos rfl,if_neg h,if_neg (by omega),List.getElem?_eq_none (by omega)]
  · rw [if_neg c,if_neg (by omega)]
theorem cntT_congr (g h : List Bool) : ∀ c i,(∀ k,i ≤ k → k < i + c → g.getD k false = h.getD k false) → cntT g c i = cntT h c i := by
  intro c
  induction c with
  | zero => intro i _; rfl
  | succ c ih => intro i e; rw [cntT,cntT,e i (Nat.le_refl _) (by omega),ih (i + 1) (fun k h1 h2 => e k (by omega) (by omega))]
theorem cntT_set {g : List Bool} {p : Nat} (hp : p < g.length) (h0 : ¬ g.getD p false = true) : ∀ c i,i ≤ p → p < i + c → cntT (g.set p true) c i = cntT g c i + 1 := by
  intro c
  induction c with
  | zero => intro i h1 h2; omega
  | succ c ih =>
    intro i h1 h2
    by_cases e : i = p
    · subst e
      have e1 : (g.set i true).getD i false = true := by rw [getD_setB,if_pos ⟨rfl,hp⟩]
      rw [cntT,cntT,e1,if_pos rfl,if_neg h0,cntT_congr (g.set i true) g c (i + 1) (fun k h3 h4 => by rw [getD_setB,if_neg (by omega)])]
      omega
    · have e1 : (g.set p true).getD i false = g.getD i false := by rw [getD_setB,if_neg (fun h => e h.1)]
      rw [cntT,cntT,e1,ih (i + 1) (by omega) (by omega)]
      omega
theorem cntT_none (len : Nat) : ∀ c i,cntT (List.replicate len false) c i = 0 := by
  intro c
  induction c with
  | zero => intro i; rfl
  | succ c ih =>
    intro i
    have h : (List.replicate len false).getD i false = false := by
      simp only [List.getD_eq_getElem?_getD,List.getElem?_replicate]
      split <;> rfl
    rw [cntT,h,if_neg Bool.false_ne_true,ih]
theorem plN_cnt (len : Nat) (l : List Int) : ∀ g q z,plN len l g q = some z → g.length = len → cntT z.1 len 0 + q = cntT g len 0 + z.2 := by
  induction l with
  | nil => intro g q z h _; rw [plN] at h; rw [← Option.some.inj h]
  | cons e l ih =>
    intro g q z h hg
    rw [plN] at h
    by_cases c : e < 0 ∨ (len : Int) ≤ e
    · rw [if_pos c] at h; exact absurd h (by simp)
    · rw [if_neg c] at h
      by_cases t : g.getD e.toNat false = true
      · rw [if_pos t] at h
        exact ih g q z h hg
      · rw [if_neg t] at h
        have h1 := ih _ _ z h (by rw [List.length_set]; exact hg)
        rw [cntT_set (by omega) t len 0 (Nat.zero_le _) (by omega)] at h1
        omega
theorem plN_fc {len : Nat} {l : List Int} {z : List Bool × Nat} (h : plN len l (List.replicate len false) 0 = some z) : cntT z.1 len 0 = z.2 := by
  have := plN_cnt len l _ _ z h (List.length_replicate ..)
  rw [cntT_none] at this
  omega
theorem plN_gone (len : Nat) (l : List Int) : ∀ g q z,plN len l g q = some z → g.length = len → ∀ k : Nat,k < len → (z.1.getD k false = true ↔ g.getD k false = true ∨ (k : Int) ∈ l) := by
  induction l with
  | nil => intro g q z h _ k _; rw [plN] at h; rw [← Option.some.inj h]; exact ⟨.inl,fun h => h.elim id (fun h => by cases h)⟩
  | cons e l ih =>
    intro g q z h hg k hk
    rw [plN] at h
    by_cases c : e < 0 ∨ (len : Int) ≤ e
    · rw [if_pos c] at h; exact absurd h (by simp)
    · rw [if_neg c] at h
      have he : (k : Int) = e ↔ k = e.toNat := by omega
      by_cases t : g.getD e.toNat false = true
      · rw [if_pos t] at h
        rw [ih g q z h hg k hk,List.mem_cons,he]
        constructor
        · rintro (h1 | h1)
          · exact .inl h1
          · exact .inr (.inr h1)
        · rintro (h1 | h1 | h1)
          · exact .inl h1
          · exact .inl (h1 ▸ t)
          · exact .inr h1
      · rw [if_neg t] at h
        rw [ih _ _ z h (by rw [List.length_set]; exact hg) k hk,List.mem_cons,he,getD_setB]
        constructor
        · rintro (h1 | h1)
          · by_cases d : k = e.toNat
            · exact .inr (.inl d)
            · rw [if_neg (fun h => d h.1)] at h1; exact .inl h1
          · exact .inr (.inr h1)
        · rintro (h1 | h1 | h1)
          · left; split
            · rfl
            · exact h1
          · left; rw [if_pos ⟨h1,by omega⟩]
          · exact .inr h1
structure Near (p m f n : Nat) (W : List Nat) (gone : List Bool) (fc : Nat) (Z : List Nat) : Prop where
  lt : ∀ y ∈ Z,y < 2 ^ m
  len : Z.length = W.length
  syn : syn p m f n Z = List.replicate n 0
  few : 2 * wrN W Z gone W.length 0 0 + fc ≤ n
section
variable {m p f n : Nat} (C : Cd m p f n) {W : List Nat} (hW : ∀ y ∈ W,y < 2 ^ m) (lW : W.length ≤ 2 ^ m - 1) {gone : List Bool} (lg : gone.length = W.length) {fc : Nat} (hc : cntT gone W.length 0 = fc)
include C hW lW lg hc
theorem near_mend {Z : List Nat} (h : Near p m f n W gone fc Z) : mendN p m f n W gone fc = (Z,true) := mend_near C hW h.lt h.len lW h.syn lg hc h.few
end
end Go.Proofs.Ytpgecdidddoglaa.GalP
