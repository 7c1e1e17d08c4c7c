/- Frames: what Check, Length, Valid and Build come to, the program's and the document's. -/
import Derived.Test.YtaoeehnnboegnaaFpPx4
import Derived.Test.YtaoeehnnboegnaaFpPx8
import Derived.Test.YtaoeehnnboegnaaFpPx8
import Derived.Test.YtaoeehnnboegnaaFpPx5
import Derived.Test.YtaoeehnnboegnaaFpQFBit
import Derived.Test.YtaoeehnnboegnaaFpQFCrcP
import Derived.Test.YtaoeehnnboegnaaFpQCrcB
set_option linter.unusedVariables false
set_option linter.unusedSimpArgs false
namespace Go.Proofs.Ytaoeehnnboegnaa.Frm
open Go.RowKit Go.Proofs.Ytaoeehnnboegnaa.P Go.Proofs.YtaoeehnnboegnaaW.PrintWords Go.Proofs.YtaoeehnnboegnaaW.PrintLast Go.Proofs.YtaoeehnnboegnaaW.PrintMore Go.Proofs.YtaoeehnnboegnaaW.Q
open Go.Proofs.Ytaoeehnnboegnaa.Crc (okI okI_nat okN okI_width layl crc unsealed layl_length layl_lt)
theorem evP {α : Type} {c : Prop} [Decidable c] {a b : Nat → Option α} {r : α} (h : c) (k : Ev a r) : Ev (fun n => if c then a n else b n) r := Ev.congr (fun n => if_pos h) k
theorem evN {α : Type} {c : Prop} [Decidable c] {a b : Nat → Option α} {r : α} (h : ¬ c) (k : Ev b r) : Ev (fun n => if c then a n else b n) r := Ev.congr (fun n => if_neg h) k
theorem evC {α : Type} {o : Option α} {a : α} (h : o = some a) : Ev (fun _ => o) a := ⟨0, fun _ _ => h⟩
theorem evB {α β : Type} {g : Option α} {f : Nat → α → Option β} {a : α} {r : β} (h : g = some a) (k : Ev (fun n => f n a) r) : Ev (fun n => g.bind (f n)) r := Ev.bind (evC h) k
/-- Is it a format? -/
def chk (b a0 a1 a2 a3 : Int) : Int := if b < 0 then 1 else if b > 64 then 1 else if okI a0 a1 a2 a3 then 0 else 30
def kdE (K S : Int) (m : Nat) : Int := if K = 1 then (if S = 0 then (if (m : Int) > 0 then 240 else 0) else 240) else if K = 2 then 0 else 241
/-- Is it a frame? -/
def vldE (b a0 a1 a2 a3 K S : Int) (m : Nat) : Int := if chk b a0 a1 a2 a3 = 0 then (if kdE K S m = 241 then kdE K S m else if (m : Int) > b then 6 else kdE K S m) else chk b a0 a1 a2 a3
theorem crcCheck_ev (a0 a1 a2 a3 : Int) (R : Bool) : Ev (fun k => crc_Check.f k a0 a1 a2 a3 R) (if okI a0 a1 a2 a3 then 0 else 30) := Ev.of (fun k => crc_Check.mono _ _ _ _ _ k) (crc_Check_f a0 a1 a2 a3 R)
theorem Check_ev (b a0 a1 a2 a3 : Int) (R : Bool) : Ev (fun k => frame_Check.f k b a0 a1 a2 a3 R) (chk b a0 a1 a2 a3) := by
  unfold frame_Check.f chk
  by_cases h1 : b < 0
  · rw [if_pos h1]
    exact evP h1 (Ev.now _)
  rw [if_neg h1]
  refine evN h1 ?_
  by_cases h2 : b > 64
  · rw [if_pos h2]
    exact evP h2 (Ev.now _)
  rw [if_neg h2]
  refine evN h2 ?_
  exact Ev.bind (crcCheck_ev a0 a1 a2 a3 R) (Ev.now _)
/-- Numbers of 32 bits. -/
def u32 (a : Int) : Prop := 0 ≤ a ∧ a < 4294967296
theorem RCheck_ev (b a0 a1 a2 a3 : Int) (R : Bool) (h1 : u32 a1) (h2 : u32 a2) (h3 : u32 a3) : Ev (fun k => outpostref24_Check.f k b a0 a1 a2 a3 R) (chk b a0 a1 a2 a3) := by
  unfold outpostref24_Check.f chk
  by_cases g1 : b < 0
  · rw [if_pos g1]
    exact evP g1 (Ev.now _)
  rw [if_neg g1]
  refine evN g1 ?_
  by_cases g2 : b > 64
  · rw [if_pos g2]
    exact evP g2 (Ev.now _)
  rw [if_neg g2]
  refine evN g2 ?_
  exact Ev.bind (Crc.refCheck_ev R h1 h2 h3) (Ev.now _)
theorem kinded_f (K S A : Int) (D : List Int) : frame_kinded.f K S A D = some (kdE K S D.length) := by
  unfold frame_kinded.f kdE
  repeat' split
  all_goals rfl
theorem Valid_ev (b a0 a1 a2 a3 : Int) (R : Bool) (K S A : Int) (D : List Int) : Ev (fun k => frame_Valid.f k b a0 a1 a2 a3 R K S A D) (vldE b a0 a1 a2 a3 K S D.length) := by
  unfold frame_Valid.f
  refine Ev.bind (Check_ev b a0 a1 a2 a3 R) ?_
  by_cases h0 : chk b a0 a1 a2 a3 = 0
  · by_cases h1 : kdE K S D.length = 241
    · rw [show vldE b a0 a1 a2 a3 K S D.length = kdE K S D.length by unfold vldE; rw [if_pos h0, if_pos h1]]
      exact evP h0 (evB (kinded_f K S A D) (evP h1 (Ev.now _)))
    by_cases h2 : (D.length : Int) > b
    · rw [show vldE b a0 a1 a2 a3 K S D.length = 6 by unfold vldE; rw [if_pos h0, if_neg h1, if_pos h2]]
      exact evP h0 (evB (kinded_f K S A D) (evN h1 (evP h2 (Ev.now _))))
    rw [show vldE b a0 a1 a2 a3 K S D.length = kdE K S D.length by unfold vldE; rw [if_pos h0, if_neg h1, if_neg h2]]
    exact evP h0 (evB (kinded_f K S A D) (evN h1 (evN h2 (Ev.now _))))
  rw [show vldE b a0 a1 a2 a3 K S D.length = chk b a0 a1 a2 a3 by unfold vldE; rw [if_neg h0]]
  exact evN h0 (Ev.now _)
theorem RValid_ev (b a0 a1 a2 a3 : Int) (R : Bool) (h1 : u32 a1) (h2 : u32 a2) (h3 : u32 a3) (K S A : Int) (D : List Int) : Ev (fun k => outpostref24_Valid.f k b a0 a1 a2 a3 R K S A D) (vldE b a0 a1 a2 a3 K S D.length) := by
  unfold outpostref24_Valid.f
  refine Ev.bind (RCheck_ev b a0 a1 a2 a3 R h1 h2 h3) ?_
  by_cases h0 : chk b a0 a1 a2 a3 = 0
  · rw [show vldE b a0 a1 a2 a3 K S D.length = (if kdE K S D.length = 241 then kdE K S D.length else if (D.length : Int) > b then 6 else kdE K S D.length) by unfold vldE; rw [if_pos h0]]
    refine evP h0 ?_
    by_cases k1 : K = 1
    · refine evP k1 (Ev.succ ?_)
      simp only [outpostref24_Valid.j0, Bool.false_eq_true, if_false]
      refine evC ?_
      subst k1
      unfold kdE
      simp only [if_true]
      repeat' split
      all_goals first | rfl | omega
    · refine evN k1 (Ev.succ ?_)
      simp only [outpostref24_Valid.j0]
      refine evC ?_
      unfold kdE
      by_cases k2 : K = 2
      · subst k2
        simp
        split <;> rfl
      · simp [k1, k2]
  rw [show vldE b a0 a1 a2 a3 K S D.length = chk b a0 a1 a2 a3 by unfold vldE; rw [if_neg h0]]
  exact evN h0 (Ev.now _)
/-- What a length is. -/
def lenE (b a0 a1 a2 a3 : Int) : Int × Int := if chk b a0 a1 a2 a3 = 0 then (wrap64 ((wrap64 (8 * (wrap64 (10 + b)))) + a0), 0) else (0, chk b a0 a1 a2 a3)
theorem Length_ev (b a0 a1 a2 a3 : Int) (R : Bool) : Ev (fun k => frame_Length.f k b a0 a1 a2 a3 R) (lenE b a0 a1 a2 a3) := by
  unfold frame_Length.f
  refine Ev.bind (Check_ev b a0 a1 a2 a3 R) ?_
  by_cases h0 : chk b a0 a1 a2 a3 = 0
  · rw [show lenE b a0 a1 a2 a3 = (wrap64 ((wrap64 (8 * (wrap64 (10 + b)))) + a0), 0) from if_pos h0]
    exact evP h0 (Ev.now _)
  rw [show lenE b a0 a1 a2 a3 = (0, chk b a0 a1 a2 a3) from if_neg h0]
  exact evN h0 (Ev.now _)
theorem RLength_ev (b a0 a1 a2 a3 : Int) (R : Bool) (h1 : u32 a1) (h2 : u32 a2) (h3 : u32 a3) : Ev (fun k => outpostref24_Length.f k b a0 a1 a2 a3 R) (lenE b a0 a1 a2 a3) := by
  unfold outpostref24_Length.f
  refine Ev.bind (RCheck_ev b a0 a1 a2 a3 R h1 h2 h3) ?_
  by_cases h0 : chk b a0 a1 a2 a3 = 0
  · rw [show lenE b a0 a1 a2 a3 = (wrap64 ((wrap64 (8 * (wrap64 (10 + b)))) + a0), 0) from if_pos h0]
    exact evP h0 (Ev.now _)
  rw [show lenE b a0 a1 a2 a3 = (0, chk b a0 a1 a2 a3) from if_neg h0]
  exact evN h0 (Ev.now _)
/-- A format that is one. -/
theorem chk_zero {b a0 a1 a2 a3 : Int} (h1 : u32 a1) (h2 : u32 a2) (h3 : u32 a3) (h : chk b a0 a1 a2 a3 = 0) : ∃ n W P I O : Nat, b = n ∧ a0 = W ∧ a1 = P ∧ a2 = I ∧ a3 = O ∧ n ≤ 64 ∧ okN W P I O := by
  unfold chk at h
  split at h
  · exact absurd h (by decide)
  split at h
  · exact absurd h (by decide)
  split at h
  · rename_i g1 g2 g3
    have hw := okI_width g3
    obtain ⟨n, rfl⟩ := Int.eq_ofNat_of_zero_le (show 0 ≤ b by omega)
    obtain ⟨W, rfl⟩ := Int.eq_ofNat_of_zero_le (show 0 ≤ a0 by omega)
    obtain ⟨P, rfl⟩ := Int.eq_ofNat_of_zero_le h1.1
    obtain ⟨I, rfl⟩ := Int.eq_ofNat_of_zero_le h2.1
    obtain ⟨O, rfl⟩ := Int.eq_ofNat_of_zero_le h3.1
    exact ⟨n, W, P, I, O, rfl, rfl, rfl, rfl, rfl, by omega, (okI_nat W P I O).1 g3⟩
  · exact absurd h (by decide)
theorem chk_ok {n W P I O : Nat} (hn : n ≤ 64) (hs : okN W P I O) : chk n W P I O = 0 := by
  unfold chk
  rw [if_neg (by omega), if_neg (by omega), if_pos ((okI_nat W P I O).2 hs)]
/-! ### What is built -/
def four (n : Nat) : List Nat := [n / 16777216 % 256, n / 65536 % 256, n / 256 % 256, n % 256]
/-- The head of a frame, and its data. -/
def hd (K S A : Nat) (D : List Nat) : List Nat := K :: (four S ++ four A) ++ [D.length] ++ D
def body (K S A : Nat) (D : List Nat) (n : Nat) : List Nat := hd K S A D ++ List.replicate (n - D.length) 0
theorem hd_length (K S A : Nat) (D : List Nat) : (hd K S A D).length = 10 + D.length := by simp [hd, four]; omega
theorem body_length {K S A n : Nat} {D : List Nat} (h : D.length ≤ n) : (body K S A D n).length = 10 + n := by simp [body, hd_length]; omega
theorem four_lt (n : Nat) : ∀ x ∈ four n, x < 256 := by
  intro x hx
  simp [four] at hx
  omega
theorem hd_lt {K S A : Nat} {D : List Nat} (hK : K < 256) (hD : ∀ x ∈ D, x < 256) (hl : D.length < 256) : ∀ x ∈ hd K S A D, x < 256 := by
  intro x hx
  simp only [hd, List.mem_append, List.mem_cons, List.not_mem_nil, or_false] at hx
  rcases hx with ((rfl | h | h) | rfl) | h
  · exact hK
  · exact four_lt _ _ h
  · exact four_lt _ _ h
  · exact hl
  · exact hD _ h
theorem body_lt {K S A n : Nat} {D : List Nat} (hK : K < 256) (hD : ∀ x ∈ D, x < 256) (hl : D.length < 256) : ∀ x ∈ body K S A D n, x < 256 := by
  intro x hx
  rcases List.mem_append.1 hx with h | h
  · exact hd_lt hK hD hl x h
  · rw [List.mem_replicate] at h
    omega
/-- A string, sealed. -/
def sld (R : Bool) (W P I O : Nat) (B : List Nat) : List Nat := B ++ layl R (W / 8) (crc R W P I O B)
def bitsOfB (X : List Nat) : List Nat := unpack X (8 * X.length)
theorem sld_length (R : Bool) (W P I O : Nat) (B : List Nat) : (sld R W P I O B).length = B.length + W / 8 := by simp [sld, layl_length]
theorem sld_lt {R : Bool} {W P I O : Nat} {B : List Nat} (h : ∀ x ∈ B, x < 256) : ∀ x ∈ sld R W P I O B, x < 256 := by
  intro x hx
  rcases List.mem_append.1 hx with g | g
  · exact h x g
  · exact layl_lt _ _ _ x g
theorem ints_four (S : Nat) : ints (four S) = [(S : Int) / 16777216 % 256, (S : Int) / 65536 % 256, (S : Int) / 256 % 256, (S : Int) % 256] := by simp [ints, four]
theorem lay_ev (K S A : Nat) (hK : K < 256) : Ev (fun k => frame_lay.f k ([((K : Int)) % 256]) ([(S : Int), (A : Int)])) (ints (K :: (four S ++ four A))) := by
  unfold frame_lay.f
  have hk : (K : Int) % 256 = K := by omega
  have hw : wrap64 (0 + 1) = 1 := w64 (by omega) (by omega)
  have hw2 : wrap64 (1 + 1) = 2 := w64 (by omega) (by omega)
  rw [hk]
  refine Ev.succ ?_
  simp only [frame_lay.l0]
  refine evP (by simp) ?_
  refine evP (by simp) ?_
  refine evP (by simp) ?_
  refine evB rfl ?_
  refine evP (by simp) ?_
  rw [hw]
  refine Ev.succ ?_
  simp only [frame_lay.l0]
  refine evP (by simp) ?_
  refine evP (by simp) ?_
  refine evP (by simp) ?_
  refine evB rfl ?_
  refine evP (by simp) ?_
  rw [hw2]
  refine Ev.succ ?_
  simp only [frame_lay.l0]
  refine evN (by simp) ?_
  refine evC (congrArg some ?_)
  rw [ints_cons, ints_append, ints_four, ints_four]
  rfl
theorem Build_ev {n W P I O K S A : Nat} {R : Bool} {D : List Nat} (hn : n ≤ 64) (hs : okN W P I O) (hK : K < 256) (hD : ∀ x ∈ D, x < 256) (hl : D.length ≤ n) (hv : vldE n W P I O K S D.length = 0) :
    Ev (fun k => frame_Build.f k n W P I O R K S A (ints D)) (ints (bitsOfB (sld R W P I O (body K S A D n))), 0) := by
  unfold frame_Build.f
  have hb := body_lt (S := S) (A := A) (n := n) hK hD (by omega)
  have hbl := body_length (K := K) (S := S) (A := A) hl
  have hW : W / 8 ≤ 4 := by rcases hs.1 with h | h | h | h <;> omega
  have hV := Valid_ev n W P I O R K S A (ints D)
  rw [ints_length, hv] at hV
  refine Ev.bind hV ?_
  refine evP rfl ?_
  refine Ev.bind (lay_ev K S A hK) ?_
  have hh : (ints (K :: (four S ++ four A))).length = 9 := by simp [ints, four]
  refine evP (by rw [hh]; omega) ?_
  refine evB rfl ?_
  have hm : ((ints D).length : Int) % 256 = ((D.length : Nat) : Int) := by rw [ints_length]; omega
  have e1 : ints (K :: (four S ++ four A)) ++ [((ints D).length : Int) % 256] ++ ints D = ints (hd K S A D) := by
    rw [hm]
    simp [hd, ints]
  have l1 : (ints (K :: (four S ++ four A)) ++ [((ints D).length : Int) % 256]).length = 10 := by rw [List.length_append, hh]; rfl
  refine evP (by rw [l1, ints_length]; omega) ?_
  refine evB rfl ?_
  rw [e1]
  have lh : (ints (hd K S A D)).length = 10 + D.length := by rw [ints_length, hd_length]
  have hw : wrap64 (wrap64 (10 + (n : Int)) - ((ints (hd K S A D)).length : Int)) = ((n - D.length : Nat) : Int) := by
    rw [lh, w64 (n := 10 + (n : Int)) (by omega) (by omega), w64 (by omega) (by omega)]
    omega
  rw [hw]
  refine evP (by omega) ?_
  refine evP (by rw [lh]; omega) ?_
  have e2 : ints (hd K S A D) ++ List.replicate ((n - D.length : Nat) : Int).toNat 0 = Crc.ints (body K S A D n) := by
    rw [Int.toNat_natCast]
    show _ = ints _
    rw [body, ints_append, ints_replicate]
  refine evB ((congrArg (crc_Seal.f W P I O R) e2).trans (Crc.Seal_f hs _ hb (by omega))) ?_
  have lx := sld_length R W P I O (body K S A D n)
  have hu := Unpack_f (sld R W P I O (body K S A D n)) ((8 * (sld R W P I O (body K S A D n)).length : Nat) : Int) (by omega) (sld_lt hb) (by omega)
  have hw2 : wrap64 (8 * ((ints (sld R W P I O (body K S A D n))).length : Int)) = ((8 * (sld R W P I O (body K S A D n)).length : Nat) : Int) := by
    rw [ints_length, w64 (by omega) (by omega)]
    omega
  have hu2 : unp (sld R W P I O (body K S A D n)) ((8 * (sld R W P I O (body K S A D n)).length : Nat) : Int) = (ints (bitsOfB (sld R W P I O (body K S A D n))), 0) := by
    unfold unp
    rw [if_neg (by omega), if_neg (by omega), Int.toNat_natCast]
    rfl
  rw [hu2, ← hw2] at hu
  exact Ev.bind hu (Ev.now _)
theorem Build_bad {b a0 a1 a2 a3 K S A : Int} {R : Bool} {D : List Int} (hv : vldE b a0 a1 a2 a3 K S D.length ≠ 0) : Ev (fun k => frame_Build.f k b a0 a1 a2 a3 R K S A D) ([], vldE b a0 a1 a2 a3 K S D.length) := by
  unfold frame_Build.f
  refine Ev.bind (Valid_ev b a0 a1 a2 a3 R K S A D) ?_
  exact evN hv (Ev.now _)
end Go.Proofs.Ytaoeehnnboegnaa.Frm
