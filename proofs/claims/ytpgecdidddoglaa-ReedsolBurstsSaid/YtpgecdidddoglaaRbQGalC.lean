/- Fields: what Check and New of the printed functions say, in plain words; the example that every statement begins with. -/
import Derived.Test.YtpgecdidddoglaaRbPx1
import Derived.Test.YtpgecdidddoglaaRbPx4
import Derived.Test.YtpgecdidddoglaaRbPx5
import Derived.Test.YtpgecdidddoglaaRbQCkA
import Derived.Test.YtpgecdidddoglaaRbQCkB
import Derived.Test.YtpgecdidddoglaaRbQCkC
import Derived.Test.YtpgecdidddoglaaRbQCkD
import Derived.Test.YtpgecdidddoglaaRbPx6
import Derived.Test.YtpgecdidddoglaaRbPx2
import Derived.Test.YtpgecdidddoglaaRbQAux
set_option linter.unusedVariables false
set_option linter.unusedSimpArgs false
namespace Go.Proofs.Ytpgecdidddoglaa.GalP
open Go.RowKit Go.Proofs.Ytpgecdidddoglaa.P Go.Proofs.YtpgecdidddoglaaW.PrintWords Go.Proofs.YtpgecdidddoglaaW.PrintLast Go.Proofs.YtpgecdidddoglaaW.PrintMore Go.Proofs.YtpgecdidddoglaaW.Q
open Go.Proofs.Ytpgecdidddoglaa.Gal
theorem ev_pos {α : Type} {c : Prop} [Decidable c] {a b : Nat → Option α} {r : α} (h : c) (k : Ev a r) : Ev (fun n => if c then a n else b n) r := Ev.congr (fun n => if_pos h) k
theorem ev_neg {α : Type} {c : Prop} [Decidable c] {a b : Nat → Option α} {r : α} (h : ¬ c) (k : Ev b r) : Ev (fun n => if c then a n else b n) r := Ev.congr (fun n => if_neg h) k
theorem ev_const {α : Type} {o : Option α} {a : α} (h : o = some a) : Ev (fun _ => o) a := ⟨0,fun _ _ => h⟩
theorem wf_u64 {a : Int} (h : (Lit.int .u64 a).wf = true) : 0 ≤ a ∧ a < 18446744073709551616 := by
  have : 0 ≤ a ∧ a ≤ 18446744073709551615 := by simpa [Lit.wf,IntKind.min,IntKind.max,IntKind.signed,IntKind.bits] using h
  omega
theorem wf_i64 {a : Int} (h : (Lit.int .i64 a).wf = true) : -9223372036854775808 ≤ a ∧ a ≤ 9223372036854775807 := by simpa [Lit.wf,IntKind.min,IntKind.max,IntKind.signed,IntKind.bits] using h
theorem blen_half {x : Nat} (h : x ≠ 0) : Poly.blen x = Poly.blen (x / 2) + 1 := by
  by_cases c : x = 1
  · subst c; decide +kernel
  · have := Poly.blen_div (x := x) (s := 1) (by omega)
    rw [Nat.pow_one] at this
    omega
theorem blen64 {x : Nat} (h : x < 18446744073709551616) : Poly.blen x ≤ 64 := by
  by_cases c : x = 0
  · subst c; decide +kernel
  · rcases Nat.lt_or_ge 64 (Poly.blen x) with h1 | h1
    · have h2 := Poly.blen_le c
      have h3 : 2 ^ 64 ≤ 2 ^ (Poly.blen x - 1) := Nat.pow_le_pow_right (by omega) (by omega)
      omega
    · exact h1
theorem refDegree_l (b : Nat) : ∀ (x : Nat) (n : Int),Poly.blen x = b → -10 ≤ n → n + b ≤ 1000 → Ev (fun k => r2_Degree.l0 k (x : Int) n) (n + b) := by
  induction b with
  | zero =>
    intro x n hb h1 h2
    have hx : x = 0 := by
      by_cases c : x = 0
      · exact c
      · have := Poly.blen_pos c; omega
    subst hx
    refine Ev.step (f := fun _ => some n) (fun k => ?_) ?_
    · simp only [r2_Degree.l0]
      rw [if_pos (by rfl)]
    · have := Ev.now n
      simpa using this
  | succ b ih =>
    intro x n hb h1 h2
    have hx : x ≠ 0 := by
      intro c
      subst c
      exact absurd hb (by rw [show Poly.blen 0 = 0 by decide +kernel]; omega)
    have h3 := blen_half hx
    have h4 := ih (x / 2) (n + 1) (by omega) (by omega) (by omega)
    refine Ev.step (f := fun k => r2_Degree.l0 k ((x / 2 : Nat) : Int) (n + 1)) (fun k => ?_) ?_
    · simp only [r2_Degree.l0]
      rw [if_neg (by omega)]
      congr 1
      exact w64 (by omega) (by omega)
    · rw [show n + ((b + 1 : Nat) : Int) = n + 1 + (b : Int) by omega]
      exact h4
theorem refDegree_f (x : Nat) (h : x < 18446744073709551616) : Ev (fun k => r2_Degree.f k (x : Int)) ((Poly.blen x : Int) - 1) := by
  have h1 := blen64 h
  have := refDegree_l (Poly.blen x) x (-1) rfl (by omega) (by omega)
  rw [show (Poly.blen x : Int) - 1 = -1 + (Poly.blen x : Int) by omega]
  exact this
theorem polyDegree_f (x : Nat) (h : x < 18446744073709551616) : poly_Degree.f (x : Int) = some ((Poly.blen x : Int) - 1) := by
  have h1 := blen64 h
  unfold poly_Degree.f bits_Len64.f
  rw [if_pos ⟨by omega,by omega⟩]
  simp only [Option.bind_some,Int.toNat_natCast]
  rw [w64 (by omega) (by omega)]
theorem ck_of {p sz : Nat} (h : ckP p sz = true) : ∃ b e,poly_Primitive.f 600 (p : Int) = some (b,0) ∧ r2_Primitive.f 600 (p : Int) = some (b,e) ∧ (b = true → good p sz = true) := ckQ_of h
theorem ck_at (lo n sz : Nat) (h : (List.range n).all (fun i => ckP (lo + i) sz) = true) (p : Nat) (h1 : lo ≤ p) (h2 : p < lo + n) : ckP p sz = true := by
  have := List.all_eq_true.1 h (p - lo) (List.mem_range.2 (by omega))
  rwa [show lo + (p - lo) = p by omega] at this
theorem ck_all (m p : Nat) (h1 : 3 ≤ m) (h2 : m ≤ 8) (h3 : 2 ^ m ≤ p) (h4 : p < 2 ^ (m + 1)) : ckP p (2 ^ m) = true := by
  rcases (show m = 3 ∨ m = 4 ∨ m = 5 ∨ m = 6 ∨ m = 7 ∨ m = 8 by omega) with rfl | rfl | rfl | rfl | rfl | rfl
  · exact ck_at 8 8 8 ck8 p (by omega) (by omega)
  · exact ck_at 16 16 16 ck16 p (by omega) (by omega)
  · exact ck_at 32 32 32 ck32 p (by omega) (by omega)
  · by_cases c : p < 96
    · exact ck_at 64 32 64 ck64 p (by omega) (by omega)
    · exact ck_at 96 32 64 ck96 p (by omega) (by omega)
  · by_cases c1 : p < 160
    · exact ck_at 128 32 128 ck128 p (by omega) (by omega)
    by_cases c2 : p < 192
    · exact ck_at 160 32 128 ck160 p (by omega) (by omega)
    by_cases c3 : p < 224
    · exact ck_at 192 32 128 ck192 p (by omega) (by omega)
    · exact ck_at 224 32 128 ck224 p (by omega) (by omega)
  · by_cases c1 : p < 288
    · exact ck_at 256 32 256 ck256 p (by omega) (by omega)
    by_cases c2 : p < 320
    · exact ck_at 288 32 256 ck288 p (by omega) (by omega)
    by_cases c3 : p < 352
    · exact ck_at 320 32 256 ck320 p (by omega) (by omega)
    by_cases c4 : p < 384
    · exact ck_at 352 32 256 ck352 p (by omega) (by omega)
    by_cases c5 : p < 416
    · exact ck_at 384 32 256 ck384 p (by omega) (by omega)
    by_cases c6 : p < 448
    · exact ck_at 416 32 256 ck416 p (by omega) (by omega)
    by_cases c7 : p < 480
    · exact ck_at 448 32 256 ck448 p (by omega) (by omega)
    · exact ck_at 480 32 256 ck480 p (by omega) (by omega)
theorem blen_iff (p m : Nat) (h : Poly.blen p = m + 1) : 2 ^ m ≤ p ∧ p < 2 ^ (m + 1) := by
  have h0 : p ≠ 0 := by
    intro c
    subst c
    exact absurd h (by rw [show Poly.blen 0 = 0 by decide +kernel]; omega)
  have h1 := Poly.blen_le h0
  have h2 := @Poly.blen_lt p
  rw [h] at h1 h2
  exact ⟨h1,h2⟩
theorem check_f (M P : Int) (hM : -9223372036854775808 ≤ M ∧ M ≤ 9223372036854775807) (hP : 0 ≤ P ∧ P < 18446744073709551616) :
    ∃ c : Int,Ev (fun k => galois_Check.f k M P) c ∧ Ev (fun k => r3_Check.f k M P) c ∧ (c = 320 ∨ c = 0 ∧ ∃ m p : Nat,M = m ∧ P = p ∧ Fi m p) := by
  obtain ⟨p,rfl⟩ : ∃ p : Nat,P = (p : Int) := ⟨P.toNat,by omega⟩
  have hp : p < 18446744073709551616 := by omega
  have bad1 : Ev (fun k => galois_Check.j0 k true M (p : Int)) 320 := Ev.step (f := fun _ => some 320) (fun k => by simp only [galois_Check.j0,if_true]) (Ev.now _)
  have bad2 : Ev (fun k => r3_Check.j0 k true M (p : Int)) 320 := Ev.step (f := fun _ => some 320) (fun k => by simp only [r3_Check.j0,if_true]) (Ev.now _)
  unfold galois_Check.f r3_Check.f
  by_cases c1 : M < 3
  · exact ⟨320,ev_pos c1 bad1,ev_pos c1 bad2,.inl rfl⟩
  by_cases c2 : M > 8
  · exact ⟨320,ev_neg c1 (ev_pos c2 bad1),ev_neg c1 (ev_pos c2 bad2),.inl rfl⟩
  by_cases c3 : (Poly.blen p : Int) - 1 = M
  · obtain ⟨m,rfl⟩ : ∃ m : Nat,M = (m : Int) := ⟨M.toNat,by omega⟩
    obtain ⟨h1,h2⟩ := blen_iff p m (by omega)
    obtain ⟨b,e,k1,k2,k3⟩ := ck_of (ck_all m p (by omega) (by omega) h1 h2)
    have e1 : Ev (fun k => poly_Primitive.f k (p : Int)) (b,0) := Ev.of (fun k => poly_Primitive.mono _ k) k1
    have e2 : Ev (fun k => r2_Primitive.f k (p : Int)) (b,e) := Ev.of (fun k => r2_Primitive.mono _ k) k2
    have hne : (((Poly.blen p : Int) - 1) != (m : Int)) = false := by simp [c3]
    have g1 : Ev (fun k => galois_Check.j0 k (((Poly.blen p : Int) - 1) != (m : Int)) (m : Int) (p : Int)) (if b then 0 else 320) := by
      rw [hne]
      refine Ev.step (f := fun k => (poly_Primitive.f k (p : Int)).bind fun bt => if bt.2 = 0 then (if bt.1 = true then some 0 else some 320) else some 320) (fun k => by simp only [galois_Check.j0,Bool.false_eq_true,if_false]) (Ev.bind e1 ?_)
      simp only [if_true]
      cases b
      · exact Ev.now _
      · exact Ev.now _
    have g2 : Ev (fun k => r3_Check.j0 k (((Poly.blen p : Int) - 1) != (m : Int)) (m : Int) (p : Int)) (if b then 0 else 320) := by
      rw [hne]
      refine Ev.step (f := fun k => (r2_Primitive.f k (p : Int)).bind fun bt => if bt.1 = true then some 0 else some 320) (fun k => by simp only [r3_Check.j0,Bool.false_eq_true,if_false]) (Ev.bind e2 ?_)
      cases b
      · exact Ev.now _
      · exact Ev.now _
    refine ⟨if b then 0 else 320,ev_neg c1 (ev_neg c2 ?_),ev_neg c1 (ev_neg c2 ?_),?_⟩
    · refine Ev.bind (ev_const (polyDegree_f p hp)) g1
    · exact Ev.bind (refDegree_f p hp) g2
    · cases b
      · exact .inl rfl
      · exact .inr ⟨rfl,m,p,rfl,rfl,h1,h2,by omega,by omega,fld_of_good (by have : 2 ^ 3 ≤ 2 ^ m := Nat.pow_le_pow_right (by omega) (by omega); omega) (k3 rfl)⟩
  · have hne : (((Poly.blen p : Int) - 1) != M) = true := by simp [c3]
    refine ⟨320,ev_neg c1 (ev_neg c2 (Ev.bind (ev_const (polyDegree_f p hp)) ?_)),ev_neg c1 (ev_neg c2 (Ev.bind (refDegree_f p hp) ?_)),.inl rfl⟩
    · rw [hne]; exact bad1
    · rw [hne]; exact bad2
theorem gxn_pw (P sz n : Nat) : gxn P sz n = pw P sz n := by
  induction n with
  | zero => rfl
  | succ n ih =>
    unfold gxn pw stp
    rw [ih]
theorem glg_lgn (P sz n x : Nat) : glg P sz n x = lgn P sz n x := by
  induction n with
  | zero => rfl
  | succ n ih =>
    unfold glg lgn
    rw [ih,gxn_pw]
def tab (m p : Nat) : GTab := GTab.of p (2 ^ m)
theorem new_ok {m p : Nat} (F : Fi m p) (h : Ev (fun k => galois_Check.f k (m : Int) (p : Int)) 0) : Ev (fun k => galois_New.f k (m : Int) (p : Int)) (tab m p,0) := by
  unfold galois_New.f
  refine Ev.bind h ?_
  refine ev_pos rfl (ev_pos ?_ (Ev.now _))
  have h1 := F.hi
  have h2 : 2 ^ (m + 1) ≤ 2 ^ 9 := Nat.pow_le_pow_right (by omega) (by have := F.eight; omega)
  refine ⟨by have := F.three; omega,by have := F.eight; omega,by omega,by omega,fun n _ => ?_⟩
  simp only [Int.toNat_natCast]
  rw [gxn_pw]
  exact F.pw_lt n
end Go.Proofs.Ytpgecdidddoglaa.GalP
