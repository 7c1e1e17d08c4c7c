/- For every spec, every two sums and every length: Join is the document's. The plain law of CrcJoins; no condition. -/
import Derived.Test.YtejlmodoghglbaaCjPx17
import Derived.Test.YtejlmodoghglbaaCjQCrcR
import Derived.Test.YtejlmodoghglbaaCjQModP
namespace Go.Proofs.Ytejlmodoghglbaa.Crc
open Go.RowKit Go.Proofs.Ytejlmodoghglbaa.P Go.Proofs.YtejlmodoghglbaaW.PrintWords Go.Proofs.YtejlmodoghglbaaW.PrintLast Go.Proofs.YtejlmodoghglbaaW.PrintMore
open Go.Proofs.Ytejlmodoghglbaa.Mod Go.Proofs.Ytejlmodoghglbaa.ModP
open Go.Proofs.YtejlmodoghglbaaW.Q (Ev.succ w64 w64s wu64)
theorem mo_of {W P I O : Nat} (hs : okN W P I O) : Mo W (2 ^ W + P) := by
  have h1 := hs.1
  have h2 := hs.2.1
  exact ⟨by omega, by omega, by rw [Nat.pow_succ]; omega⟩
theorem back_f {W P I O a : Nat} {R : Bool} (hs : okN W P I O) (ha : a < 2 ^ W) : Ev (fun k => outpostref03_back.f k W P I O R (a : Int)) ((turn R W (a ^^^ O) : Nat) : Int) := by
  have hW : W ≤ 32 := by have := hs.1; omega
  have hw : 2 ^ W ≤ 2 ^ 32 := Nat.pow_le_pow_right (by omega) hW
  have hO := hs.2.2.2.1
  have hx : a ^^^ O < 2 ^ W := Nat.xor_lt_two_pow ha hO
  have e : IntKind.u64.wrap (Go.bits .xor .u32 (a : Int) (O : Int)) = ((a ^^^ O : Nat) : Int) := by
    rw [bxor32 _ _ (by omega) (by omega), wu64 (by omega) (by omega)]
  have m : Ev (fun k => outpostref03_mirrored.f k W P I O R ((a ^^^ O : Nat) : Int)) ((turn R W (a ^^^ O) : Nat) : Int) := by
    cases R
    · simp only [outpostref03_mirrored.f, Bool.false_eq_true, if_false, turn]
      exact Ev.now _
    · have nx := mirrored_l0 (W := W) (P : Int) (I : Int) (O : Int) true hW (a ^^^ O) (by omega) W 0 (by omega)
      simp only [outpostref03_mirrored.f, if_true, turn]
      exact nx
  unfold outpostref03_back.f
  rw [e]
  exact Ev.bind m (Ev.now _)
theorem over_f {W P I O a : Nat} {R : Bool} (hs : okN W P I O) (ha : a < 4294967296) : outpostref03_over.f W P I O R (a : Int) = some (decide (2 ^ W ≤ a)) := by
  have hW : W ≤ 32 := by have := hs.1; omega
  unfold outpostref03_over.f
  rw [wu64 (n := (W : Int)) (by omega) (by omega), wu64 (n := (a : Int)) (by omega) (by omega), if_pos (by omega), shr64 a W (by omega)]
  congr 1
  have hp := Nat.pow_pos (n := W) (show 0 < 2 by omega)
  have : (((a / 2 ^ W : Nat) : Int) > 0) ↔ 2 ^ W ≤ a := by
    constructor
    · intro h
      rcases Nat.lt_or_ge a (2 ^ W) with c | c
      · rw [Nat.div_eq_of_lt c] at h; omega
      · exact c
    · intro h
      have := Nat.div_pos h hp
      omega
  simp only [this]
theorem join_agree (a0 a1 a2 a3 a b n : Int) (R : Bool) (h1 : 0 ≤ a1 ∧ a1 < 4294967296) (h2 : 0 ≤ a2 ∧ a2 < 4294967296) (h3 : 0 ≤ a3 ∧ a3 < 4294967296)
    (ha : 0 ≤ a ∧ a < 4294967296) (hb : 0 ≤ b ∧ b < 4294967296) (hn : -9223372036854775808 ≤ n ∧ n ≤ 9223372036854775807) :
    ∃ r e : Int, Ev (fun k => crc_Join.f k a0 a1 a2 a3 R a b n) (r, e) ∧ Ev (fun k => outpostref03_Join.f k a0 a1 a2 a3 R a b n) (r, e) := by
  have hc := refCheck_ev (a0 := a0) (a1 := a1) (a2 := a2) (a3 := a3) R h1 h2 h3
  unfold crc_Join.f outpostref03_Join.f
  cases hk : okI a0 a1 a2 a3 with
  | false =>
    rw [hk] at hc
    exact ⟨0, 30, ev_neg (by simp) (Ev.now _), Ev.bind hc (ev_neg (by decide) (Ev.now _))⟩
  | true =>
    rw [hk] at hc
    obtain ⟨W, rfl⟩ : ∃ m : Nat, a0 = (m : Int) := ⟨a0.toNat, by have := okI_width hk; omega⟩
    obtain ⟨P, rfl⟩ : ∃ m : Nat, a1 = (m : Int) := ⟨a1.toNat, by omega⟩
    obtain ⟨I, rfl⟩ : ∃ m : Nat, a2 = (m : Int) := ⟨a2.toNat, by omega⟩
    obtain ⟨O, rfl⟩ : ∃ m : Nat, a3 = (m : Int) := ⟨a3.toNat, by omega⟩
    obtain ⟨x, rfl⟩ : ∃ m : Nat, a = (m : Int) := ⟨a.toNat, by omega⟩
    obtain ⟨y, rfl⟩ : ∃ m : Nat, b = (m : Int) := ⟨b.toNat, by omega⟩
    have hs := (okI_nat W P I O).1 hk
    have hW8 : 8 ≤ W := by have := hs.1; omega
    have hW : W ≤ 32 := by have := hs.1; omega
    have hg : 0 ≤ (P : Int) ∧ 0 ≤ (I : Int) ∧ 0 ≤ (O : Int) ∧ 0 ≤ (x : Int) ∧ 0 ≤ (y : Int) ∧ n < 9223372036854775808 := ⟨by omega, by omega, by omega, by omega, by omega, by omega⟩
    have ox := over_f (R := R) hs (show x < 4294967296 by omega)
    have oy := over_f (R := R) hs (show y < 4294967296 by omega)
    simp only [Int.toNat_natCast, if_true] at hc ⊢
    by_cases c1 : n < 0
    · exact ⟨0, 1, ev_pos hg (ev_pos c1 (Ev.now _)), Ev.bind hc (ev_pos rfl (ev_pos c1 (Ev.now _)))⟩
    have bad : Ev (fun k => outpostref03_Join.j0 k (x : Int) (y : Int) n true (W : Int) (P : Int) (I : Int) (O : Int) R) (0, 11) := Ev.step (f := fun _ => some (0, 11)) (fun k => by simp only [outpostref03_Join.j0, if_true]) (Ev.now _)
    by_cases c2 : 2 ^ W ≤ x
    · refine ⟨0, 11, ev_pos hg (ev_neg c1 (ev_pos (.inl c2) (Ev.now _))), Ev.bind hc (ev_pos rfl (ev_neg c1 ?_))⟩
      rw [ox, decide_eq_true c2]
      simp only [Option.bind_some, if_true]
      exact bad
    by_cases c3 : 2 ^ W ≤ y
    · refine ⟨0, 11, ev_pos hg (ev_neg c1 (ev_pos (.inr c3) (Ev.now _))), Ev.bind hc (ev_pos rfl (ev_neg c1 ?_))⟩
      rw [ox, decide_eq_false c2, oy, decide_eq_true c3]
      simp only [Option.bind_some, Bool.false_eq_true, if_false]
      exact bad
    have F := mo_of hs
    have hw : 2 ^ W ≤ 4294967296 := Nat.pow_le_pow_right (n := 2) (by omega) hW
    have h256 : 2 ^ 8 ≤ 2 ^ W := Nat.pow_le_pow_right (by omega) hW8
    have hx : x < 2 ^ W := by omega
    have hy : y < 2 ^ W := by omega
    have hO := hs.2.2.2.1
    have hI := hs.2.2.1
    have hP := hs.2.1
    obtain ⟨N, rfl⟩ : ∃ m : Nat, n = (m : Int) := ⟨n.toNat, by omega⟩
    have lx : turn R W (x ^^^ O) < 2 ^ W := turn_lt (Nat.xor_lt_two_pow hx hO)
    have ly : turn R W (y ^^^ O) < 2 ^ W := turn_lt (Nat.xor_lt_two_pow hy hO)
    have lxi : turn R W (x ^^^ O) ^^^ I < 2 ^ W := Nat.xor_lt_two_pow lx hI
    have l2 : 2 < 2 ^ W := by omega
    have le := F.npow_lt l2 8
    have lN := F.npow_lt le N
    have hN : N < 18446744073709551616 := by omega
    have lz := F.mm_lt (b := npow (2 ^ W + P) W (npow (2 ^ W + P) W 2 8) N) lxi
    have lzy : mm (2 ^ W + P) W (turn R W (x ^^^ O) ^^^ I) (npow (2 ^ W + P) W (npow (2 ^ W + P) W 2 8) N) ^^^ turn R W (y ^^^ O) < 2 ^ W := Nat.xor_lt_two_pow lz ly
    have hzg : 0 ≤ ((mm (2 ^ W + P) W (turn R W (x ^^^ O) ^^^ I) (npow (2 ^ W + P) W (npow (2 ^ W + P) W 2 8) N) : Nat) : Int) ∧ mm (2 ^ W + P) W (turn R W (x ^^^ O) ^^^ I) (npow (2 ^ W + P) W (npow (2 ^ W + P) W 2 8) N) < 2 ^ W := ⟨Int.natCast_nonneg _, lz⟩
    have e0 : IntKind.u64.wrap (W : Int) = (W : Int) := wu64 (by omega) (by omega)
    have e1 : IntKind.u64.wrap (I : Int) = (I : Int) := wu64 (by omega) (by omega)
    have e2 : IntKind.u64.wrap (N : Int) = (N : Int) := wu64 (by omega) (by omega)
    have e3 : IntKind.u64.wrap ((IntKind.u64.wrap (P : Int)) + (shl .u64 1 (W : Int))) = ((2 ^ W + P : Nat) : Int) := by
      have q := shl64 1 W (by omega)
      rw [Nat.one_mul, Nat.mod_eq_of_lt (by omega)] at q
      rw [wu64 (n := (P : Int)) (by omega) (by omega), show (1 : Int) = ((1 : Nat) : Int) from rfl, q, ← Int.natCast_add, Nat.add_comm, wu64 (by omega) (by omega)]
    have cW : (0 : Int) ≤ (W : Int) := by clear e0 e1 e2 e3; omega
    have hno : ¬ (2 ^ W ≤ x ∨ 2 ^ W ≤ y) := by clear e0 e1 e2 e3; omega
    have x1 : Go.bits .xor .u64 ((turn R W (x ^^^ O) : Nat) : Int) (I : Int) = ((turn R W (x ^^^ O) ^^^ I : Nat) : Int) := u64_xor_nat _ _ (by clear e0 e1 e2 e3; omega) (by clear e0 e1 e2 e3; omega)
    have b1 := back_f (R := R) hs hx
    have b2 := back_f (R := R) hs hy
    have p1 := refPowMod (n := 8) F hW l2 (by decide)
    have p2 := refPowMod (n := N) F hW le hN
    have p3 := refMulMod F hW lxi lN
    have s1 := polyPowMod (n := 8) F hW l2 (by decide)
    have s2 := polyPowMod (n := N) F hW le hN
    have s3 := polyMulMod F hW lxi lN
    have t := told_f (R := R) hs _ lzy
    refine ⟨_, 0, ev_pos hg (ev_neg c1 (ev_neg hno (Ev.bind s1 (Ev.bind s2 (Ev.bind s3 (ev_pos hzg (Ev.now _))))))), Ev.bind hc (ev_pos rfl (ev_neg c1 ?_))⟩
    rw [ox, decide_eq_false c2, oy, decide_eq_false c3]
    simp only [Option.bind_some, Bool.false_eq_true, if_false]
    refine Ev.succ ?_
    simp only [outpostref03_Join.j0, Bool.false_eq_true, if_false, e0, e1, e2, e3, if_pos cW]
    refine Ev.bind p1 (Ev.bind p2 (Ev.bind b1 ?_))
    rw [x1]
    refine Ev.bind p3 (Ev.bind b2 ?_)
    have x2 : Go.bits .xor .u64 ((mm (2 ^ W + P) W (turn R W (x ^^^ O) ^^^ I) (npow (2 ^ W + P) W (npow (2 ^ W + P) W 2 8) N) : Nat) : Int) ((turn R W (y ^^^ O) : Nat) : Int) = ((mm (2 ^ W + P) W (turn R W (x ^^^ O) ^^^ I) (npow (2 ^ W + P) W (npow (2 ^ W + P) W 2 8) N) ^^^ turn R W (y ^^^ O) : Nat) : Int) :=
      u64_xor_nat _ _ (Nat.lt_of_lt_of_le lz (Nat.le_trans hw (by decide))) (Nat.lt_of_lt_of_le ly (Nat.le_trans hw (by decide)))
    simp only [x2]
    exact Ev.bind t (Ev.now _)
end Go.Proofs.Ytejlmodoghglbaa.Crc
namespace Go.Proofs.Ytejlmodoghglbaa.Pure
open Go.RowKit Go.Proofs.Ytejlmodoghglbaa.P Go.Proofs.YtejlmodoghglbaaW.PrintWords Go.Proofs.YtejlmodoghglbaaW.PrintLast Go.Proofs.YtejlmodoghglbaaW.PrintMore
open Go.Proofs.Ytejlmodoghglbaa.ModP (ev_pos ev_neg)
theorem wf32 {a : Int} (h : (Lit.int .u32 a).wf = true) : 0 ≤ a ∧ a < 4294967296 := by
  have : 0 ≤ a ∧ a ≤ 4294967295 := by simpa [Lit.wf, IntKind.min, IntKind.max, IntKind.signed, IntKind.bits] using h
  omega
theorem wf64 {a : Int} (h : (Lit.int .i64 a).wf = true) : -9223372036854775808 ≤ a ∧ a ≤ 9223372036854775807 := by simpa [Lit.wf, IntKind.min, IntKind.max, IntKind.signed, IntKind.bits] using h
theorem and_range {a m : Int} (ha : 0 ≤ a ∧ a < 4294967296) (hm : 0 ≤ m ∧ m < 4294967296) : 0 ≤ Go.bits .and .u32 a m ∧ Go.bits .and .u32 a m < 4294967296 := by
  rw [u32_and a m ha.1 ha.2 hm.1 hm.2]
  have : a.toNat &&& m.toNat ≤ a.toNat := Nat.and_le_left
  omega
theorem CrcJoins : outpostlaw03_CrcJoins.Pure := by
  intro a0 a1 a2 a3 R a b n h0 h1 h2 h3 ha hb hn
  obtain ⟨W, P, I, O, hs, hG⟩ := Crc.Good_f a0 a1 a2 a3 R (wf64 h0) (wf32 h1) (wf32 h2) (wf32 h3)
  have hw : 2 ^ W ≤ 2 ^ 32 := Nat.pow_le_pow_right (by omega) (by have := hs.1; omega)
  obtain ⟨m, hm⟩ : ∃ m : Int, m = (IntKind.u64.wrap ((shl .u64 1 (IntKind.u64.wrap (W : Int))) - 1)) % 4294967296 := ⟨_, rfl⟩
  have hmr : 0 ≤ m ∧ m < 4294967296 := by rw [hm]; exact ⟨Int.emod_nonneg _ (by decide), Int.emod_lt_of_pos _ (by decide)⟩
  have cW : (0 : Int) ≤ IntKind.u64.wrap (W : Int) := by rw [IntKind.wrap_u64]; exact Int.emod_nonneg _ (by decide)
  obtain ⟨r, e, j1, j2⟩ := Crc.join_agree a0 a1 a2 a3 a b n R (wf32 h1) (wf32 h2) (wf32 h3) (wf32 ha) (wf32 hb) (wf64 hn)
  obtain ⟨r', e', k1, k2⟩ := Crc.join_agree W P I O (Go.bits .and .u32 a m) (Go.bits .and .u32 b m) n R ⟨by omega, by have := hs.2.1; omega⟩ ⟨by omega, by have := hs.2.2.1; omega⟩ ⟨by omega, by have := hs.2.2.2.1; omega⟩ (and_range (wf32 ha) hmr) (and_range (wf32 hb) hmr) (wf64 hn)
  refine Ev.rounds (g := fun k => outpostlaw03_CrcJoins.f k a0 a1 a2 a3 R a b n) ?_
  unfold outpostlaw03_CrcJoins.f
  refine Ev.bind j1 (Ev.bind j2 ?_)
  simp only [hG, Option.bind_some, ← hm]
  refine ev_pos cW (Ev.bind k1 (Ev.bind k2 ?_))
  simp only [if_true, outpostlaw03_num.f, Option.bind_some, Crc.knows_f]
  exact Ev.now _
end Go.Proofs.Ytejlmodoghglbaa.Pure
