-- written by mk.sh, a program of this session, over the kit's print
import Derived.Test.YtpgecdidddoglaaRows
import Derived.Test.YtpgecdidddoglaaRbPx0
import Derived.Test.YtpgecdidddoglaaRbPx3
import Derived.Test.YtpgecdidddoglaaRbPx9
import Derived.Test.YtpgecdidddoglaaRbPx16
import Derived.Test.YtpgecdidddoglaaRbPx60
import Derived.Test.YtpgecdidddoglaaRbPx19
import Derived.Test.YtpgecdidddoglaaRbPx20
import Derived.Test.YtpgecdidddoglaaRbPx91
import Derived.Test.YtpgecdidddoglaaRbPureReedsolBursts
import Derived.WalkKit
import Derived.ProofKit
import Derived.OpenShut
import Derived.ShutString
import Derived.ChangeOld
import Derived.Below
import Derived.SizedLaws
import Derived.Test.YtpgecdidddoglaaRbWAll
namespace Go.Proofs.Ytpgecdidddoglaa.reedsolBursts
open Go.ChangeShapes Go.WideShapes Go.ChangeAt Go.RowKit
open Go.ChangeMaps (open_string shut_string)
set_option linter.unusedVariables false
theorem field_at {P : Program} {t : TypeId} {fs : Array Field} (hs : P.underlying t = some (.struct fs)) (j T off : Nat) (h : (match P.underlying t with | some (.struct fs) => (fs[j]?).map (fun f => (f.type, f.offset)) | _ => none) = some (T, off)) : ∃ f, fs[j]? = some f ∧ f.type = T ∧ f.offset = off := by
  rw [hs] at h
  obtain ⟨f, h1, h2⟩ := Option.map_eq_some_iff.1 h
  injection h2 with h2 h3
  exact ⟨f, h1, h2, h3⟩
theorem list_of_4 {α : Type} {l : List α} (h : l.length = 4) : ∃ c0 c1 c2 c3, l = [c0, c1, c2, c3] := by
  match l, h with
  | [c0, c1, c2, c3], _ => exact ⟨_, _, _, _, rfl⟩
theorem own : ownKnob Try.prog.godebug = none := by kernel_rfl
theorem laidOut : laidOutB Try.prog = true := by kernel_rfl
def IsRow (k : IntKind) (w : World) (a : Option Addr) (len cap : Nat) (zs : List Int) : Prop :=
  (a = none ∧ len = 0 ∧ cap = 0 ∧ zs = []) ∨
  ∃ x, a = some x ∧ len ≤ cap ∧ cap ≤ maxLen ∧ zs.length = cap ∧ (∀ i, i < zs.length → w.cell? (x.add i) = some (.int k (zs.getD i 0))) ∧ ∀ n ∈ zs, (Lit.int k n).wf = true
set_option maxRecDepth 100000 in
theorem lifted (os : Os) (started : os.Started) (H : Type) (enc : TypeId × Value → H) :
    ReturnsInHanded {} Try.checked os 4 .any (Rows.reedsolBurstsSpec.pre6 enc Try.prog Try.f4 Rows.reedsolBurstsRow.domain false) (Rows.reedsolBurstsSpec.post enc Try.prog Try.f4 false true false false) := by
  refine returnsInHanded_of_change_sized (C := Try.checked) own started (by kernel_rfl) Try.func4
    (ChangeSpec.witness6 (enc := enc) (C := Try.checked) false ⟨#[], #[.agg #[.int .i64 0, .int .u64 0, .int .i64 0, .int .i64 0], .slice none 0 0, .int .i64 0, .int .i64 0, .slice none 0 0, .bool false], []⟩ 8 (by kernel_rfl) (by kernel_rfl) (by kernel_rfl) (by kernel_rfl)) ?_
  intro W base args ds gs before hval0 hW hcnd hsz0 _
  have hsz : (DataW.weightsEach Try.prog (Try.f4.params.toList ++ Rows.reedsolBurstsSpec.plain.varTypes Try.prog) (ds ++ gs)).all (· ≤ reachBytes) = true := hsz0
  have hval : ∀ (j : Nat) t v, Try.f4.params[j]? = some t → args[j]? = some v → Value.okWide Try.prog W .any base t v := hval0
  have hW' := hW
  obtain ⟨p, q, hA0, hV, rfl, hfz, hnd⟩ := hW
  have hA : DataW.TrodAll enc Try.prog W 0 (fun _ => true) true Try.f4.params.toList args.toList ds p := hA0
  rw [Try.params4] at hA hval hsz
  obtain ⟨v0, vs0, d0, ds0, p0, q0, hargs, rfl, rfl, h0, r0⟩ := trodAll_cons hA
  obtain ⟨v1, vs1, d1, ds1, p1, q1, rfl, rfl, rfl, h1, r1⟩ := trodAll_cons r0
  obtain ⟨v2, vs2, d2, ds2, p2, q2, rfl, rfl, rfl, h2, r2⟩ := trodAll_cons r1
  obtain ⟨v3, vs3, d3, ds3, p3, q3, rfl, rfl, rfl, h3, r3⟩ := trodAll_cons r2
  obtain ⟨v4, vs4, d4, ds4, p4, q4, rfl, rfl, rfl, h4, r4⟩ := trodAll_cons r3
  obtain ⟨v5, vs5, d5, ds5, p5, q5, rfl, rfl, rfl, h5, r5⟩ := trodAll_cons r4
  obtain ⟨rfl, rfl, rfl⟩ := trodAll_nil r5
  obtain rfl : args = #[v0, v1, v2, v3, v4, v5] := by cases args; simp_all
  obtain ⟨rfl, rfl⟩ := trodVars_none hV
  have k0 := h0
  have lt0 : ∀ x ∈ p0, x.block < W.heap.size := by obtain ⟨m, hm⟩ := k0; exact DataW.trod_lt m _ _ _ hm
  obtain ⟨cs0, rfl, hz0⟩ := okWide_struct Try.underlying26 (hval 0 26 v0 rfl rfl)
  obtain ⟨sl0⟩ := cs0
  obtain ⟨c0_0, c0_1, c0_2, c0_3, rfl⟩ : ∃ c0_0 c0_1 c0_2 c0_3, sl0 = [c0_0, c0_1, c0_2, c0_3] := by
    have hz : sl0.length = 4 := hz0.trans (by kernel_rfl)
    exact list_of_4 hz
  clear hz0
  obtain ⟨fu0, hf0⟩ := h0
  obtain ⟨xs0_0, n0_0, _, _, _, hl0_0, hg0_0⟩ := DataW.trod_struct Try.underlying26 hf0
  obtain ⟨y0_0_0, hy0_0_0⟩ : ∃ y, xs0_0[0]? = some y := ⟨_, List.getElem?_eq_getElem (show 0 < xs0_0.length by rw [hl0_0]; exact of_decide_eq_true (by kernel_rfl))⟩
  obtain ⟨fd0_0_0, he0_0_0, ht0_0_0, ho0_0_0⟩ := field_at Try.underlying26 0 24 0 (by kernel_rfl)
  have g0_0_0 := (hg0_0 0 fd0_0_0 he0_0_0).trans hy0_0_0
  rw [ht0_0_0, ho0_0_0] at g0_0_0
  simp only [show Try.prog.cellsOf 24 = 2 from by kernel_rfl] at g0_0_0
  obtain ⟨xs0_1, n0_1, _, _, _, hl0_1, hg0_1⟩ := DataW.trod_struct Try.underlying24 g0_0_0
  obtain ⟨y0_1_0, hy0_1_0⟩ : ∃ y, xs0_1[0]? = some y := ⟨_, List.getElem?_eq_getElem (show 0 < xs0_1.length by rw [hl0_1]; exact of_decide_eq_true (by kernel_rfl))⟩
  obtain ⟨fd0_1_0, he0_1_0, ht0_1_0, ho0_1_0⟩ := field_at Try.underlying24 0 3 0 (by kernel_rfl)
  have g0_1_0 := (hg0_1 0 fd0_1_0 he0_1_0).trans hy0_1_0
  rw [ht0_1_0, ho0_1_0] at g0_1_0
  simp only [show Try.prog.cellsOf 3 = 1 from by kernel_rfl] at g0_1_0
  obtain ⟨a0_0, hc0_0, _, w0_0⟩ := DataW.trod_int Try.underlying3 g0_1_0
  simp [Value.cells] at hc0_0
  subst hc0_0
  obtain ⟨y0_1_1, hy0_1_1⟩ : ∃ y, xs0_1[1]? = some y := ⟨_, List.getElem?_eq_getElem (show 1 < xs0_1.length by rw [hl0_1]; exact of_decide_eq_true (by kernel_rfl))⟩
  obtain ⟨fd0_1_1, he0_1_1, ht0_1_1, ho0_1_1⟩ := field_at Try.underlying24 1 22 1 (by kernel_rfl)
  have g0_1_1 := (hg0_1 1 fd0_1_1 he0_1_1).trans hy0_1_1
  rw [ht0_1_1, ho0_1_1] at g0_1_1
  simp only [show Try.prog.cellsOf 22 = 1 from by kernel_rfl] at g0_1_1
  obtain ⟨a0_1, hc0_1, _, w0_1⟩ := DataW.trod_int Try.underlying22 g0_1_1
  simp [Value.cells] at hc0_1
  subst hc0_1
  obtain ⟨y0_0_1, hy0_0_1⟩ : ∃ y, xs0_0[1]? = some y := ⟨_, List.getElem?_eq_getElem (show 1 < xs0_0.length by rw [hl0_0]; exact of_decide_eq_true (by kernel_rfl))⟩
  obtain ⟨fd0_0_1, he0_0_1, ht0_0_1, ho0_0_1⟩ := field_at Try.underlying26 1 3 2 (by kernel_rfl)
  have g0_0_1 := (hg0_0 1 fd0_0_1 he0_0_1).trans hy0_0_1
  rw [ht0_0_1, ho0_0_1] at g0_0_1
  simp only [show Try.prog.cellsOf 3 = 1 from by kernel_rfl] at g0_0_1
  obtain ⟨a0_2, hc0_2, _, w0_2⟩ := DataW.trod_int Try.underlying3 g0_0_1
  simp [Value.cells] at hc0_2
  subst hc0_2
  obtain ⟨y0_0_2, hy0_0_2⟩ : ∃ y, xs0_0[2]? = some y := ⟨_, List.getElem?_eq_getElem (show 2 < xs0_0.length by rw [hl0_0]; exact of_decide_eq_true (by kernel_rfl))⟩
  obtain ⟨fd0_0_2, he0_0_2, ht0_0_2, ho0_0_2⟩ := field_at Try.underlying26 2 3 3 (by kernel_rfl)
  have g0_0_2 := (hg0_0 2 fd0_0_2 he0_0_2).trans hy0_0_2
  rw [ht0_0_2, ho0_0_2] at g0_0_2
  simp only [show Try.prog.cellsOf 3 = 1 from by kernel_rfl] at g0_0_2
  obtain ⟨a0_3, hc0_3, _, w0_3⟩ := DataW.trod_int Try.underlying3 g0_0_2
  simp [Value.cells] at hc0_3
  subst hc0_3
  obtain ⟨a1, len1, cap1, rfl⟩ := okWide_slice Try.underlying27 (hval 1 27 v1 rfl rfl)
  have k1 := h1
  have lt1 : ∀ x ∈ p1, x.block < W.heap.size := by obtain ⟨m, hm⟩ := k1; exact DataW.trod_lt m _ _ _ hm
  obtain ⟨z1, w1⟩ : ∃ zs, IsRow .u8 W a1 len1 cap1 zs := by
    obtain ⟨fuel, hf⟩ := h1
    rcases open_ints Try.underlying27 Try.underlying5 (by kernel_rfl) hf with ⟨hcs, _⟩ | ⟨x, l, c, zs, hcs, _, hl, hm, hz, _, hcell, hwz⟩
    · simp [Value.cells] at hcs
      obtain ⟨rfl, rfl, rfl⟩ := hcs
      exact ⟨[], .inl ⟨rfl, rfl, rfl, rfl⟩⟩
    · simp [Value.cells] at hcs
      obtain ⟨rfl, rfl, rfl⟩ := hcs
      exact ⟨zs, .inr ⟨_, rfl, hl, hm, by simpa using hz, hcell, hwz⟩⟩
  have y1 : len1 * 1 ≤ 140737488351232 := Go.Proofs.YtpgecdidddoglaaW.PrintWords.sized_ints hsz (j := 1) (t := 27) rfl rfl Try.underlying27 Try.underlying5 (by kernel_rfl) (by kernel_rfl) h1
  obtain ⟨a2, rfl, rfl, rfl, w2⟩ := open_int Try.underlying3 (hval 2 3 v2 rfl rfl) h2
  obtain ⟨a3, rfl, rfl, rfl, w3⟩ := open_int Try.underlying3 (hval 3 3 v3 rfl rfl) h3
  obtain ⟨a4, len4, cap4, rfl⟩ := okWide_slice Try.underlying27 (hval 4 27 v4 rfl rfl)
  have k4 := h4
  have lt4 : ∀ x ∈ p4, x.block < W.heap.size := by obtain ⟨m, hm⟩ := k4; exact DataW.trod_lt m _ _ _ hm
  obtain ⟨z4, w4⟩ : ∃ zs, IsRow .u8 W a4 len4 cap4 zs := by
    obtain ⟨fuel, hf⟩ := h4
    rcases open_ints Try.underlying27 Try.underlying5 (by kernel_rfl) hf with ⟨hcs, _⟩ | ⟨x, l, c, zs, hcs, _, hl, hm, hz, _, hcell, hwz⟩
    · simp [Value.cells] at hcs
      obtain ⟨rfl, rfl, rfl⟩ := hcs
      exact ⟨[], .inl ⟨rfl, rfl, rfl, rfl⟩⟩
    · simp [Value.cells] at hcs
      obtain ⟨rfl, rfl, rfl⟩ := hcs
      exact ⟨zs, .inr ⟨_, rfl, hl, hm, by simpa using hz, hcell, hwz⟩⟩
  have y4 : len4 * 1 ≤ 140737488351232 := Go.Proofs.YtpgecdidddoglaaW.PrintWords.sized_ints hsz (j := 4) (t := 27) rfl rfl Try.underlying27 Try.underlying5 (by kernel_rfl) (by kernel_rfl) h4
  obtain ⟨a5, rfl, rfl, rfl⟩ := open_bool Try.underlying4 (hval 5 4 v5 rfl rfl) h5
  clear hA0 hval0 hsz0 hsz
  refine (P.l4_ReedsolBursts.walk Pure.ReedsolBursts a0_0 a0_1 a0_2 a0_3 a1 len1 cap1 z1 a2 a3 a4 len4 cap4 z4 a5 W w0_0 w0_1 w0_2 w0_3 w1 y1 w2 w3 w4 y4).mono fun e W' ⟨he, bel⟩ => ?_
  subst he
  exact ⟨_, rfl, _, _, _, [], _, [], hW', trodAll_mk1 (shut_bool Try.underlying4 _), (trodAll_cons_mk (Below.trod laidOut (by kernel_rfl) (of_decide_eq_true (by kernel_rfl)) k0 bel lt0) (trodAll_cons_mk (Below.trod laidOut (by kernel_rfl) (of_decide_eq_true (by kernel_rfl)) k1 bel lt1) (trodAll_cons_mk (shut_int Try.underlying3 w2) (trodAll_cons_mk (shut_int Try.underlying3 w3) (trodAll_cons_mk (Below.trod laidOut (by kernel_rfl) (of_decide_eq_true (by kernel_rfl)) k4 bel lt4) (trodAll_cons_mk (shut_bool Try.underlying4 _) trodAll_mk0)))))), rfl, bel.frame _, fun h => by cases h⟩
theorem over : Rows.reedsolBurstsRow.holds Try.pinned (OpenSpec.ofChange Rows.reedsolBurstsSpec) :=
  OpenClaim.holds_of_wide 4 Try.f4 rfl rfl rfl rfl rfl rfl rfl ⟨rfl, rfl, rfl, rfl, rfl⟩ rfl rfl rfl rfl rfl (by kernel_rfl) Try.func4 (by kernel_rfl)
    (of_decide_eq_true (by kernel_rfl)) (by unfold Func.isWrapper; first | (rw [if_pos (by decide +kernel)]; kernel_rfl) | (rw [if_neg (by decide +kernel)]; exact ⟨rfl, rfl⟩))
    (fun os started H enc _ => lifted os started H enc)
theorem proved : Rows.ReedsolBurstsSaid := over
#print axioms proved
end Go.Proofs.Ytpgecdidddoglaa.reedsolBursts
namespace Go.Proofs.Ytpgecdidddoglaa
/-- The row, under a short name, for the claim. -/
theorem reedsolBursts_holds : Rows.ReedsolBurstsSaid := reedsolBursts.proved
end Go.Proofs.Ytpgecdidddoglaa
