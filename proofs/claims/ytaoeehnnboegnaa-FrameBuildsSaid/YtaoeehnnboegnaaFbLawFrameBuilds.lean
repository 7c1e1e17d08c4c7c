-- written by mk.sh, a program of this session, over the kit's print
import Derived.Test.YtaoeehnnboegnaaRows
import Derived.Test.YtaoeehnnboegnaaFbPx91
import Derived.Test.YtaoeehnnboegnaaFbPureFrameBuilds
import Derived.WalkKit
import Derived.ProofKit
import Derived.OpenShut
import Derived.ShutString
import Derived.ChangeOld
import Derived.Below
import Derived.SizedLaws
import Derived.Test.YtaoeehnnboegnaaFbWAll
namespace Go.Proofs.Ytaoeehnnboegnaa.frameBuilds
open Go.ChangeShapes Go.WideShapes Go.ChangeAt Go.RowKit
open Go.ChangeMaps (open_string shut_string)
set_option linter.unusedVariables false
theorem sized_in {H : Type} {P : Program} {ts : List TypeId} {ds : List (DataW H)} (h : (DataW.weightsEach P ts ds).all (· ≤ reachBytes) = true) {j : Nat} {t : TypeId} {d : DataW H} {fs : Array Field} (ht : ts[j]? = some t) (hd : ds[j]? = some d) (hu : P.underlying t = some (.struct fs)) {xs : List (DataW H × List MemPlace)} (e : d = .agg (xs.map (·.1))) : (DataW.weightsEach P (fs.toList.map (·.type)) (xs.map (·.1))).all (· ≤ reachBytes) = true := by
  subst e
  refine List.all_eq_true.2 fun n hn => List.all_eq_true.1 h n (DataW.weights_mem_each ht hd n ?_)
  simp only [DataW.weights, hu]
  exact hn
theorem field_at {P : Program} {t : TypeId} {fs : Array Field} (hs : P.underlying t = some (.struct fs)) (j T off : Nat) (h : (match P.underlying t with | some (.struct fs) => (fs[j]?).map (fun f => (f.type, f.offset)) | _ => none) = some (T, off)) : ∃ f, fs[j]? = some f ∧ f.type = T ∧ f.offset = off := by
  rw [hs] at h
  obtain ⟨f, h1, h2⟩ := Option.map_eq_some_iff.1 h
  injection h2 with h2 h3
  exact ⟨f, h1, h2, h3⟩
theorem list_of_4 {α : Type} {l : List α} (h : l.length = 4) : ∃ c0 c1 c2 c3, l = [c0, c1, c2, c3] := by
  match l, h with
  | [c0, c1, c2, c3], _ => exact ⟨_, _, _, _, rfl⟩
theorem list_of_6 {α : Type} {l : List α} (h : l.length = 6) : ∃ c0 c1 c2 c3 c4 c5, l = [c0, c1, c2, c3, c4, c5] := by
  match l, h with
  | [c0, c1, c2, c3, c4, c5], _ => exact ⟨_, _, _, _, _, _, rfl⟩
theorem own : ownKnob Try.prog.godebug = none := by kernel_rfl
theorem laidOut : laidOutB Try.prog = true := by kernel_rfl
def IsRow (k : IntKind) (w : World) (a : Option Addr) (len cap : Nat) (zs : List Int) : Prop :=
  (a = none ∧ len = 0 ∧ cap = 0 ∧ zs = []) ∨
  ∃ x, a = some x ∧ len ≤ cap ∧ cap ≤ maxLen ∧ zs.length = cap ∧ (∀ i, i < zs.length → w.cell? (x.add i) = some (.int k (zs.getD i 0))) ∧ ∀ n ∈ zs, (Lit.int k n).wf = true
set_option maxRecDepth 100000 in
theorem lifted (os : Os) (started : os.Started) (H : Type) (enc : TypeId × Value → H) :
    ReturnsInHanded {} Try.checked os 3 .any (Rows.frameBuildsSpec.pre6 enc Try.prog Try.f3 Rows.frameBuildsRow.domain false) (Rows.frameBuildsSpec.post enc Try.prog Try.f3 false true false false) := by
  refine returnsInHanded_of_change_sized (C := Try.checked) own started (by kernel_rfl) Try.func3
    (ChangeSpec.witness6 (enc := enc) (C := Try.checked) false ⟨#[], #[.agg #[.int .i64 0, .int .i64 0, .int .u32 0, .int .u32 0, .int .u32 0, .bool false], .agg #[.int .i64 0, .int .u32 0, .int .u32 0, .slice none 0 0]], []⟩ 8 (by kernel_rfl) (by kernel_rfl) (by kernel_rfl) (by kernel_rfl)) ?_
  intro W base args ds gs before hval0 hW hcnd hsz0 _
  have hsz : (DataW.weightsEach Try.prog (Try.f3.params.toList ++ Rows.frameBuildsSpec.plain.varTypes Try.prog) (ds ++ gs)).all (· ≤ reachBytes) = true := hsz0
  have hval : ∀ (j : Nat) t v, Try.f3.params[j]? = some t → args[j]? = some v → Value.okWide Try.prog W .any base t v := hval0
  have hW' := hW
  obtain ⟨p, q, hA0, hV, rfl, hfz, hnd⟩ := hW
  have hA : DataW.TrodAll enc Try.prog W 0 (fun _ => true) true Try.f3.params.toList args.toList ds p := hA0
  rw [Try.params3] at hA hval hsz
  obtain ⟨v0, vs0, d0, ds0, p0, q0, hargs, rfl, rfl, h0, r0⟩ := trodAll_cons hA
  obtain ⟨v1, vs1, d1, ds1, p1, q1, rfl, rfl, rfl, h1, r1⟩ := trodAll_cons r0
  obtain ⟨rfl, rfl, rfl⟩ := trodAll_nil r1
  obtain rfl : args = #[v0, v1] := by cases args; simp_all
  obtain ⟨rfl, rfl⟩ := trodVars_none hV
  have k0 := h0
  have lt0 : ∀ x ∈ p0, x.block < W.heap.size := by obtain ⟨m, hm⟩ := k0; exact DataW.trod_lt m _ _ _ hm
  obtain ⟨cs0, rfl, hz0⟩ := okWide_struct Try.underlying26 (hval 0 26 v0 rfl rfl)
  obtain ⟨sl0⟩ := cs0
  obtain ⟨c0_0, c0_1, c0_2, c0_3, c0_4, c0_5, rfl⟩ : ∃ c0_0 c0_1 c0_2 c0_3 c0_4 c0_5, sl0 = [c0_0, c0_1, c0_2, c0_3, c0_4, c0_5] := by
    have hz : sl0.length = 6 := hz0.trans (by kernel_rfl)
    exact list_of_6 hz
  clear hz0
  obtain ⟨fu0, hf0⟩ := h0
  obtain ⟨xs0_0, n0_0, _, _, _, hl0_0, hg0_0⟩ := DataW.trod_struct Try.underlying26 hf0
  obtain ⟨y0_0_0, hy0_0_0⟩ : ∃ y, xs0_0[0]? = some y := ⟨_, List.getElem?_eq_getElem (show 0 < xs0_0.length by rw [hl0_0]; exact of_decide_eq_true (by kernel_rfl))⟩
  obtain ⟨fd0_0_0, he0_0_0, ht0_0_0, ho0_0_0⟩ := field_at Try.underlying26 0 3 0 (by kernel_rfl)
  have g0_0_0 := (hg0_0 0 fd0_0_0 he0_0_0).trans hy0_0_0
  rw [ht0_0_0, ho0_0_0] at g0_0_0
  simp only [show Try.prog.cellsOf 3 = 1 from by kernel_rfl] at g0_0_0
  obtain ⟨a0_0, hc0_0, _, w0_0⟩ := DataW.trod_int Try.underlying3 g0_0_0
  simp [Value.cells] at hc0_0
  subst hc0_0
  obtain ⟨y0_0_1, hy0_0_1⟩ : ∃ y, xs0_0[1]? = some y := ⟨_, List.getElem?_eq_getElem (show 1 < xs0_0.length by rw [hl0_0]; exact of_decide_eq_true (by kernel_rfl))⟩
  obtain ⟨fd0_0_1, he0_0_1, ht0_0_1, ho0_0_1⟩ := field_at Try.underlying26 1 24 1 (by kernel_rfl)
  have g0_0_1 := (hg0_0 1 fd0_0_1 he0_0_1).trans hy0_0_1
  rw [ht0_0_1, ho0_0_1] at g0_0_1
  simp only [show Try.prog.cellsOf 24 = 5 from by kernel_rfl] at g0_0_1
  obtain ⟨xs0_1, n0_1, _, _, _, hl0_1, hg0_1⟩ := DataW.trod_struct Try.underlying24 g0_0_1
  obtain ⟨y0_1_0, hy0_1_0⟩ : ∃ y, xs0_1[0]? = some y := ⟨_, List.getElem?_eq_getElem (show 0 < xs0_1.length by rw [hl0_1]; exact of_decide_eq_true (by kernel_rfl))⟩
  obtain ⟨fd0_1_0, he0_1_0, ht0_1_0, ho0_1_0⟩ := field_at Try.underlying24 0 3 0 (by kernel_rfl)
  have g0_1_0 := (hg0_1 0 fd0_1_0 he0_1_0).trans hy0_1_0
  rw [ht0_1_0, ho0_1_0] at g0_1_0
  simp only [show Try.prog.cellsOf 3 = 1 from by kernel_rfl] at g0_1_0
  obtain ⟨a0_1, hc0_1, _, w0_1⟩ := DataW.trod_int Try.underlying3 g0_1_0
  simp [Value.cells] at hc0_1
  subst hc0_1
  obtain ⟨y0_1_1, hy0_1_1⟩ : ∃ y, xs0_1[1]? = some y := ⟨_, List.getElem?_eq_getElem (show 1 < xs0_1.length by rw [hl0_1]; exact of_decide_eq_true (by kernel_rfl))⟩
  obtain ⟨fd0_1_1, he0_1_1, ht0_1_1, ho0_1_1⟩ := field_at Try.underlying24 1 22 1 (by kernel_rfl)
  have g0_1_1 := (hg0_1 1 fd0_1_1 he0_1_1).trans hy0_1_1
  rw [ht0_1_1, ho0_1_1] at g0_1_1
  simp only [show Try.prog.cellsOf 22 = 1 from by kernel_rfl] at g0_1_1
  obtain ⟨a0_2, hc0_2, _, w0_2⟩ := DataW.trod_int Try.underlying22 g0_1_1
  simp [Value.cells] at hc0_2
  subst hc0_2
  obtain ⟨y0_1_2, hy0_1_2⟩ : ∃ y, xs0_1[2]? = some y := ⟨_, List.getElem?_eq_getElem (show 2 < xs0_1.length by rw [hl0_1]; exact of_decide_eq_true (by kernel_rfl))⟩
  obtain ⟨fd0_1_2, he0_1_2, ht0_1_2, ho0_1_2⟩ := field_at Try.underlying24 2 22 2 (by kernel_rfl)
  have g0_1_2 := (hg0_1 2 fd0_1_2 he0_1_2).trans hy0_1_2
  rw [ht0_1_2, ho0_1_2] at g0_1_2
  simp only [show Try.prog.cellsOf 22 = 1 from by kernel_rfl] at g0_1_2
  obtain ⟨a0_3, hc0_3, _, w0_3⟩ := DataW.trod_int Try.underlying22 g0_1_2
  simp [Value.cells] at hc0_3
  subst hc0_3
  obtain ⟨y0_1_3, hy0_1_3⟩ : ∃ y, xs0_1[3]? = some y := ⟨_, List.getElem?_eq_getElem (show 3 < xs0_1.length by rw [hl0_1]; exact of_decide_eq_true (by kernel_rfl))⟩
  obtain ⟨fd0_1_3, he0_1_3, ht0_1_3, ho0_1_3⟩ := field_at Try.underlying24 3 22 3 (by kernel_rfl)
  have g0_1_3 := (hg0_1 3 fd0_1_3 he0_1_3).trans hy0_1_3
  rw [ht0_1_3, ho0_1_3] at g0_1_3
  simp only [show Try.prog.cellsOf 22 = 1 from by kernel_rfl] at g0_1_3
  obtain ⟨a0_4, hc0_4, _, w0_4⟩ := DataW.trod_int Try.underlying22 g0_1_3
  simp [Value.cells] at hc0_4
  subst hc0_4
  obtain ⟨y0_1_4, hy0_1_4⟩ : ∃ y, xs0_1[4]? = some y := ⟨_, List.getElem?_eq_getElem (show 4 < xs0_1.length by rw [hl0_1]; exact of_decide_eq_true (by kernel_rfl))⟩
  obtain ⟨fd0_1_4, he0_1_4, ht0_1_4, ho0_1_4⟩ := field_at Try.underlying24 4 4 4 (by kernel_rfl)
  have g0_1_4 := (hg0_1 4 fd0_1_4 he0_1_4).trans hy0_1_4
  rw [ht0_1_4, ho0_1_4] at g0_1_4
  simp only [show Try.prog.cellsOf 4 = 1 from by kernel_rfl] at g0_1_4
  obtain ⟨a0_5, hc0_5, _⟩ := DataW.trod_bool Try.underlying4 g0_1_4
  simp [Value.cells] at hc0_5
  subst hc0_5
  have k1 := h1
  have lt1 : ∀ x ∈ p1, x.block < W.heap.size := by obtain ⟨m, hm⟩ := k1; exact DataW.trod_lt m _ _ _ hm
  obtain ⟨cs1, rfl, hz1⟩ := okWide_struct Try.underlying29 (hval 1 29 v1 rfl rfl)
  obtain ⟨sl1⟩ := cs1
  obtain ⟨c1_0, c1_1, c1_2, c1_3, rfl⟩ : ∃ c1_0 c1_1 c1_2 c1_3, sl1 = [c1_0, c1_1, c1_2, c1_3] := by
    have hz : sl1.length = 4 := hz1.trans (by kernel_rfl)
    exact list_of_4 hz
  clear hz1
  obtain ⟨fu1, hf1⟩ := h1
  obtain ⟨xs1_0, n1_0, _, hx1_0, _, hl1_0, hg1_0⟩ := DataW.trod_struct Try.underlying29 hf1
  have hs1_0 := sized_in hsz (j := 1) (t := 29) rfl (rfl) Try.underlying29 (congrArg Prod.fst hx1_0)
  obtain ⟨y1_0_0, hy1_0_0⟩ : ∃ y, xs1_0[0]? = some y := ⟨_, List.getElem?_eq_getElem (show 0 < xs1_0.length by rw [hl1_0]; exact of_decide_eq_true (by kernel_rfl))⟩
  obtain ⟨fd1_0_0, he1_0_0, ht1_0_0, ho1_0_0⟩ := field_at Try.underlying29 0 3 0 (by kernel_rfl)
  have g1_0_0 := (hg1_0 0 fd1_0_0 he1_0_0).trans hy1_0_0
  rw [ht1_0_0, ho1_0_0] at g1_0_0
  simp only [show Try.prog.cellsOf 3 = 1 from by kernel_rfl] at g1_0_0
  obtain ⟨a1_0, hc1_0, _, w1_0⟩ := DataW.trod_int Try.underlying3 g1_0_0
  simp [Value.cells] at hc1_0
  subst hc1_0
  obtain ⟨y1_0_1, hy1_0_1⟩ : ∃ y, xs1_0[1]? = some y := ⟨_, List.getElem?_eq_getElem (show 1 < xs1_0.length by rw [hl1_0]; exact of_decide_eq_true (by kernel_rfl))⟩
  obtain ⟨fd1_0_1, he1_0_1, ht1_0_1, ho1_0_1⟩ := field_at Try.underlying29 1 22 1 (by kernel_rfl)
  have g1_0_1 := (hg1_0 1 fd1_0_1 he1_0_1).trans hy1_0_1
  rw [ht1_0_1, ho1_0_1] at g1_0_1
  simp only [show Try.prog.cellsOf 22 = 1 from by kernel_rfl] at g1_0_1
  obtain ⟨a1_1, hc1_1, _, w1_1⟩ := DataW.trod_int Try.underlying22 g1_0_1
  simp [Value.cells] at hc1_1
  subst hc1_1
  obtain ⟨y1_0_2, hy1_0_2⟩ : ∃ y, xs1_0[2]? = some y := ⟨_, List.getElem?_eq_getElem (show 2 < xs1_0.length by rw [hl1_0]; exact of_decide_eq_true (by kernel_rfl))⟩
  obtain ⟨fd1_0_2, he1_0_2, ht1_0_2, ho1_0_2⟩ := field_at Try.underlying29 2 22 2 (by kernel_rfl)
  have g1_0_2 := (hg1_0 2 fd1_0_2 he1_0_2).trans hy1_0_2
  rw [ht1_0_2, ho1_0_2] at g1_0_2
  simp only [show Try.prog.cellsOf 22 = 1 from by kernel_rfl] at g1_0_2
  obtain ⟨a1_2, hc1_2, _, w1_2⟩ := DataW.trod_int Try.underlying22 g1_0_2
  simp [Value.cells] at hc1_2
  subst hc1_2
  obtain ⟨y1_0_3, hy1_0_3⟩ : ∃ y, xs1_0[3]? = some y := ⟨_, List.getElem?_eq_getElem (show 3 < xs1_0.length by rw [hl1_0]; exact of_decide_eq_true (by kernel_rfl))⟩
  obtain ⟨fd1_0_3, he1_0_3, ht1_0_3, ho1_0_3⟩ := field_at Try.underlying29 3 27 3 (by kernel_rfl)
  have g1_0_3 := (hg1_0 3 fd1_0_3 he1_0_3).trans hy1_0_3
  rw [ht1_0_3, ho1_0_3] at g1_0_3
  simp only [show Try.prog.cellsOf 27 = 1 from by kernel_rfl] at g1_0_3
  obtain ⟨a1_3, len1_3, cap1_3, z1_3, hc1_3, w1_3⟩ : ∃ a len cap zs, c1_3 = .slice a len cap ∧ IsRow .u8 W a len cap zs := by
    rcases open_ints Try.underlying27 Try.underlying5 (by kernel_rfl) g1_0_3 with ⟨hcs, _⟩ | ⟨x, l, c, zs, hcs, _, hl, hm, hz, _, hcell, hwz⟩
    · exact ⟨none, 0, 0, [], (List.cons.inj (show [c1_3] = [_] from hcs)).1, .inl ⟨rfl, rfl, rfl, rfl⟩⟩
    · exact ⟨some x, l, c, zs, (List.cons.inj (show [c1_3] = [_] from hcs)).1, .inr ⟨_, rfl, hl, hm, by simpa using hz, hcell, hwz⟩⟩
  subst hc1_3
  have y1_3 : len1_3 * 1 ≤ 140737488351232 := Go.Proofs.YtaoeehnnboegnaaW.PrintWords.sized_ints hs1_0 (j := 3) (t := 27) rfl (by rw [List.getElem?_map, hy1_0_3]; rfl) Try.underlying27 Try.underlying5 (by kernel_rfl) (by kernel_rfl) ⟨_, g1_0_3⟩
  clear hA0 hval0 hsz0 hsz
  refine (P.outpostlaw24_FrameBuilds.walk Pure.FrameBuilds a0_0 a0_1 a0_2 a0_3 a0_4 a0_5 a1_0 a1_1 a1_2 a1_3 len1_3 cap1_3 z1_3 W w0_0 w0_1 w0_2 w0_3 w0_4 w1_0 w1_1 w1_2 w1_3 y1_3).mono fun e W' ⟨he, bel⟩ => ?_
  subst he
  exact ⟨_, rfl, _, _, _, [], _, [], hW', trodAll_mk1 (shut_bool Try.underlying4 _), (trodAll_cons_mk (Below.trod laidOut (by kernel_rfl) (of_decide_eq_true (by kernel_rfl)) k0 bel lt0) (trodAll_cons_mk (Below.trod laidOut (by kernel_rfl) (of_decide_eq_true (by kernel_rfl)) k1 bel lt1) trodAll_mk0)), rfl, bel.frame _, fun h => by cases h⟩
theorem over : Rows.frameBuildsRow.holds Try.pinned (OpenSpec.ofChange Rows.frameBuildsSpec) :=
  OpenClaim.holds_of_wide 3 Try.f3 rfl rfl rfl rfl rfl rfl rfl ⟨rfl, rfl, rfl, rfl, rfl⟩ rfl rfl rfl rfl rfl (by kernel_rfl) Try.func3 (by kernel_rfl)
    (of_decide_eq_true (by kernel_rfl)) (by unfold Func.isWrapper; first | (rw [if_pos (by decide +kernel)]; kernel_rfl) | (rw [if_neg (by decide +kernel)]; exact ⟨rfl, rfl⟩))
    (fun os started H enc _ => lifted os started H enc)
theorem proved : Rows.FrameBuildsSaid := over
#print axioms proved
end Go.Proofs.Ytaoeehnnboegnaa.frameBuilds
namespace Go.Proofs.Ytaoeehnnboegnaa
/-- The row, under a short name, for the claim. -/
theorem frameBuilds_holds : Rows.FrameBuildsSaid := frameBuilds.proved
end Go.Proofs.Ytaoeehnnboegnaa
