-- written by mk.sh, a program of this session, over the kit's print
import Derived.Test.YtgebmeojmenomaaBkPx0
import Derived.Test.YtgebmeojmenomaaBkPx2
import Derived.Test.YtgebmeojmenomaaBkPx9
namespace Go.Proofs.Ytgebmeojmenomaa.P
open Go.RowKit Go.Proofs.YtgebmeojmenomaaW.PrintWords Go.Proofs.YtgebmeojmenomaaW.PrintLast Go.Proofs.YtgebmeojmenomaaW.PrintMore
attribute [local go_sem] max2_int min2_int max_two min_two max_three min_three max_four min_four   -- for this text's walks alone
set_option linter.unusedVariables false
set_option linter.unusedSimpArgs false

/-! ### bitrow_Shuffle: function 33, given -/
/-- d places more of a shuffle: out from i on. -/
def bitrow_shuf (n c : Int) (l0 : List Int) : Nat → List Int → Int → Int → Int → Option (List Int)
  | 0, out, _, _, _ => some out
  | d + 1, out, i, col, at_ => (bitrow_next n c col at_).bind fun p => if 0 ≤ p.1 then (if p.1 < (l0.length : Int) then bitrow_shuf n c l0 d (out.set i.toNat (rd l0 p.1)) (i + 1) p.2.1 p.2.2 else none) else none
def bitrow_Shuffle.f (l0 : List Int) (a1 : Int) : Option (List Int × Int) :=
  if a1 < 1 then some ([], 1) else if a1 > 64 then some ([], 1) else if l0.length ≤ 281474976710656 then
    (bitrow_shuf (l0.length : Int) (wrap64 (Int.tdiv (wrap64 (wrap64 ((l0.length : Int) + a1) - 1)) a1)) l0 l0.length (List.replicate l0.length 0) 0 0 0).map (fun r => (r, 0)) else none
set_option maxHeartbeats 8000000 in
set_option maxRecDepth 100000 in
theorem bitrow_Shuffle.calls (A0 : Option Addr) (c0 : Nat) (l0 : List Int) (a1 : Int) (r1 : List Int) (r2 : Int) (w : World) (hr0 : Kd.C (Kd.int .u8) w A0 l0.length l0) (hc0 : l0.length ≤ c0) (h : bitrow_Shuffle.f l0 a1 = some (r1, r2)) :
    Calls Try.prog 33 #[.slice A0 l0.length c0, .int .i64 a1] w fun e w' => ∃ v0_ : Value, e = .returned (.tuple #[v0_, .int .i64 r2]) ∧ Kd.R (Kd.int .u8) 5 w' w.heap.size (fun _ => True) v0_ r1 ∧ Below w.heap.size w w' := by
  have HR0 := Aside0.mk hr0
  clear hr0 hc0
  unfold bitrow_Shuffle.f at h
  by_cases h1 : a1 < 1
  · rw [if_pos h1] at h
    have hb1 : decide (a1 < 1) = true := decide_eq_true h1
    simp only [Option.some.injEq, Prod.mk.injEq] at h
    obtain ⟨rfl, rfl⟩ := h
    clear h1
    go_enter Try.func33, Try.ntmps33
    go_wp2
    go_ret2
    exact ⟨_, rfl, Kd.R_nil _ _ _ _ _, Below.refl _ _⟩
  rw [if_neg h1] at h
  have hb1 : decide (a1 < 1) = false := decide_eq_false h1
  by_cases h2 : a1 > 64
  · rw [if_pos h2] at h
    have hb2 : decide (64 < a1) = true := decide_eq_true h2
    simp only [Option.some.injEq, Prod.mk.injEq] at h
    obtain ⟨rfl, rfl⟩ := h
    clear h1 h2
    go_enter Try.func33, Try.ntmps33
    go_wp2
    go_ret2
    exact ⟨_, rfl, Kd.R_nil _ _ _ _ _, Below.refl _ _⟩
  rw [if_neg h2] at h
  have hb2 : decide (64 < a1) = false := decide_eq_false h2
  by_cases h3' : ¬ l0.length ≤ 281474976710656
  · rw [if_neg h3'] at h
    exact absurd h (by simp)
  have h3 : l0.length ≤ 281474976710656 := by omega
  clear h3'
  rw [if_pos h3] at h
  obtain ⟨cc, hcc⟩ : ∃ cc, cc = wrap64 (Int.tdiv (wrap64 (wrap64 ((l0.length : Int) + a1) - 1)) a1) := ⟨_, rfl⟩
  rw [← hcc] at h
  obtain ⟨r1', hs, he⟩ := Option.map_eq_some_iff.1 h
  injection he with e1 e2
  subst e1 e2
  have HS := Aside0.mk hs
  have hz : a1 ≠ 0 := by omega
  have HZ := Aside0.mk hz
  have HL := Aside0.mk h3
  have HCC := Aside0.mk hcc
  have hl0 : (0 : Int) ≤ (l0.length : Int) := by omega
  clear h h1 h2 h3 hs hcc hz
  go_enter Try.func33, Try.ntmps33
  go_wp2_with (first | (go_at_call 52; refine (bitrow_columns_calls (l0.length : Int) a1 w HZ.out).mono ?_; rintro e w2 ⟨rfl, hv, hsz, hbl⟩; rw [← HCC.out] at hv; have HV := Aside0.mk hv; have HB := Aside0.mk hbl; have HSZ := Aside0.mk hsz; clear hv hbl hsz) | ((with_reducible refine gate_dst (N := 21) rfl ?_); refine Kd.R_make (Kd.int .u8) _ 5 rfl (N := 21) rfl 22 _ _ rfl (l0.length : Int) rfl rfl Try.underlying22 (.int .u8 0) 1 info5 rfl (by decide) (by omega) 0 (ok := fun _ => True) (okp := fun _ => True) rfl (fun _ hk => hk) trivial hl0 (by have := HL.out; omega) (Below.refl _ _) (Nat.le_refl _) ?_; intro v220 w7 ho8 hb hg_ hnew_; clear hg_ hnew_; rw [Int.toNat_natCast] at ho8; have n0_ := Aside0.mk (Kd.R_lower ho8 (below_size HB.out)); have n1_ := Aside0.mk (below_step HB.out hb); have n2_ := Aside0.mk (HV.out.same hb); clear HB HV; have HO := n0_; have HB := n1_; have HV := n2_; clear n0_ n1_ n2_; clear hb ho8; obtain ⟨Ao9, co9, eo9⟩ := Kd.R_slice HO.out; subst eo9; have hlr : (List.replicate l0.length (0 : Int)).length = l0.length := List.length_replicate; rw [hlr] at HO))
  go_loopg [24] l0.length (fun kq v24 w' => ∃ (out : List Int) (i : Nat) (col at_ : Int), v24 = .int .i64 (i : Int) ∧ Aside0 (i + kq = l0.length) ∧ Aside0 (out.length = l0.length) ∧ Aside0 (bitrow_shuf (l0.length : Int) cc l0 kq out (i : Int) col at_ = some r1') ∧ Aside0 (Kd.R (Kd.int .u8) 5 w' w.heap.size (fun _ => True) (.slice Ao9 l0.length co9) out) ∧ Aside0 (bitrow_Vars w' w.heap.size (l0.length : Int) cc col at_) ∧ Aside0 (Below w.heap.size w w'))
  case atStart => exact ⟨List.replicate l0.length 0, 0, 0, 0, rfl, ⟨by omega⟩, ⟨hlr⟩, HS, HO, HV, HB⟩
  case round =>
    clear HS HO HV HB
    obtain ⟨out, i, col, at_, rfl, HI, HN, HS, HO, HV, HB⟩ := hrel
    cases gk with
    | zero =>
      have hj : decide (i < l0.length) = false := decide_eq_false (by have := HI.out; omega)
      have e := HS.out
      simp only [bitrow_shuf] at e
      injection e with e
      subst e
      go_wp2
      go_ret2
      exact ⟨_, rfl, HO.out, HB.out⟩
    | succ k1 =>
      have hj : decide (i < l0.length) = true := decide_eq_true (by have := HI.out; omega)
      have hj0 : decide (0 ≤ (i : Int)) = true := decide_eq_true (by omega)
      have e := HS.out
      simp only [bitrow_shuf] at e
      obtain ⟨⟨p, col', at'⟩, hnx, e⟩ := Option.bind_eq_some_iff.1 e
      have HNX := Aside0.mk hnx
      by_cases p0 : 0 ≤ p
      · by_cases p1 : p < (l0.length : Int)
        · simp only [if_pos p0, if_pos p1, Int.toNat_natCast] at e
          have HE := Aside0.mk e
          have hp0 : decide (0 ≤ p) = true := decide_eq_true p0
          have hp1 : decide (p < (l0.length : Int)) = true := decide_eq_true p1
          obtain ⟨ad, ea, hx⟩ := Kd.at_int HR0.out p p0 p1
          cases ea
          have HX := Aside0.mk hx
          have HQ : 0 ≤ (i : Int) ∧ (i : Int) < (out.length : Int) := ⟨by omega, by have := HI.out; have := HN.out; omega⟩
          have HON := HO.out
          rw [← HN.out] at HON
          obtain ⟨go, co, eo, gb, _, cl, _⟩ := Kd.R_form HON (by omega)
          injection eo with ea en ec
          subst ea ec
          clear HON en
          have GB := Aside0.mk gb
          have HQ2 := Aside0.mk HQ
          have tp0 : (0 ≤ p) = True := eq_true p0
          have tp1 : (p < (l0.length : Int)) = True := eq_true p1
          have ti : (i < l0.length) = True := eq_true (of_decide_eq_true hj)
          clear hx e hnx p0 p1 gb HQ
          go_wp2_with (first | (go_at_call 57; refine (bitrow_columns1_calls w.heap.size (l0.length : Int) cc col at_ p col' at' wr HV.out HNX.out).mono ?_; rintro e w2 ⟨rfl, hv2, hs2, hk2, hb2⟩; have HO2 := Aside0.mk (bitrow_own_next HO.out HV.out hk2); have HV2 := Aside0.mk hv2; have HB2 := Aside0.mk (HB.out.trans (hb2 _ (Nat.le_refl _))); have hx2 := (HB2.out.cell (World.block_lt_of_cell? w _ HX.out)).trans HX.out; obtain ⟨hc9, hf9⟩ := Kd.R_celln 0 HO2.out (i : Int) HQ2.out.1 (by have := HQ2.out.2; have := HN.out; omega); rw [Int.toNat_natCast] at hc9 hf9; clear hv2 hs2 hk2 hb2))
          go_roundg k1
          case measure => omega
          case rel =>
            have HON := HO2.out
            rw [← HN.out] at HON
            obtain ⟨go', co', eo', _, _, cl', hgb⟩ := Kd.R_form HON (by have := HN.out; have := HI.out; omega)
            injection eo' with ea' _ _
            injection ea' with ea'
            injection ea' with ea'
            subst ea'
            have hp := Kd.R_putn HO2.out (i : Int) (rd l0 p)
            rw [Int.toNat_natCast] at hp
            exact ⟨out.set i (rd l0 p), i + 1, col', at', by have h2 := HL.out; have h1 := HI.out; simp [wrap64]; omega, ⟨by have := HI.out; omega⟩, ⟨by rw [List.length_set]; exact HN.out⟩, ⟨by first | exact HE.out | (have := HE.out; simpa using this)⟩, ⟨hp⟩, ⟨HV2.out.other hgb _⟩, ⟨HB2.out.setCell GB.out _⟩⟩
        · simp only [if_pos p0, if_neg p1] at e
          exact absurd e (by simp)
      · simp only [if_neg p0] at e
        exact absurd e (by simp)


end Go.Proofs.Ytgebmeojmenomaa.P
