-- written by mk.sh, a program of this session, over the kit's print
import Derived.Test.YtgebmeojmenomaaBkPx0
import Derived.Test.YtgebmeojmenomaaBkPx2
namespace Go.Proofs.Ytgebmeojmenomaa.P
open Go.RowKit Go.Proofs.YtgebmeojmenomaaW.PrintWords Go.Proofs.YtgebmeojmenomaaW.PrintLast Go.Proofs.YtgebmeojmenomaaW.PrintMore
attribute [local go_sem] max2_int min2_int max_two min_two max_three min_three max_four min_four   -- for this text's walks alone
set_option linter.unusedVariables false
set_option linter.unusedSimpArgs false

/-! ### outpostlaw01_within: function 25 -/
def outpostlaw01_within.f (a0 : Int) (a1 : Int) (a2 : Int) : Option (Int) := if (wrap64 ((wrap64 (a2 - a1)) + 1)) = 0 then (none) else (some (wrap64 (a1 + (Int.tmod (wrap64 ((Int.tmod a0 (wrap64 ((wrap64 (a2 - a1)) + 1))) + (wrap64 ((wrap64 (a2 - a1)) + 1)))) (wrap64 ((wrap64 (a2 - a1)) + 1))))))
set_option maxHeartbeats 8000000 in
set_option maxRecDepth 100000 in
theorem outpostlaw01_within.calls (a0 : Int) (a1 : Int) (a2 : Int) (r : Int) (w : World) (h : outpostlaw01_within.f a0 a1 a2 = some r) :
    Calls Try.prog 25 #[.int .i64 a0, .int .i64 a1, .int .i64 a2] w fun e w' => e = .returned (.int .i64 r) ∧ Drawn0 w w' := by
  have H : (if (wrap64 ((wrap64 (a2 - a1)) + 1)) = 0 then (none) else (some (wrap64 (a1 + (Int.tmod (wrap64 ((Int.tmod a0 (wrap64 ((wrap64 (a2 - a1)) + 1))) + (wrap64 ((wrap64 (a2 - a1)) + 1)))) (wrap64 ((wrap64 (a2 - a1)) + 1))))))) = some r := h
  clear h
  by_cases c4 : (wrap64 ((wrap64 (a2 - a1)) + 1)) = 0
  · rw [if_pos c4] at H
    exact absurd H (by simp)
  · rw [if_neg c4] at H
    have c4b0 : ((wrap64 ((wrap64 (a2 - a1)) + 1)) == 0) = false := beq_eq_false_iff_ne.mpr c4
    have c4b1 : ((wrap64 ((wrap64 (a2 - a1)) + 1)) != 0) = true := bne_iff_ne.mpr c4
    obtain rfl := Option.some.inj H
    go_enter Try.func25, Try.ntmps25
    go_wp2
    go_ret
    exact ⟨by first | rfl | (simp; done) | (simp [*]; done) | (simp [wrap64]; done), by repeat (first | exact Drawn0.refl _ | apply Drawn0.step)⟩

/-! ### bitrow_columns: function 52, given -/
/-- One step of a shuffle's places: the place, and what the column and the next place have become. -/
def bitrow_next (n c col at_ : Int) : Option (Int × Int × Int) :=
  if at_ < n then some (at_, col, wrap64 (at_ + c)) else if wrap64 (col + 1) < n then some (wrap64 (col + 1), wrap64 (col + 1), wrap64 (wrap64 (col + 1) + c)) else none
/-- The four variables that the closure holds. -/
def bitrow_Vars (w : World) (b : Nat) (n c col at_ : Int) : Prop :=
  w.heap[b]? = some (.cells #[.int .i64 n] 3 (0, 0)) ∧ w.heap[b + 1]? = some (.cells #[.int .i64 c] 3 (0, 0)) ∧ w.heap[b + 2]? = some (.cells #[.int .i64 col] 3 (0, 0)) ∧ w.heap[b + 3]? = some (.cells #[.int .i64 at_] 3 (0, 0))
theorem bitrow_heap_set {w : World} {p : Addr} {u : Value} {k : Nat} (h : k ≠ p.block) : (w.setCell p u).heap[k]? = w.heap[k]? := Below.heap_setCell w p u k h
theorem bitrow_Vars.setAt {w : World} {b : Nat} {n c col at_ : Int} (h : bitrow_Vars w b n c col at_) (v : Int) : bitrow_Vars (w.setCell ⟨b + 3, 0, none⟩ (.int .i64 v)) b n c col v :=
  ⟨by rw [bitrow_heap_set (by simp)]; exact h.1, by rw [bitrow_heap_set (by simp)]; exact h.2.1, by rw [bitrow_heap_set (by simp)]; exact h.2.2.1, one_setCell h.2.2.2⟩
theorem bitrow_Vars.setCol {w : World} {b : Nat} {n c col at_ : Int} (h : bitrow_Vars w b n c col at_) (v : Int) : bitrow_Vars (w.setCell ⟨b + 2, 0, none⟩ (.int .i64 v)) b n c v at_ :=
  ⟨by rw [bitrow_heap_set (by simp)]; exact h.1, by rw [bitrow_heap_set (by simp)]; exact h.2.1, one_setCell h.2.2.1, by rw [bitrow_heap_set (by simp)]; exact h.2.2.2⟩
set_option maxHeartbeats 8000000 in
theorem bitrow_columns1_calls (b : Nat) (n c col at_ p col' at' : Int) (w : World) (hv : bitrow_Vars w b n c col at_) (h : bitrow_next n c col at_ = some (p, col', at')) :
    Calls Try.prog 57 #[.pointer (some ⟨b + 3, 0, none⟩), .pointer (some ⟨b, 0, none⟩), .pointer (some ⟨b + 2, 0, none⟩), .pointer (some ⟨b + 1, 0, none⟩)] w fun e w' => e = .returned (.int .i64 p) ∧ bitrow_Vars w' b n c col' at' ∧ w'.heap.size = w.heap.size ∧ (∀ k, k ≠ b + 2 → k ≠ b + 3 → w'.heap[k]? = w.heap[k]?) ∧ (∀ B, B ≤ b → Below B w w') := by
  have cn := cell_of_one hv.1
  have cc := cell_of_one hv.2.1
  have cl := cell_of_one hv.2.2.1
  have ca := cell_of_one hv.2.2.2
  have fl := free_of_one hv.2.2.1
  have fa := free_of_one hv.2.2.2
  unfold bitrow_next at h
  by_cases h1 : at_ < n
  · rw [if_pos h1] at h
    injection h with h
    injection h with e1 e2
    injection e2 with e2 e3
    subst e1 e2 e3
    have hb1 : decide (n ≤ at_) = false := decide_eq_false (by omega)
    have HV := Aside0.mk hv
    clear h1 hv
    go_enter Try.func57, Try.ntmps57
    go_wp2
    refine wp_loop_rounds 1 ?_
    rw [rounds_succ]
    go_wp2
    go_ret
    exact ⟨rfl, HV.out.setAt _, by simp [World.setCell], fun k h2 h3 => bitrow_heap_set h3, fun B hB => (Below.refl B w).setCell (show B ≤ b + 3 by omega) _⟩
  · rw [if_neg h1] at h
    by_cases h2 : wrap64 (col + 1) < n
    · rw [if_pos h2] at h
      injection h with h
      injection h with e1 e2
      injection e2 with e2 e3
      obtain ⟨q, hq⟩ : ∃ q, q = wrap64 (col + 1) := ⟨_, rfl⟩
      rw [← hq] at e1 e2 e3 h2
      subst e1 e2 e3
      have hb1 : decide (n ≤ at_) = true := decide_eq_true (by omega)
      have hb2 : decide (n ≤ q) = false := decide_eq_false (by omega)
      have v1 := hv.setCol q
      have v2 := v1.setAt q
      have HV := Aside0.mk v2
      have f1a := free_of_one v1.2.2.2
      have c1l := cell_of_one v1.2.2.1
      have c2n := cell_of_one v2.1
      have c2c := cell_of_one v2.2.1
      have c2a := cell_of_one v2.2.2.2
      have f2a := free_of_one v2.2.2.2
      have HQ : wrap64 (col + 1) = q := hq.symm
      clear h1 h2 hv v1 v2 hq
      go_enter Try.func57, Try.ntmps57
      go_wp2
      refine wp_loop_rounds 2 ?_
      rw [rounds_succ]
      go_wp2
      rw [HQ]
      go_wp2
      rw [rounds_succ]
      go_wp2
      go_ret
      exact ⟨rfl, HV.out.setAt _, by simp [World.setCell], fun k h2 h3 => by rw [bitrow_heap_set h3, bitrow_heap_set h3, bitrow_heap_set h2], fun B hB => (((Below.refl B w).setCell (show B ≤ b + 2 by omega) _).setCell (show B ≤ b + 3 by omega) _).setCell (show B ≤ b + 3 by omega) _⟩
    · rw [if_neg h2] at h
      exact absurd h (by simp)

theorem push4_ {α : Type} (h : Array α) (a b c d : α) : ((((h.push a).push b).push c).push d)[h.size]? = some a ∧ ((((h.push a).push b).push c).push d)[h.size + 1]? = some b ∧ ((((h.push a).push b).push c).push d)[h.size + 2]? = some c ∧ ((((h.push a).push b).push c).push d)[h.size + 3]? = some d := by
  simp only [Array.getElem?_push, Array.size_push]
  refine ⟨?_, ?_, ?_, ?_⟩ <;> repeat (first | rfl | rw [if_pos (by omega)] | rw [if_neg (by omega)])
set_option maxHeartbeats 8000000 in
theorem bitrow_columns_calls (n rows : Int) (w : World) (hz : rows ≠ 0) :
    Calls Try.prog 52 #[.int .i64 n, .int .i64 rows] w fun e w' => e = .returned (.func (.func 57) #[] #[.pointer (some ⟨w.heap.size + 3, 0, none⟩), .pointer (some ⟨w.heap.size, 0, none⟩), .pointer (some ⟨w.heap.size + 2, 0, none⟩), .pointer (some ⟨w.heap.size + 1, 0, none⟩)]) ∧
      bitrow_Vars w' w.heap.size n (wrap64 (Int.tdiv (wrap64 (wrap64 (n + rows) - 1)) rows)) 0 0 ∧ w'.heap.size = w.heap.size + 4 ∧ Below w.heap.size w w' := by
  have hmf : ∀ (fn : Fn) (first cap : Array Value) (w : World), (Instr.makeFunc fn first cap).run Try.prog w = .ok (.func fn first cap) w := fun _ _ _ _ => rfl
  go_enter Try.func52, Try.ntmps52
  go_wp2
  all_goals first | exact absurd ‹rows = 0› hz | skip
  go_ret
  refine ⟨rfl, ⟨?_, ?_, ?_, ?_⟩, ?_, ?_⟩
  · exact (push4_ w.heap _ _ _ _).1
  · exact (push4_ w.heap _ _ _ _).2.1
  · exact (push4_ w.heap _ _ _ _).2.2.1
  · exact (push4_ w.heap _ _ _ _).2.2.2
  · show ((((w.heap.push _).push _).push _).push _).size = _
    simp
  · repeat (first | exact Below.refl _ _ | apply below_alloc)
theorem bitrow_Vars.other {w : World} {b : Nat} {n c col at_ : Int} (h : bitrow_Vars w b n c col at_) {g j : Nat} {cells : Array Value} (hg : w.heap[g]? = some (.cells cells 5 (0, 0))) (u : Value) : bitrow_Vars (w.setCell ⟨g, j, none⟩ u) b n c col at_ := by
  have ne : ∀ (k : Nat) (v : Value), w.heap[k]? = some (.cells #[v] 3 (0, 0)) → k ≠ g := by
    intro k v hk e
    subst e
    rw [hk] at hg
    injection hg with hg
    injection hg with _ e _
    exact absurd e (by decide)
  exact ⟨by rw [bitrow_heap_set (ne _ _ h.1)]; exact h.1, by rw [bitrow_heap_set (ne _ _ h.2.1)]; exact h.2.1, by rw [bitrow_heap_set (ne _ _ h.2.2.1)]; exact h.2.2.1, by rw [bitrow_heap_set (ne _ _ h.2.2.2)]; exact h.2.2.2⟩
theorem bitrow_Vars.same {w w' : World} {b : Nat} {n c col at_ : Int} (h : bitrow_Vars w b n c col at_) (hb : Below w.heap.size w w') : bitrow_Vars w' b n c col at_ :=
  ⟨(hb.block _ (lt_of_block h.1)).trans h.1, (hb.block _ (lt_of_block h.2.1)).trans h.2.1, (hb.block _ (lt_of_block h.2.2.1)).trans h.2.2.1, (hb.block _ (lt_of_block h.2.2.2)).trans h.2.2.2⟩
theorem bitrow_own_next {w w' : World} {base b : Nat} {n c col at_ : Int} {v : Value} {xs : List Int} (h : Kd.R (Kd.int .u8) 5 w base (fun _ => True) v xs) (hv : bitrow_Vars w b n c col at_) (hk : ∀ k, k ≠ b + 2 → k ≠ b + 3 → w'.heap[k]? = w.heap[k]?) : Kd.R (Kd.int .u8) 5 w' base (fun _ => True) v xs :=
  Kd.R_mono (Kd.R_step (Kd.R_types (Kd.R_types h hv.2.2.1 (by decide)) hv.2.2.2 (by decide)) (fun k hk1 _ => hk k hk1.1.2 hk1.2)) (fun _ _ => trivial)

/-! ### bitrow_Unshuffle: function 34, given -/
/-- d places more the other way round. -/
def bitrow_unshuf (n c : Int) (l0 : List Int) : Nat → List Int → Int → Int → Int → Option (List Int)
  | 0, out, _, _, _ => some out
  | d + 1, out, i, col, at_ => (bitrow_next n c col at_).bind fun p => if 0 ≤ p.1 then (if p.1 < (out.length : Int) then bitrow_unshuf n c l0 d (out.set p.1.toNat (rd l0 i)) (i + 1) p.2.1 p.2.2 else none) else none
def bitrow_Unshuffle.f (l0 : List Int) (a1 : Int) : Option (List Int × Int) :=
  if a1 < 1 then some ([], 1) else if a1 > 64 then some ([], 1) else if l0.length ≤ 281474976710656 then
    (bitrow_unshuf (l0.length : Int) (wrap64 (Int.tdiv (wrap64 (wrap64 ((l0.length : Int) + a1) - 1)) a1)) l0 l0.length (List.replicate l0.length 0) 0 0 0).map (fun r => (r, 0)) else none
set_option maxHeartbeats 8000000 in
set_option maxRecDepth 100000 in
theorem bitrow_Unshuffle.calls (A0 : Option Addr) (c0 : Nat) (l0 : List Int) (a1 : Int) (r1 : List Int) (r2 : Int) (w : World) (hr0 : Kd.C (Kd.int .u8) w A0 l0.length l0) (hc0 : l0.length ≤ c0) (h : bitrow_Unshuffle.f l0 a1 = some (r1, r2)) :
    Calls Try.prog 34 #[.slice A0 l0.length c0, .int .i64 a1] w fun e w' => ∃ v0_ : Value, e = .returned (.tuple #[v0_, .int .i64 r2]) ∧ Kd.R (Kd.int .u8) 5 w' w.heap.size (fun _ => True) v0_ r1 ∧ Below w.heap.size w w' := by
  have HR0 := Aside0.mk hr0
  clear hr0 hc0
  unfold bitrow_Unshuffle.f at h
  by_cases h1 : a1 < 1
  · rw [if_pos h1] at h
    have hb1 : decide (a1 < 1) = true := decide_eq_true h1
    simp only [Option.some.injEq, Prod.mk.injEq] at h
    obtain ⟨rfl, rfl⟩ := h
    clear h1
    go_enter Try.func34, Try.ntmps34
    go_wp2
    go_ret2
    exact ⟨_, rfl, Kd.R_nil _ _ _ _ _, Below.refl _ _⟩
  rw [if_neg h1] at h
  have hb1 : decide (a1 < 1) = false := decide_eq_false h1
  by_cases h2 : a1 > 64
  · rw [if_pos h2] at h
    have hb2 : decide (64 < a1) = true := decide_eq_true h2
    simp only [Option.some.injEq, Prod.mk.injEq] at h
    obtain ⟨rfl, rfl⟩ := h
    clear h1 h2
    go_enter Try.func34, Try.ntmps34
    go_wp2
    go_ret2
    exact ⟨_, rfl, Kd.R_nil _ _ _ _ _, Below.refl _ _⟩
  rw [if_neg h2] at h
  have hb2 : decide (64 < a1) = false := decide_eq_false h2
  by_cases h3' : ¬ l0.length ≤ 281474976710656
  · rw [if_neg h3'] at h
    exact absurd h (by simp)
  have h3 : l0.length ≤ 281474976710656 := by omega
  clear h3'
  rw [if_pos h3] at h
  obtain ⟨cc, hcc⟩ : ∃ cc, cc = wrap64 (Int.tdiv (wrap64 (wrap64 ((l0.length : Int) + a1) - 1)) a1) := ⟨_, rfl⟩
  rw [← hcc] at h
  obtain ⟨r1', hs, he⟩ := Option.map_eq_some_iff.1 h
  injection he with e1 e2
  subst e1 e2
  have HS := Aside0.mk hs
  have hz : a1 ≠ 0 := by omega
  have HZ := Aside0.mk hz
  have HL := Aside0.mk h3
  have HCC := Aside0.mk hcc
  have hl0 : (0 : Int) ≤ (l0.length : Int) := by omega
  clear h h1 h2 h3 hs hcc hz
  go_enter Try.func34, Try.ntmps34
  go_wp2_with (first | (go_at_call 52; refine (bitrow_columns_calls (l0.length : Int) a1 w HZ.out).mono ?_; rintro e w2 ⟨rfl, hv, hsz, hbl⟩; rw [← HCC.out] at hv; have HV := Aside0.mk hv; have HB := Aside0.mk hbl; have HSZ := Aside0.mk hsz; clear hv hbl hsz) | ((with_reducible refine gate_dst (N := 21) rfl ?_); refine Kd.R_make (Kd.int .u8) _ 5 rfl (N := 21) rfl 22 _ _ rfl (l0.length : Int) rfl rfl Try.underlying22 (.int .u8 0) 1 info5 rfl (by decide) (by omega) 0 (ok := fun _ => True) (okp := fun _ => True) rfl (fun _ hk => hk) trivial hl0 (by have := HL.out; omega) (Below.refl _ _) (Nat.le_refl _) ?_; intro v220 w7 ho8 hb hg_ hnew_; clear hg_ hnew_; rw [Int.toNat_natCast] at ho8; have n0_ := Aside0.mk (Kd.R_lower ho8 (below_size HB.out)); have n1_ := Aside0.mk (below_step HB.out hb); have n2_ := Aside0.mk (HV.out.same hb); clear HB HV; have HO := n0_; have HB := n1_; have HV := n2_; clear n0_ n1_ n2_; clear hb ho8; obtain ⟨Ao9, co9, eo9⟩ := Kd.R_slice HO.out; subst eo9; have hlr : (List.replicate l0.length (0 : Int)).length = l0.length := List.length_replicate; rw [hlr] at HO))
  go_loopg [24] l0.length (fun kq v24 w' => ∃ (out : List Int) (i : Nat) (col at_ : Int), v24 = .int .i64 (i : Int) ∧ Aside0 (i + kq = l0.length) ∧ Aside0 (out.length = l0.length) ∧ Aside0 (bitrow_unshuf (l0.length : Int) cc l0 kq out (i : Int) col at_ = some r1') ∧ Aside0 (Kd.R (Kd.int .u8) 5 w' w.heap.size (fun _ => True) (.slice Ao9 l0.length co9) out) ∧ Aside0 (bitrow_Vars w' w.heap.size (l0.length : Int) cc col at_) ∧ Aside0 (Below w.heap.size w w'))
  case atStart => exact ⟨List.replicate l0.length 0, 0, 0, 0, rfl, ⟨by omega⟩, ⟨hlr⟩, HS, HO, HV, HB⟩
  case round =>
    clear HS HO HV HB
    obtain ⟨out, i, col, at_, rfl, HI, HN, HS, HO, HV, HB⟩ := hrel
    cases gk with
    | zero =>
      have hj : decide (i < l0.length) = false := decide_eq_false (by have := HI.out; omega)
      have e := HS.out
      simp only [bitrow_unshuf] at e
      injection e with e
      subst e
      go_wp2
      go_ret2
      exact ⟨_, rfl, HO.out, HB.out⟩
    | succ k1 =>
      have hj : decide (i < l0.length) = true := decide_eq_true (by have := HI.out; omega)
      have hj0 : decide (0 ≤ (i : Int)) = true := decide_eq_true (by omega)
      have e := HS.out
      simp only [bitrow_unshuf] at e
      obtain ⟨⟨p, col', at'⟩, hnx, e⟩ := Option.bind_eq_some_iff.1 e
      have HNX := Aside0.mk hnx
      by_cases p0 : 0 ≤ p
      · by_cases p1 : p < (out.length : Int)
        · simp only [if_pos p0, if_pos p1, Int.toNat_natCast] at e
          have HE := Aside0.mk e
          have HQ : 0 ≤ (i : Int) ∧ (i : Int) < (l0.length : Int) := ⟨by omega, by have := HI.out; omega⟩
          obtain ⟨ad, ea, hx⟩ := Kd.at_int HR0.out (i : Int) HQ.1 HQ.2
          cases ea
          rw [Int.toNat_natCast] at hx
          have HX := Aside0.mk hx
          have HON := HO.out
          rw [← HN.out] at HON
          obtain ⟨go, co, eo, gb, _, cl, _⟩ := Kd.R_form HON (by have := HN.out; have := HI.out; omega)
          injection eo with ea en ec
          subst ea ec
          clear HON en
          have GB := Aside0.mk gb
          have p1' : p < (l0.length : Int) := by have := HN.out; omega
          have HP := Aside0.mk (And.intro p0 p1')
          have tp0 : (0 ≤ p) = True := eq_true p0
          have tp1 : (p < (l0.length : Int)) = True := eq_true p1'
          have ti : (i < l0.length) = True := eq_true (of_decide_eq_true hj)
          clear hx e hnx p0 p1 p1' gb HQ
          go_wp2
          have hx0 := (HB.out.cell (World.block_lt_of_cell? w _ HX.out)).trans HX.out
          have HO1 := Aside0.mk (Kd.R_drew HO.out)
          have HB1 := Aside0.mk (below_drew1 HB.out)
          have HV1 : Aside0 (bitrow_Vars wr.drew w.heap.size (l0.length : Int) cc col at_) := ⟨HV.out⟩
          refine start_ (n := 9) (S := fun w' => w'.cell? (ad.add i) = some (.int .u8 (rd l0 (i : Int)))) (ds := [8]) #[false, false, false, false, false, false, false, false, false] (by kernel_rfl) rfl rfl hx0 (fun hHeld => ?_)
          generalize wr.drew = w16 at HO1 HB1 HV1 hHeld ⊢
          refine pure_ (i := 0) (N := some 27) (v := ?_) (a' := ?_) #[true, false, false, false, false, false, false, false, false] rfl rfl (by kernel_rfl) (fun _ _ _ h => h) (Or.inl ⟨by rfl, ?_⟩) ?_ ?_
          rotate_left
          · intro w'
            go_simp
            with_reducible rfl
          rotate_left
          · simp only [Act.put, List.setIfInBounds_toArray, List.set_cons_zero, List.set_cons_succ, i64_w, i32_w]
            rfl
          refine pure_ (i := 1) (N := some 28) (v := ?_) (a' := ?_) #[true, true, false, false, false, false, false, false, false] rfl rfl (by kernel_rfl) (fun _ _ _ h => h) (Or.inl ⟨by rfl, ?_⟩) ?_ ?_
          rotate_left
          · intro w'
            go_simp
            with_reducible rfl
          rotate_left
          · simp only [Act.put, List.setIfInBounds_toArray, List.set_cons_zero, List.set_cons_succ, i64_w, i32_w]
            rfl
          refine pure_ (i := 3) (N := some 30) (v := ?_) (a' := ?_) #[true, true, false, true, false, false, false, false, false] rfl rfl (by kernel_rfl) (fun _ _ _ h => h) (Or.inl ⟨by rfl, ?_⟩) ?_ ?_
          rotate_left
          · intro w'
            go_simp
            with_reducible rfl
          rotate_left
          · simp only [Act.put, List.setIfInBounds_toArray, List.set_cons_zero, List.set_cons_succ, i64_w, i32_w]
            rfl
          refine pure_ (i := 4) (N := some 31) (v := ?_) (a' := ?_) #[true, true, false, true, true, false, false, false, false] rfl rfl (by kernel_rfl) (fun _ _ _ h => h) (Or.inl ⟨by rfl, ?_⟩) ?_ ?_
          rotate_left
          · intro w'
            go_simp
            with_reducible rfl
          rotate_left
          · simp only [Act.put, List.setIfInBounds_toArray, List.set_cons_zero, List.set_cons_succ, i64_w, i32_w]
            rfl
          refine pure_ (i := 5) (N := some 32) (v := ?_) (a' := ?_) #[true, true, false, true, true, true, false, false, false] rfl rfl (by kernel_rfl) (fun _ _ _ h => h) (Or.inl ⟨by rfl, ?_⟩) ?_ ?_
          rotate_left
          · intro w'
            go_simp
            with_reducible rfl
          rotate_left
          · simp only [Act.put, List.setIfInBounds_toArray, List.set_cons_zero, List.set_cons_succ, i64_w, i32_w]
            rfl
          refine take_ (i := 6) (N := some 33) (v := ?_) (a' := ?_) #[true, true, false, true, true, true, true, false, false] rfl rfl (by kernel_rfl) (fun _ _ _ h => h) (Or.inl ⟨by rfl, ?_⟩) hHeld ?_ ?_
          rotate_left
          · rintro w' s0
            go_simp
            with_reducible rfl
          rotate_left
          · simp only [Act.put, List.setIfInBounds_toArray, List.set_cons_zero, List.set_cons_succ, i64_w, i32_w]
            rfl
          refine one_ (i := 2) (N := some 29) #[true, true, true, true, true, true, true, false, false] rfl rfl (by kernel_rfl) (by decide) (fun K hK => ?_)
          refine call_ 57 #[.pointer (some ⟨w.heap.size + 3, 0, none⟩), .pointer (some ⟨w.heap.size, 0, none⟩), .pointer (some ⟨w.heap.size + 2, 0, none⟩), .pointer (some ⟨w.heap.size + 1, 0, none⟩)] (by rfl) rfl ?hrun ?_
          case hrun =>
            have he := enters_ Try.func57 (by kernel_rfl) rfl #[.pointer (some ⟨w.heap.size + 3, 0, none⟩), .pointer (some ⟨w.heap.size, 0, none⟩), .pointer (some ⟨w.heap.size + 2, 0, none⟩), .pointer (some ⟨w.heap.size + 1, 0, none⟩)] w16
            unfold execOp
            simp [resolve, Deferred.ofValue, invoke, Act.eval, he]
          refine (bitrow_columns1_calls w.heap.size (l0.length : Int) cc col at_ p col' at' w16 HV1.out HNX.out).mono ?_
          rintro e w2 ⟨rfl, hv2, hs2, hk2, hb2⟩
          have HO2 := Aside0.mk (bitrow_own_next HO1.out HV1.out hk2)
          have HV2 := Aside0.mk hv2
          have HB2 := Aside0.mk (HB1.out.trans (hb2 _ (Nat.le_refl _)))
          have hx2 := (HB2.out.cell (World.block_lt_of_cell? w _ HX.out)).trans HX.out
          refine ⟨_, rfl, hK.out _ _ hx2 (fun hHeld2 => ?_)⟩
          clear hv2 hs2 hk2 hb2 hK K hx2 hHeld
          obtain ⟨hc9, hf9⟩ := Kd.R_celln 0 HO2.out p HP.out.1 HP.out.2
          refine pure_ (i := 7) (N := some 34) (v := ?_) (a' := ?_) #[true, true, true, true, true, true, true, true, false] rfl rfl (by kernel_rfl) (fun _ _ _ h => h) (Or.inl ⟨by rfl, ?_⟩) ?_ ?_
          rotate_left
          · intro w'
            go_simp
            with_reducible rfl
          rotate_left
          · simp only [Act.put, List.setIfInBounds_toArray, List.set_cons_zero, List.set_cons_succ, i64_w, i32_w]
            rfl
          refine last_ (i := 8) (N := none) #[true, true, true, true, true, true, true, true, true] rfl rfl (by kernel_rfl) (by decide) (fun K hK => ?_)
          refine skip_ (w1 := ?_) (by rfl) rfl ?_ ?_
          rotate_left
          · go_simp
            rfl
          refine hK.out _ _ ?_
          clear hK K
          refine done_ (by kernel_rfl) ?_
          try go_wp2
          go_roundg k1
          case measure => omega
          case rel =>
            have HON := HO2.out
            rw [← HN.out] at HON
            obtain ⟨go', co', eo', _, _, cl', hgb⟩ := Kd.R_form HON (by have := HN.out; have := HI.out; omega)
            injection eo' with ea' _ _
            injection ea' with ea'
            injection ea' with ea'
            subst ea'
            have hp := Kd.R_putn HO2.out p (rd l0 (i : Int))
            exact ⟨out.set p.toNat (rd l0 (i : Int)), i + 1, col', at', by have h2 := HL.out; have h1 := HI.out; simp [wrap64]; omega, ⟨by have := HI.out; omega⟩, ⟨by rw [List.length_set]; exact HN.out⟩, ⟨by first | exact HE.out | (have := HE.out; simpa using this)⟩, ⟨hp⟩, ⟨HV2.out.other hgb _⟩, ⟨HB2.out.setCell GB.out _⟩⟩
        · simp only [if_pos p0, if_neg p1] at e
          exact absurd e (by simp)
      · simp only [if_neg p0] at e
        exact absurd e (by simp)

/-! ### outpostlaw01_place: function 26 -/
mutual
def outpostlaw01_place.j0 : Nat → Int → List Int → Bool → Option (Int)
  | 0, _, _, _ => none
  | k + 1, x0, x8, x31 => if x31 = true then (some (-1)) else (outpostlaw01_place.l0 k x0 x8 (-1) 0)
def outpostlaw01_place.l0 : Nat → Int → List Int → Int → Int → Option (Int)
  | 0, _, _, _, _ => none
  | k + 1, x0, x8, x10, x11 => if x11 < x0 then (if 0 ≤ x11 then (if x11 < (x8.length : Int) then (if (rd x8 x11) = 1 then (outpostlaw01_place.j2 k x0 x8 x10 x11 (decide (x10 < 0))) else (outpostlaw01_place.j2 k x0 x8 x10 x11 false)) else (none)) else (none)) else (some x10)
def outpostlaw01_place.j2 : Nat → Int → List Int → Int → Int → Bool → Option (Int)
  | 0, _, _, _, _, _ => none
  | k + 1, x0, x8, x10, x11, x45 => if x45 = true then (outpostlaw01_place.l0 k x0 x8 x11 (wrap64 (x11 + 1))) else (if 0 ≤ x11 then (if x11 < (x8.length : Int) then (if (rd x8 x11) = 0 then (outpostlaw01_place.l0 k x0 x8 x10 (wrap64 (x11 + 1))) else (some (-1))) else (none)) else (none))
end
def outpostlaw01_place.f (k : Nat) (a0 : Int) (a1 : Int) (a2 : Int) : Option (Int) := if 0 ≤ a0 then (if (a0 : Int).toNat ≤ 281474976710656 then ((some (List.replicate (a0 : Int).toNat 0 : List Int)).bind fun y341 => (if 0 ≤ a1 then (if a1 < (y341.length : Int) then ((bitrow_Unshuffle.f (y341.set (a1 : Int).toNat 1) a2).bind fun bt345 => ((outpostlaw01_num.f bt345.2).bind fun t349 => (if t349 = 0 then (outpostlaw01_place.j0 k a0 bt345.1 ((bt345.1.length : Int) != a0)) else (outpostlaw01_place.j0 k a0 bt345.1 true)))) else (none)) else (none))) else (none)) else (none)
theorem outpostlaw01_place.mono_l : ∀ k, (∀ y0 y1 y2, LeO (outpostlaw01_place.j0 k y0 y1 y2) (outpostlaw01_place.j0 (k + 1) y0 y1 y2)) ∧ (∀ y0 y1 y2 y3, LeO (outpostlaw01_place.l0 k y0 y1 y2 y3) (outpostlaw01_place.l0 (k + 1) y0 y1 y2 y3)) ∧ (∀ y0 y1 y2 y3 y4, LeO (outpostlaw01_place.j2 k y0 y1 y2 y3 y4) (outpostlaw01_place.j2 (k + 1) y0 y1 y2 y3 y4))
  | 0 => ⟨fun _ _ _ r h => by simp [outpostlaw01_place.j0] at h, fun _ _ _ _ r h => by simp [outpostlaw01_place.l0] at h, fun _ _ _ _ _ r h => by simp [outpostlaw01_place.j2] at h⟩
  | k + 1 => by
    obtain ⟨ih0, ih1, ih2⟩ := outpostlaw01_place.mono_l k
    refine ⟨?_, ?_, ?_⟩
    · intro y0 y1 y2
      unfold outpostlaw01_place.j0
      repeat' first
      | (with_reducible exact ih0 _ _ _)
      | (with_reducible exact ih1 _ _ _ _)
      | (with_reducible exact ih2 _ _ _ _ _)
      | (with_reducible exact LeO.refl _)
      | (with_reducible exact LeO.none _)
      | (with_reducible refine LeO.ite ?_ ?_)
      | (with_reducible refine LeO.bind ?_ (fun _ => ?_))
      | exact ih0 _ _ _
      | exact ih1 _ _ _ _
      | exact ih2 _ _ _ _ _
      | exact LeO.none _
      | refine LeO.ite ?_ ?_
      | refine LeO.bind ?_ (fun _ => ?_)
    · intro y0 y1 y2 y3
      unfold outpostlaw01_place.l0
      repeat' first
      | (with_reducible exact ih0 _ _ _)
      | (with_reducible exact ih1 _ _ _ _)
      | (with_reducible exact ih2 _ _ _ _ _)
      | (with_reducible exact LeO.refl _)
      | (with_reducible exact LeO.none _)
      | (with_reducible refine LeO.ite ?_ ?_)
      | (with_reducible refine LeO.bind ?_ (fun _ => ?_))
      | exact ih0 _ _ _
      | exact ih1 _ _ _ _
      | exact ih2 _ _ _ _ _
      | exact LeO.none _
      | refine LeO.ite ?_ ?_
      | refine LeO.bind ?_ (fun _ => ?_)
    · intro y0 y1 y2 y3 y4
      unfold outpostlaw01_place.j2
      repeat' first
      | (with_reducible exact ih0 _ _ _)
      | (with_reducible exact ih1 _ _ _ _)
      | (with_reducible exact ih2 _ _ _ _ _)
      | (with_reducible exact LeO.refl _)
      | (with_reducible exact LeO.none _)
      | (with_reducible refine LeO.ite ?_ ?_)
      | (with_reducible refine LeO.bind ?_ (fun _ => ?_))
      | exact ih0 _ _ _
      | exact ih1 _ _ _ _
      | exact ih2 _ _ _ _ _
      | exact LeO.none _
      | refine LeO.ite ?_ ?_
      | refine LeO.bind ?_ (fun _ => ?_)
theorem outpostlaw01_place.mono : ∀ a0 a1 a2 k, LeO (outpostlaw01_place.f k a0 a1 a2) (outpostlaw01_place.f (k + 1) a0 a1 a2) := by
  intro a0 a1 a2 k
  obtain ⟨ih0, ih1, ih2⟩ := outpostlaw01_place.mono_l k
  unfold outpostlaw01_place.f
  repeat' first
      | (with_reducible exact ih0 _ _ _)
      | (with_reducible exact ih1 _ _ _ _)
      | (with_reducible exact ih2 _ _ _ _ _)
      | (with_reducible exact LeO.refl _)
      | (with_reducible exact LeO.none _)
      | (with_reducible refine LeO.ite ?_ ?_)
      | (with_reducible refine LeO.bind ?_ (fun _ => ?_))
      | exact ih0 _ _ _
      | exact ih1 _ _ _ _
      | exact ih2 _ _ _ _ _
      | exact LeO.none _
      | refine LeO.ite ?_ ?_
      | refine LeO.bind ?_ (fun _ => ?_)
set_option maxHeartbeats 8000000 in
set_option maxRecDepth 100000 in
theorem outpostlaw01_place.calls (k : Nat) (a0 : Int) (a1 : Int) (a2 : Int) (r : Int) (w : World) (h : outpostlaw01_place.f k a0 a1 a2 = some r) :
    Calls Try.prog 26 #[.int .i64 a0, .int .i64 a1, .int .i64 a2] w fun e w' => e = .returned (.int .i64 r) ∧ Below w.heap.size w w' := by
  have HB := Aside0.mk (Below.refl w.heap.size w)
  have H : (if 0 ≤ a0 then (if (a0 : Int).toNat ≤ 281474976710656 then ((some (List.replicate (a0 : Int).toNat 0 : List Int)).bind fun y341 => (if 0 ≤ a1 then (if a1 < (y341.length : Int) then ((bitrow_Unshuffle.f (y341.set (a1 : Int).toNat 1) a2).bind fun bt345 => ((outpostlaw01_num.f bt345.2).bind fun t349 => (if t349 = 0 then (outpostlaw01_place.j0 k a0 bt345.1 ((bt345.1.length : Int) != a0)) else (outpostlaw01_place.j0 k a0 bt345.1 true)))) else (none)) else (none))) else (none)) else (none)) = some r := h
  clear h
  by_cases c4 : 0 ≤ a0
  · rw [if_pos c4] at H
    have c4b0 := eq_true c4
    have c4b1 : decide (0 ≤ a0) = true := decide_eq_true c4
    clear c4
    by_cases c5 : (a0 : Int).toNat ≤ 281474976710656
    · rw [if_pos c5] at H
      have c5b0 := eq_true c5
      have c5b1 : decide ((a0 : Int).toNat ≤ 281474976710656) = true := decide_eq_true c5
      clear c5
      obtain ⟨y341, hy341⟩ : ∃ y_ : List Int, y_ = (List.replicate (a0 : Int).toNat 0) := ⟨_, rfl⟩
      replace H : (if 0 ≤ a1 then (if a1 < (y341.length : Int) then ((bitrow_Unshuffle.f (y341.set (a1 : Int).toNat 1) a2).bind fun bt345 => ((outpostlaw01_num.f bt345.2).bind fun t349 => (if t349 = 0 then (outpostlaw01_place.j0 k a0 bt345.1 ((bt345.1.length : Int) != a0)) else (outpostlaw01_place.j0 k a0 bt345.1 true)))) else (none)) else (none)) = some r := by first | (rw [hy341]; with_reducible exact H) | (have H2_ := (Option.bind_some _ _).symm.trans H; rw [hy341]; with_reducible exact H2_) | (have H2_ := (Option.bind_some _ _).symm.trans H; with_reducible exact H2_) | with_reducible exact H | (rw [hy341]; exact H) | exact H
      have Ny341 := Aside0.mk hy341
      clear hy341
      by_cases c6 : 0 ≤ a1
      · rw [if_pos c6] at H
        have c6b0 : decide (0 ≤ a1) = true := decide_eq_true c6
        clear c6
        by_cases c7 : a1 < (y341.length : Int)
        · rw [if_pos c7] at H
          have c7b0 : decide (a1 < (y341.length : Int)) = true := decide_eq_true c7
          clear c7
          obtain ⟨y344, hy344⟩ : ∃ y_ : List Int, y_ = (y341.set (a1 : Int).toNat 1) := ⟨_, rfl⟩
          replace H : ((bitrow_Unshuffle.f y344 a2).bind fun bt345 => ((outpostlaw01_num.f bt345.2).bind fun t349 => (if t349 = 0 then (outpostlaw01_place.j0 k a0 bt345.1 ((bt345.1.length : Int) != a0)) else (outpostlaw01_place.j0 k a0 bt345.1 true)))) = some r := by first | (rw [hy344]; with_reducible exact H) | (have H2_ := (Option.bind_some _ _).symm.trans H; rw [hy344]; with_reducible exact H2_) | (have H2_ := (Option.bind_some _ _).symm.trans H; with_reducible exact H2_) | with_reducible exact H | (rw [hy344]; exact H) | exact H
          have Ny344 := Aside0.mk hy344
          clear hy344
          replace H := Option.bind_eq_some_iff.mp H
          obtain ⟨⟨t345, t346⟩, A90, H⟩ := H
          replace H : ((outpostlaw01_num.f t346).bind fun t349 => (if t349 = 0 then (outpostlaw01_place.j0 k a0 t345 ((t345.length : Int) != a0)) else (outpostlaw01_place.j0 k a0 t345 true))) = some r := H
          have A9 := Aside0.mk A90
          clear A90
          have HC10 := Aside0.mk H
          clear H
          go_enter Try.func26, Try.ntmps26
          go_upto_region 4 with (first | ((with_reducible refine gate_dst (N := 13) rfl ?_); (try (refine gate_guard (by rfl) ?_; dsimp only)); refine Kd.R_make (Kd.int .u8) _ 5 rfl (N := 13) rfl 22 _ _ rfl a0 rfl rfl Try.underlying22 (.int .u8 0) 1 info5 rfl (by decide) (by omega) 0 (ok := fun _ => True) (okp := fun _ => True) rfl (fun _ hk => hk) trivial (of_decide_eq_true (by first | (with_reducible assumption) | assumption)) (Nat.le_trans (Nat.mul_le_mul_right _ (of_decide_eq_true (by first | (with_reducible assumption) | assumption) : a0.toNat ≤ 281474976710656)) (by omega)) (Below.refl _ _) (Nat.le_refl _) ?_; intro v342 w11 ho12 hb hg_ hnew_; clear hg_ hnew_; (first | rw [← Ny341.out] at ho12 | (simp only [Int.reduceToNat] at ho12; rw [← Ny341.out] at ho12)); have n0_ := Aside0.mk (Kd.R_lower ho12 (below_size (by repeat (first | (with_reducible first | exact HB.out | apply below_alloc | apply pw_below_drewN | apply below_drew1) | exact HB.out)))); have n1_ := Aside0.mk (below_step (by repeat (first | (with_reducible first | exact HB.out | apply below_alloc | apply pw_below_drewN | apply below_drew1) | exact HB.out)) hb); clear HB; have HO343 := n0_; have HB := n1_; clear n0_ n1_; clear hb ho12; have p8 : 0 ≤ (a1 : Int) := of_decide_eq_true (by first | (with_reducible assumption) | assumption); have q8 : (a1 : Int) < ((y341.length : Int) : Int) := of_decide_eq_true (by first | (with_reducible assumption) | assumption); obtain ⟨go8, co8, eo8, gb8, gl8, cl8, HG8⟩ := Kd.R_form HO343.out (by omega); (first | cases eo8 | (injection eo8 with ea_ en_ ec_; (first | subst ea_ | (injection ea_ with ea_; subst ea_)); subst ec_; clear en_)); have GB8 := Aside0.mk gb8; have GG8 := Aside0.mk HG8; clear gb8 gl8 HG8; obtain ⟨hx8_0, hf8_0⟩ := Kd.R_celln 0 HO343.out (a1 : Int) p8 q8; replace p8 := eq_true p8; replace q8 := eq_true q8; obtain ⟨hy13_, hz13_⟩ := Kd.R_celln 0 HO343.out (a1 : Int) (of_decide_eq_true (by first | (with_reducible assumption) | assumption)) (of_decide_eq_true (by first | (with_reducible assumption) | assumption)); have HP13 := Kd.R_putg HO343.out (a1 : Int) 1) | ((with_reducible refine gate_store (t := 5) (p := 16) rfl ?_); refine store_event (t := 5) (p := 16) (v := ?vo_w14) (w1 := (w11.setCell ⟨go8, (a1 : Int).toNat, none⟩ (.int .u8 1))) ?hg ?ho ?hn ?hr ?_; (case ho => rfl); (case hg => rfl); (case hn => rfl); (case hr => first | (go_simp; done) | (go_simp; rfl)); intro w14 hw; have hg : w11.grownBy w14 (some go8) := (by rw [hw]; exact HP13.2); have hp_ : Kd.R (Kd.int .u8) 5 w14 w.heap.size (fun _ => True) (.slice (some ⟨go8, 0, none⟩) y341.length co8) y344 := (by rw [hw, Ny344.out]; exact HP13.1); clear HP13; have n0_ := Aside0.mk (hp_); have n1_ := Aside0.mk ((by rw [hw]; exact below_set (HB.out) GB8.out : Below w.heap.size w w14)); clear HO343; clear HB; have HO343 := n0_; have HB := n1_; clear n0_ n1_; clear hg hw hp_) | ((with_reducible refine gate_callee (f := 34) rfl ?_); refine goesL_ (some 20) rfl rfl Try.func34 (by kernel_rfl) rfl #[.slice (some ⟨go8, 0, none⟩) y344.length co8, .int .i64 a2] rfl (by (try simp only [List.map_toArray, List.map_cons, List.map_nil]); first | done | (rw [show y344.length = y341.length from (Kd.R_reads' HO343.out).1.symm] <;> rfl) | rfl | (simp only [List.length_drop, List.length_take]; rfl)) ?_; (with_reducible refine (bitrow_Unshuffle.calls _ _ y344 a2 t345 t346 _ ?side1 ?side2 A9.out).mono ?_); (case side1 => repeat (first | exact (Kd.R_reads' HO343.out).2.2 | (with_reducible refine Kd.C_alloc ?_ _) | (with_reducible refine Kd.C_drewN ?_ _) | (with_reducible refine Kd.C_drew ?_))); (case side2 => rw [show y344.length = y341.length from (Kd.R_reads' HO343.out).1.symm]; exact (Kd.R_reads' HO343.out).2.1); rintro e w15 ⟨v347, rfl, ho0, hb⟩; refine ⟨_, rfl, ?_⟩; have n0_ := Aside0.mk (Kd.R_elder' (by (with_reducible repeat (first | apply Kd.R_alloc | apply Kd.R_drewN | apply Kd.R_drew)); exact HO343.out) (Kd.R_base ho0) hb); have n1_ := Aside0.mk (Kd.R_lower (Kd.R_new' ho0 (Kd.R_lt (by (with_reducible repeat (first | apply Kd.R_alloc | apply Kd.R_drewN | apply Kd.R_drew)); exact HO343.out))) (below_size (by repeat (first | (with_reducible first | exact HB.out | apply below_alloc | apply pw_below_drewN | apply below_drew1) | exact HB.out)))); have n2_ := Aside0.mk (below_step (by repeat (first | (with_reducible first | exact HB.out | apply below_alloc | apply pw_below_drewN | apply below_drew1) | exact HB.out)) hb); clear HO343; clear HB; have HO343 := n0_; have HO348 := n1_; have HB := n2_; clear n0_ n1_ n2_; (try clear hb); (try clear hb2); (try clear hk); (try clear hi); (try clear ho0)))
          (try simp only [Act.put, List.setIfInBounds_toArray, List.set_cons_zero, List.set_cons_succ])
          go_cut [31] (fun v31 wc => ∃ (kq : Nat) (x31_9 : Bool), v31 = .bool x31_9 ∧ Aside0 (outpostlaw01_place.j0 kq a0 t345 x31_9 = some r) ∧ Aside0 (kq ≤ k) ∧ Aside0 (Kd.R (Kd.int .u8) 5 wc w.heap.size (fun _ => True) v347 t345) ∧ Aside0 (Below w.heap.size w wc))
          case first =>
            have H := HC10.out
            clear HC10
            replace H := Option.bind_eq_some_iff.mp H
            obtain ⟨t349, A160, H⟩ := H
            replace H : (if t349 = 0 then (outpostlaw01_place.j0 k a0 t345 ((t345.length : Int) != a0)) else (outpostlaw01_place.j0 k a0 t345 true)) = some r := H
            have A16 := Aside0.mk A160
            clear A160
            by_cases c17 : t349 = 0
            · rw [if_pos c17] at H
              have c17b0 : (t349 == 0) = true := beq_iff_eq.mpr c17
              have c17b1 : (t349 != 0) = false := bne_eq_false_iff_eq.mpr c17
              clear c17
              (first | rw [c17b0] | (simp only [i64_w, i32_w]; rw [c17b0]) | skip)
              have H' := Aside0.mk H
              clear H
              go_wp2_with (first | ((with_reducible refine gate_callee (f := 19) rfl ?_); refine goesL_ (some 24) rfl rfl Try.func19 (by kernel_rfl) rfl #[.int .i64 t346] rfl (by (try simp only [List.map_toArray, List.map_cons, List.map_nil]); first | done | rfl | (simp only [List.length_drop, List.length_take]; rfl)) ?_; (with_reducible refine (outpostlaw01_num.calls t346 t349 _ A16.out).mono ?_); rintro e w' ⟨rfl, ⟨nd, rfl⟩⟩; refine ⟨_, rfl, ?_⟩; obtain ⟨Ao18, co18, eo18⟩ := Kd.R_slice HO348.out; subst eo18))
              go_meet
              case rel => exact ⟨_, (((t345.length : Int) != a0)), (by first | rfl | (simp; done) | (simp [*]; done) | (simp [wrap64]; done)), H', ⟨by first | omega | exact Nat.le_refl _⟩, ⟨by (with_reducible repeat (first | apply Kd.R_alloc | apply Kd.R_drewN | apply Kd.R_drew)); exact Kd.R_mono HO348.out (fun _ hk => trivial)⟩, ⟨by repeat (first | (with_reducible first | exact HB.out | apply below_alloc | apply pw_below_drewN | apply below_drew1) | exact HB.out)⟩⟩
            · rw [if_neg c17] at H
              have c17b0 : (t349 == 0) = false := beq_eq_false_iff_ne.mpr c17
              have c17b1 : (t349 != 0) = true := bne_iff_ne.mpr c17
              (first | rw [c17b0] | (simp only [i64_w, i32_w]; rw [c17b0]) | skip)
              have H' := Aside0.mk H
              clear H
              go_wp2_with (first | ((with_reducible refine gate_callee (f := 19) rfl ?_); refine goesL_ (some 24) rfl rfl Try.func19 (by kernel_rfl) rfl #[.int .i64 t346] rfl (by (try simp only [List.map_toArray, List.map_cons, List.map_nil]); first | done | rfl | (simp only [List.length_drop, List.length_take]; rfl)) ?_; (with_reducible refine (outpostlaw01_num.calls t346 t349 _ A16.out).mono ?_); rintro e w' ⟨rfl, ⟨nd, rfl⟩⟩; refine ⟨_, rfl, ?_⟩))
              go_meet
              case rel => exact ⟨_, (true), (by first | rfl | (simp; done) | (simp [*]; done) | (simp [wrap64]; done)), H', ⟨by first | omega | exact Nat.le_refl _⟩, ⟨by (with_reducible repeat (first | apply Kd.R_alloc | apply Kd.R_drewN | apply Kd.R_drew)); exact Kd.R_mono HO348.out (fun _ hk => trivial)⟩, ⟨by repeat (first | (with_reducible first | exact HB.out | apply below_alloc | apply pw_below_drewN | apply below_drew1) | exact HB.out)⟩⟩
          case rest =>
            clear HC10
            try clear c1
            try clear c2
            try clear p2
            try clear c3
            try clear c4
            try clear c4b0
            try clear c4b1
            try clear c5
            try clear c5b0
            try clear c5b1
            try clear c6
            try clear c6b0
            try clear p6
            try clear c7
            try clear c7b0
            try clear p8
            try clear q8
            try clear hx8
            try clear hf8
            try clear c17
            try clear c17b0
            try clear c17b1
            try clear hx8_0
            try clear p8
            try clear q8
            obtain ⟨kq, x31_9, rfl, HA, HJ9, HO_8, HB⟩ := hcut
            cases kq with
            | zero => exact absurd HA.out (by simp [outpostlaw01_place.j0])
            | succ kj9 =>
              have H := HA.out
              clear HA
              simp only [outpostlaw01_place.j0] at H
              by_cases c19 : x31_9 = true
              · subst c19
                have H1 : (some (-1)) = some r := by rw [if_pos rfl] at H; exact H
                clear H
                have H := H1
                clear H1
                obtain rfl := Option.some.inj H
                go_wp2
                go_ret
                exact ⟨by first | rfl | (simp [errW_none, errW_some] <;> rfl) | (simp [*, errW_none, errW_some] <;> rfl), by repeat (first | (with_reducible first | exact HB.out | apply below_alloc | apply pw_below_drewN | apply below_drew1) | exact HB.out)⟩
              · replace c19 := Bool.eq_false_iff.mpr c19
                subst c19
                have H1 : (outpostlaw01_place.l0 kj9 a0 t345 (-1) 0) = some r := by rw [if_neg (show ¬ (false = true) by decide)] at H; exact H
                clear H
                have H := H1
                clear H1
                have H' := Aside0.mk H
                clear H
                go_wp2
                go_loopg [10, 11] kj9 (fun kq v10 v11 w' => ∃ (x10_2 : Int) (x11_2 : Int), v10 = .int .i64 x10_2 ∧ v11 = .int .i64 x11_2 ∧ Aside0 (outpostlaw01_place.l0 kq a0 t345 x10_2 x11_2 = some r) ∧ Aside0 (kq ≤ kj9) ∧ Aside0 (Kd.R (Kd.int .u8) 5 w' w.heap.size (fun _ => True) v347 t345) ∧ Aside0 (Below w.heap.size w w'))
                case atStart => exact ⟨((-1)), (0), (by first | rfl | (simp; done) | (simp [*]; done) | (simp [wrap64]; done)), (by first | rfl | (simp; done) | (simp [*]; done) | (simp [wrap64]; done)), H', ⟨Nat.le_refl _⟩, ⟨by (with_reducible repeat (first | apply Kd.R_alloc | apply Kd.R_drewN | apply Kd.R_drew)); exact HO_8.out⟩, ⟨by repeat (first | (with_reducible first | exact HB.out | apply below_alloc | apply pw_below_drewN | apply below_drew1) | exact HB.out)⟩⟩
                case round =>
                  clear H'
                  try clear c1
                  try clear c2
                  try clear p2
                  try clear c3
                  try clear c4
                  try clear c4b0
                  try clear c4b1
                  try clear c5
                  try clear c5b0
                  try clear c5b1
                  try clear c6
                  try clear c6b0
                  try clear p6
                  try clear c7
                  try clear c7b0
                  try clear p8
                  try clear q8
                  try clear hx8
                  try clear hf8
                  try clear c17
                  try clear c17b0
                  try clear c17b1
                  try clear c19
                  try clear hx8_0
                  try clear p2
                  try clear p6
                  try clear p8
                  try clear q8
                  obtain ⟨x10_2, x11_2, rfl, rfl, HA, HK2, HO_8, HB⟩ := hrel
                  cases gk with
                  | zero => exact absurd HA.out (by simp [outpostlaw01_place.l0])
                  | succ k2 =>
                    have H := HA.out
                    clear HA
                    simp only [outpostlaw01_place.l0] at H
                    by_cases c20 : x11_2 < a0
                    · rw [if_pos c20] at H
                      have c20b0 : decide (x11_2 < a0) = true := decide_eq_true c20
                      clear c20
                      have HC21 := Aside0.mk H
                      clear H
                      go_upto_region 10 with (fail)
                      go_cut [45] (fun v45 wc => ∃ (kq : Nat) (x45_20 : Bool), v45 = .bool x45_20 ∧ Aside0 (outpostlaw01_place.j2 kq a0 t345 x10_2 x11_2 x45_20 = some r) ∧ Aside0 (kq ≤ k2) ∧ Aside0 (Kd.R (Kd.int .u8) 5 wc w.heap.size (fun _ => True) v347 t345) ∧ Aside0 (Below w.heap.size w wc))
                      case first =>
                        have H := HC21.out
                        clear HC21
                        by_cases c22 : 0 ≤ x11_2
                        · rw [if_pos c22] at H
                          have c22b0 : decide (0 ≤ x11_2) = true := decide_eq_true c22
                          clear c22
                          (first | rw [c22b0] | (simp only [i64_w, i32_w]; rw [c22b0]) | skip)
                          by_cases c23 : x11_2 < (t345.length : Int)
                          · rw [if_pos c23] at H
                            have c23b0 : decide (x11_2 < (t345.length : Int)) = true := decide_eq_true c23
                            clear c23
                            by_cases c24 : (rd t345 x11_2) = 1
                            · rw [if_pos c24] at H
                              have c24b0 : ((rd t345 x11_2) == 1) = true := beq_iff_eq.mpr c24
                              have c24b1 : ((rd t345 x11_2) != 1) = false := bne_eq_false_iff_eq.mpr c24
                              clear c24
                              have H' := Aside0.mk H
                              clear H
                              obtain ⟨Ao25, co25, eo25⟩ := Kd.R_slice HO_8.out
                              subst eo25
                              have p350 : 0 ≤ (x11_2 : Int) := of_decide_eq_true (by first | (with_reducible assumption) | assumption)
                              have q350 : x11_2 < (t345.length : Int) := of_decide_eq_true (by first | (with_reducible assumption) | assumption)
                              obtain ⟨ad350, e350, hx350_0⟩ := Kd.at_int (Kd.R_reads' HO_8.out).2.2 x11_2 p350 q350
                              cases e350
                              replace p350 := eq_true p350
                              replace q350 := eq_true q350
                              go_wp2
                              go_meet
                              case rel => exact ⟨_, (decide (x10_2 < 0)), (by first | rfl | (simp; done) | (simp [*]; done) | (simp [wrap64]; done)), H', ⟨by have := HJ9.out; have := HK2.out; first | omega | exact Nat.le_refl _⟩, ⟨by (with_reducible repeat (first | apply Kd.R_alloc | apply Kd.R_drewN | apply Kd.R_drew)); exact HO_8.out⟩, ⟨by repeat (first | (with_reducible first | exact HB.out | apply below_alloc | apply pw_below_drewN | apply below_drew1) | exact HB.out)⟩⟩
                            · rw [if_neg c24] at H
                              have c24b0 : ((rd t345 x11_2) == 1) = false := beq_eq_false_iff_ne.mpr c24
                              have c24b1 : ((rd t345 x11_2) != 1) = true := bne_iff_ne.mpr c24
                              have H' := Aside0.mk H
                              clear H
                              obtain ⟨Ao26, co26, eo26⟩ := Kd.R_slice HO_8.out
                              subst eo26
                              have p350 : 0 ≤ (x11_2 : Int) := of_decide_eq_true (by first | (with_reducible assumption) | assumption)
                              have q350 : x11_2 < (t345.length : Int) := of_decide_eq_true (by first | (with_reducible assumption) | assumption)
                              obtain ⟨ad350, e350, hx350_0⟩ := Kd.at_int (Kd.R_reads' HO_8.out).2.2 x11_2 p350 q350
                              cases e350
                              replace p350 := eq_true p350
                              replace q350 := eq_true q350
                              go_wp2
                              go_meet
                              case rel => exact ⟨_, (false), (by first | rfl | (simp; done) | (simp [*]; done) | (simp [wrap64]; done)), H', ⟨by have := HJ9.out; have := HK2.out; first | omega | exact Nat.le_refl _⟩, ⟨by (with_reducible repeat (first | apply Kd.R_alloc | apply Kd.R_drewN | apply Kd.R_drew)); exact HO_8.out⟩, ⟨by repeat (first | (with_reducible first | exact HB.out | apply below_alloc | apply pw_below_drewN | apply below_drew1) | exact HB.out)⟩⟩
                          · rw [if_neg c23] at H
                            exact absurd H (by simp)
                        · rw [if_neg c22] at H
                          exact absurd H (by simp)
                      case rest =>
                        clear HC21
                        try clear c1
                        try clear c2
                        try clear p2
                        try clear c3
                        try clear p3
                        try clear q3
                        try clear hx3
                        try clear c4
                        try clear c4b0
                        try clear c4b1
                        try clear c5
                        try clear c5b0
                        try clear c5b1
                        try clear c6
                        try clear c6b0
                        try clear p6
                        try clear c7
                        try clear c7b0
                        try clear p8
                        try clear q8
                        try clear hx8
                        try clear hf8
                        try clear c17
                        try clear c17b0
                        try clear c17b1
                        try clear c19
                        try clear c20
                        try clear c20b0
                        try clear c22
                        try clear c22b0
                        try clear c23
                        try clear c23b0
                        try clear c24
                        try clear c24b0
                        try clear c24b1
                        try clear c26
                        try clear hx350_0
                        try clear hx8_0
                        try clear p2
                        try clear p350
                        try clear p6
                        try clear p8
                        try clear q350
                        try clear q8
                        obtain ⟨kq, x45_20, rfl, HA, HJ20, HO_8, HB⟩ := hcut
                        cases kq with
                        | zero => exact absurd HA.out (by simp [outpostlaw01_place.j2])
                        | succ kj20 =>
                          have H := HA.out
                          clear HA
                          simp only [outpostlaw01_place.j2] at H
                          by_cases c27 : x45_20 = true
                          · subst c27
                            have H1 : (outpostlaw01_place.l0 kj20 a0 t345 x11_2 (wrap64 (x11_2 + 1))) = some r := by rw [if_pos rfl] at H; exact H
                            clear H
                            have H := H1
                            clear H1
                            have H' := Aside0.mk H
                            clear H
                            go_wp2
                            go_roundg kj20
                            case measure => have := HJ9.out; have := HK2.out; have := HJ20.out; omega
                            case rel => exact ⟨(x11_2), (wrap64 (x11_2 + 1)), (by first | rfl | (simp; done) | (simp [*]; done) | (simp [wrap64]; done)), (by first | rfl | (simp; done) | (simp [*]; done) | (simp [wrap64]; done)), H', ⟨by have := HJ9.out; have := HK2.out; have := HJ20.out; omega⟩, ⟨by (with_reducible repeat (first | apply Kd.R_alloc | apply Kd.R_drewN | apply Kd.R_drew)); exact HO_8.out⟩, ⟨by repeat (first | (with_reducible first | exact HB.out | apply below_alloc | apply pw_below_drewN | apply below_drew1) | exact HB.out)⟩⟩
                          · replace c27 := Bool.eq_false_iff.mpr c27
                            subst c27
                            have H1 : (if 0 ≤ x11_2 then (if x11_2 < (t345.length : Int) then (if (rd t345 x11_2) = 0 then (outpostlaw01_place.l0 kj20 a0 t345 x10_2 (wrap64 (x11_2 + 1))) else (some (-1))) else (none)) else (none)) = some r := by rw [if_neg (show ¬ (false = true) by decide)] at H; exact H
                            clear H
                            have H := H1
                            clear H1
                            by_cases c28 : 0 ≤ x11_2
                            · rw [if_pos c28] at H
                              have c28b0 : decide (0 ≤ x11_2) = true := decide_eq_true c28
                              clear c28
                              by_cases c29 : x11_2 < (t345.length : Int)
                              · rw [if_pos c29] at H
                                have c29b0 : decide (x11_2 < (t345.length : Int)) = true := decide_eq_true c29
                                clear c29
                                by_cases c30 : (rd t345 x11_2) = 0
                                · rw [if_pos c30] at H
                                  have c30b0 : ((rd t345 x11_2) == 0) = true := beq_iff_eq.mpr c30
                                  have c30b1 : ((rd t345 x11_2) != 0) = false := bne_eq_false_iff_eq.mpr c30
                                  clear c30
                                  have H' := Aside0.mk H
                                  clear H
                                  obtain ⟨Ao31, co31, eo31⟩ := Kd.R_slice HO_8.out
                                  subst eo31
                                  have p351 : 0 ≤ (x11_2 : Int) := of_decide_eq_true (by first | (with_reducible assumption) | assumption)
                                  have q351 : x11_2 < (t345.length : Int) := of_decide_eq_true (by first | (with_reducible assumption) | assumption)
                                  obtain ⟨ad351, e351, hx351_0⟩ := Kd.at_int (Kd.R_reads' HO_8.out).2.2 x11_2 p351 q351
                                  cases e351
                                  replace p351 := eq_true p351
                                  replace q351 := eq_true q351
                                  go_wp2
                                  go_roundg kj20
                                  case measure => have := HJ9.out; have := HK2.out; have := HJ20.out; omega
                                  case rel => exact ⟨(x10_2), (wrap64 (x11_2 + 1)), (by first | rfl | (simp; done) | (simp [*]; done) | (simp [wrap64]; done)), (by first | rfl | (simp; done) | (simp [*]; done) | (simp [wrap64]; done)), H', ⟨by have := HJ9.out; have := HK2.out; have := HJ20.out; omega⟩, ⟨by (with_reducible repeat (first | apply Kd.R_alloc | apply Kd.R_drewN | apply Kd.R_drew)); exact HO_8.out⟩, ⟨by repeat (first | (with_reducible first | exact HB.out | apply below_alloc | apply pw_below_drewN | apply below_drew1) | exact HB.out)⟩⟩
                                · rw [if_neg c30] at H
                                  have c30b0 : ((rd t345 x11_2) == 0) = false := beq_eq_false_iff_ne.mpr c30
                                  have c30b1 : ((rd t345 x11_2) != 0) = true := bne_iff_ne.mpr c30
                                  obtain rfl := Option.some.inj H
                                  obtain ⟨Ao32, co32, eo32⟩ := Kd.R_slice HO_8.out
                                  subst eo32
                                  have p351 : 0 ≤ (x11_2 : Int) := of_decide_eq_true (by first | (with_reducible assumption) | assumption)
                                  have q351 : x11_2 < (t345.length : Int) := of_decide_eq_true (by first | (with_reducible assumption) | assumption)
                                  obtain ⟨ad351, e351, hx351_0⟩ := Kd.at_int (Kd.R_reads' HO_8.out).2.2 x11_2 p351 q351
                                  cases e351
                                  replace p351 := eq_true p351
                                  replace q351 := eq_true q351
                                  go_wp2
                                  go_ret
                                  exact ⟨by first | rfl | (simp [errW_none, errW_some] <;> rfl) | (simp [*, errW_none, errW_some] <;> rfl), by repeat (first | (with_reducible first | exact HB.out | apply below_alloc | apply pw_below_drewN | apply below_drew1) | exact HB.out)⟩
                              · rw [if_neg c29] at H
                                exact absurd H (by simp)
                            · rw [if_neg c28] at H
                              exact absurd H (by simp)
                    · rw [if_neg c20] at H
                      have c20b0 : decide (x11_2 < a0) = false := decide_eq_false c20
                      clear c20
                      obtain rfl := Option.some.inj H
                      go_wp2
                      go_ret
                      exact ⟨by first | rfl | (simp [errW_none, errW_some] <;> rfl) | (simp [*, errW_none, errW_some] <;> rfl), by repeat (first | (with_reducible first | exact HB.out | apply below_alloc | apply pw_below_drewN | apply below_drew1) | exact HB.out)⟩
        · rw [if_neg c7] at H
          exact absurd H (by simp)
      · rw [if_neg c6] at H
        exact absurd H (by simp)
    · rw [if_neg c5] at H
      exact absurd H (by simp)
  · rw [if_neg c4] at H
    exact absurd H (by simp)

end Go.Proofs.Ytgebmeojmenomaa.P
