-- written by mk.sh, a program of this session, over the kit's print
import Derived.Test.YtgebmeojmenomaaBkPx0
namespace Go.Proofs.Ytgebmeojmenomaa.P
open Go.RowKit Go.Proofs.YtgebmeojmenomaaW.PrintWords Go.Proofs.YtgebmeojmenomaaW.PrintLast Go.Proofs.YtgebmeojmenomaaW.PrintMore
attribute [local go_sem] max2_int min2_int max_two min_two max_three min_three max_four min_four   -- for this text's walks alone
set_option linter.unusedVariables false
set_option linter.unusedSimpArgs false

/-! ### bitrow_Reverse: function 47, given -/
/-- The swap of places i and n - 1 - i: what the row has become. -/
theorem bitrow_rev_step (l0 out : List Int) (i n : Nat) (hl : l0.length = n) (ho : out.length = n) (hi : 2 * i + 1 < n)
    (h : ∀ j, j < n → out.getD j 0 = if j < i ∨ n < i + j + 1 then l0.getD (n - 1 - j) 0 else l0.getD j 0) :
    ∀ j, j < n → ((out.set i (out.getD (n - 1 - i) 0)).set (n - 1 - i) (out.getD i 0)).getD j 0 = if j < i + 1 ∨ n < (i + 1) + j + 1 then l0.getD (n - 1 - j) 0 else l0.getD j 0 := by
  intro j hj
  have e1 := h i (by omega)
  rw [if_neg (by omega)] at e1
  have e2 := h (n - 1 - i) (by omega)
  rw [if_neg (by omega)] at e2
  rw [e1, e2]
  by_cases c1 : j = n - 1 - i
  · subst c1
    rw [List.getD_eq_getElem?_getD, List.getElem?_set_self (by rw [List.length_set]; omega), if_pos (by omega), show n - 1 - (n - 1 - i) = i by omega]
    rfl
  · rw [List.getD_eq_getElem?_getD, List.getElem?_set_ne (Ne.symm c1), ← List.getD_eq_getElem?_getD]
    by_cases c2 : j = i
    · subst c2
      rw [List.getD_eq_getElem?_getD, List.getElem?_set_self (by omega), if_pos (by omega)]
      rfl
    · rw [List.getD_eq_getElem?_getD, List.getElem?_set_ne (Ne.symm c2), ← List.getD_eq_getElem?_getD, h j hj]
      by_cases c3 : j < i ∨ n < i + j + 1
      · rw [if_pos c3, if_pos (by omega)]
      · rw [if_neg c3, if_neg (by omega)]
theorem bitrow_rev_end (l0 out : List Int) (i n : Nat) (hl : l0.length = n) (ho : out.length = n) (hi : n ≤ 2 * i + 1)
    (h : ∀ j, j < n → out.getD j 0 = if j < i ∨ n < i + j + 1 then l0.getD (n - 1 - j) 0 else l0.getD j 0) : out = l0.reverse := by
  refine List.ext_getElem (by rw [List.length_reverse]; omega) fun j h1 h2 => ?_
  have e := h j (by omega)
  have e2 : (if j < i ∨ n < i + j + 1 then l0.getD (n - 1 - j) 0 else l0.getD j 0) = l0.getD (n - 1 - j) 0 := by
    by_cases c : j < i ∨ n < i + j + 1
    · rw [if_pos c]
    · rw [if_neg c, show n - 1 - j = j by omega]
  rw [e2, List.getD_eq_getElem?_getD, List.getD_eq_getElem?_getD, List.getElem?_eq_getElem h1, List.getElem?_eq_getElem (show n - 1 - j < l0.length by omega)] at e
  rw [List.getElem_reverse]
  simp only [hl]
  exact e
def bitrow_Reverse.f (l0 : List Int) : Option (List Int) := if l0.length ≤ 281474976710656 then some l0.reverse else none
set_option maxHeartbeats 8000000 in
set_option maxRecDepth 100000 in
theorem bitrow_Reverse.calls (A0 : Option Addr) (c0 : Nat) (l0 : List Int) (r : List Int) (w : World) (hr0 : Kd.C (Kd.int .u8) w A0 l0.length l0) (hc0 : l0.length ≤ c0) (h : bitrow_Reverse.f l0 = some r) :
    Calls Try.prog 47 #[.slice A0 l0.length c0] w fun e w' => ∃ v0_ : Value, e = .returned v0_ ∧ Kd.R (Kd.int .u8) 5 w' w.heap.size (fun _ => True) v0_ r ∧ Below w.heap.size w w' := by
  have HR0 := Aside0.mk hr0
  clear hr0 hc0
  unfold bitrow_Reverse.f at h
  by_cases h3' : ¬ l0.length ≤ 281474976710656
  · rw [if_neg h3'] at h
    exact absurd h (by simp)
  have h3 : l0.length ≤ 281474976710656 := by omega
  clear h3'
  rw [if_pos h3] at h
  obtain rfl := Option.some.inj h
  have HL := Aside0.mk h3
  have hl0 : (0 : Int) ≤ (l0.length : Int) := by omega
  clear h h3
  go_enter Try.func47, Try.ntmps47
  go_wp2_with (first | ((with_reducible refine gate_dst (N := 8) rfl ?_); refine Kd.R_make (Kd.int .u8) _ 5 rfl (N := 8) rfl 22 _ _ rfl (l0.length : Int) rfl rfl Try.underlying22 (.int .u8 0) 1 info5 rfl (by decide) (by omega) 0 (ok := fun _ => True) (okp := fun _ => True) rfl (fun _ hk => hk) trivial hl0 (by have := HL.out; omega) (Below.refl _ _) (Nat.le_refl _) ?_; intro v220 w7 ho8 hb hg_ hnew_; clear hg_ hnew_; rw [Int.toNat_natCast] at ho8; have HO := Aside0.mk ho8; have HB := Aside0.mk hb; clear ho8 hb; obtain ⟨Ao9, co9, eo9⟩ := Kd.R_slice HO.out; subst eo9; have hlr : (List.replicate l0.length (0 : Int)).length = l0.length := List.length_replicate; rw [hlr] at HO; clear hlr) | ((with_reducible refine gate_builtin (b := .copy) (xs := #[.tmp 9, .tmp 10]) rfl ?_); refine Kd.R_copy (enc := .int .u8) (0 : Int) w.heap.size rfl (.tmp 9) (.tmp 10) 22 22 5 rfl Try.underlying22 (by kernel_rfl) _ (List.replicate l0.length 0) l0 A0 l0.length c0 (fun _ => True) rfl rfl HO.out (Kd.C_below HR0.out HB.out) HB.out HB.out.size ?_; intro w1 ho1 hb1 hg1; have n0_ := Aside0.mk ho1; have n1_ := Aside0.mk hb1; clear HO HB ho1 hb1 hg1; have HO := n0_; have HB := n1_; clear n0_ n1_; rw [show (List.take (min l0.length (List.replicate l0.length (0 : Int)).length) l0 ++ List.drop (min l0.length (List.replicate l0.length (0 : Int)).length) (List.replicate l0.length (0 : Int))) = l0 by simp] at HO))
  go_loopg [4, 5] l0.length (fun kq v4 v5 w' => ∃ (out : List Int) (i : Nat), v4 = .int .i64 (i : Int) ∧ v5 = .int .i64 ((l0.length : Int) - 1 - (i : Int)) ∧ Aside0 (i + kq = l0.length) ∧ Aside0 (out.length = l0.length) ∧ Aside0 (∀ j, j < l0.length → out.getD j 0 = if j < i ∨ l0.length < i + j + 1 then l0.getD (l0.length - 1 - j) 0 else l0.getD j 0) ∧ Aside0 (Kd.R (Kd.int .u8) 5 w' w.heap.size (fun _ => True) (.slice Ao9 l0.length co9) out) ∧ Aside0 (Below w.heap.size w w'))
  case atStart =>
    refine ⟨l0, 0, rfl, ?_, ⟨by omega⟩, ⟨rfl⟩, ⟨fun j hj => by rw [if_neg (by omega)]⟩, HO, HB⟩
    have := HL.out
    simp [wrap64]
    omega
  case round =>
    clear HO HB
    obtain ⟨out, i, rfl, rfl, HI, HN, HS, HO, HB⟩ := hrel
    by_cases hc : 2 * i + 1 < l0.length
    · cases gk with
      | zero => exact absurd HI.out (by omega)
      | succ k1 =>
        have HON := HO.out
        rw [← HN.out] at HON
        obtain ⟨go, co, eo, gb, _, cl, _⟩ := Kd.R_form HON (by have := HN.out; omega)
        injection eo with ea en ec
        subst ea ec
        clear HON en
        have GB := Aside0.mk gb
        obtain ⟨q, hq⟩ : ∃ q : Nat, q = l0.length - 1 - i := ⟨_, rfl⟩
        have eq_ : (l0.length : Int) - 1 - (i : Int) = (q : Int) := by omega
        rw [eq_]
        have hj : decide (i < q) = true := decide_eq_true (by omega)
        have HC := Aside0.mk hc
        have ti : (i < l0.length) = True := eq_true (by omega)
        have tq : (q < l0.length) = True := eq_true (by omega)
        have HQ := Aside0.mk hq
        clear gb hc hq eq_
        go_wp2
        have HO1 := Aside0.mk (Kd.R_drew HO.out)
        have HB1 := Aside0.mk (below_drew1 HB.out)
        obtain ⟨hci, hfi⟩ := Kd.R_celln 0 HO1.out (i : Int) (by omega) (by have := of_eq_true ti; omega)
        obtain ⟨hcq, hfq⟩ := Kd.R_celln 0 HO1.out (q : Int) (by omega) (by have := of_eq_true tq; omega)
        rw [Int.toNat_natCast] at hci hfi hcq hfq
        refine start_ (n := 16) (S := fun w' => w'.cell? ⟨go, i, none⟩ = some (.int .u8 (rdOf 0 out (i : Int))) ∧ w'.cell? ⟨go, q, none⟩ = some (.int .u8 (rdOf 0 out (q : Int)))) (ds := [13, 15]) #[false, false, false, false, false, false, false, false, false, false, false, false, false, false, false, false] (by kernel_rfl) rfl rfl ⟨hci, hcq⟩ (fun hHeld => ?_)
        generalize wr.drew = w16 at HO1 HB1 hci hfi hcq hfq hHeld ⊢
        have hp1 := Kd.R_putn HO1.out (i : Int) (rdOf 0 out (q : Int))
        obtain ⟨hcq2, hfq2⟩ := Kd.R_celln 0 hp1 (q : Int) (by omega) (by have := of_eq_true tq; omega)
        rw [Int.toNat_natCast, Int.toNat_natCast] at hcq2 hfq2
        have HP1 := Aside0.mk hp1
        clear hp1
        refine pure_ (i := 0) (N := some 22) (v := ?_) (a' := ?_) #[true, false, false, false, false, false, false, false, false, false, false, false, false, false, false, false] rfl rfl (by kernel_rfl) (fun _ _ _ h => h) (Or.inl ⟨by rfl, ?_⟩) ?_ ?_
        rotate_left
        · intro w'
          go_simp
          with_reducible rfl
        rotate_left
        · simp only [Act.put, List.setIfInBounds_toArray, List.set_cons_zero, List.set_cons_succ, i64_w, i32_w]
          rfl
        refine pure_ (i := 1) (N := some 23) (v := ?_) (a' := ?_) #[true, true, false, false, false, false, false, false, false, false, false, false, false, false, false, false] rfl rfl (by kernel_rfl) (fun _ _ _ h => h) (Or.inl ⟨by rfl, ?_⟩) ?_ ?_
        rotate_left
        · intro w'
          go_simp
          with_reducible rfl
        rotate_left
        · simp only [Act.put, List.setIfInBounds_toArray, List.set_cons_zero, List.set_cons_succ, i64_w, i32_w]
          rfl
        refine pure_ (i := 2) (N := some 24) (v := ?_) (a' := ?_) #[true, true, true, false, false, false, false, false, false, false, false, false, false, false, false, false] rfl rfl (by kernel_rfl) (fun _ _ _ h => h) (Or.inl ⟨by rfl, ?_⟩) ?_ ?_
        rotate_left
        · intro w'
          go_simp
          with_reducible rfl
        rotate_left
        · simp only [Act.put, List.setIfInBounds_toArray, List.set_cons_zero, List.set_cons_succ, i64_w, i32_w]
          rfl
        refine pure_ (i := 3) (N := some 25) (v := ?_) (a' := ?_) #[true, true, true, true, false, false, false, false, false, false, false, false, false, false, false, false] rfl rfl (by kernel_rfl) (fun _ _ _ h => h) (Or.inl ⟨by rfl, ?_⟩) ?_ ?_
        rotate_left
        · intro w'
          go_simp
          with_reducible rfl
        rotate_left
        · simp only [Act.put, List.setIfInBounds_toArray, List.set_cons_zero, List.set_cons_succ, i64_w, i32_w]
          rfl
        refine pure_ (i := 4) (N := some 26) (v := ?_) (a' := ?_) #[true, true, true, true, true, false, false, false, false, false, false, false, false, false, false, false] rfl rfl (by kernel_rfl) (fun _ _ _ h => h) (Or.inl ⟨by rfl, ?_⟩) ?_ ?_
        rotate_left
        · intro w'
          go_simp
          with_reducible rfl
        rotate_left
        · simp only [Act.put, List.setIfInBounds_toArray, List.set_cons_zero, List.set_cons_succ, i64_w, i32_w]
          rfl
        refine pure_ (i := 5) (N := some 27) (v := ?_) (a' := ?_) #[true, true, true, true, true, true, false, false, false, false, false, false, false, false, false, false] rfl rfl (by kernel_rfl) (fun _ _ _ h => h) (Or.inl ⟨by rfl, ?_⟩) ?_ ?_
        rotate_left
        · intro w'
          go_simp
          with_reducible rfl
        rotate_left
        · simp only [Act.put, List.setIfInBounds_toArray, List.set_cons_zero, List.set_cons_succ, i64_w, i32_w]
          rfl
        refine pure_ (i := 6) (N := some 28) (v := ?_) (a' := ?_) #[true, true, true, true, true, true, true, false, false, false, false, false, false, false, false, false] rfl rfl (by kernel_rfl) (fun _ _ _ h => h) (Or.inl ⟨by rfl, ?_⟩) ?_ ?_
        rotate_left
        · intro w'
          go_simp
          with_reducible rfl
        rotate_left
        · simp only [Act.put, List.setIfInBounds_toArray, List.set_cons_zero, List.set_cons_succ, i64_w, i32_w]
          rfl
        refine take_ (i := 7) (N := some 29) (v := ?_) (a' := ?_) #[true, true, true, true, true, true, true, true, false, false, false, false, false, false, false, false] rfl rfl (by kernel_rfl) (fun _ _ _ h => h) (Or.inl ⟨by rfl, ?_⟩) hHeld ?_ ?_
        rotate_left
        · rintro w' ⟨s0, s1⟩
          go_simp
          with_reducible rfl
        rotate_left
        · simp only [Act.put, List.setIfInBounds_toArray, List.set_cons_zero, List.set_cons_succ, i64_w, i32_w]
          rfl
        refine pure_ (i := 8) (N := some 30) (v := ?_) (a' := ?_) #[true, true, true, true, true, true, true, true, true, false, false, false, false, false, false, false] rfl rfl (by kernel_rfl) (fun _ _ _ h => h) (Or.inl ⟨by rfl, ?_⟩) ?_ ?_
        rotate_left
        · intro w'
          go_simp
          with_reducible rfl
        rotate_left
        · simp only [Act.put, List.setIfInBounds_toArray, List.set_cons_zero, List.set_cons_succ, i64_w, i32_w]
          rfl
        refine pure_ (i := 9) (N := some 31) (v := ?_) (a' := ?_) #[true, true, true, true, true, true, true, true, true, true, false, false, false, false, false, false] rfl rfl (by kernel_rfl) (fun _ _ _ h => h) (Or.inl ⟨by rfl, ?_⟩) ?_ ?_
        rotate_left
        · intro w'
          go_simp
          with_reducible rfl
        rotate_left
        · simp only [Act.put, List.setIfInBounds_toArray, List.set_cons_zero, List.set_cons_succ, i64_w, i32_w]
          rfl
        refine pure_ (i := 10) (N := some 32) (v := ?_) (a' := ?_) #[true, true, true, true, true, true, true, true, true, true, true, false, false, false, false, false] rfl rfl (by kernel_rfl) (fun _ _ _ h => h) (Or.inl ⟨by rfl, ?_⟩) ?_ ?_
        rotate_left
        · intro w'
          go_simp
          with_reducible rfl
        rotate_left
        · simp only [Act.put, List.setIfInBounds_toArray, List.set_cons_zero, List.set_cons_succ, i64_w, i32_w]
          rfl
        refine take_ (i := 11) (N := some 33) (v := ?_) (a' := ?_) #[true, true, true, true, true, true, true, true, true, true, true, true, false, false, false, false] rfl rfl (by kernel_rfl) (fun _ _ _ h => h) (Or.inl ⟨by rfl, ?_⟩) hHeld ?_ ?_
        rotate_left
        · rintro w' ⟨s0, s1⟩
          go_simp
          with_reducible rfl
        rotate_left
        · simp only [Act.put, List.setIfInBounds_toArray, List.set_cons_zero, List.set_cons_succ, i64_w, i32_w]
          rfl
        refine pure_ (i := 12) (N := some 34) (v := ?_) (a' := ?_) #[true, true, true, true, true, true, true, true, true, true, true, true, true, false, false, false] rfl rfl (by kernel_rfl) (fun _ _ _ h => h) (Or.inl ⟨by rfl, ?_⟩) ?_ ?_
        rotate_left
        · intro w'
          go_simp
          with_reducible rfl
        rotate_left
        · simp only [Act.put, List.setIfInBounds_toArray, List.set_cons_zero, List.set_cons_succ, i64_w, i32_w]
          rfl
        refine last_ (i := 13) (N := none) #[true, true, true, true, true, true, true, true, true, true, true, true, true, true, false, false] rfl rfl (by kernel_rfl) (by decide) (fun K hK => ?_)
        refine skip_ (w1 := ?_) (by rfl) rfl ?_ ?_
        rotate_left
        · go_simp
          rfl
        refine hK.out _ _ ?_
        clear hK K
        refine pure_ (i := 14) (N := some 35) (v := ?_) (a' := ?_) #[true, true, true, true, true, true, true, true, true, true, true, true, true, true, true, false] rfl rfl (by kernel_rfl) (fun _ _ _ h => h) (Or.inl ⟨by rfl, ?_⟩) ?_ ?_
        rotate_left
        · intro w'
          go_simp
          with_reducible rfl
        rotate_left
        · simp only [Act.put, List.setIfInBounds_toArray, List.set_cons_zero, List.set_cons_succ, i64_w, i32_w]
          rfl
        refine last_ (i := 15) (N := none) #[true, true, true, true, true, true, true, true, true, true, true, true, true, true, true, true] rfl rfl (by kernel_rfl) (by decide) (fun K hK => ?_)
        refine skip_ (w1 := ?_) (by rfl) rfl ?_ ?_
        rotate_left
        · go_simp
          rfl
        refine hK.out _ _ ?_
        clear hK K
        refine done_ (by kernel_rfl) ?_
        go_wp2
        go_roundg k1
        case measure => omega
        case rel =>
          have hp2 := Kd.R_putn HP1.out (q : Int) (rdOf 0 out (i : Int))
          rw [Int.toNat_natCast, Int.toNat_natCast] at hp2
          have hq := HQ.out
          have hL := HL.out
          have hI := HI.out
          have hC := HC.out
          have hS := bitrow_rev_step l0 out i l0.length rfl HN.out (by omega) HS.out
          rw [← hq] at hS
          exact ⟨(out.set i (rdOf 0 out (q : Int))).set q (rdOf 0 out (i : Int)), i + 1, by simp [wrap64]; omega, by simp [wrap64]; omega, ⟨by omega⟩, ⟨by rw [List.length_set, List.length_set]; exact HN.out⟩, ⟨hS⟩, ⟨hp2⟩, ⟨(HB1.out.setCell GB.out _).setCell GB.out _⟩⟩
    · have hj : decide ((i : Int) < (l0.length : Int) - 1 - (i : Int)) = false := decide_eq_false (by omega)
      have e := bitrow_rev_end l0 out i l0.length rfl HN.out (by omega) HS.out
      subst e
      go_wp2
      go_ret
      exact ⟨_, rfl, HO.out, HB.out⟩

end Go.Proofs.Ytgebmeojmenomaa.P
