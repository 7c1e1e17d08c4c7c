-- written by mk.sh, a program of this session, over the kit's print
import Derived.Test.YtjdkamhnbheofaaGpPx0
import Derived.Test.YtjdkamhnbheofaaGpPx2
namespace Go.Proofs.Ytjdkamhnbheofaa.P
open Go.RowKit Go.Proofs.YtjdkamhnbheofaaW.PrintWords Go.Proofs.YtjdkamhnbheofaaW.PrintLast Go.Proofs.YtjdkamhnbheofaaW.PrintMore
attribute [local go_sem] max2_int min2_int max_two min_two max_three min_three max_four min_four   -- for this text's walks alone
set_option linter.unusedVariables false
set_option linter.unusedSimpArgs false

def galois_New.f (k : Nat) (a0_0 a0_1 : Int) : Option (GTab × Int) :=
 (galois_Check.f k a0_0 a0_1).bind fun e => if e = 0 then (if 3 ≤ a0_0 ∧ a0_0 ≤ 8 ∧ 0 ≤ a0_1 ∧ a0_1 < 512 ∧ ∀ n, n < 2 ^ a0_0.toNat → gxn a0_1.toNat (2 ^ a0_0.toNat) n < 2 ^ a0_0.toNat then some (GTab.of a0_1.toNat (2 ^ a0_0.toNat), 0) else none) else some (GTab.none, e)
theorem galois_New.mono : ∀ a0 a1 k, LeO (galois_New.f k a0 a1) (galois_New.f (k + 1) a0 a1) := by
 intro a0 a1 k
 unfold galois_New.f
 refine LeO.bind (galois_Check.mono _ _ _) (fun _ => LeO.refl _)
/-- A field's tables, where they are made: all nothing. -/
def galRow (x : Value) (A B : List Value) (z : Value) : List Value := x :: (A ++ (B ++ [z]))
theorem galRow_len (x z : Value) (A B : List Value) (ha : A.length = 256) (hb : B.length = 256) : (galRow x A B z).length = 514 := by simp [galRow, ha, hb]
theorem galRow_a (x z : Value) (A B : List Value) (ha : A.length = 256) (k : Nat) (hk : k < 256) : (galRow x A B z)[1 + k]? = A[k]? := by
 unfold galRow
 rw [Nat.add_comm 1 k, List.getElem?_cons_succ, List.getElem?_append_left (by omega)]
theorem galRow_b (x z : Value) (A B : List Value) (ha : A.length = 256) (hb : B.length = 256) (k : Nat) (hk : k < 256) : (galRow x A B z)[257 + k]? = B[k]? := by
 unfold galRow
 rw [show 257 + k = (256 + k) + 1 by omega, List.getElem?_cons_succ, List.getElem?_append_right (by omega), List.getElem?_append_left (by omega), ha, Nat.add_sub_cancel_left]
theorem galZero_eq : Try.zeroCells65 = (galRow (.int .i64 0) (List.replicate 256 (.int .u8 0)) (List.replicate 256 (.int .i64 0)) .nilFunc).toArray := by kernel_rfl
/-- The tables with n powers laid. -/
def galPart (P sz n : Nat) (cs : Array Value) : Prop :=
 cs.size = 514 ∧ cs[0]? = some (.int .i64 (sz : Int)) ∧ (∀ k, k < 256 → cs[1 + k]? = some (.int .u8 ((gxe P sz n k : Nat) : Int))) ∧ ∀ k, k < 256 → cs[257 + k]? = some (.int .i64 ((glg P sz n k : Nat) : Int))
theorem galPart_zero (P sz : Nat) : galPart P sz 0 (Try.zeroCells65.setIfInBounds 0 (.int .i64 (sz : Int))) := by
 rw [galZero_eq]
 have hl := galRow_len (.int .i64 0) .nilFunc (List.replicate 256 (.int .u8 0)) (List.replicate 256 (.int .i64 0)) List.length_replicate List.length_replicate
 refine ⟨by rw [Array.size_setIfInBounds, List.size_toArray]; exact hl, ?_, fun k hk => ?_, fun k hk => ?_⟩
 ·rw [Array.getElem?_setIfInBounds_self_of_lt (by rw [List.size_toArray, hl]; omega)]
 ·have e : gxe P sz 0 k = 0 := by simp [gxe]
  rw [e, Array.getElem?_setIfInBounds_ne (by omega), List.getElem?_toArray, galRow_a _ _ _ _ List.length_replicate k hk, List.getElem?_replicate, if_pos hk]
  rfl
 ·have e : glg P sz 0 k = 0 := rfl
  rw [e, Array.getElem?_setIfInBounds_ne (by omega), List.getElem?_toArray, galRow_b _ _ _ _ List.length_replicate List.length_replicate k hk, List.getElem?_replicate, if_pos hk]
  rfl
theorem galPart_step {P sz n : Nat} {cs : Array Value} (h : galPart P sz n cs) (hn : n < 255) (hx : gxn P sz n < 256) :
  galPart P sz (n + 1) ((cs.setIfInBounds (1 + n) (.int .u8 ((gxn P sz n : Nat) : Int))).setIfInBounds (257 + gxn P sz n) (.int .i64 (n : Int))) := by
 obtain ⟨h1, h2, h3, h4⟩ := h
 refine ⟨by simp [h1], ?_, fun k hk => ?_, fun k hk => ?_⟩
 ·rw [Array.getElem?_setIfInBounds_ne (by omega), Array.getElem?_setIfInBounds_ne (by omega)]; exact h2
 ·rw [Array.getElem?_setIfInBounds_ne (by omega)]
  by_cases c : k = n
  ·subst c
   rw [Array.getElem?_setIfInBounds_self_of_lt (by omega), gxe, if_pos (by omega)]
  ·rw [Array.getElem?_setIfInBounds_ne (by omega), h3 k hk]
   unfold gxe
   by_cases c2 : k < n
   ·rw [if_pos c2, if_pos (by omega)]
   ·rw [if_neg c2, if_neg (by omega)]
 ·unfold glg
  by_cases c : gxn P sz n = k
  ·rw [if_pos c, c, Array.getElem?_setIfInBounds_self_of_lt (by simp; omega)]
  ·rw [if_neg c, Array.getElem?_setIfInBounds_ne (by omega), Array.getElem?_setIfInBounds_ne (by omega)]
   exact h4 k hk
theorem gxe_byte (P sz n : Nat) (h : ∀ k, k < sz → gxn P sz k < sz) (hn : n < sz) (hs : sz ≤ 256) (k : Nat) : gxe P sz n k < 256 := by
 unfold gxe
 split
 ·exact Nat.lt_of_lt_of_le (h k (by omega)) hs
 ·omega
theorem glg_byte (P sz n x : Nat) (hn : n ≤ 256) : glg P sz n x < 256 := by
 induction n with
 | zero => simp [glg]
 | succ n ih =>
  unfold glg
  split
  ·omega
  ·exact ih (by omega)
theorem gal_store_nilFunc {P : Program} {w : World} {a : Addr} {m : Mode} : (store a .nilFunc m).run P w = stored P w a .nilFunc m := run_store P w a _ m rfl
theorem gal_store_func {P : Program} {w : World} {a : Addr} {m : Mode} (fn : Fn) (first captured : Array Value) : (store a (.func fn first captured) m).run P w = stored P w a (.func fn first captured) m := run_store P w a _ m rfl
attribute [local go_sem] gal_store_nilFunc gal_store_func
set_option maxHeartbeats 8000000 in
set_option maxRecDepth 100000 in
theorem galois_New.calls (k : Nat) (a0_0 a0_1 : Int) (r1 : GTab) (r2 : Int) (w : World) (h : galois_New.f k a0_0 a0_1 = some (r1, r2)) :
  Calls Try.prog 35 #[.agg #[.int .i64 a0_0, .int .u64 a0_1]] w fun e w' => ∃ A_ : Option Addr, e = .returned (.tuple #[.pointer A_, .int .i64 r2]) ∧ gal_OK w' A_ r1 ∧ Below w.heap.size w w' := by
 have hu24 := Try.underlying24
 have HB := aK (Below.refl w.heap.size w)
 unfold galois_New.f at h
 obtain ⟨e, he, h⟩ := Option.bind_eq_some_iff.mp h
 have HE := Aside0.mk he
 clear he
 by_cases c0 : e = 0
 rotate_left
 ·rw [if_neg c0] at h
  simp only [Option.some.injEq, Prod.mk.injEq] at h
  obtain ⟨rfl, rfl⟩ := h
  have b0 : (e != 0) = true := bne_iff_ne.mpr c0
  clear c0
  go_enter Try.func35, Try.ntmps35
  go_wp2_with (first | ((with_reducible refine gate_dst (N := 1) rfl ?_); refine box_event ?hg (N := 1) ?hd (cs := #[.int .i64 a0_0, .int .u64 a0_1]) (t := 24) ?hr ?_; (case hd => rfl); (case hg => rfl); (case hr => first | (go_simp; done) | (go_simp; rfl)); intro g hg_ wg hbox_ hb_; have n0_ := aK (below_step HB.out hb_); have n1_ := Aside0.mk hbox_; clear HB; have HB := n0_; have BKg := n1_; clear n0_ n1_; clear hb_ hbox_ hg_; have hcg_0 : wg.cell? ⟨g, 0, none⟩ = some (.int .i64 a0_0) := (blk_cell BKg.out 0).trans rfl; have hfg_0 := blk_frozen BKg.out 0; have hcg_1 : wg.cell? ⟨g, 1, none⟩ = some (.int .u64 a0_1) := (blk_cell BKg.out 1).trans rfl; have hfg_1 := blk_frozen BKg.out 1) | (go_at_call 37; (with_reducible refine (galois_Check.calls k _ _ e _ HE.out).mono ?_); rintro e w5 ⟨rfl, hb⟩; have n0_ := aK (below_step HB.out hb); clear HB; have HB := n0_; clear n0_; clear hb))
  go_ret2
  exact ⟨none, rfl, .inl ⟨rfl, .inl ⟨rfl, rfl⟩⟩, HB.out⟩

 rw [if_pos c0] at h
 subst c0
 by_cases c1 : 3 ≤ a0_0 ∧ a0_0 ≤ 8 ∧ 0 ≤ a0_1 ∧ a0_1 < 512 ∧ ∀ n, n < 2 ^ a0_0.toNat → gxn a0_1.toNat (2 ^ a0_0.toNat) n < 2 ^ a0_0.toNat
 rotate_left
 ·rw [if_neg c1] at h
  exact absurd h (by simp)
 rw [if_pos c1] at h
 simp only [Option.some.injEq, Prod.mk.injEq] at h
 obtain ⟨rfl, rfl⟩ := h
 obtain ⟨m1, m2, m3, m4, m5⟩ := c1
 obtain ⟨M, rfl⟩ : ∃ M : Nat, a0_0 = (M : Int) := ⟨a0_0.toNat, by omega⟩
 obtain ⟨P, rfl⟩ : ∃ P : Nat, a0_1 = (P : Int) := ⟨a0_1.toNat, by omega⟩
 simp only [Int.toNat_natCast] at m5 ⊢
 obtain ⟨sz, hsz⟩ : ∃ sz, sz = 2 ^ M := ⟨_, rfl⟩
 rw [← hsz] at m5 ⊢
 have hsz1 : 8 ≤ sz := by rw [hsz]; exact Nat.pow_le_pow_right (n := 2) (by omega) (show 3 ≤ M by omega)
 have hsz2 : sz ≤ 256 := by rw [hsz]; exact Nat.pow_le_pow_right (n := 2) (by omega) (show M ≤ 8 by omega)
 have hsh : shl .i64 1 (M : Int) = (sz : Int) := by
  unfold shl
  rw [show min (M : Int).toNat IntKind.i64.bits = M by simp [IntKind.bits]; omega, Int.one_mul, show ((2 : Int) ^ M) = ((2 ^ M : Nat) : Int) by simp, ← hsz]
  exact IntWalk.i64_in _ (by omega)
 have hw : IntKind.i64.wrap (2 ^ M) = (sz : Int) := by
  rw [show ((2 : Int) ^ M) = ((2 ^ M : Nat) : Int) by simp, ← hsz]
  exact IntWalk.i64_in _ (by omega)
 have HM5 := Aside0.mk m5
 have HP5 : Aside0 (P < 512) := ⟨by omega⟩
 have HSZ1 := Aside0.mk hsz1
 have HSZ2 := Aside0.mk hsz2
 have hM : (M : Int) ≤ 8 := m2
 have s1 : (8 : Int) ≤ (sz : Int) := by omega
 have s2 : (sz : Int) ≤ 256 := by omega
 have hmf : ∀ (fn : Fn) (first cap : Array Value) (w : World), (Instr.makeFunc fn first cap).run Try.prog w = .ok (.func fn first cap) w := fun _ _ _ _ => rfl
 clear m1 m2 m3 m4 m5 hsz hsz1 hsz2 hsh
 go_enter Try.func35, Try.ntmps35
 go_wp2_with (first | ((with_reducible refine gate_dst (N := 1) rfl ?_); refine box_event ?hg (N := 1) ?hd (cs := #[.int .i64 (M : Int), .int .u64 (P : Int)]) (t := 24) ?hr ?_; (case hd => rfl); (case hg => rfl); (case hr => first | (go_simp; done) | (go_simp; rfl)); intro g hg_ wg hbox_ hb_; have n0_ := aK (below_step HB.out hb_); have n1_ := Aside0.mk hbox_; have n2_ := aK ((by rw [hg_]; exact below_size HB.out) : w.heap.size ≤ g); clear HB; have HB := n0_; have BKg := n1_; have GEg := n2_; clear n0_ n1_ n2_; clear hb_ hbox_ hg_; have hcg_0 : wg.cell? ⟨g, 0, none⟩ = some (.int .i64 (M : Int)) := (blk_cell BKg.out 0).trans rfl; have hfg_0 := blk_frozen BKg.out 0; have hcg_1 : wg.cell? ⟨g, 1, none⟩ = some (.int .u64 (P : Int)) := (blk_cell BKg.out 1).trans rfl; have hfg_1 := blk_frozen BKg.out 1) | (go_at_call 37; (with_reducible refine (galois_Check.calls k _ _ 0 _ HE.out).mono ?_); rintro e w5 ⟨rfl, hb⟩; have n0_ := aK (below_step HB.out hb); have n1_ := aK (blk_below BKg.out hb); clear HB BKg hcg_0 hcg_1 hfg_0 hfg_1; have HB := n0_; have BKg := n1_; clear n0_ n1_; clear hb; have hcg_0 : w5.cell? ⟨g, 0, none⟩ = some (.int .i64 (M : Int)) := (blk_cell BKg.out 0).trans rfl; have hfg_0 := blk_frozen BKg.out 0; have hcg_1 : w5.cell? ⟨g, 1, none⟩ = some (.int .u64 (P : Int)) := (blk_cell BKg.out 1).trans rfl; have hfg_1 := blk_frozen BKg.out 1) | ((with_reducible refine gate_dst (N := 18) rfl ?_); refine box_event ?hg (N := 18) ?hd (cs := Try.zeroCells65.setIfInBounds 0 (.int .i64 (sz : Int))) (t := 65) ?hr ?_; (case hd => rfl); (case hg => rfl); (case hr => first | (go_simp; done) | (go_simp; rfl)); intro b hg_ wb hbox_ hb_; have n0_ := aK (below_step HB.out hb_); have n1_ := Aside0.mk hbox_; have n2_ := aK ((by rw [hg_]; exact below_size HB.out) : w.heap.size ≤ b); have n3_ := aK (blk_below BKg.out hb_); have n4_ := aK (show g ≠ b by rw [hg_]; exact Nat.ne_of_lt (blk_lt BKg.out)); clear HB BKg hcg_0 hcg_1 hfg_0 hfg_1; have HB := n0_; have BKb := n1_; have GEb := n2_; have BKg := n3_; have NEg := n4_; clear n0_ n1_ n2_ n3_ n4_; clear hb_ hbox_ hg_) | ((with_reducible refine gate_dst (N := 5) rfl ?_); refine box_event ?hg (N := 5) ?hd (cs := #[.pointer none]) (t := 26) ?hr ?_; (case hd => rfl); (case hg => rfl); (case hr => first | (go_simp; done) | (go_simp; rfl)); intro p hg_ wp hbox_ hb_; have n0_ := aK (below_step HB.out hb_); have n1_ := Aside0.mk hbox_; have n2_ := aK ((by rw [hg_]; exact below_size HB.out) : w.heap.size ≤ p); have n3_ := aK (blk_below BKg.out hb_); have n4_ := aK (blk_below BKb.out hb_); have n5_ := aK (show b ≠ p by rw [hg_]; exact Nat.ne_of_lt (blk_lt BKb.out)); have n6_ := aK (show g ≠ p by rw [hg_]; exact Nat.ne_of_lt (blk_lt BKg.out)); clear HB BKg BKb; have HB := n0_; have BKp := n1_; have GEp := n2_; have BKg := n3_; have BKb := n4_; have NEp := n5_; have NEq := n6_; clear n0_ n1_ n2_ n3_ n4_ n5_ n6_; clear hb_ hbox_ hg_; have hcp_0 : wp.cell? ⟨p, 0, none⟩ = some (.pointer none) := (blk_cell BKp.out 0).trans rfl; have hfp_0 := blk_frozen BKp.out 0; have hcb_0 : wp.cell? ⟨b, 0, none⟩ = some (.int .i64 (sz : Int)) := (blk_cell BKb.out 0).trans (galPart_zero P sz).2.1; have hfb_0 := blk_frozen BKb.out 0; have nbp := NEp.out; have nbp2 := Ne.symm NEp.out))
 have HBS := aK (below_set (j := 0) (v := .pointer (some ⟨b, 0, none⟩)) HB.out GEp.out)
 have BKS := aK (blk_put (cs' := #[.pointer (some ⟨b, 0, none⟩)]) BKp.out 0 (.pointer (some ⟨b, 0, none⟩)) rfl)
 have BBS := aK (blk_far (p := ⟨p, 0, none⟩) BKb.out NEp.out (.pointer (some ⟨b, 0, none⟩)))
 have BGS := aK (blk_far (p := ⟨p, 0, none⟩) BKg.out NEq.out (.pointer (some ⟨b, 0, none⟩)))
 clear hcp_0 hfp_0 hcb_0 hfb_0 nbp nbp2
 go_loopg [6, 24] (sz - 1) (fun kq v6 v24 w' => ∃ (n : Nat) (cs : Array Value), v6 = .int .u64 ((gxn P sz n : Nat) : Int) ∧ v24 = .int .i64 (n : Int) ∧ Aside0 (n + kq = sz - 1) ∧ Aside0 (galPart P sz n cs) ∧ Aside0 (w'.heap[b]? = some (.cells cs 65 (0, 0))) ∧ Aside0 (w'.heap[p]? = some (.cells #[.pointer (some ⟨b, 0, none⟩)] 26 (0, 0))) ∧ Aside0 (w'.heap[g]? = some (.cells #[.int .i64 (M : Int), .int .u64 (P : Int)] 24 (0, 0))) ∧ Aside0 (Below w.heap.size w w'))
 case atStart => exact ⟨0, _, rfl, rfl, ⟨by omega⟩, ⟨galPart_zero P sz⟩, BBS, BKS, BGS, HBS⟩
 case round =>
  clear HB BKg BKb BKp HBS BKS BBS BGS
  obtain ⟨n, cs, rfl, rfl, HN, HP, BKb, BKp, BKg, HB⟩ := hrel
  have hcp_0 : wr.cell? ⟨p, 0, none⟩ = some (.pointer (some ⟨b, 0, none⟩)) := (blk_cell BKp.out 0).trans rfl
  have hfp_0 := blk_frozen BKp.out 0
  have hcb_0 : wr.cell? ⟨b, 0, none⟩ = some (.int .i64 (sz : Int)) := (blk_cell BKb.out 0).trans HP.out.2.1
  have hfb_0 := blk_frozen BKb.out 0
  have nbp := NEp.out
  have nbp2 := Ne.symm NEp.out
  have ngb := NEg.out
  have ngb2 := Ne.symm NEg.out
  have hcg_1 : wr.cell? ⟨g, 1, none⟩ = some (.int .u64 (P : Int)) := (blk_cell BKg.out 1).trans rfl
  have hfg_1 := blk_frozen BKg.out 1
  cases gk with
  | zero =>
   have hj : decide ((n : Int) < (sz : Int) - 1) = false := decide_eq_false (by have := HN.out; omega)
   have en : n = sz - 1 := by have := HN.out; omega
   subst en
   obtain ⟨v513, hv513⟩ : ∃ v, cs[513]? = some v := ⟨_, Array.getElem?_eq_getElem (show 513 < cs.size by rw [HP.out.1]; omega)⟩
   have hcb_513 : wr.cell? ⟨b, 513, none⟩ = some v513 := (blk_cell BKb.out 513).trans hv513
   have hfb_513 := blk_frozen BKb.out 513
   go_wp2_with (first | ((with_reducible refine gate_dst (N := 8) rfl ?_); refine box_event ?hg (N := 8) ?hd (cs := #[.int .i64 0]) (t := 3) ?hr ?_; (case hd => rfl); (case hg => rfl); (case hr => first | (go_simp; done) | (go_simp; rfl)); intro q hg_ wq hbox_ hb_; have n0_ := aK (below_step HB.out hb_); have n1_ := Aside0.mk hbox_; have n2_ := aK ((by rw [hg_]; exact below_size HB.out) : w.heap.size ≤ q); have n4_ := aK (blk_below BKb.out hb_); have n3_ := aK (blk_below BKp.out hb_); have n5_ := aK (show b ≠ q by rw [hg_]; exact Nat.ne_of_lt (blk_lt BKb.out)); have n6_ := aK (show p ≠ q by rw [hg_]; exact Nat.ne_of_lt (blk_lt BKp.out)); clear HB BKb BKp hcp_0 hfp_0 hcb_0 hfb_0 hcb_513 hfb_513; have HB := n0_; have BKq := n1_; have GEq := n2_; have BKb := n4_; have BKp := n3_; have NEbq := n5_; have NEpq := n6_; clear n0_ n1_ n2_ n3_ n4_ n5_ n6_; clear hb_ hbox_ hg_; have hcp_0 : wq.cell? ⟨p, 0, none⟩ = some (.pointer (some ⟨b, 0, none⟩)) := (blk_cell BKp.out 0).trans rfl; have hfp_0 := blk_frozen BKp.out 0; have hcb_0 : wq.cell? ⟨b, 0, none⟩ = some (.int .i64 (sz : Int)) := (blk_cell BKb.out 0).trans HP.out.2.1; have hfb_0 := blk_frozen BKb.out 0; have hcb_513 : wq.cell? ⟨b, 513, none⟩ = some v513 := (blk_cell BKb.out 513).trans hv513; have hfb_513 := blk_frozen BKb.out 513; have hcq_0 : wq.cell? ⟨q, 0, none⟩ = some (.int .i64 0) := (blk_cell BKq.out 0).trans rfl; have hfq_0 := blk_frozen BKq.out 0; have nbq := NEbq.out; have npq := NEpq.out; have nbq2 := Ne.symm NEbq.out; have npq2 := Ne.symm NEpq.out))
   have HBS := aK (below_set (j := 513) (v := .func (.func 56) #[] #[.pointer (some ⟨p, 0, none⟩), .pointer (some ⟨q, 0, none⟩)]) (below_set (j := 0) (v := .int .i64 ((sz : Int) - 1)) HB.out GEq.out) GEb.out)
   have BQ1 := blk_put (cs' := #[.int .i64 ((sz : Int) - 1)]) BKq.out 0 (.int .i64 ((sz : Int) - 1)) rfl
   have BB1 := blk_far (p := ⟨q, 0, none⟩) BKb.out NEbq.out (.int .i64 ((sz : Int) - 1))
   have BP1 := blk_far (p := ⟨q, 0, none⟩) BKp.out NEpq.out (.int .i64 ((sz : Int) - 1))
   have BQ2 := blk_far (p := ⟨b, 513, none⟩) BQ1 (Ne.symm NEbq.out) (.func (.func 56) #[] #[.pointer (some ⟨p, 0, none⟩), .pointer (some ⟨q, 0, none⟩)])
   have BB2 := blk_set BB1 513 (.func (.func 56) #[] #[.pointer (some ⟨p, 0, none⟩), .pointer (some ⟨q, 0, none⟩)])
   have BP2 := blk_far (p := ⟨b, 513, none⟩) BP1 (Ne.symm NEp.out) (.func (.func 56) #[] #[.pointer (some ⟨p, 0, none⟩), .pointer (some ⟨q, 0, none⟩)])
   go_ret2
   refine ⟨some ⟨b, 0, none⟩, rfl, .inr ⟨rfl, b, p, q, rfl, ⟨⟨⟨_, BB2, ?_, fun k hk => ?_, fun k hk => ?_, ?_⟩, BP2, BQ2⟩, by have := HSZ1.out; show 2 ≤ sz; omega, HSZ2.out, fun k => ?_, fun k => ?_⟩⟩, HBS.out⟩
   ·rw [Array.getElem?_setIfInBounds_ne (by omega)]; exact HP.out.2.1
   ·rw [Array.getElem?_setIfInBounds_ne (by omega)]; exact HP.out.2.2.1 k hk
   ·by_cases c : k = 256
    ·omega
    ·rw [Array.getElem?_setIfInBounds_ne (by omega)]; exact HP.out.2.2.2 k hk
   ·rw [Array.getElem?_setIfInBounds_self_of_lt (by rw [HP.out.1]; omega)]
   ·exact gxe_byte P sz (sz - 1) HM5.out (by have := HSZ1.out; omega) HSZ2.out k
   ·exact glg_byte P sz (sz - 1) k (by have := HSZ2.out; omega)
  | succ k1 =>
   have hj : decide ((n : Int) < (sz : Int) - 1) = true := decide_eq_true (by have := HN.out; omega)
   have hn1 : n < sz - 1 := by have := HN.out; omega
   obtain ⟨x, hx⟩ : ∃ x, x = gxn P sz n := ⟨_, rfl⟩
   have hxs : x < sz := by rw [hx]; exact HM5.out n (by omega)
   have hx2 : x < 256 := by have := HSZ2.out; omega
   have hxi : (x : Int) < 256 := by omega
   have hni : (n : Int) < 255 := by have := HSZ2.out; omega
   have t1 : ((n : Int) < 256) = True := eq_true (by omega)
   have hxm : (x : Int) % 256 = (x : Int) := by omega
   rw [← hx]
   obtain ⟨v1, hv1⟩ : ∃ v, cs[1 + n]? = some v := ⟨_, HP.out.2.2.1 n (by omega)⟩
   obtain ⟨v2, hv2⟩ : ∃ v, cs[257 + x]? = some v := ⟨_, HP.out.2.2.2 x (by omega)⟩
   have hcb_1 : wr.cell? ⟨b, 1 + n, none⟩ = some v1 := (blk_cell BKb.out _).trans hv1
   have hfb_1 := blk_frozen BKb.out (1 + n)
   have hcb_2 : wr.cell? ⟨b, 257 + x, none⟩ = some v2 := (blk_cell BKb.out _).trans hv2
   have hfb_2 := blk_frozen BKb.out (257 + x)
   have ne1 : ¬ (1 + n = 257 + x) := by omega
   have ne2 : ¬ (257 + x = 1 + n) := by omega
   have HX := Aside0.mk hx
   have HX2 := Aside0.mk hx2
   have HN1 := Aside0.mk hn1
   clear hx hx2 hn1 hxs
   have nx0 : (0 : Int) ≤ (x : Int) := by omega
   have finish : ∀ (y : Nat), y = gxn P sz (n + 1) → ∀ K : Prop, (∀ (cs' : Array Value), galPart P sz (n + 1) cs' → ((wr.setCell ⟨b, 1 + n, none⟩ (.int .u8 (x : Int))).setCell ⟨b, 257 + x, none⟩ (.int .i64 (n : Int))).heap[b]? = some (.cells cs' 65 (0, 0)) → K) → K := by
    intro y _ K hK
    exact hK _ (by have hs := galPart_step HP.out (by have := HN1.out; have := HSZ2.out; omega) (by rw [← HX.out]; exact HX2.out); rw [← HX.out] at hs; exact hs) (blk_set (blk_set BKb.out (1 + n) (.int .u8 (x : Int))) (257 + x) (.int .i64 (n : Int)))
   have HBS := aK (below_set (j := 257 + x) (v := .int .i64 (n : Int)) (below_set (j := 1 + n) (v := .int .u8 (x : Int)) HB.out GEb.out) GEb.out)
   have BPS := aK (blk_far (p := ⟨b, 257 + x, none⟩) (blk_far (p := ⟨b, 1 + n, none⟩) BKp.out (Ne.symm NEp.out) (.int .u8 (x : Int))) (Ne.symm NEp.out) (.int .i64 (n : Int)))
   have BGS := aK (blk_far (p := ⟨b, 257 + x, none⟩) (blk_far (p := ⟨b, 1 + n, none⟩) BKg.out NEg.out (.int .u8 (x : Int))) NEg.out (.int .i64 (n : Int)))
   have HF := Aside0.mk finish
   clear finish
   by_cases cs1 : sz ≤ 2 * x
   ·have b1 : decide ((sz : Int) ≤ (x : Int) * 2) = true := decide_eq_true (by omega)
    have HC1 := Aside0.mk cs1
    clear cs1
    go_wp2
    go_roundg k1
    case measure => omega
    case rel =>
     have ey : 2 * x ^^^ P = gxn P sz (n + 1) := by
      rw [gxn, ← HX.out, if_pos HC1.out]
     refine HF.out _ ey _ fun cs' hp hb => ⟨n + 1, cs', ?_, congrArg (Value.int .i64) (by first | omega | (unfold wrap64; omega)), ⟨by have := HN.out; omega⟩, ⟨hp⟩, ⟨hb⟩, BPS, BGS, HBS⟩
     rw [← ey, show ((x : Int) * 2) = ((2 * x : Nat) : Int) by omega, u64_xor_nat _ _ (by have := HX2.out; omega) (by have := HP5.out; omega)]
   ·have b1 : decide ((sz : Int) ≤ (x : Int) * 2) = false := decide_eq_false (by omega)
    have HC1 := Aside0.mk cs1
    clear cs1
    go_wp2
    go_roundg k1
    case measure => omega
    case rel =>
     have ey : 2 * x = gxn P sz (n + 1) := by
      rw [gxn, ← HX.out, if_neg HC1.out]
     refine HF.out _ ey _ fun cs' hp hb => ⟨n + 1, cs', ?_, congrArg (Value.int .i64) (by first | omega | (unfold wrap64; omega)), ⟨by have := HN.out; omega⟩, ⟨hp⟩, ⟨hb⟩, BPS, BGS, HBS⟩
     rw [← ey, show ((x : Int) * 2) = ((2 * x : Nat) : Int) by omega]
def r2_Degree.l0 : Nat → Int → Int → Option (Int)
 | 0, _, _ => none
 | k + 1, x0, x3 => if x0 = 0 then (some x3) else (r2_Degree.l0 k (x0 / 2) (wrap64 (x3 + 1)))
def r2_Degree.f (k : Nat) (a0 : Int) : Option (Int) := r2_Degree.l0 k a0 (-1)
theorem r2_Degree.mono_l : ∀ k, (∀ y0 y1, LeO (r2_Degree.l0 k y0 y1) (r2_Degree.l0 (k + 1) y0 y1))
 | 0 => fun _ _ r h => by simp [r2_Degree.l0] at h
 | k + 1 => by
  have ih0 := r2_Degree.mono_l k
  ·intro y0 y1
   unfold r2_Degree.l0
   repeat' first
   | (with_reducible exact ih0 _ _)
   | (with_reducible exact LeO.refl _)
   | (with_reducible exact LeO.none _)
   | (with_reducible refine LeO.ite ?_ ?_)
   | (with_reducible refine LeO.bind ?_ (fun _ => ?_))
theorem r2_Degree.mono : ∀ a0 k, LeO (r2_Degree.f k a0) (r2_Degree.f (k + 1) a0) := by
 intro a0 k
 have ih0 := r2_Degree.mono_l k
 unfold r2_Degree.f
 repeat' first
   | (with_reducible exact ih0 _ _)
   | (with_reducible exact LeO.refl _)
   | (with_reducible exact LeO.none _)
   | (with_reducible refine LeO.ite ?_ ?_)
   | (with_reducible refine LeO.bind ?_ (fun _ => ?_))
set_option maxHeartbeats 8000000 in
set_option maxRecDepth 100000 in
theorem r2_Degree.calls (k : Nat) (a0 : Int) (r : Int) (w : World) (h : r2_Degree.f k a0 = some r) :
  Calls Try.prog 57 #[.int .u64 a0] w fun e w' => e = .returned (.int .i64 r) ∧ Drawn0 w w' := by
 have H : (r2_Degree.l0 k a0 (-1)) = some r := h
 clear h
 have H' := Aside0.mk H
 clear H
 go_enter Try.func57, Try.ntmps57
 go_wp2
 go_loopg [0, 3] k (fun kq v0 v3 w' => ∃ (x0_1 : Int) (x3_1 : Int), v0 = .int .u64 x0_1 ∧ v3 = .int .i64 x3_1 ∧ Aside0 (r2_Degree.l0 kq x0_1 x3_1 = some r) ∧ Aside0 (kq ≤ k) ∧ Drawn0 w w')
 case atStart => exact ⟨(a0), ((-1)), (by first | rfl | (simp; done) | (simp [*]; done) | (simp [wrap64]; done)), (by first | rfl | (simp; done) | (simp [*]; done) | (simp [wrap64]; done)), H', ⟨Nat.le_refl _⟩, by repeat (first | exact Drawn0.refl _ | apply Drawn0.step)⟩
 case round =>
  clear H'
  obtain ⟨x0_1, x3_1, rfl, rfl, HA, HK1, ⟨m1, rfl⟩⟩ := hrel
  cases gk with
  | zero => exact absurd HA.out (by simp [r2_Degree.l0])
  | succ k1 =>
   have H := HA.out
   clear HA
   simp only [r2_Degree.l0] at H
   by_cases c2 : x0_1 = 0
   ·rw [if_pos c2] at H
    have c2b0 : (x0_1 == 0) = true := beq_iff_eq.mpr c2
    have c2b1 : (x0_1 != 0) = false := bne_eq_false_iff_eq.mpr c2
    clear c2
    obtain rfl := Option.some.inj H
    go_wp2
    go_ret
    exact ⟨by first | rfl | (simp; done) | (simp [*]; done) | (simp [wrap64]; done), by repeat (first | exact Drawn0.refl _ | apply Drawn0.step)⟩
   ·rw [if_neg c2] at H
    have c2b0 : (x0_1 == 0) = false := beq_eq_false_iff_ne.mpr c2
    have c2b1 : (x0_1 != 0) = true := bne_iff_ne.mpr c2
    have H' := Aside0.mk H
    clear H
    go_wp2
    go_roundg k1
    case measure => have := HK1.out; omega
    case rel => exact ⟨(x0_1 / 2), (wrap64 (x3_1 + 1)), (by first | rfl | (simp; done) | (simp [*]; done) | (simp [wrap64]; done)), (by first | rfl | (simp; done) | (simp [*]; done) | (simp [wrap64]; done)), H', ⟨by have := HK1.out; omega⟩, by repeat (first | exact Drawn0.refl _ | apply Drawn0.step)⟩

def r2_Bit.f (a0 : Int) (a1 : Int) : Option (Int) := if 0 ≤ (IntKind.u64.wrap (a1)) then (some (Go.bits .and .u64 (shr .u64 a0 (IntKind.u64.wrap (a1))) 1)) else (none)
set_option maxHeartbeats 8000000 in
set_option maxRecDepth 100000 in
theorem r2_Bit.calls (a0 : Int) (a1 : Int) (r : Int) (w : World) (h : r2_Bit.f a0 a1 = some r) :
  Calls Try.prog 70 #[.int .u64 a0, .int .i64 a1] w fun e w' => e = .returned (.int .u64 r) ∧ Drawn0 w w' := by
 have H : (if 0 ≤ (IntKind.u64.wrap (a1)) then (some (Go.bits .and .u64 (shr .u64 a0 (IntKind.u64.wrap (a1))) 1)) else (none)) = some r := h
 clear h
 obtain ⟨ji3, hji3⟩ : ∃ j_ : Int, (IntKind.u64.wrap (a1)) = j_ := ⟨_, rfl⟩
 first | rw [hji3] at H | simp only [hji3] at H
 by_cases c4 : 0 ≤ (ji3)
 rotate_left
 ·rw [if_neg c4] at H
  exact absurd H (by simp)

 rw [if_pos c4] at H
 have c4b0 := eq_true c4
 have c4b1 : decide (0 ≤ (ji3)) = true := decide_eq_true c4
 clear c4
 obtain ⟨ji5, hji5⟩ : ∃ j_ : Int, (shr .u64 a0 (ji3)) = j_ := ⟨_, rfl⟩
 first | rw [hji5] at H | simp only [hji5] at H
 have hji5_ : (a0 / 2 ^ min (ji3).toNat 64) = ji5 := hji5
 have hji5z : (ji3) ≤ 64 → (a0 / 2 ^ (ji3).toNat) = ji5 := shr_small hji5
 obtain rfl := Option.some.inj H
 go_enter Try.func70, Try.ntmps70
 go_wp2
 go_ret
 exact ⟨by first | rfl | (simp; done) | (simp only [← hji3, ← hji5] <;> (first | rfl | simp)) | (simp [*]; done) | (simp [wrap64]; done), by repeat (first | exact Drawn0.refl _ | apply Drawn0.step)⟩
mutual
def r2_Whole.l0 : Nat → Int → Int → Int → Int → Int → Int → Int → Option (Int × Int)
 | 0, _, _, _, _, _, _, _ => none
 | k + 1, x0, x1, x2, x8, x9, x10, x11 => if x11 ≥ 0 then (if x11 ≥ 64 then ((r2_Bit.f x0 (wrap64 (x11 - 64))).bind fun t132 => (r2_Whole.j1 k x0 x1 x2 x8 x9 x10 x11 t132)) else ((r2_Bit.f x1 x11).bind fun t133 => (r2_Whole.j1 k x0 x1 x2 x8 x9 x10 x11 t133))) else (some (x8, x9))
def r2_Whole.j1 : Nat → Int → Int → Int → Int → Int → Int → Int → Int → Option (Int × Int)
 | 0, _, _, _, _, _, _, _, _ => none
 | k + 1, x0, x1, x2, x8, x9, x10, x11, x12 => if x10 = 0 then (r2_Whole.l0 k x0 x1 x2 (Go.bits .or .u64 (IntKind.u64.wrap (x8 * 2)) x12) x9 x10 (wrap64 (x11 - 1))) else ((r2_Bit.f (Go.bits .or .u64 (IntKind.u64.wrap (x9 * 2)) x12) x10).bind fun t134 => (if t134 = 1 then (r2_Whole.l0 k x0 x1 x2 (Go.bits .or .u64 (IntKind.u64.wrap (x8 * 2)) 1) (Go.bits .xor .u64 (Go.bits .or .u64 (IntKind.u64.wrap (x9 * 2)) x12) x2) x10 (wrap64 (x11 - 1))) else (r2_Whole.l0 k x0 x1 x2 (IntKind.u64.wrap (x8 * 2)) (Go.bits .or .u64 (IntKind.u64.wrap (x9 * 2)) x12) x10 (wrap64 (x11 - 1)))))
end
def r2_Whole.f (k : Nat) (a0 : Int) (a1 : Int) (a2 : Int) : Option (Int × Int) := (r2_Degree.f k a2).bind fun t131 => (r2_Whole.l0 k a0 a1 a2 0 0 t131 127)
theorem r2_Whole.mono_l : ∀ k, (∀ y0 y1 y2 y3 y4 y5 y6, LeO (r2_Whole.l0 k y0 y1 y2 y3 y4 y5 y6) (r2_Whole.l0 (k + 1) y0 y1 y2 y3 y4 y5 y6)) ∧ (∀ y0 y1 y2 y3 y4 y5 y6 y7, LeO (r2_Whole.j1 k y0 y1 y2 y3 y4 y5 y6 y7) (r2_Whole.j1 (k + 1) y0 y1 y2 y3 y4 y5 y6 y7))
 | 0 => ⟨fun _ _ _ _ _ _ _ r h => by simp [r2_Whole.l0] at h, fun _ _ _ _ _ _ _ _ r h => by simp [r2_Whole.j1] at h⟩
 | k + 1 => by
  obtain ⟨ih0, ih1⟩ := r2_Whole.mono_l k
  refine ⟨?_, ?_⟩
  ·intro y0 y1 y2 y3 y4 y5 y6
   unfold r2_Whole.l0
   repeat' first
   | (with_reducible exact ih0 _ _ _ _ _ _ _)
   | (with_reducible exact ih1 _ _ _ _ _ _ _ _)
   | (with_reducible exact r2_Degree.mono _ _)
   | (with_reducible exact LeO.refl _)
   | (with_reducible exact LeO.none _)
   | (with_reducible refine LeO.ite ?_ ?_)
   | (with_reducible refine LeO.bind ?_ (fun _ => ?_))
  ·intro y0 y1 y2 y3 y4 y5 y6 y7
   unfold r2_Whole.j1
   repeat' first
   | (with_reducible exact ih0 _ _ _ _ _ _ _)
   | (with_reducible exact ih1 _ _ _ _ _ _ _ _)
   | (with_reducible exact r2_Degree.mono _ _)
   | (with_reducible exact LeO.refl _)
   | (with_reducible exact LeO.none _)
   | (with_reducible refine LeO.ite ?_ ?_)
   | (with_reducible refine LeO.bind ?_ (fun _ => ?_))
theorem r2_Whole.mono : ∀ a0 a1 a2 k, LeO (r2_Whole.f k a0 a1 a2) (r2_Whole.f (k + 1) a0 a1 a2) := by
 intro a0 a1 a2 k
 obtain ⟨ih0, ih1⟩ := r2_Whole.mono_l k
 unfold r2_Whole.f
 repeat' first
   | (with_reducible exact ih0 _ _ _ _ _ _ _)
   | (with_reducible exact ih1 _ _ _ _ _ _ _ _)
   | (with_reducible exact r2_Degree.mono _ _)
   | (with_reducible exact LeO.refl _)
   | (with_reducible exact LeO.none _)
   | (with_reducible refine LeO.ite ?_ ?_)
   | (with_reducible refine LeO.bind ?_ (fun _ => ?_))
set_option maxHeartbeats 8000000 in
set_option maxRecDepth 100000 in
theorem r2_Whole.calls (k : Nat) (a0 : Int) (a1 : Int) (a2 : Int) (r1 : Int) (r2 : Int) (w : World) (h : r2_Whole.f k a0 a1 a2 = some (r1, r2)) :
  Calls Try.prog 77 #[.int .u64 a0, .int .u64 a1, .int .u64 a2] w fun e w' => e = .returned (.tuple #[.int .u64 r1, .int .u64 r2]) ∧ Drawn0 w w' := by
 have H : ((r2_Degree.f k a2).bind fun t131 => (r2_Whole.l0 k a0 a1 a2 0 0 t131 127)) = some (r1, r2) := h
 clear h
 replace H := Option.bind_eq_some_iff.mp H
 obtain ⟨t131, A40, H⟩ := H
 try dsimp only at H
 have A4 := Aside0.mk A40
 clear A40
 have H' := Aside0.mk H
 clear H
 go_enter Try.func77, Try.ntmps77
 go_wp2_with (first | (go_at_call 57; (with_reducible refine (r2_Degree.calls k a2 t131 _ A4.out).mono ?_); rintro e w' ⟨rfl, ⟨nd, rfl⟩⟩))
 go_loopg [8, 9, 11] k (fun kq v8 v9 v11 w' => ∃ (x8_1 : Int) (x9_1 : Int) (x11_1 : Int), v8 = .int .u64 x8_1 ∧ v9 = .int .u64 x9_1 ∧ v11 = .int .i64 x11_1 ∧ Aside0 (r2_Whole.l0 kq a0 a1 a2 x8_1 x9_1 t131 x11_1 = some (r1, r2)) ∧ Aside0 (kq ≤ k) ∧ Drawn0 w w')
 case atStart => exact ⟨(0), (0), (127), (by first | rfl | (simp; done) | (simp [*]; done) | (simp [wrap64]; done)), (by first | rfl | (simp; done) | (simp [*]; done) | (simp [wrap64]; done)), (by first | rfl | (simp; done) | (simp [*]; done) | (simp [wrap64]; done)), H', ⟨Nat.le_refl _⟩, by repeat (first | exact Drawn0.refl _ | apply Drawn0.step)⟩
 case round =>
  clear H'
  try clear p2
  obtain ⟨x8_1, x9_1, x11_1, rfl, rfl, rfl, HA, HK1, ⟨m1, rfl⟩⟩ := hrel
  cases gk with
  | zero => exact absurd HA.out (by simp [r2_Whole.l0])
  | succ k1 =>
   have H := HA.out
   clear HA
   simp only [r2_Whole.l0] at H
   by_cases c5 : x11_1 ≥ 0
   rotate_left
   ·rw [if_neg c5] at H
    have c5b0 : decide (0 ≤ x11_1) = false := decide_eq_false c5
    clear c5
    simp only [Option.some.injEq, Prod.mk.injEq] at H
    obtain ⟨rfl, rfl⟩ := H
    go_wp2
    go_ret2
    exact ⟨by first | rfl | (simp; done) | (simp [*]; done) | (simp [wrap64]; done), by repeat (first | exact Drawn0.refl _ | apply Drawn0.step)⟩

   rw [if_pos c5] at H
   have c5b0 : decide (0 ≤ x11_1) = true := decide_eq_true c5
   clear c5
   have HC6 := Aside0.mk H
   clear H
   go_upto_if 20 with (fail)
   go_cut [12] (fun v12 wc => ∃ (kq : Nat) (x12_5 : Int), v12 = .int .u64 x12_5 ∧ Aside0 (r2_Whole.j1 kq a0 a1 a2 x8_1 x9_1 t131 x11_1 x12_5 = some (r1, r2)) ∧ Aside0 (kq ≤ k1) ∧ Drawn0 w wc)
   case first =>
    have H := HC6.out
    clear HC6
    by_cases c7 : x11_1 ≥ 64
    ·rw [if_pos c7] at H
     have c7b0 : decide (64 ≤ x11_1) = true := decide_eq_true c7
     clear c7
     (first | rw [c7b0] | (simp only [i64_w, i32_w]; rw [c7b0]) | rw [c7b1] | skip)
     replace H := Option.bind_eq_some_iff.mp H
     obtain ⟨t132, A80, H⟩ := H
     try dsimp only at H
     have A8 := Aside0.mk A80
     clear A80
     have H' := Aside0.mk H
     clear H
     go_wp2_with (first | (go_at_call 70; (with_reducible refine (r2_Bit.calls a0 (wrap64 (x11_1 - 64)) t132 _ A8.out).mono ?_); rintro e w' ⟨rfl, ⟨nd, rfl⟩⟩))
     go_meet
     case rel => exact ⟨_, (t132), (by first | rfl | (simp; done) | (simp [*]; done) | (simp [wrap64]; done)), H', ⟨by have := HK1.out; first | omega | exact Nat.le_refl _⟩, by repeat (first | exact Drawn0.refl _ | apply Drawn0.step)⟩
    ·rw [if_neg c7] at H
     have c7b0 : decide (64 ≤ x11_1) = false := decide_eq_false c7
     clear c7
     (first | rw [c7b0] | (simp only [i64_w, i32_w]; rw [c7b0]) | rw [c7b1] | skip)
     replace H := Option.bind_eq_some_iff.mp H
     obtain ⟨t133, A90, H⟩ := H
     try dsimp only at H
     have A9 := Aside0.mk A90
     clear A90
     have H' := Aside0.mk H
     clear H
     go_wp2_with (first | (go_at_call 70; (with_reducible refine (r2_Bit.calls a1 x11_1 t133 _ A9.out).mono ?_); rintro e w' ⟨rfl, ⟨nd, rfl⟩⟩))
     go_meet
     case rel => exact ⟨_, (t133), (by first | rfl | (simp; done) | (simp [*]; done) | (simp [wrap64]; done)), H', ⟨by have := HK1.out; first | omega | exact Nat.le_refl _⟩, by repeat (first | exact Drawn0.refl _ | apply Drawn0.step)⟩
   case rest =>
    clear HC6
    (try clear p2); (try clear c5); (try clear c5b0); (try clear p6); (try clear c7); (try clear c7b0); (try clear c7b1); (try clear p2)
    obtain ⟨kq, x12_5, rfl, HA, HJ5, ⟨mc5, rfl⟩⟩ := hcut
    cases kq with
    | zero => exact absurd HA.out (by simp [r2_Whole.j1])
    | succ kj5 =>
     have H := HA.out
     clear HA
     simp only [r2_Whole.j1] at H
     by_cases c10 : t131 = 0
     ·rw [if_pos c10] at H
      have c10b0 : (t131 == 0) = true := beq_iff_eq.mpr c10
      have c10b1 : (t131 != 0) = false := bne_eq_false_iff_eq.mpr c10
      clear c10
      have H' := Aside0.mk H
      clear H
      go_wp2
      go_roundg kj5
      case measure => have := HK1.out; have := HJ5.out; omega
      case rel => exact ⟨(Go.bits .or .u64 (IntKind.u64.wrap (x8_1 * 2)) x12_5), (x9_1), (wrap64 (x11_1 - 1)), (by first | rfl | (simp; done) | (simp [*]; done) | (simp [wrap64]; done)), (by first | rfl | (simp; done) | (simp [*]; done) | (simp [wrap64]; done)), (by first | rfl | (simp; done) | (simp [*]; done) | (simp [wrap64]; done)), H', ⟨by have := HK1.out; have := HJ5.out; omega⟩, by repeat (first | exact Drawn0.refl _ | apply Drawn0.step)⟩
     ·rw [if_neg c10] at H
      have c10b0 : (t131 == 0) = false := beq_eq_false_iff_ne.mpr c10
      have c10b1 : (t131 != 0) = true := bne_iff_ne.mpr c10
      replace H := Option.bind_eq_some_iff.mp H
      obtain ⟨t134, A110, H⟩ := H
      try dsimp only at H
      have A11 := Aside0.mk A110
      clear A110
      by_cases c12 : t134 = 1
      rotate_left
      ·rw [if_neg c12] at H
       have c12b0 : (t134 == 1) = false := beq_eq_false_iff_ne.mpr c12
       have c12b1 : (t134 != 1) = true := bne_iff_ne.mpr c12
       have H' := Aside0.mk H
       clear H
       go_wp2_with (first | (go_at_call 70; (with_reducible refine (r2_Bit.calls (Go.bits .or .u64 (IntKind.u64.wrap (x9_1 * 2)) x12_5) t131 t134 _ A11.out).mono ?_); rintro e w' ⟨rfl, ⟨nd, rfl⟩⟩))
       go_roundg kj5
       case measure => have := HK1.out; have := HJ5.out; omega
       case rel => exact ⟨(IntKind.u64.wrap (x8_1 * 2)), (Go.bits .or .u64 (IntKind.u64.wrap (x9_1 * 2)) x12_5), (wrap64 (x11_1 - 1)), (by first | rfl | (simp; done) | (simp [*]; done) | (simp [wrap64]; done)), (by first | rfl | (simp; done) | (simp [*]; done) | (simp [wrap64]; done)), (by first | rfl | (simp; done) | (simp [*]; done) | (simp [wrap64]; done)), H', ⟨by have := HK1.out; have := HJ5.out; omega⟩, by repeat (first | exact Drawn0.refl _ | apply Drawn0.step)⟩
      rw [if_pos c12] at H
      have c12b0 : (t134 == 1) = true := beq_iff_eq.mpr c12
      have c12b1 : (t134 != 1) = false := bne_eq_false_iff_eq.mpr c12
      clear c12
      have H' := Aside0.mk H
      clear H
      go_wp2_with (first | (go_at_call 70; (with_reducible refine (r2_Bit.calls (Go.bits .or .u64 (IntKind.u64.wrap (x9_1 * 2)) x12_5) t131 t134 _ A11.out).mono ?_); rintro e w' ⟨rfl, ⟨nd, rfl⟩⟩))
      go_roundg kj5
      case measure => have := HK1.out; have := HJ5.out; omega
      case rel => exact ⟨(Go.bits .or .u64 (IntKind.u64.wrap (x8_1 * 2)) 1), (Go.bits .xor .u64 (Go.bits .or .u64 (IntKind.u64.wrap (x9_1 * 2)) x12_5) a2), (wrap64 (x11_1 - 1)), (by first | rfl | (simp; done) | (simp [*]; done) | (simp [wrap64]; done)), (by first | rfl | (simp; done) | (simp [*]; done) | (simp [wrap64]; done)), (by first | rfl | (simp; done) | (simp [*]; done) | (simp [wrap64]; done)), H', ⟨by have := HK1.out; have := HJ5.out; omega⟩, by repeat (first | exact Drawn0.refl _ | apply Drawn0.step)⟩
def r2_Rest.l0 : Nat → Int → Int → Int → Int → Option (Int)
 | 0, _, _, _, _ => none
 | k + 1, x0, x1, x5, x6 => if x6 ≥ x5 then ((r2_Bit.f x0 x6).bind fun t137 => (if t137 = 1 then (if 0 ≤ (IntKind.u64.wrap (wrap64 (x6 - x5))) then (r2_Rest.l0 k (Go.bits .xor .u64 x0 (shl .u64 x1 (IntKind.u64.wrap (wrap64 (x6 - x5))))) x1 x5 (wrap64 (x6 - 1))) else (none)) else (r2_Rest.l0 k x0 x1 x5 (wrap64 (x6 - 1))))) else (some x0)
def r2_Rest.f (k : Nat) (a0 : Int) (a1 : Int) : Option (Int) := (r2_Degree.f k a1).bind fun t135 => ((r2_Degree.f k a0).bind fun t136 => (r2_Rest.l0 k a0 a1 t135 t136))
theorem r2_Rest.mono_l : ∀ k, (∀ y0 y1 y2 y3, LeO (r2_Rest.l0 k y0 y1 y2 y3) (r2_Rest.l0 (k + 1) y0 y1 y2 y3))
 | 0 => fun _ _ _ _ r h => by simp [r2_Rest.l0] at h
 | k + 1 => by
  have ih0 := r2_Rest.mono_l k
  ·intro y0 y1 y2 y3
   unfold r2_Rest.l0
   repeat' first
   | (with_reducible exact ih0 _ _ _ _)
   | (with_reducible exact r2_Degree.mono _ _)
   | (with_reducible exact LeO.refl _)
   | (with_reducible exact LeO.none _)
   | (with_reducible refine LeO.ite ?_ ?_)
   | (with_reducible refine LeO.bind ?_ (fun _ => ?_))
theorem r2_Rest.mono : ∀ a0 a1 k, LeO (r2_Rest.f k a0 a1) (r2_Rest.f (k + 1) a0 a1) := by
 intro a0 a1 k
 have ih0 := r2_Rest.mono_l k
 unfold r2_Rest.f
 repeat' first
   | (with_reducible exact ih0 _ _ _ _)
   | (with_reducible exact r2_Degree.mono _ _)
   | (with_reducible exact LeO.refl _)
   | (with_reducible exact LeO.none _)
   | (with_reducible refine LeO.ite ?_ ?_)
   | (with_reducible refine LeO.bind ?_ (fun _ => ?_))
set_option maxHeartbeats 8000000 in
set_option maxRecDepth 100000 in
theorem r2_Rest.calls (k : Nat) (a0 : Int) (a1 : Int) (r : Int) (w : World) (h : r2_Rest.f k a0 a1 = some r) :
  Calls Try.prog 82 #[.int .u64 a0, .int .u64 a1] w fun e w' => e = .returned (.int .u64 r) ∧ Drawn0 w w' := by
 have H : ((r2_Degree.f k a1).bind fun t135 => ((r2_Degree.f k a0).bind fun t136 => (r2_Rest.l0 k a0 a1 t135 t136))) = some r := h
 clear h
 replace H := Option.bind_eq_some_iff.mp H
 obtain ⟨t135, A30, H⟩ := H
 try dsimp only at H
 have A3 := Aside0.mk A30
 clear A30
 replace H := Option.bind_eq_some_iff.mp H
 obtain ⟨t136, A40, H⟩ := H
 try dsimp only at H
 have A4 := Aside0.mk A40
 clear A40
 have H' := Aside0.mk H
 clear H
 go_enter Try.func82, Try.ntmps82
 go_wp2_with (first | (go_at_call 57; (with_reducible refine (r2_Degree.calls k a1 t135 _ A3.out).mono ?_); rintro e w' ⟨rfl, ⟨nd, rfl⟩⟩) | (go_at_call 57; (with_reducible refine (r2_Degree.calls k a0 t136 _ A4.out).mono ?_); rintro e w' ⟨rfl, ⟨nd, rfl⟩⟩))
 go_loopg [0, 6] k (fun kq v0 v6 w' => ∃ (x0_1 : Int) (x6_1 : Int), v0 = .int .u64 x0_1 ∧ v6 = .int .i64 x6_1 ∧ Aside0 (r2_Rest.l0 kq x0_1 a1 t135 x6_1 = some r) ∧ Aside0 (kq ≤ k) ∧ Drawn0 w w')
 case atStart => exact ⟨(a0), (t136), (by first | rfl | (simp; done) | (simp [*]; done) | (simp [wrap64]; done)), (by first | rfl | (simp; done) | (simp [*]; done) | (simp [wrap64]; done)), H', ⟨Nat.le_refl _⟩, by repeat (first | exact Drawn0.refl _ | apply Drawn0.step)⟩
 case round =>
  clear H'
  try clear p2
  obtain ⟨x0_1, x6_1, rfl, rfl, HA, HK1, ⟨m1, rfl⟩⟩ := hrel
  cases gk with
  | zero => exact absurd HA.out (by simp [r2_Rest.l0])
  | succ k1 =>
   have H := HA.out
   clear HA
   simp only [r2_Rest.l0] at H
   by_cases c5 : x6_1 ≥ t135
   rotate_left
   ·rw [if_neg c5] at H
    have c5b0 : decide (t135 ≤ x6_1) = false := decide_eq_false c5
    clear c5
    obtain rfl := Option.some.inj H
    go_wp2
    go_ret
    exact ⟨by first | rfl | (simp; done) | (simp [*]; done) | (simp [wrap64]; done), by repeat (first | exact Drawn0.refl _ | apply Drawn0.step)⟩

   rw [if_pos c5] at H
   have c5b0 : decide (t135 ≤ x6_1) = true := decide_eq_true c5
   clear c5
   replace H := Option.bind_eq_some_iff.mp H
   obtain ⟨t137, A60, H⟩ := H
   try dsimp only at H
   have A6 := Aside0.mk A60
   clear A60
   by_cases c7 : t137 = 1
   rotate_left
   ·rw [if_neg c7] at H
    have c7b0 : (t137 == 1) = false := beq_eq_false_iff_ne.mpr c7
    have c7b1 : (t137 != 1) = true := bne_iff_ne.mpr c7
    have H' := Aside0.mk H
    clear H
    go_wp2_with (first | (go_at_call 70; (with_reducible refine (r2_Bit.calls x0_1 x6_1 t137 _ A6.out).mono ?_); rintro e w' ⟨rfl, ⟨nd, rfl⟩⟩))
    go_roundg k1
    case measure => have := HK1.out; omega
    case rel => exact ⟨(x0_1), (wrap64 (x6_1 - 1)), (by first | rfl | (simp; done) | (simp [*]; done) | (simp [wrap64]; done)), (by first | rfl | (simp; done) | (simp [*]; done) | (simp [wrap64]; done)), H', ⟨by have := HK1.out; omega⟩, by repeat (first | exact Drawn0.refl _ | apply Drawn0.step)⟩
   rw [if_pos c7] at H
   have c7b0 : (t137 == 1) = true := beq_iff_eq.mpr c7
   have c7b1 : (t137 != 1) = false := bne_eq_false_iff_eq.mpr c7
   clear c7
   obtain ⟨ji8, hji8⟩ : ∃ j_ : Int, (IntKind.u64.wrap (wrap64 (x6_1 - t135))) = j_ := ⟨_, rfl⟩
   first | rw [hji8] at H | simp only [hji8] at H
   (try rw [hji8] at A6)
   by_cases c9 : 0 ≤ (ji8)
   rotate_left
   ·rw [if_neg c9] at H
    exact absurd H (by simp)
   rw [if_pos c9] at H
   have c9b0 := eq_true c9
   have c9b1 : decide (0 ≤ (ji8)) = true := decide_eq_true c9
   clear c9
   obtain ⟨ji10, hji10⟩ : ∃ j_ : Int, (shl .u64 a1 (ji8)) = j_ := ⟨_, rfl⟩
   first | rw [hji10] at H | simp only [hji10] at H
   (try rw [hji10] at A6)
   have hji10_ : (IntKind.u64.wrap (a1 * 2 ^ min (ji8).toNat 64)) = ji10 := hji10
   have hji10z : (ji8) ≤ 64 → (IntKind.u64.wrap (a1 * 2 ^ (ji8).toNat)) = ji10 := shl_small hji10
   have H' := Aside0.mk H
   clear H
   go_wp2_with (first | (go_at_call 70; (with_reducible refine (r2_Bit.calls x0_1 x6_1 t137 _ A6.out).mono ?_); rintro e w' ⟨rfl, ⟨nd, rfl⟩⟩))
   go_roundg k1
   case measure => have := HK1.out; omega
   case rel => exact ⟨(Go.bits .xor .u64 x0_1 (ji10)), (wrap64 (x6_1 - 1)), (by first | rfl | (simp; done) | (simp only [← hji10] <;> (first | rfl | simp)) | (simp [*]; done) | (simp [wrap64]; done)), (by first | rfl | (simp; done) | (simp [*]; done) | (simp [wrap64]; done)), H', ⟨by have := HK1.out; omega⟩, by repeat (first | exact Drawn0.refl _ | apply Drawn0.step)⟩
end Go.Proofs.Ytjdkamhnbheofaa.P

-- squeezed
