/- CrcNil, a closed statement: its walk, by hand: no table and no run, and such that nobody made. -/
import Derived.Test.YtejlmodoghglbaaCnPx3
import Derived.Test.YtejlmodoghglbaaCnPx2
namespace Go.Proofs.Ytejlmodoghglbaa.P
open Go.RowKit Go.Proofs.YtejlmodoghglbaaW.PrintWords Go.Proofs.YtejlmodoghglbaaW.PrintLast Go.Proofs.YtejlmodoghglbaaW.PrintMore
attribute [local go_sem] max2_int min2_int max_two min_two max_three min_three max_four min_four
set_option linter.unusedVariables false
set_option linter.unusedSimpArgs false

/-- No table, or one that nobody made; no run, or one that nobody made. -/
def crcT (w : World) (A : Option Addr) : Prop := A = none ∨ ∃ b, A = some ⟨b, 0, none⟩ ∧ w.heap[b]? = some (.cells Try.zeroCells58 58 (0, 0))
def crcU (w : World) (A : Option Addr) : Prop := A = none ∨ ∃ b, A = some ⟨b, 0, none⟩ ∧ w.heap[b]? = some (.cells #[.pointer none, .int .u32 0, .int .u64 0] 61 (0, 0))
theorem crcT_off : Try.zeroCells58[264]? = some (.bool false) := by kernel_rfl
theorem crcU_off : (#[.pointer none, .int .u32 0, .int .u64 0] : Array Value)[0]? = some (.pointer none) := by kernel_rfl
set_option maxHeartbeats 8000000 in
set_option maxRecDepth 100000 in
theorem crcNil_TSum (A : Option Addr) (v : Value) (w : World) (h : crcT w A) : Calls Try.prog 26 #[.pointer A, v] w fun e w' => e = .returned (.int .u32 0) ∧ Drawn0 w w' := by
  rcases h with rfl | ⟨b, rfl, hb⟩
  · go_enter Try.func26, Try.ntmps26
    go_wp2
    go_ret
    exact ⟨rfl, Drawn0.refl _⟩
  · have hx : w.cell? ⟨b, 264, none⟩ = some (.bool false) := (blk_cell hb 264).trans crcT_off
    clear hb
    go_enter Try.func26, Try.ntmps26
    go_wp2
    go_ret
    exact ⟨rfl, Drawn0.refl _⟩
set_option maxHeartbeats 8000000 in
set_option maxRecDepth 100000 in
theorem crcNil_Begin (A : Option Addr) (w : World) (h : crcT w A) : Calls Try.prog 27 #[.pointer A] w fun e w' => e = .returned (.pointer none) ∧ Drawn0 w w' := by
  rcases h with rfl | ⟨b, rfl, hb⟩
  · go_enter Try.func27, Try.ntmps27
    go_wp2
    go_ret
    exact ⟨rfl, Drawn0.refl _⟩
  · have hx : w.cell? ⟨b, 264, none⟩ = some (.bool false) := (blk_cell hb 264).trans crcT_off
    clear hb
    go_enter Try.func27, Try.ntmps27
    go_wp2
    go_ret
    exact ⟨rfl, Drawn0.refl _⟩
set_option maxHeartbeats 8000000 in
set_option maxRecDepth 100000 in
theorem crcNil_good (A : Option Addr) (w : World) (h : crcU w A) : Calls Try.prog 48 #[.pointer A] w fun e w' => e = .returned (.bool false) ∧ Drawn0 w w' := by
  rcases h with rfl | ⟨b, rfl, hb⟩
  · go_enter Try.func48, Try.ntmps48
    go_wp2
    go_ret
    exact ⟨rfl, Drawn0.refl _⟩
  · have hx : w.cell? ⟨b, 0, none⟩ = some (.pointer none) := (blk_cell hb 0).trans crcU_off
    clear hb
    go_enter Try.func48, Try.ntmps48
    go_wp2
    go_ret
    exact ⟨rfl, Drawn0.refl _⟩
set_option maxHeartbeats 8000000 in
set_option maxRecDepth 100000 in
theorem crcNil_Add (A : Option Addr) (v : Value) (w : World) (h : crcU w A) : Calls Try.prog 28 #[.pointer A, v] w fun e w' => e = .returned (.int .i64 1) ∧ Drawn0 w w' := by
  have H := Aside0.mk h
  clear h
  go_enter Try.func28, Try.ntmps28
  go_wp2_with (first | (go_at_call 48; (with_reducible refine (crcNil_good A _ H.out).mono ?_); rintro e w' ⟨rfl, ⟨nd, rfl⟩⟩))
  go_ret
  exact ⟨rfl, by repeat (first | exact Drawn0.refl _ | apply Drawn0.step)⟩
set_option maxHeartbeats 8000000 in
set_option maxRecDepth 100000 in
theorem crcNil_Sum (A : Option Addr) (w : World) (h : crcU w A) : Calls Try.prog 29 #[.pointer A] w fun e w' => e = .returned (.int .u32 0) ∧ Drawn0 w w' := by
  have H := Aside0.mk h
  clear h
  go_enter Try.func29, Try.ntmps29
  go_wp2_with (first | (go_at_call 48; (with_reducible refine (crcNil_good A _ H.out).mono ?_); rintro e w' ⟨rfl, ⟨nd, rfl⟩⟩))
  go_ret
  exact ⟨rfl, by repeat (first | exact Drawn0.refl _ | apply Drawn0.step)⟩
set_option maxHeartbeats 8000000 in
set_option maxRecDepth 100000 in
theorem crcNil_Bytes (A : Option Addr) (w : World) (h : crcU w A) : Calls Try.prog 30 #[.pointer A] w fun e w' => e = .returned (.int .u64 0) ∧ Drawn0 w w' := by
  have H := Aside0.mk h
  clear h
  go_enter Try.func30, Try.ntmps30
  go_wp2_with (first | (go_at_call 48; (with_reducible refine (crcNil_good A _ H.out).mono ?_); rintro e w' ⟨rfl, ⟨nd, rfl⟩⟩))
  go_ret
  exact ⟨rfl, by repeat (first | exact Drawn0.refl _ | apply Drawn0.step)⟩
set_option maxHeartbeats 8000000 in
set_option maxRecDepth 100000 in
theorem crcNil_Fork (A : Option Addr) (w : World) (h : crcU w A) : Calls Try.prog 31 #[.pointer A] w fun e w' => e = .returned (.pointer none) ∧ Drawn0 w w' := by
  have H := Aside0.mk h
  clear h
  go_enter Try.func31, Try.ntmps31
  go_wp2_with (first | (go_at_call 48; (with_reducible refine (crcNil_good A _ H.out).mono ?_); rintro e w' ⟨rfl, ⟨nd, rfl⟩⟩))
  go_ret
  exact ⟨rfl, by repeat (first | exact Drawn0.refl _ | apply Drawn0.step)⟩
set_option maxHeartbeats 16000000 in
set_option maxRecDepth 100000 in
theorem outpostlaw03_CrcNil.calls (w : World) (hkn : outpostlaw03_knows.f = some true) : Calls Try.prog 9 #[] w fun e w' => e = .returned (.bool true) ∧ Below w.heap.size w w' := by
  have HB := Aside0.mk (Below.refl w.heap.size w)
  have HKN := Aside0.mk hkn
  have HNM : Aside0 (outpostlaw03_num.f 1 = some 1) := ⟨rfl⟩
  have HT0 : ∀ W, crcT W none := fun _ => .inl rfl
  have HU0 : ∀ W, crcU W none := fun _ => .inl rfl
  have HTN := Aside0.mk HT0
  have HUN := Aside0.mk HU0
  clear hkn HT0 HU0
  go_enter Try.func9, Try.ntmps9
  go_wp2_with (first
    | ((with_reducible refine gate_dst (N := 6) rfl ?_); refine box_event ?hg (N := 6) ?hd (cs := Try.zeroCells58) (t := 58) ?hr ?_; (case hd => rfl); (case hg => rfl); (case hr => first | (go_simp; done) | (go_simp; rfl)); intro b hg_ wb hbox_ hb_; have n0_ := Aside0.mk (below_step HB.out hb_); have HTB := Aside0.mk hbox_; clear HB; have HB := n0_; clear n0_ hb_ hbox_ hg_)
    | ((with_reducible refine gate_dst (N := 8) rfl ?_); refine box_event ?hg (N := 8) ?hd (cs := #[.pointer none, .int .u32 0, .int .u64 0]) (t := 61) ?hr ?_; (case hd => rfl); (case hg => rfl); (case hr => first | (go_simp; done) | (go_simp; rfl)); intro c hg_ wc hbox_ hb_; have n0_ := Aside0.mk (below_step HB.out hb_); have n1_ := Aside0.mk (blk_below HTB.out hb_); have HUB := Aside0.mk hbox_; clear HB HTB; have HB := n0_; have HTB := n1_; clear n0_ n1_ hb_ hbox_ hg_)
    | (go_at_call 26; (first | (with_reducible refine (crcNil_TSum none _ _ (HTN.out _)).mono ?_) | (refine (crcNil_TSum (some ⟨b, 0, none⟩) _ _ (.inr ⟨b, rfl, by repeat (first | exact HTB.out | refine blk_drewN ?_ _ | refine blk_alloc ?_ _)⟩)).mono ?_)); rintro e w5 ⟨rfl, ⟨nd, rfl⟩⟩)
    | (go_at_call 27; (first | (with_reducible refine (crcNil_Begin none _ (HTN.out _)).mono ?_) | (refine (crcNil_Begin (some ⟨b, 0, none⟩) _ (.inr ⟨b, rfl, by repeat (first | exact HTB.out | refine blk_drewN ?_ _ | refine blk_alloc ?_ _)⟩)).mono ?_)); rintro e w5 ⟨rfl, ⟨nd, rfl⟩⟩)
    | (go_at_call 18; (with_reducible refine (outpostlaw03_knows.calls true _ HKN.out).mono ?_); rintro e w5 ⟨rfl, hb⟩; have n0_ := Aside0.mk (below_step (by repeat (first | (with_reducible first | exact HB.out | apply below_alloc | apply pw_below_drewN | apply below_drew1) | exact HB.out)) hb); have n1_ := Aside0.mk (blk_below (g := c) (o := .cells #[.pointer none, .int .u32 0, .int .u64 0] 61 (0, 0)) (by repeat (first | exact HUB.out | refine blk_drewN ?_ _ | refine blk_alloc ?_ _)) hb); clear HB HUB HTB; have HB := n0_; have HUB := n1_; clear n0_ n1_ hb)
    | (go_at_call 15; (with_reducible refine (outpostlaw03_num.calls 1 1 _ HNM.out).mono ?_); rintro e w5 ⟨rfl, ⟨nd, rfl⟩⟩)
    | (go_at_call 28; (first | (with_reducible refine (crcNil_Add none _ _ (HUN.out _)).mono ?_) | (refine (crcNil_Add (some ⟨c, 0, none⟩) _ _ (.inr ⟨c, rfl, by repeat (first | exact HUB.out | refine blk_drewN ?_ _ | refine blk_alloc ?_ _)⟩)).mono ?_)); rintro e w5 ⟨rfl, ⟨nd, rfl⟩⟩)
    | (go_at_call 29; (first | (with_reducible refine (crcNil_Sum none _ (HUN.out _)).mono ?_) | (refine (crcNil_Sum (some ⟨c, 0, none⟩) _ (.inr ⟨c, rfl, by repeat (first | exact HUB.out | refine blk_drewN ?_ _ | refine blk_alloc ?_ _)⟩)).mono ?_)); rintro e w5 ⟨rfl, ⟨nd, rfl⟩⟩)
    | (go_at_call 30; (first | (with_reducible refine (crcNil_Bytes none _ (HUN.out _)).mono ?_) | (refine (crcNil_Bytes (some ⟨c, 0, none⟩) _ (.inr ⟨c, rfl, by repeat (first | exact HUB.out | refine blk_drewN ?_ _ | refine blk_alloc ?_ _)⟩)).mono ?_)); rintro e w5 ⟨rfl, ⟨nd, rfl⟩⟩)
    | (go_at_call 31; (first | (with_reducible refine (crcNil_Fork none _ (HUN.out _)).mono ?_) | (refine (crcNil_Fork (some ⟨c, 0, none⟩) _ (.inr ⟨c, rfl, by repeat (first | exact HUB.out | refine blk_drewN ?_ _ | refine blk_alloc ?_ _)⟩)).mono ?_)); rintro e w5 ⟨rfl, ⟨nd, rfl⟩⟩))
  go_ret
  exact ⟨rfl, by repeat (first | (with_reducible first | exact HB.out | apply below_alloc | apply pw_below_drewN | apply below_drew1) | exact HB.out)⟩

end Go.Proofs.Ytejlmodoghglbaa.P
