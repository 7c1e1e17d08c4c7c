-- written by mk.sh, a program of this session, over the kit's print
import Derived.Test.YtjdkamhnbheofaaGpPx0
import Derived.Test.YtjdkamhnbheofaaGpPx2
import Derived.Test.YtjdkamhnbheofaaGpPx5
import Derived.Test.YtjdkamhnbheofaaGpPx6
import Derived.Test.YtjdkamhnbheofaaGpPx8
import Derived.Test.YtjdkamhnbheofaaGpPx9
namespace Go.Proofs.Ytjdkamhnbheofaa.P
open Go.RowKit Go.Proofs.YtjdkamhnbheofaaW.PrintWords Go.Proofs.YtjdkamhnbheofaaW.PrintLast Go.Proofs.YtjdkamhnbheofaaW.PrintMore
attribute [local go_sem] max2_int min2_int max_two min_two max_three min_three max_four min_four   -- for this text's walks alone
set_option linter.unusedVariables false
set_option linter.unusedSimpArgs false

mutual
def galois_plus.l0 : Nat → List Int → List Int → List Int → List Int → Int → Int → Option (List Int)
 | 0, _, _, _, _, _, _ => none
 | k + 1, x0, x1, x5, x17, x18, x19 => if x19 < x18 then (if 0 ≤ x19 then (if x19 < (x17.length : Int) then (if 0 ≤ (wrap64 ((wrap64 ((x0.length : Int) - (x1.length : Int))) + x19)) then (if (wrap64 ((wrap64 ((x0.length : Int) - (x1.length : Int))) + x19)) < (x5.length : Int) then (galois_plus.l0 k x0 x1 (x5.set ((wrap64 ((wrap64 ((x0.length : Int) - (x1.length : Int))) + x19)) : Int).toNat (Go.bits .xor .u8 (rd x5 (wrap64 ((wrap64 ((x0.length : Int) - (x1.length : Int))) + x19))) (rd x17 x19))) x17 x18 (wrap64 (x19 + 1))) else (none)) else (none)) else (none)) else (none)) else ((galois_trim.f x5).bind fun t320 => (some t320))
def galois_plus.l101 : Nat → List Int → List Int → List Int → List Int → Int → Int → Option (List Int)
 | 0, _, _, _, _, _, _ => none
 | k + 1, x0, x1, x5, x17, x18, x19 => if x19 < x18 then (if 0 ≤ x19 then (if x19 < (x17.length : Int) then (if 0 ≤ (wrap64 ((wrap64 ((x0.length : Int) - (x1.length : Int))) + x19)) then (if (wrap64 ((wrap64 ((x0.length : Int) - (x1.length : Int))) + x19)) < (x5.length : Int) then (galois_plus.l101 k x0 x1 (x5.set ((wrap64 ((wrap64 ((x0.length : Int) - (x1.length : Int))) + x19)) : Int).toNat (Go.bits .xor .u8 (rd x5 (wrap64 ((wrap64 ((x0.length : Int) - (x1.length : Int))) + x19))) (rd x17 x19))) x17 x18 (wrap64 (x19 + 1))) else (none)) else (none)) else (none)) else (none)) else ((galois_trim.f x5).bind fun t329 => (some t329))
end
def galois_plus.f (k : Nat) (l0 : List Int) (l1 : List Int) : Option (List Int) := if (l0.length : Int) < (l1.length : Int) then (if ([] : List Int).length + l1.length < 140737488355328 then (galois_plus.l0 k l1 l0 (([] : List Int) ++ l1) l0 (l0.length : Int) 0) else (none)) else (if ([] : List Int).length + l0.length < 140737488355328 then (galois_plus.l101 k l0 l1 (([] : List Int) ++ l0) l1 (l1.length : Int) 0) else (none))
theorem galois_plus.mono_l : ∀ k, (∀ y0 y1 y2 y3 y4 y5, LeO (galois_plus.l0 k y0 y1 y2 y3 y4 y5) (galois_plus.l0 (k + 1) y0 y1 y2 y3 y4 y5)) ∧ (∀ y0 y1 y2 y3 y4 y5, LeO (galois_plus.l101 k y0 y1 y2 y3 y4 y5) (galois_plus.l101 (k + 1) y0 y1 y2 y3 y4 y5))
 | 0 => ⟨fun _ _ _ _ _ _ r h => by simp [galois_plus.l0] at h, fun _ _ _ _ _ _ r h => by simp [galois_plus.l101] at h⟩
 | k + 1 => by
  obtain ⟨ih0, ih1⟩ := galois_plus.mono_l k
  refine ⟨?_, ?_⟩
  ·intro y0 y1 y2 y3 y4 y5
   unfold galois_plus.l0
   repeat' first
   | (with_reducible exact ih0 _ _ _ _ _ _)
   | (with_reducible exact ih1 _ _ _ _ _ _)
   | (with_reducible exact LeO.refl _)
   | (with_reducible exact LeO.none _)
   | (with_reducible refine LeO.ite ?_ ?_)
   | (with_reducible refine LeO.bind ?_ (fun _ => ?_))
  ·intro y0 y1 y2 y3 y4 y5
   unfold galois_plus.l101
   repeat' first
   | (with_reducible exact ih0 _ _ _ _ _ _)
   | (with_reducible exact ih1 _ _ _ _ _ _)
   | (with_reducible exact LeO.refl _)
   | (with_reducible exact LeO.none _)
   | (with_reducible refine LeO.ite ?_ ?_)
   | (with_reducible refine LeO.bind ?_ (fun _ => ?_))
theorem galois_plus.mono : ∀ a0 a1 k, LeO (galois_plus.f k a0 a1) (galois_plus.f (k + 1) a0 a1) := by
 intro a0 a1 k
 obtain ⟨ih0, ih1⟩ := galois_plus.mono_l k
 unfold galois_plus.f
 repeat' first
   | (with_reducible exact ih0 _ _ _ _ _ _)
   | (with_reducible exact ih1 _ _ _ _ _ _)
   | (with_reducible exact LeO.refl _)
   | (with_reducible exact LeO.none _)
   | (with_reducible refine LeO.ite ?_ ?_)
   | (with_reducible refine LeO.bind ?_ (fun _ => ?_))
set_option maxHeartbeats 8000000 in
set_option maxRecDepth 100000 in
theorem galois_plus.calls (k : Nat) (A0 : Option Addr) (c0 : Nat) (l0 : List Int) (A1 : Option Addr) (c1 : Nat) (l1 : List Int) (r : List Int) (w : World) (hr0 : Kd.C (Kd.int .u8) w A0 l0.length l0) (hc0 : l0.length ≤ c0) (hr1 : Kd.C (Kd.int .u8) w A1 l1.length l1) (hc1 : l1.length ≤ c1) (h : galois_plus.f k l0 l1 = some r) :
  Calls Try.prog 43 #[.slice A0 l0.length c0, .slice A1 l1.length c1] w fun e w' => ∃ v0_ : Value, e = .returned (v0_) ∧ Kd.R (Kd.int .u8) 5 w' w.heap.size (fun _ => True) v0_ r ∧ Below w.heap.size w w' := by
 have HR0 := Aside0.mk hr0
 have HC0 := Aside0.mk hc0
 clear hr0 hc0
 have HR1 := Aside0.mk hr1
 have HC1 := Aside0.mk hc1
 clear hr1 hc1
 have HB := aK (Below.refl w.heap.size w)
 have H : (if (l0.length : Int) < (l1.length : Int) then (if ([] : List Int).length + l1.length < 140737488355328 then (galois_plus.l0 k l1 l0 (([] : List Int) ++ l1) l0 (l0.length : Int) 0) else (none)) else (if ([] : List Int).length + l0.length < 140737488355328 then (galois_plus.l101 k l0 l1 (([] : List Int) ++ l0) l1 (l1.length : Int) 0) else (none))) = some r := h
 clear h
 by_cases c3 : (l0.length : Int) < (l1.length : Int)
 ·rw [if_pos c3] at H
  have c3b0 : decide ((l0.length : Int) < (l1.length : Int)) = true := decide_eq_true c3
  have c3b1 : decide (l0.length < l1.length) = true := decide_eq_true (Int.ofNat_lt.mp c3)
  clear c3
  by_cases c4 : ([] : List Int).length + l1.length < 140737488355328
  rotate_left
  ·rw [if_neg c4] at H
   exact absurd H (by simp)
  rw [if_pos c4] at H
  have LMc4 := Aside0.mk c4
  clear c4
  obtain ⟨y314, hy314⟩ : ∃ y_ : List Int, y_ = (([] : List Int) ++ l1) := ⟨_, rfl⟩
  replace H : (galois_plus.l0 k l1 l0 y314 l0 (l0.length : Int) 0) = some r := by rw [hy314]; exact H
  have Ny314 := Aside0.mk hy314
  clear hy314
  have H' := Aside0.mk H
  clear H
  go_enter Try.func43, Try.ntmps43
  go_wp2_with (first | ((with_reducible refine gate_builtin (b := .append) (xs := #[.const (.slice none 0 0), .tmp 15]) rfl ?_); at_builtin; refine Kd.R_append_rows (Kd.int .u8) (w0 := w) w.heap.size rfl (.const (.slice none 0 0)) (.tmp 15) 25 5 (.int .u8 0) 1 rfl Try.underlying25 info5 rfl (by decide) (by omega) (.slice none 0 0) ([] : List Int) l1 _ _ _ (fun _ => True) (fun _ => False) rfl rfl ?aO ?aR (fun _ _ h => h) (fun _ h => h.elim) ?aF ?aB ?aS ?aL ?_; (case aR => repeat (first | exact HR1.out | (with_reducible refine Kd.C_alloc ?_ _) | (with_reducible refine Kd.C_drewN ?_ _) | (with_reducible refine Kd.C_drew ?_))); (case aB => exact (mvh HB.out)); (case aF => exact (fun _ _ => trivial)); (case aO => exact ((Kd.R_nil _ _ _ _ (fun _ => True)))); (case aS => exact (below_size (mvh HB.out))); (case aL => have := LMc4.out; omega); intro v315 w5 ho hb hg hat; rw [← Ny314.out] at ho; have n0_ := aK (hb); have n1_ := aK (ho); clear HB; have HB := n0_; have HO316 := n1_; clear n0_ n1_; clear ho hb hg hat))
  go_loopg [19] k (fun kq v19 w' => ∃ (x5_1 : List Int) (x19_1 : Int), v19 = .int .i64 x19_1 ∧ Aside0 (galois_plus.l0 kq l1 l0 x5_1 l0 (l0.length : Int) x19_1 = some r) ∧ Aside0 (kq ≤ k) ∧ Aside0 (Kd.R (Kd.int .u8) 5 w' w.heap.size (fun _ => True) v315 x5_1) ∧ Aside0 (Below w.heap.size w w'))
  case atStart => exact ⟨(y314), (0), (by first | rfl | (simp; done) | (simp [*]; done) | (simp [wrap64]; done)), H', ⟨Nat.le_refl _⟩, ⟨mvR HO316.out⟩, ⟨mvh HB.out⟩⟩
  case round =>
   clear H'
   (try clear c1); (try clear p2); (try clear c3); (try clear c3b0); (try clear c3b1); (try clear c4)
   obtain ⟨x5_1, x19_1, rfl, HA, HK1, HO_5, HB⟩ := hrel
   cases gk with
   | zero => exact absurd HA.out (by simp [galois_plus.l0])
   | succ k1 =>
    have H := HA.out
    clear HA
    simp only [galois_plus.l0] at H
    by_cases c6 : x19_1 < (l0.length : Int)
    rotate_left
    ·rw [if_neg c6] at H
     have c6b0 : decide (x19_1 < (l0.length : Int)) = false := decide_eq_false c6
     clear c6
     replace H := Option.bind_eq_some_iff.mp H
     obtain ⟨t320, A160, H⟩ := H
     replace H : (some t320) = some r := H
     have A16 := Aside0.mk A160
     clear A160
     obtain rfl := Option.some.inj H
     obtain ⟨Ao17, co17, eo17⟩ := Kd.R_slice HO_5.out
     subst eo17
     go_wp2_with (first | (go_at_call 52; (with_reducible refine (galois_trim.calls _ _ x5_1 t320 _ ?side1 ?side2 A16.out).mono ?_); (case side1 => exact mvC (Kd.R_reads' HO_5.out).2.2); (case side2 => exact (Kd.R_reads' HO_5.out).2.1); rintro e w18 ⟨v321, rfl, ho0, hb⟩; have n0_ := aK (Kd.R_elder' (mvR HO_5.out) (Kd.R_base ho0) hb); have n1_ := aK (Kd.R_lower (Kd.R_new' ho0 (Kd.R_lt (mvR HO_5.out))) (below_size (mvh HB.out))); have n2_ := aK (below_step (mvh HB.out) hb); clear HO_5 HB; have HO_5 := n0_; have HO322 := n1_; have HB := n2_; clear n0_ n1_ n2_; (try clear hb); (try clear ho0)))
     go_ret
     exact ⟨_, by first | rfl | (simp [errW_none, errW_some] <;> rfl) | (simp [*, errW_none, errW_some] <;> rfl), by (with_reducible repeat (first | apply Kd.R_alloc | apply Kd.R_drewN | apply Kd.R_drew)); exact Kd.R_mono HO322.out (fun _ hk => trivial), mvh HB.out⟩
    rw [if_pos c6] at H
    have c6b0 : decide (x19_1 < (l0.length : Int)) = true := decide_eq_true c6
    clear c6
    by_cases c7 : 0 ≤ x19_1
    rotate_left
    ·rw [if_neg c7] at H
     exact absurd H (by simp)
    rw [if_pos c7] at H
    have c7b0 : decide (0 ≤ x19_1) = true := decide_eq_true c7
    clear c7
    by_cases c8 : x19_1 < (l0.length : Int)
    rotate_left
    ·rw [if_neg c8] at H
     exact absurd H (by simp)
    rw [if_pos c8] at H
    have c8b0 : decide (x19_1 < (l0.length : Int)) = true := decide_eq_true c8
    clear c8
    obtain ⟨ji9, hji9⟩ : ∃ j_ : Int, (wrap64 ((wrap64 ((l1.length : Int) - (l0.length : Int))) + x19_1)) = j_ := ⟨_, rfl⟩
    first | rw [hji9] at H | simp only [hji9] at H
    have hji9w : (IntKind.i64.wrap ((wrap64 ((l1.length : Int) - (l0.length : Int))) + x19_1)) = ji9 := (i64_w _).trans hji9
    by_cases c10 : 0 ≤ (ji9)
    rotate_left
    ·rw [if_neg c10] at H
     exact absurd H (by simp)
    rw [if_pos c10] at H
    have c10b0 : decide (0 ≤ (ji9)) = true := decide_eq_true c10
    clear c10
    by_cases c11 : (ji9) < (x5_1.length : Int)
    rotate_left
    ·rw [if_neg c11] at H
     exact absurd H (by simp)
    rw [if_pos c11] at H
    have c11b0 : decide ((ji9) < (x5_1.length : Int)) = true := decide_eq_true c11
    clear c11
    obtain ⟨y319, hy319⟩ : ∃ y_ : List Int, y_ = (x5_1.set ((ji9) : Int).toNat (Go.bits .xor .u8 (rd x5_1 (ji9)) (rd l0 x19_1))) := ⟨_, rfl⟩
    replace H : (galois_plus.l0 k1 l1 l0 y319 l0 (l0.length : Int) (wrap64 (x19_1 + 1))) = some r := by rw [hy319]; exact H
    have Ny319 := Aside0.mk hy319
    clear hy319
    have H' := Aside0.mk H
    clear H
    have p317 : 0 ≤ (x19_1 : Int) := of_decide_eq_true (by first | (with_reducible assumption) | assumption)
    have q317 : x19_1 < (l0.length : Int) := of_decide_eq_true (by first | (with_reducible assumption) | assumption)
    obtain ⟨ad317, e317, hx317_0⟩ := Kd.at_int HR0.out x19_1 p317 q317
    cases e317
    replace hx317_0 := (HB.out.cell (World.block_lt_of_cell? w _ hx317_0)).trans hx317_0
    replace p317 := eq_true p317
    replace q317 := eq_true q317
    obtain ⟨Ao13, co13, eo13⟩ := Kd.R_slice HO_5.out
    subst eo13
    have p318 : 0 ≤ ((ji9) : Int) := of_decide_eq_true (by first | (with_reducible assumption) | assumption)
    have q318 : (ji9) < (x5_1.length : Int) := of_decide_eq_true (by first | (with_reducible assumption) | assumption)
    obtain ⟨ad318, e318, hx318_0⟩ := Kd.at_int (Kd.R_reads' HO_5.out).2.2 (ji9) p318 q318
    cases e318
    replace p318 := eq_true p318
    replace q318 := eq_true q318
    have p12 : 0 ≤ ((ji9) : Int) := of_decide_eq_true (by first | (with_reducible assumption) | assumption)
    have q12 : ((ji9) : Int) < ((x5_1.length : Int) : Int) := of_decide_eq_true (by first | (with_reducible assumption) | assumption)
    obtain ⟨go12, co12, eo12, gb12, gl12, cl12, HG12⟩ := Kd.R_form HO_5.out (by omega)
    (first | cases eo12 | (injection eo12 with ea_ en_ ec_; (first | subst ea_ | (injection ea_ with ea_; subst ea_)); subst ec_; clear en_))
    have GB12 := Aside0.mk gb12
    have GG12 := Aside0.mk HG12
    clear gb12 gl12 HG12
    (first | simp only [add_plain] at hx318_0 | skip)
    obtain ⟨hx12_0, hf12_0⟩ := Kd.R_celln 0 HO_5.out ((ji9) : Int) p12 q12
    replace p12 := eq_true p12
    replace q12 := eq_true q12
    have HP14 := Kd.R_putg HO_5.out ((ji9) : Int) (Go.bits .xor .u8 (rd x5_1 (ji9)) (rd l0 x19_1))
    go_wp2_with (first | ((with_reducible refine gate_store (t := 5) (p := 36) rfl ?_); refine store_event (t := 5) (p := 36) (v := ?vo_w15) (w1 := (wr.setCell ⟨go12, ((ji9) : Int).toNat, none⟩ (.int .u8 (Go.bits .xor .u8 (rd x5_1 (ji9)) (rd l0 x19_1))))) ?hg ?ho ?hn ?hr ?_; (case ho => rfl); (case hg => rfl); (case hn => rfl); (case hr => first | (go_simp; done) | (go_simp; rfl)); intro w15 hw; have hg : wr.grownBy w15 (some go12) := (by rw [hw]; exact HP14.2); have hp_ : Kd.R (Kd.int .u8) 5 w15 w.heap.size (fun _ => True) (.slice (some ⟨go12, 0, none⟩) x5_1.length co13) y319 := (by rw [hw, Ny319.out]; exact HP14.1); clear HP14; have n0_ := aK (hp_); have n1_ := aK ((by rw [hw]; exact below_set (HB.out) GB12.out : Below w.heap.size w w15)); clear HO_5 HB; have HO_5 := n0_; have HB := n1_; clear n0_ n1_; clear hg hw hp_))
    go_roundg k1
    case measure => have := HK1.out; omega
    case rel => exact ⟨(y319), (wrap64 (x19_1 + 1)), (by first | rfl | (simp; done) | (simp [*]; done) | (simp [wrap64]; done)), H', ⟨by have := HK1.out; omega⟩, ⟨mvR HO_5.out⟩, ⟨mvh HB.out⟩⟩
 ·rw [if_neg c3] at H
  have c3b0 : decide ((l0.length : Int) < (l1.length : Int)) = false := decide_eq_false c3
  have c3b1 : decide (l0.length < l1.length) = false := decide_eq_false (fun h => c3 (Int.ofNat_lt.mpr h))
  clear c3
  by_cases c19 : ([] : List Int).length + l0.length < 140737488355328
  rotate_left
  ·rw [if_neg c19] at H
   exact absurd H (by simp)

  rw [if_pos c19] at H
  have LMc19 := Aside0.mk c19
  clear c19
  obtain ⟨y323, hy323⟩ : ∃ y_ : List Int, y_ = (([] : List Int) ++ l0) := ⟨_, rfl⟩
  replace H : (galois_plus.l101 k l0 l1 y323 l1 (l1.length : Int) 0) = some r := by rw [hy323]; exact H
  have Ny323 := Aside0.mk hy323
  clear hy323
  have H' := Aside0.mk H
  clear H
  go_enter Try.func43, Try.ntmps43
  go_wp2_with (first | ((with_reducible refine gate_builtin (b := .append) (xs := #[.const (.slice none 0 0), .tmp 15]) rfl ?_); at_builtin; refine Kd.R_append_rows (Kd.int .u8) (w0 := w) w.heap.size rfl (.const (.slice none 0 0)) (.tmp 15) 25 5 (.int .u8 0) 1 rfl Try.underlying25 info5 rfl (by decide) (by omega) (.slice none 0 0) ([] : List Int) l0 _ _ _ (fun _ => True) (fun _ => False) rfl rfl ?aO ?aR (fun _ _ h => h) (fun _ h => h.elim) ?aF ?aB ?aS ?aL ?_; (case aR => repeat (first | exact HR0.out | (with_reducible refine Kd.C_alloc ?_ _) | (with_reducible refine Kd.C_drewN ?_ _) | (with_reducible refine Kd.C_drew ?_))); (case aB => exact (mvh HB.out)); (case aF => exact (fun _ _ => trivial)); (case aO => exact ((Kd.R_nil _ _ _ _ (fun _ => True)))); (case aS => exact (below_size (mvh HB.out))); (case aL => have := LMc19.out; omega); intro v324 w20 ho hb hg hat; rw [← Ny323.out] at ho; have n0_ := aK (hb); have n1_ := aK (ho); clear HB; have HB := n0_; have HO325 := n1_; clear n0_ n1_; clear ho hb hg hat))
  go_loopg [19] k (fun kq v19 w' => ∃ (x5_1 : List Int) (x19_1 : Int), v19 = .int .i64 x19_1 ∧ Aside0 (galois_plus.l101 kq l0 l1 x5_1 l1 (l1.length : Int) x19_1 = some r) ∧ Aside0 (kq ≤ k) ∧ Aside0 (Kd.R (Kd.int .u8) 5 w' w.heap.size (fun _ => True) v324 x5_1) ∧ Aside0 (Below w.heap.size w w'))
  case atStart => exact ⟨(y323), (0), (by first | rfl | (simp; done) | (simp [*]; done) | (simp [wrap64]; done)), H', ⟨Nat.le_refl _⟩, ⟨mvR HO325.out⟩, ⟨mvh HB.out⟩⟩
  case round =>
   clear H'
   (try clear c1); (try clear p1); (try clear q1); (try clear hx1); (try clear p2); (try clear c3); (try clear c3b0); (try clear c3b1); (try clear p3); (try clear q3); (try clear hx3); (try clear c4); (try clear c5); (try clear c6); (try clear c6b0); (try clear p6); (try clear c7); (try clear c7b0)
   (try clear c8); (try clear c8b0); (try clear c10); (try clear c10b0); (try clear c11); (try clear c11b0); (try clear p12); (try clear q12); (try clear hx12); (try clear hf12); (try clear c19); (try clear hx12_0); (try clear hx317_0); (try clear hx318_0); (try clear p12); (try clear p2); (try clear p317)
   (try clear p318); (try clear q12); (try clear q317); (try clear q318)
   obtain ⟨x5_1, x19_1, rfl, HA, HK1, HO_5, HB⟩ := hrel
   cases gk with
   | zero => exact absurd HA.out (by simp [galois_plus.l101])
   | succ k1 =>
    have H := HA.out
    clear HA
    simp only [galois_plus.l101] at H
    by_cases c21 : x19_1 < (l1.length : Int)
    rotate_left
    ·rw [if_neg c21] at H
     have c21b0 : decide (x19_1 < (l1.length : Int)) = false := decide_eq_false c21
     clear c21
     replace H := Option.bind_eq_some_iff.mp H
     obtain ⟨t329, A310, H⟩ := H
     replace H : (some t329) = some r := H
     have A31 := Aside0.mk A310
     clear A310
     obtain rfl := Option.some.inj H
     obtain ⟨Ao32, co32, eo32⟩ := Kd.R_slice HO_5.out
     subst eo32
     go_wp2_with (first | (go_at_call 52; (with_reducible refine (galois_trim.calls _ _ x5_1 t329 _ ?side1 ?side2 A31.out).mono ?_); (case side1 => exact mvC (Kd.R_reads' HO_5.out).2.2); (case side2 => exact (Kd.R_reads' HO_5.out).2.1); rintro e w33 ⟨v330, rfl, ho0, hb⟩; have n0_ := aK (Kd.R_elder' (mvR HO_5.out) (Kd.R_base ho0) hb); have n1_ := aK (Kd.R_lower (Kd.R_new' ho0 (Kd.R_lt (mvR HO_5.out))) (below_size (mvh HB.out))); have n2_ := aK (below_step (mvh HB.out) hb); clear HO_5 HB; have HO_5 := n0_; have HO331 := n1_; have HB := n2_; clear n0_ n1_ n2_; (try clear hb); (try clear ho0)))
     go_ret
     exact ⟨_, by first | rfl | (simp [errW_none, errW_some] <;> rfl) | (simp [*, errW_none, errW_some] <;> rfl), by (with_reducible repeat (first | apply Kd.R_alloc | apply Kd.R_drewN | apply Kd.R_drew)); exact Kd.R_mono HO331.out (fun _ hk => trivial), mvh HB.out⟩
    rw [if_pos c21] at H
    have c21b0 : decide (x19_1 < (l1.length : Int)) = true := decide_eq_true c21
    clear c21
    by_cases c22 : 0 ≤ x19_1
    rotate_left
    ·rw [if_neg c22] at H
     exact absurd H (by simp)
    rw [if_pos c22] at H
    have c22b0 : decide (0 ≤ x19_1) = true := decide_eq_true c22
    clear c22
    by_cases c23 : x19_1 < (l1.length : Int)
    rotate_left
    ·rw [if_neg c23] at H
     exact absurd H (by simp)
    rw [if_pos c23] at H
    have c23b0 : decide (x19_1 < (l1.length : Int)) = true := decide_eq_true c23
    clear c23
    obtain ⟨ji24, hji24⟩ : ∃ j_ : Int, (wrap64 ((wrap64 ((l0.length : Int) - (l1.length : Int))) + x19_1)) = j_ := ⟨_, rfl⟩
    first | rw [hji24] at H | simp only [hji24] at H
    have hji24w : (IntKind.i64.wrap ((wrap64 ((l0.length : Int) - (l1.length : Int))) + x19_1)) = ji24 := (i64_w _).trans hji24
    by_cases c25 : 0 ≤ (ji24)
    rotate_left
    ·rw [if_neg c25] at H
     exact absurd H (by simp)
    rw [if_pos c25] at H
    have c25b0 : decide (0 ≤ (ji24)) = true := decide_eq_true c25
    clear c25
    by_cases c26 : (ji24) < (x5_1.length : Int)
    rotate_left
    ·rw [if_neg c26] at H
     exact absurd H (by simp)
    rw [if_pos c26] at H
    have c26b0 : decide ((ji24) < (x5_1.length : Int)) = true := decide_eq_true c26
    clear c26
    obtain ⟨y328, hy328⟩ : ∃ y_ : List Int, y_ = (x5_1.set ((ji24) : Int).toNat (Go.bits .xor .u8 (rd x5_1 (ji24)) (rd l1 x19_1))) := ⟨_, rfl⟩
    replace H : (galois_plus.l101 k1 l0 l1 y328 l1 (l1.length : Int) (wrap64 (x19_1 + 1))) = some r := by rw [hy328]; exact H
    have Ny328 := Aside0.mk hy328
    clear hy328
    have H' := Aside0.mk H
    clear H
    have p326 : 0 ≤ (x19_1 : Int) := of_decide_eq_true (by first | (with_reducible assumption) | assumption)
    have q326 : x19_1 < (l1.length : Int) := of_decide_eq_true (by first | (with_reducible assumption) | assumption)
    obtain ⟨ad326, e326, hx326_0⟩ := Kd.at_int HR1.out x19_1 p326 q326
    cases e326
    replace hx326_0 := (HB.out.cell (World.block_lt_of_cell? w _ hx326_0)).trans hx326_0
    replace p326 := eq_true p326
    replace q326 := eq_true q326
    obtain ⟨Ao28, co28, eo28⟩ := Kd.R_slice HO_5.out
    subst eo28
    have p327 : 0 ≤ ((ji24) : Int) := of_decide_eq_true (by first | (with_reducible assumption) | assumption)
    have q327 : (ji24) < (x5_1.length : Int) := of_decide_eq_true (by first | (with_reducible assumption) | assumption)
    obtain ⟨ad327, e327, hx327_0⟩ := Kd.at_int (Kd.R_reads' HO_5.out).2.2 (ji24) p327 q327
    cases e327
    replace p327 := eq_true p327
    replace q327 := eq_true q327
    have p27 : 0 ≤ ((ji24) : Int) := of_decide_eq_true (by first | (with_reducible assumption) | assumption)
    have q27 : ((ji24) : Int) < ((x5_1.length : Int) : Int) := of_decide_eq_true (by first | (with_reducible assumption) | assumption)
    obtain ⟨go27, co27, eo27, gb27, gl27, cl27, HG27⟩ := Kd.R_form HO_5.out (by omega)
    (first | cases eo27 | (injection eo27 with ea_ en_ ec_; (first | subst ea_ | (injection ea_ with ea_; subst ea_)); subst ec_; clear en_))
    have GB27 := Aside0.mk gb27
    have GG27 := Aside0.mk HG27
    clear gb27 gl27 HG27
    (first | simp only [add_plain] at hx327_0 | skip)
    obtain ⟨hx27_0, hf27_0⟩ := Kd.R_celln 0 HO_5.out ((ji24) : Int) p27 q27
    replace p27 := eq_true p27
    replace q27 := eq_true q27
    have HP29 := Kd.R_putg HO_5.out ((ji24) : Int) (Go.bits .xor .u8 (rd x5_1 (ji24)) (rd l1 x19_1))
    go_wp2_with (first | ((with_reducible refine gate_store (t := 5) (p := 36) rfl ?_); refine store_event (t := 5) (p := 36) (v := ?vo_w30) (w1 := (wr.setCell ⟨go27, ((ji24) : Int).toNat, none⟩ (.int .u8 (Go.bits .xor .u8 (rd x5_1 (ji24)) (rd l1 x19_1))))) ?hg ?ho ?hn ?hr ?_; (case ho => rfl); (case hg => rfl); (case hn => rfl); (case hr => first | (go_simp; done) | (go_simp; rfl)); intro w30 hw; have hg : wr.grownBy w30 (some go27) := (by rw [hw]; exact HP29.2); have hp_ : Kd.R (Kd.int .u8) 5 w30 w.heap.size (fun _ => True) (.slice (some ⟨go27, 0, none⟩) x5_1.length co28) y328 := (by rw [hw, Ny328.out]; exact HP29.1); clear HP29; have n0_ := aK (hp_); have n1_ := aK ((by rw [hw]; exact below_set (HB.out) GB27.out : Below w.heap.size w w30)); clear HO_5 HB; have HO_5 := n0_; have HB := n1_; clear n0_ n1_; clear hg hw hp_))
    go_roundg k1
    case measure => have := HK1.out; omega
    case rel => exact ⟨(y328), (wrap64 (x19_1 + 1)), (by first | rfl | (simp; done) | (simp [*]; done) | (simp [wrap64]; done)), H', ⟨by have := HK1.out; omega⟩, ⟨mvR HO_5.out⟩, ⟨mvh HB.out⟩⟩
def gT_Plus.f (k : Nat) (a0 : GTab) (l1 : List Int) (l2 : List Int) : Option (List Int × Int) := (gT_lists.f k a0 (([l1, l2] : List (List Int)))).bind fun t335 => (if t335 = 0 then ((galois_plus.f k l1 l2).bind fun t336 => (some (t336, 0))) else (some (([] : List Int), t335)))
theorem gT_Plus.mono : ∀ a0 a1 a2 k, LeO (gT_Plus.f k a0 a1 a2) (gT_Plus.f (k + 1) a0 a1 a2) := by
 intro a0 a1 a2 k
 unfold gT_Plus.f
 repeat' first
   | (with_reducible exact gT_lists.mono _ _ _)
   | (with_reducible exact galois_plus.mono _ _ _)
   | (with_reducible exact LeO.refl _)
   | (with_reducible exact LeO.none _)
   | (with_reducible refine LeO.ite ?_ ?_)
   | (with_reducible refine LeO.bind ?_ (fun _ => ?_))
set_option maxHeartbeats 8000000 in
set_option maxRecDepth 100000 in
theorem gT_Plus.calls (k : Nat) (A0 : Option Addr) (a0 : GTab) (P1_ : Nat → Prop) (A1 : Option Addr) (c1 : Nat) (l1 : List Int) (P2_ : Nat → Prop) (A2 : Option Addr) (c2 : Nat) (l2 : List Int) (r1 : List Int) (r2 : Int) (w : World) (hr0 : gal_OK w A0 a0) (hs1 : Kd.V (Kd.int .u8) 5 w w.heap.size (fun k_ => P1_ k_) (.slice A1 l1.length c1) l1) (hs2 : Kd.V (Kd.int .u8) 5 w w.heap.size (fun k_ => P2_ k_) (.slice A2 l2.length c2) l2) (h : gT_Plus.f k a0 l1 l2 = some (r1, r2)) :
  Calls Try.prog 20 #[.pointer A0, .slice A1 l1.length c1, .slice A2 l2.length c2] w fun e w' => ∃ v0_ : Value, e = .returned (.tuple #[v0_, .int .i64 r2]) ∧ Kd.R (Kd.int .u8) 5 w' w.heap.size (fun k_ => (w.heap.size ≤ k_)) v0_ r1 ∧ Below w.heap.size w w' := by
 have HR0 := Aside0.mk hr0
 clear hr0
 have HO1 := aK (show Kd.V (Kd.int .u8) 5 w w.heap.size (fun k_ => ((P1_ k_ ∨ P2_ k_) ∨ w.heap.size ≤ k_)) (.slice A1 l1.length c1) l1 from Kd.V_mono hs1 (fun k_ hk => .inl (.inl hk)))
 have HO2 := aK (show Kd.V (Kd.int .u8) 5 w w.heap.size (fun k_ => ((P1_ k_ ∨ P2_ k_) ∨ w.heap.size ≤ k_)) (.slice A2 l2.length c2) l2 from Kd.V_mono hs2 (fun k_ hk => .inl (.inr hk)))
 have HB := aK (Below.refl w.heap.size w)
 have H : ((gT_lists.f k a0 (([l1, l2] : List (List Int)))).bind fun t335 => (if t335 = 0 then ((galois_plus.f k l1 l2).bind fun t336 => (some (t336, 0))) else (some (([] : List Int), t335)))) = some (r1, r2) := h
 clear h
 obtain ⟨y332, hy332⟩ : ∃ y_ : List (List Int), y_ = (([l1, l2] : List (List Int))) := ⟨_, rfl⟩
 replace H : ((gT_lists.f k a0 y332).bind fun t335 => (if t335 = 0 then ((galois_plus.f k l1 l2).bind fun t336 => (some (t336, 0))) else (some (([] : List Int), t335)))) = some (r1, r2) := by rw [hy332]; exact H
 have Ny332 := Aside0.mk hy332
 clear hy332
 replace H := Option.bind_eq_some_iff.mp H
 obtain ⟨t335, A40, H⟩ := H
 try dsimp only at H
 have A4 := Aside0.mk A40
 clear A40
 by_cases c5 : t335 = 0
 rotate_left
 ·rw [if_neg c5] at H
  have c5b0 : (t335 == 0) = false := beq_eq_false_iff_ne.mpr c5
  have c5b1 : (t335 != 0) = true := bne_iff_ne.mpr c5
  simp only [Option.some.injEq, Prod.mk.injEq] at H
  obtain ⟨rfl, rfl⟩ := H
  go_enter Try.func20, Try.ntmps20
  go_wp2_with (first | ((with_reducible refine gate_dst (N := 12) rfl ?_); refine Kd.N_lit (Kd.slice 5 (Kd.int .u8)) _ 25 ?hg (N' := 12) ?hd (xs := ([l1, l2] : List (List Int))) (inner := [.slice A1 l1.length c1, .slice A2 l2.length c2]) (ok := (fun k_ => ((P1_ k_ ∨ P2_ k_) ∨ w.heap.size ≤ k_))) (okp := (fun k_ => ((P1_ k_ ∨ P2_ k_) ∨ w.heap.size ≤ k_))) ?hr ?hp (fun _ hk => hk) ((show ∀ k_, w.heap.size ≤ k_ → (fun k_ => ((P1_ k_ ∨ P2_ k_) ∨ w.heap.size ≤ k_)) k_ from fun k_ hk => (.inr (Nat.le_trans (below_size (mvh HB.out)) hk))) _ (Nat.le_refl _)) (Below.refl _ _) (Nat.le_refl _) (by simp) ?_; (case hd => rfl); (case hg => rfl); (case hr => first | (go_simp; done) | (go_simp; rfl)); (case hp => exact (Reps.one (show Kd.FK (Kd.slice 5 (Kd.int .u8)) _ _ l1 [.slice A1 l1.length c1] from (Kd.FK_slice_mk (Kd.V_reads' (Kd.V_mono (ok' := (fun k_ => ((P1_ k_ ∨ P2_ k_) ∨ w.heap.size ≤ k_))) (HO1.out) (fun k_ hk => hk))).2.1 (Kd.V_F (Kd.V_mono (ok' := (fun k_ => ((P1_ k_ ∨ P2_ k_) ∨ w.heap.size ≤ k_))) (HO1.out) (fun k_ hk => hk))))) (Reps.one (show Kd.FK (Kd.slice 5 (Kd.int .u8)) _ _ l2 [.slice A2 l2.length c2] from (Kd.FK_slice_mk (Kd.V_reads' (Kd.V_mono (ok' := (fun k_ => ((P1_ k_ ∨ P2_ k_) ∨ w.heap.size ≤ k_))) (HO2.out) (fun k_ hk => hk))).2.1 (Kd.V_F (Kd.V_mono (ok' := (fun k_ => ((P1_ k_ ∨ P2_ k_) ∨ w.heap.size ≤ k_))) (HO2.out) (fun k_ hk => hk))))) (Reps.none _ _)))); intro v333 w11 ho12 hb hg_ hnew_; clear hg_ hnew_; (first | rw [← Ny332.out] at ho12 | (simp only [Int.reduceToNat] at ho12; rw [← Ny332.out] at ho12)); have n0_ := aK (Kd.V_elder' (by (with_reducible repeat (first | apply Kd.V_alloc | apply Kd.V_drewN | apply Kd.V_drew)); exact HO1.out) (Kd.N_base ho12) hb); have n1_ := aK (Kd.V_elder' (by (with_reducible repeat (first | apply Kd.V_alloc | apply Kd.V_drewN | apply Kd.V_drew)); exact HO2.out) (Kd.N_base ho12) hb); have n2_ := aK (Kd.N_lower ho12 (below_size (mvh HB.out))); have n3_ := aK (below_step (mvh HB.out) hb); clear HO1 HO2 HB; have HO1 := n0_; have HO2 := n1_; have HO334 := n2_; have HB := n3_; clear n0_ n1_ n2_ n3_; clear hb ho12; obtain ⟨Ao13, co13, eo13⟩ := Kd.N_slice HO334.out; subst eo13) | (go_at_call 39; (with_reducible refine (gT_lists.calls k _ a0 _ _ y332 t335 _ ?side1 ?side2 ?side3 A4.out).mono ?_); (case side1 => exact (gal_OK_below HR0.out HB.out)); (case side2 => exact mvC (Kd.N_reads' HO334.out).2.2); (case side3 => exact (Kd.N_reads' HO334.out).2.1); rintro e w' ⟨rfl, ⟨nd, rfl⟩⟩))
  go_ret2
  exact ⟨_, by first | rfl | (simp [errW_none, errW_some] <;> rfl) | (simp [*, errW_none, errW_some] <;> rfl), by first | exact Kd.R_nil _ _ _ _ _ | exact Kd.N_nil _ _ _ _ _ | exact Kd.V_nil _ _ _ _ _ | exact Kd.Q_nil _ _ _ _ _ | exact Kd.S_nil _ _ _ _ _, mvh HB.out⟩

 rw [if_pos c5] at H
 have c5b0 : (t335 == 0) = true := beq_iff_eq.mpr c5
 have c5b1 : (t335 != 0) = false := bne_eq_false_iff_eq.mpr c5
 clear c5
 replace H := Option.bind_eq_some_iff.mp H
 obtain ⟨t336, A60, H⟩ := H
 replace H : (some (t336, 0)) = some (r1, r2) := H
 have A6 := Aside0.mk A60
 clear A60
 simp only [Option.some.injEq, Prod.mk.injEq] at H
 obtain ⟨rfl, rfl⟩ := H
 go_enter Try.func20, Try.ntmps20
 go_wp2_with (first | ((with_reducible refine gate_dst (N := 12) rfl ?_); refine Kd.N_lit (Kd.slice 5 (Kd.int .u8)) _ 25 ?hg (N' := 12) ?hd (xs := ([l1, l2] : List (List Int))) (inner := [.slice A1 l1.length c1, .slice A2 l2.length c2]) (ok := (fun k_ => ((P1_ k_ ∨ P2_ k_) ∨ w.heap.size ≤ k_))) (okp := (fun k_ => ((P1_ k_ ∨ P2_ k_) ∨ w.heap.size ≤ k_))) ?hr ?hp (fun _ hk => hk) ((show ∀ k_, w.heap.size ≤ k_ → (fun k_ => ((P1_ k_ ∨ P2_ k_) ∨ w.heap.size ≤ k_)) k_ from fun k_ hk => (.inr (Nat.le_trans (below_size (mvh HB.out)) hk))) _ (Nat.le_refl _)) (Below.refl _ _) (Nat.le_refl _) (by simp) ?_; (case hd => rfl); (case hg => rfl); (case hr => first | (go_simp; done) | (go_simp; rfl)); (case hp => exact (Reps.one (show Kd.FK (Kd.slice 5 (Kd.int .u8)) _ _ l1 [.slice A1 l1.length c1] from (Kd.FK_slice_mk (Kd.V_reads' (Kd.V_mono (ok' := (fun k_ => ((P1_ k_ ∨ P2_ k_) ∨ w.heap.size ≤ k_))) (HO1.out) (fun k_ hk => hk))).2.1 (Kd.V_F (Kd.V_mono (ok' := (fun k_ => ((P1_ k_ ∨ P2_ k_) ∨ w.heap.size ≤ k_))) (HO1.out) (fun k_ hk => hk))))) (Reps.one (show Kd.FK (Kd.slice 5 (Kd.int .u8)) _ _ l2 [.slice A2 l2.length c2] from (Kd.FK_slice_mk (Kd.V_reads' (Kd.V_mono (ok' := (fun k_ => ((P1_ k_ ∨ P2_ k_) ∨ w.heap.size ≤ k_))) (HO2.out) (fun k_ hk => hk))).2.1 (Kd.V_F (Kd.V_mono (ok' := (fun k_ => ((P1_ k_ ∨ P2_ k_) ∨ w.heap.size ≤ k_))) (HO2.out) (fun k_ hk => hk))))) (Reps.none _ _)))); intro v333 w7 ho8 hb hg_ hnew_; clear hg_ hnew_; (first | rw [← Ny332.out] at ho8 | (simp only [Int.reduceToNat] at ho8; rw [← Ny332.out] at ho8)); have n0_ := aK (Kd.V_elder' (by (with_reducible repeat (first | apply Kd.V_alloc | apply Kd.V_drewN | apply Kd.V_drew)); exact HO1.out) (Kd.N_base ho8) hb); have n1_ := aK (Kd.V_elder' (by (with_reducible repeat (first | apply Kd.V_alloc | apply Kd.V_drewN | apply Kd.V_drew)); exact HO2.out) (Kd.N_base ho8) hb); have n2_ := aK (Kd.N_lower ho8 (below_size (mvh HB.out))); have n3_ := aK (below_step (mvh HB.out) hb); clear HO1 HO2 HB; have HO1 := n0_; have HO2 := n1_; have HO334 := n2_; have HB := n3_; clear n0_ n1_ n2_ n3_; clear hb ho8; obtain ⟨Ao9, co9, eo9⟩ := Kd.N_slice HO334.out; subst eo9) | (go_at_call 39; (with_reducible refine (gT_lists.calls k _ a0 _ _ y332 t335 _ ?side1 ?side2 ?side3 A4.out).mono ?_); (case side1 => exact (gal_OK_below HR0.out HB.out)); (case side2 => exact mvC (Kd.N_reads' HO334.out).2.2); (case side3 => exact (Kd.N_reads' HO334.out).2.1); rintro e w' ⟨rfl, ⟨nd, rfl⟩⟩) | (go_at_call 43; (with_reducible refine (galois_plus.calls k _ _ l1 _ _ l2 t336 _ ?side1 ?side2 ?side3 ?side4 A6.out).mono ?_); (case side1 => exact mvC (Kd.V_reads' HO1.out).2.2); (case side2 => exact (Kd.V_reads' HO1.out).2.1); (case side3 => exact mvC (Kd.V_reads' HO2.out).2.2); (case side4 => exact (Kd.V_reads' HO2.out).2.1); rintro e w10 ⟨v337, rfl, ho0, hb⟩; have n0_ := aK (Kd.V_elder' (by (with_reducible repeat (first | apply Kd.V_alloc | apply Kd.V_drewN | apply Kd.V_drew)); exact HO1.out) (Kd.R_base ho0) hb); have n1_ := aK (Kd.V_elder' (by (with_reducible repeat (first | apply Kd.V_alloc | apply Kd.V_drewN | apply Kd.V_drew)); exact HO2.out) (Kd.R_base ho0) hb); have n2_ := aK (Kd.N_elder' (by (with_reducible repeat (first | apply Kd.N_alloc | apply Kd.N_drewN | apply Kd.N_drew)); exact HO334.out) (Kd.R_base ho0) hb); have n3_ := aK (Kd.R_lower (Kd.R_newM (M := fun k_ => (w.heap.size ≤ k_)) ho0 (below_size (mvh HB.out)) (fun k_ h_ => h_)) (below_size (mvh HB.out))); have n4_ := aK (below_step (mvh HB.out) hb); clear HO1 HO2 HO334 HB; have HO1 := n0_; have HO2 := n1_; have HO334 := n2_; have HO338 := n3_; have HB := n4_; clear n0_ n1_ n2_ n3_ n4_; (try clear hb); (try clear ho0)))
 go_ret2
 exact ⟨_, by first | rfl | (simp [errW_none, errW_some] <;> rfl) | (simp [*, errW_none, errW_some] <;> rfl), by (with_reducible repeat (first | apply Kd.R_alloc | apply Kd.R_drewN | apply Kd.R_drew)); exact Kd.R_mono HO338.out (fun _ hk => hk.1), mvh HB.out⟩
def gT_Gcd.l0 : Nat → GTab → List Int → List Int → Option (List Int × Int)
 | 0, _, _, _ => none
 | k + 1, x0, x1, x2 => if (x2.length : Int) > 0 then ((gT_divide.f k x0 x1 x2).bind fun bt349 => (gT_Gcd.l0 k x0 x2 bt349.2)) else (if (x1.length : Int) = 0 then (some (([] : List Int), 0)) else (if 0 < (x1.length : Int) then ((gT_inv.f x0 (rd x1 0)).bind fun t356 => ((gT_times.f k x0 x1 (([t356] : List Int))).bind fun t360 => (some (t360, 0)))) else (none)))
def gT_Gcd.f (k : Nat) (a0 : GTab) (l1 : List Int) (l2 : List Int) : Option (List Int × Int) := (gT_lists.f k a0 (([l1, l2] : List (List Int)))).bind fun t342 => (if t342 = 0 then ((galois_trim.f l1).bind fun t343 => ((galois_trim.f l2).bind fun t346 => (gT_Gcd.l0 k a0 t343 t346))) else (some (([] : List Int), t342)))
theorem gT_Gcd.mono_l : ∀ k, (∀ y0 y1 y2, LeO (gT_Gcd.l0 k y0 y1 y2) (gT_Gcd.l0 (k + 1) y0 y1 y2))
 | 0 => fun _ _ _ r h => by simp [gT_Gcd.l0] at h
 | k + 1 => by
  have ih0 := gT_Gcd.mono_l k
  ·intro y0 y1 y2
   unfold gT_Gcd.l0
   repeat' first
   | (with_reducible exact ih0 _ _ _)
   | (with_reducible exact gT_divide.mono _ _ _ _)
   | (with_reducible exact gT_lists.mono _ _ _)
   | (with_reducible exact gT_times.mono _ _ _ _)
   | (with_reducible exact LeO.refl _)
   | (with_reducible exact LeO.none _)
   | (with_reducible refine LeO.ite ?_ ?_)
   | (with_reducible refine LeO.bind ?_ (fun _ => ?_))
theorem gT_Gcd.mono : ∀ a0 a1 a2 k, LeO (gT_Gcd.f k a0 a1 a2) (gT_Gcd.f (k + 1) a0 a1 a2) := by
 intro a0 a1 a2 k
 have ih0 := gT_Gcd.mono_l k
 unfold gT_Gcd.f
 repeat' first
   | (with_reducible exact ih0 _ _ _)
   | (with_reducible exact gT_divide.mono _ _ _ _)
   | (with_reducible exact gT_lists.mono _ _ _)
   | (with_reducible exact gT_times.mono _ _ _ _)
   | (with_reducible exact LeO.refl _)
   | (with_reducible exact LeO.none _)
   | (with_reducible refine LeO.ite ?_ ?_)
   | (with_reducible refine LeO.bind ?_ (fun _ => ?_))
set_option maxHeartbeats 8000000 in
set_option maxRecDepth 100000 in
theorem gT_Gcd.calls (k : Nat) (A0 : Option Addr) (a0 : GTab) (P1_ : Nat → Prop) (A1 : Option Addr) (c1 : Nat) (l1 : List Int) (P2_ : Nat → Prop) (A2 : Option Addr) (c2 : Nat) (l2 : List Int) (r1 : List Int) (r2 : Int) (w : World) (hr0 : gal_OK w A0 a0) (hs1 : Kd.V (Kd.int .u8) 5 w w.heap.size (fun k_ => P1_ k_) (.slice A1 l1.length c1) l1) (hs2 : Kd.V (Kd.int .u8) 5 w w.heap.size (fun k_ => P2_ k_) (.slice A2 l2.length c2) l2) (h : gT_Gcd.f k a0 l1 l2 = some (r1, r2)) :
  Calls Try.prog 21 #[.pointer A0, .slice A1 l1.length c1, .slice A2 l2.length c2] w fun e w' => ∃ v0_ : Value, e = .returned (.tuple #[v0_, .int .i64 r2]) ∧ Kd.R (Kd.int .u8) 5 w' w.heap.size (fun k_ => (w.heap.size ≤ k_)) v0_ r1 ∧ Below w.heap.size w w' := by
 have HR0 := Aside0.mk hr0
 clear hr0
 have HO1 := aK (show Kd.V (Kd.int .u8) 5 w w.heap.size (fun k_ => ((P1_ k_ ∨ P2_ k_) ∨ w.heap.size ≤ k_)) (.slice A1 l1.length c1) l1 from Kd.V_mono hs1 (fun k_ hk => .inl (.inl hk)))
 have HO2 := aK (show Kd.V (Kd.int .u8) 5 w w.heap.size (fun k_ => ((P1_ k_ ∨ P2_ k_) ∨ w.heap.size ≤ k_)) (.slice A2 l2.length c2) l2 from Kd.V_mono hs2 (fun k_ hk => .inl (.inr hk)))
 have HB := aK (Below.refl w.heap.size w)
 have H : ((gT_lists.f k a0 (([l1, l2] : List (List Int)))).bind fun t342 => (if t342 = 0 then ((galois_trim.f l1).bind fun t343 => ((galois_trim.f l2).bind fun t346 => (gT_Gcd.l0 k a0 t343 t346))) else (some (([] : List Int), t342)))) = some (r1, r2) := h
 clear h
 obtain ⟨y339, hy339⟩ : ∃ y_ : List (List Int), y_ = (([l1, l2] : List (List Int))) := ⟨_, rfl⟩
 replace H : ((gT_lists.f k a0 y339).bind fun t342 => (if t342 = 0 then ((galois_trim.f l1).bind fun t343 => ((galois_trim.f l2).bind fun t346 => (gT_Gcd.l0 k a0 t343 t346))) else (some (([] : List Int), t342)))) = some (r1, r2) := by rw [hy339]; exact H
 have Ny339 := Aside0.mk hy339
 clear hy339
 replace H := Option.bind_eq_some_iff.mp H
 obtain ⟨t342, A40, H⟩ := H
 try dsimp only at H
 have A4 := Aside0.mk A40
 clear A40
 by_cases c5 : t342 = 0
 rotate_left
 ·rw [if_neg c5] at H
  have c5b0 : (t342 == 0) = false := beq_eq_false_iff_ne.mpr c5
  have c5b1 : (t342 != 0) = true := bne_iff_ne.mpr c5
  simp only [Option.some.injEq, Prod.mk.injEq] at H
  obtain ⟨rfl, rfl⟩ := H
  go_enter Try.func21, Try.ntmps21
  go_wp2_with (first | ((with_reducible refine gate_dst (N := 14) rfl ?_); refine Kd.N_lit (Kd.slice 5 (Kd.int .u8)) _ 25 ?hg (N' := 14) ?hd (xs := ([l1, l2] : List (List Int))) (inner := [.slice A1 l1.length c1, .slice A2 l2.length c2]) (ok := (fun k_ => ((P1_ k_ ∨ P2_ k_) ∨ w.heap.size ≤ k_))) (okp := (fun k_ => ((P1_ k_ ∨ P2_ k_) ∨ w.heap.size ≤ k_))) ?hr ?hp (fun _ hk => hk) ((show ∀ k_, w.heap.size ≤ k_ → (fun k_ => ((P1_ k_ ∨ P2_ k_) ∨ w.heap.size ≤ k_)) k_ from fun k_ hk => (.inr (Nat.le_trans (below_size (mvh HB.out)) hk))) _ (Nat.le_refl _)) (Below.refl _ _) (Nat.le_refl _) (by simp) ?_; (case hd => rfl); (case hg => rfl); (case hr => first | (go_simp; done) | (go_simp; rfl)); (case hp => exact (Reps.one (show Kd.FK (Kd.slice 5 (Kd.int .u8)) _ _ l1 [.slice A1 l1.length c1] from (Kd.FK_slice_mk (Kd.V_reads' (Kd.V_mono (ok' := (fun k_ => ((P1_ k_ ∨ P2_ k_) ∨ w.heap.size ≤ k_))) (HO1.out) (fun k_ hk => hk))).2.1 (Kd.V_F (Kd.V_mono (ok' := (fun k_ => ((P1_ k_ ∨ P2_ k_) ∨ w.heap.size ≤ k_))) (HO1.out) (fun k_ hk => hk))))) (Reps.one (show Kd.FK (Kd.slice 5 (Kd.int .u8)) _ _ l2 [.slice A2 l2.length c2] from (Kd.FK_slice_mk (Kd.V_reads' (Kd.V_mono (ok' := (fun k_ => ((P1_ k_ ∨ P2_ k_) ∨ w.heap.size ≤ k_))) (HO2.out) (fun k_ hk => hk))).2.1 (Kd.V_F (Kd.V_mono (ok' := (fun k_ => ((P1_ k_ ∨ P2_ k_) ∨ w.heap.size ≤ k_))) (HO2.out) (fun k_ hk => hk))))) (Reps.none _ _)))); intro v340 w30 ho31 hb hg_ hnew_; clear hg_ hnew_; (first | rw [← Ny339.out] at ho31 | (simp only [Int.reduceToNat] at ho31; rw [← Ny339.out] at ho31)); have n0_ := aK (Kd.V_elder' (by (with_reducible repeat (first | apply Kd.V_alloc | apply Kd.V_drewN | apply Kd.V_drew)); exact HO1.out) (Kd.N_base ho31) hb); have n1_ := aK (Kd.V_elder' (by (with_reducible repeat (first | apply Kd.V_alloc | apply Kd.V_drewN | apply Kd.V_drew)); exact HO2.out) (Kd.N_base ho31) hb); have n2_ := aK (Kd.N_lower ho31 (below_size (mvh HB.out))); have n3_ := aK (below_step (mvh HB.out) hb); clear HO1 HO2 HB; have HO1 := n0_; have HO2 := n1_; have HO341 := n2_; have HB := n3_; clear n0_ n1_ n2_ n3_; clear hb ho31; obtain ⟨Ao32, co32, eo32⟩ := Kd.N_slice HO341.out; subst eo32) | (go_at_call 39; (with_reducible refine (gT_lists.calls k _ a0 _ _ y339 t342 _ ?side1 ?side2 ?side3 A4.out).mono ?_); (case side1 => exact (gal_OK_below HR0.out HB.out)); (case side2 => exact mvC (Kd.N_reads' HO341.out).2.2); (case side3 => exact (Kd.N_reads' HO341.out).2.1); rintro e w' ⟨rfl, ⟨nd, rfl⟩⟩))
  go_ret2
  exact ⟨_, by first | rfl | (simp [errW_none, errW_some] <;> rfl) | (simp [*, errW_none, errW_some] <;> rfl), by first | exact Kd.R_nil _ _ _ _ _ | exact Kd.N_nil _ _ _ _ _ | exact Kd.V_nil _ _ _ _ _ | exact Kd.Q_nil _ _ _ _ _ | exact Kd.S_nil _ _ _ _ _, mvh HB.out⟩


 rw [if_pos c5] at H
 have c5b0 : (t342 == 0) = true := beq_iff_eq.mpr c5
 have c5b1 : (t342 != 0) = false := bne_eq_false_iff_eq.mpr c5
 clear c5
 replace H := Option.bind_eq_some_iff.mp H
 obtain ⟨t343, A60, H⟩ := H
 try dsimp only at H
 have A6 := Aside0.mk A60
 clear A60
 replace H := Option.bind_eq_some_iff.mp H
 obtain ⟨t346, A70, H⟩ := H
 try dsimp only at H
 have A7 := Aside0.mk A70
 clear A70
 have H' := Aside0.mk H
 clear H
 go_enter Try.func21, Try.ntmps21
 go_wp2_with (first | ((with_reducible refine gate_dst (N := 14) rfl ?_); refine Kd.N_lit (Kd.slice 5 (Kd.int .u8)) _ 25 ?hg (N' := 14) ?hd (xs := ([l1, l2] : List (List Int))) (inner := [.slice A1 l1.length c1, .slice A2 l2.length c2]) (ok := (fun k_ => ((P1_ k_ ∨ P2_ k_) ∨ w.heap.size ≤ k_))) (okp := (fun k_ => ((P1_ k_ ∨ P2_ k_) ∨ w.heap.size ≤ k_))) ?hr ?hp (fun _ hk => hk) ((show ∀ k_, w.heap.size ≤ k_ → (fun k_ => ((P1_ k_ ∨ P2_ k_) ∨ w.heap.size ≤ k_)) k_ from fun k_ hk => (.inr (Nat.le_trans (below_size (mvh HB.out)) hk))) _ (Nat.le_refl _)) (Below.refl _ _) (Nat.le_refl _) (by simp) ?_; (case hd => rfl); (case hg => rfl); (case hr => first | (go_simp; done) | (go_simp; rfl)); (case hp => exact (Reps.one (show Kd.FK (Kd.slice 5 (Kd.int .u8)) _ _ l1 [.slice A1 l1.length c1] from (Kd.FK_slice_mk (Kd.V_reads' (Kd.V_mono (ok' := (fun k_ => ((P1_ k_ ∨ P2_ k_) ∨ w.heap.size ≤ k_))) (HO1.out) (fun k_ hk => hk))).2.1 (Kd.V_F (Kd.V_mono (ok' := (fun k_ => ((P1_ k_ ∨ P2_ k_) ∨ w.heap.size ≤ k_))) (HO1.out) (fun k_ hk => hk))))) (Reps.one (show Kd.FK (Kd.slice 5 (Kd.int .u8)) _ _ l2 [.slice A2 l2.length c2] from (Kd.FK_slice_mk (Kd.V_reads' (Kd.V_mono (ok' := (fun k_ => ((P1_ k_ ∨ P2_ k_) ∨ w.heap.size ≤ k_))) (HO2.out) (fun k_ hk => hk))).2.1 (Kd.V_F (Kd.V_mono (ok' := (fun k_ => ((P1_ k_ ∨ P2_ k_) ∨ w.heap.size ≤ k_))) (HO2.out) (fun k_ hk => hk))))) (Reps.none _ _)))); intro v340 w8 ho9 hb hg_ hnew_; clear hg_ hnew_; (first | rw [← Ny339.out] at ho9 | (simp only [Int.reduceToNat] at ho9; rw [← Ny339.out] at ho9)); have n0_ := aK (Kd.V_elder' (by (with_reducible repeat (first | apply Kd.V_alloc | apply Kd.V_drewN | apply Kd.V_drew)); exact HO1.out) (Kd.N_base ho9) hb); have n1_ := aK (Kd.V_elder' (by (with_reducible repeat (first | apply Kd.V_alloc | apply Kd.V_drewN | apply Kd.V_drew)); exact HO2.out) (Kd.N_base ho9) hb); have n2_ := aK (Kd.N_lower ho9 (below_size (mvh HB.out))); have n3_ := aK (below_step (mvh HB.out) hb); clear HO1 HO2 HB; have HO1 := n0_; have HO2 := n1_; have HO341 := n2_; have HB := n3_; clear n0_ n1_ n2_ n3_; clear hb ho9; obtain ⟨Ao10, co10, eo10⟩ := Kd.N_slice HO341.out; subst eo10) | (go_at_call 39; (with_reducible refine (gT_lists.calls k _ a0 _ _ y339 t342 _ ?side1 ?side2 ?side3 A4.out).mono ?_); (case side1 => exact (gal_OK_below HR0.out HB.out)); (case side2 => exact mvC (Kd.N_reads' HO341.out).2.2); (case side3 => exact (Kd.N_reads' HO341.out).2.1); rintro e w' ⟨rfl, ⟨nd, rfl⟩⟩) | (go_at_call 52; (with_reducible refine (galois_trim.calls _ _ l1 t343 _ ?side1 ?side2 A6.out).mono ?_); (case side1 => exact mvC (Kd.V_reads' HO1.out).2.2); (case side2 => exact (Kd.V_reads' HO1.out).2.1); rintro e w11 ⟨v344, rfl, ho0, hb⟩; have n0_ := aK (Kd.V_elder' (by (with_reducible repeat (first | apply Kd.V_alloc | apply Kd.V_drewN | apply Kd.V_drew)); exact HO1.out) (Kd.R_base ho0) hb); have n1_ := aK (Kd.V_elder' (by (with_reducible repeat (first | apply Kd.V_alloc | apply Kd.V_drewN | apply Kd.V_drew)); exact HO2.out) (Kd.R_base ho0) hb); have n2_ := aK (Kd.N_elder' (by (with_reducible repeat (first | apply Kd.N_alloc | apply Kd.N_drewN | apply Kd.N_drew)); exact HO341.out) (Kd.R_base ho0) hb); have n3_ := aK (Kd.R_lower (Kd.R_newM (M := fun k_ => (w.heap.size ≤ k_)) ho0 (below_size (mvh HB.out)) (fun k_ h_ => h_)) (below_size (mvh HB.out))); have n4_ := aK (below_step (mvh HB.out) hb); clear HO1 HO2 HO341 HB; have HO1 := n0_; have HO2 := n1_; have HO341 := n2_; have HO345 := n3_; have HB := n4_; clear n0_ n1_ n2_ n3_ n4_; (try clear hb); (try clear ho0)) | (go_at_call 52; (with_reducible refine (galois_trim.calls _ _ l2 t346 _ ?side1 ?side2 A7.out).mono ?_); (case side1 => exact mvC (Kd.V_reads' HO2.out).2.2); (case side2 => exact (Kd.V_reads' HO2.out).2.1); rintro e w12 ⟨v347, rfl, ho0, hb⟩; have n0_ := aK (Kd.V_elder' (by (with_reducible repeat (first | apply Kd.V_alloc | apply Kd.V_drewN | apply Kd.V_drew)); exact HO1.out) (Kd.R_base ho0) hb); have n1_ := aK (Kd.V_elder' (by (with_reducible repeat (first | apply Kd.V_alloc | apply Kd.V_drewN | apply Kd.V_drew)); exact HO2.out) (Kd.R_base ho0) hb); have n2_ := aK (Kd.N_elder' (by (with_reducible repeat (first | apply Kd.N_alloc | apply Kd.N_drewN | apply Kd.N_drew)); exact HO341.out) (Kd.R_base ho0) hb); have n3_ := aK (Kd.R_elder' (mvR HO345.out) (Kd.R_base ho0) hb); have n4_ := aK (Kd.R_lower (Kd.R_new' (Kd.R_newM (M := fun k_ => (w.heap.size ≤ k_)) ho0 (below_size (mvh HB.out)) (fun k_ h_ => h_)) (Kd.R_lt (mvR HO345.out))) (below_size (mvh HB.out))); have n5_ := aK (below_step (mvh HB.out) hb); clear HO1 HO2 HO341 HO345 HB; have HO1 := n0_; have HO2 := n1_; have HO341 := n2_; have HO345 := n3_; have HO348 := n4_; have HB := n5_; clear n0_ n1_ n2_ n3_ n4_ n5_; (try clear hb); (try clear ho0)))
 go_loopg [1, 2] k (fun kq v1 v2 w' => ∃ (x1_1 : List Int) (x2_1 : List Int), Aside0 (gT_Gcd.l0 kq a0 x1_1 x2_1 = some (r1, r2)) ∧ Aside0 (kq ≤ k) ∧ Aside0 (Kd.R (Kd.int .u8) 5 w' w.heap.size (fun k_ => (w.heap.size ≤ k_) ∧ some k_ ≠ (v2 : Value).ownBlock) v1 x1_1) ∧ Aside0 (Kd.R (Kd.int .u8) 5 w' w.heap.size (fun k_ => (w.heap.size ≤ k_) ∧ some k_ ≠ (v1 : Value).ownBlock) v2 x2_1) ∧ Aside0 (Below w.heap.size w w'))
 case atStart => exact ⟨(t343), (t346), H', ⟨Nat.le_refl _⟩, ⟨by (with_reducible repeat (first | apply Kd.R_alloc | apply Kd.R_drewN | apply Kd.R_drew)); exact Kd.R_mono HO345.out (fun _ hk => ⟨hk.1.1, hk.2⟩)⟩, ⟨by (with_reducible repeat (first | apply Kd.R_alloc | apply Kd.R_drewN | apply Kd.R_drew)); exact Kd.R_mono HO348.out (fun _ hk => ⟨hk.1.1, hk.2⟩)⟩, ⟨mvh HB.out⟩⟩
 case round =>
  clear H'
  (try clear c1); (try clear c2); (try clear p2); (try clear c3); (try clear c5); (try clear c5b0); (try clear c5b1)
  obtain ⟨x1_1, x2_1, HA, HK1, HO_1, HO_2, HB⟩ := hrel
  cases gk with
  | zero => exact absurd HA.out (by simp [gT_Gcd.l0])
  | succ k1 =>
   have H := HA.out
   clear HA
   simp only [gT_Gcd.l0] at H
   by_cases c13 : (x2_1.length : Int) > 0
   ·rw [if_pos c13] at H
    have c13b0 : decide (0 < (x2_1.length : Int)) = true := decide_eq_true c13
    have c13b1 : decide (0 < x2_1.length) = true := decide_eq_true (by omega)
    clear c13
    replace H := Option.bind_eq_some_iff.mp H
    obtain ⟨⟨t349, t350⟩, A140, H⟩ := H
    try dsimp only at H
    have A14 := Aside0.mk A140
    clear A140
    have H' := Aside0.mk H
    clear H
    obtain ⟨Ao15, co15, eo15⟩ := Kd.R_slice HO_2.out
    subst eo15
    obtain ⟨Ao16, co16, eo16⟩ := Kd.R_slice HO_1.out
    subst eo16
    go_wp2_with (first | (go_at_call 53; (with_reducible refine (gT_divide.calls k1 _ a0 _ _ x1_1 _ _ x2_1 t349 t350 _ ?side1 ?side2 ?side3 ?side4 ?side5 A14.out).mono ?_); (case side1 => exact (gal_OK_below HR0.out HB.out)); (case side2 => exact mvC (Kd.R_reads' HO_1.out).2.2); (case side3 => exact (Kd.R_reads' HO_1.out).2.1); (case side4 => exact mvC (Kd.R_reads' HO_2.out).2.2); (case side5 => exact (Kd.R_reads' HO_2.out).2.1); rintro e w17 ⟨v351, v353, rfl, ho0, ho1, hb⟩; have n0_ := aK (Kd.R_mono (Kd.R_told (Kd.R_told (Kd.R_old (mvR HO_1.out) hb) (Kd.R_base ho0)) (Kd.R_base ho1)) (fun _ h_ => h_.1)); have n1_ := aK (Kd.R_mono (Kd.R_told (Kd.R_told (Kd.R_old (mvR HO_2.out) hb) (Kd.R_base ho0)) (Kd.R_base ho1)) (fun _ h_ => h_.1)); have n2_ := aK (Kd.R_lower (Kd.R_new' (Kd.R_new' (Kd.R_newM (M := fun k_ => (w.heap.size ≤ k_)) ho0 (below_size (mvh HB.out)) (fun k_ h_ => h_)) (Kd.R_lt (mvR HO_1.out))) (Kd.R_lt (mvR HO_2.out))) (below_size (mvh HB.out))); have n3_ := aK (Kd.R_lower (Kd.R_new' (Kd.R_new' (Kd.R_newM (M := fun k_ => (w.heap.size ≤ k_)) ho1 (below_size (mvh HB.out)) (fun k_ h_ => h_)) (Kd.R_lt (mvR HO_1.out))) (Kd.R_lt (mvR HO_2.out))) (below_size (mvh HB.out))); have n4_ := aK (below_step (mvh HB.out) hb); clear HO_1 HO_2 HB; have HO_1 := n0_; have HO_2 := n1_; have HO352 := n2_; have HO354 := n3_; have HB := n4_; clear n0_ n1_ n2_ n3_ n4_; (try clear hb); (try clear ho0); (try clear ho1)))
    go_roundg k1
    case measure => have := HK1.out; omega
    case rel => exact ⟨(x2_1), (t350), H', ⟨by have := HK1.out; omega⟩, ⟨by (with_reducible repeat (first | apply Kd.R_alloc | apply Kd.R_drewN | apply Kd.R_drew)); exact Kd.R_mono HO_2.out (fun _ hk => ⟨hk.1.1.1, hk.2⟩)⟩, ⟨by (with_reducible repeat (first | apply Kd.R_alloc | apply Kd.R_drewN | apply Kd.R_drew)); exact Kd.R_mono HO354.out (fun _ hk => ⟨hk.1.1.1, hk.2⟩)⟩, ⟨mvh HB.out⟩⟩
   ·rw [if_neg c13] at H
    have c13b0 : decide (0 < (x2_1.length : Int)) = false := decide_eq_false c13
    have c13b1 : decide (0 < x2_1.length) = false := decide_eq_false (by omega)
    clear c13
    by_cases c18 : (x1_1.length : Int) = 0
    ·rw [if_pos c18] at H
     have c18b0 : ((x1_1.length : Int) == 0) = true := beq_iff_eq.mpr c18
     have c18b1 : ((x1_1.length : Int) != 0) = false := bne_eq_false_iff_eq.mpr c18
     clear c18
     simp only [Option.some.injEq, Prod.mk.injEq] at H
     obtain ⟨rfl, rfl⟩ := H
     obtain ⟨Ao19, co19, eo19⟩ := Kd.R_slice HO_2.out
     subst eo19
     obtain ⟨Ao20, co20, eo20⟩ := Kd.R_slice HO_1.out
     subst eo20
     go_wp2
     go_ret2
     exact ⟨_, by first | rfl | (simp [errW_none, errW_some] <;> rfl) | (simp [*, errW_none, errW_some] <;> rfl), by first | exact Kd.R_nil _ _ _ _ _ | exact Kd.N_nil _ _ _ _ _ | exact Kd.V_nil _ _ _ _ _ | exact Kd.Q_nil _ _ _ _ _ | exact Kd.S_nil _ _ _ _ _, mvh HB.out⟩
    ·rw [if_neg c18] at H
     have c18b0 : ((x1_1.length : Int) == 0) = false := beq_eq_false_iff_ne.mpr c18
     have c18b1 : ((x1_1.length : Int) != 0) = true := bne_iff_ne.mpr c18
     have c18b2 : ¬ (x1_1 = []) := fun h_ => c18 (by rw [h_]; rfl)
     by_cases c21 : 0 < (x1_1.length : Int)
     rotate_left
     ·rw [if_neg c21] at H
      exact absurd H (by simp)
     rw [if_pos c21] at H
     have c21b0 : decide (0 < (x1_1.length : Int)) = true := decide_eq_true c21
     have c21b1 : decide (0 < x1_1.length) = true := decide_eq_true (by omega)
     clear c21
     replace H := Option.bind_eq_some_iff.mp H
     obtain ⟨t356, A220, H⟩ := H
     try dsimp only at H
     have A22 := Aside0.mk A220
     clear A220
     obtain ⟨y357, hy357⟩ : ∃ y_ : List Int, y_ = (([t356] : List Int)) := ⟨_, rfl⟩
     replace H : ((gT_times.f k1 a0 x1_1 y357).bind fun t360 => (some (t360, 0))) = some (r1, r2) := by rw [hy357]; exact H
     have Ny357 := Aside0.mk hy357
     clear hy357
     replace H := Option.bind_eq_some_iff.mp H
     obtain ⟨t360, A230, H⟩ := H
     replace H : (some (t360, 0)) = some (r1, r2) := H
     have A23 := Aside0.mk A230
     clear A230
     simp only [Option.some.injEq, Prod.mk.injEq] at H
     obtain ⟨rfl, rfl⟩ := H
     obtain ⟨Ao24, co24, eo24⟩ := Kd.R_slice HO_2.out
     subst eo24
     obtain ⟨Ao25, co25, eo25⟩ := Kd.R_slice HO_1.out
     subst eo25
     have p355 : 0 ≤ (0 : Int) := (by omega)
     have q355 : 0 < (x1_1.length : Int) := of_decide_eq_true (by first | (with_reducible assumption) | assumption)
     obtain ⟨ad355, e355, hx355_0⟩ := Kd.at_int (Kd.R_reads' HO_1.out).2.2 0 p355 q355
     cases e355
     have qi355 : (0 < x1_1.length) = True := eq_true (by omega)
     (try rw [show ((0 : Int)).toNat = 0 from rfl] at hx355_0)
     (try rw [Addr.add_zero'] at hx355_0)
     replace p355 := eq_true p355
     replace q355 := eq_true q355
     go_wp2_with (first | (go_at_call 42; (with_reducible refine (gT_inv.calls _ a0 (rd x1_1 0) t356 _ ?side1 A22.out).mono ?_); (case side1 => exact (gal_OK_below HR0.out HB.out)); rintro e w' ⟨rfl, ⟨nd, rfl⟩⟩) | ((with_reducible refine gate_dst (N := 45) rfl ?_); refine Kd.R_lit (Kd.int .u8) _ 5 ?hg (N := 45) ?hd (xs := ([t356] : List Int)) (inner := [.int .u8 t356]) (ok := fun _ => True) (okp := fun _ => True) ?hr ?hp (fun _ hk => hk) trivial (Below.refl _ _) (Nat.le_refl _) (by simp) ?_; (case hd => rfl); (case hg => rfl); (case hr => first | (go_simp; done) | (go_simp; rfl)); (case hp => exact (Reps.one (show Kd.M (Kd.int .u8) _ _ _ t356 [.int .u8 t356] from rfl) (Reps.none _ _))); intro v358 w26 ho27 hb hg_ hnew_; clear hg_ hnew_; (first | rw [← Ny357.out] at ho27 | (simp only [Int.reduceToNat] at ho27; rw [← Ny357.out] at ho27)); have n0_ := aK (Kd.R_elder' (mvR HO_1.out) (Kd.R_base ho27) hb); have n1_ := aK (Kd.R_elder' (mvR HO_2.out) (Kd.R_base ho27) hb); have n2_ := aK (Kd.R_lower (Kd.R_new' (Kd.R_new' (Kd.R_newM (M := fun k_ => (w.heap.size ≤ k_)) ho27 (below_size (mvh HB.out)) (fun k_ h_ => h_)) (Kd.R_lt (mvR HO_1.out))) (Kd.R_lt (mvR HO_2.out))) (below_size (mvh HB.out))); have n3_ := aK (below_step (mvh HB.out) hb); clear HO_1 HO_2 HB; have HO_1 := n0_; have HO_2 := n1_; have HO359 := n2_; have HB := n3_; clear n0_ n1_ n2_ n3_; clear hb ho27; obtain ⟨Ao28, co28, eo28⟩ := Kd.R_slice HO359.out; subst eo28) | (go_at_call 44; (with_reducible refine (gT_times.calls k1 _ a0 _ _ x1_1 _ _ y357 t360 _ ?side1 ?side2 ?side3 ?side4 ?side5 A23.out).mono ?_); (case side1 => exact (gal_OK_below HR0.out HB.out)); (case side2 => exact mvC (Kd.R_reads' HO_1.out).2.2); (case side3 => exact (Kd.R_reads' HO_1.out).2.1); (case side4 => exact mvC (Kd.R_reads' HO359.out).2.2); (case side5 => exact (Kd.R_reads' HO359.out).2.1); rintro e w29 ⟨v361, rfl, ho0, hb⟩; have n0_ := aK (Kd.R_elder' (mvR HO_1.out) (Kd.R_base ho0) hb); have n1_ := aK (Kd.R_elder' (mvR HO_2.out) (Kd.R_base ho0) hb); have n2_ := aK (Kd.R_elder' (mvR HO359.out) (Kd.R_base ho0) hb); have n3_ := aK (Kd.R_lower (Kd.R_new' (Kd.R_new' (Kd.R_new' (Kd.R_newM (M := fun k_ => (w.heap.size ≤ k_)) ho0 (below_size (mvh HB.out)) (fun k_ h_ => h_)) (Kd.R_lt (mvR HO_1.out))) (Kd.R_lt (mvR HO_2.out))) (Kd.R_lt (mvR HO359.out))) (below_size (mvh HB.out))); have n4_ := aK (below_step (mvh HB.out) hb); clear HO_1 HO_2 HO359 HB; have HO_1 := n0_; have HO_2 := n1_; have HO359 := n2_; have HO362 := n3_; have HB := n4_; clear n0_ n1_ n2_ n3_ n4_; (try clear hb); (try clear ho0)))
     go_ret2
     exact ⟨_, by first | rfl | (simp [errW_none, errW_some] <;> rfl) | (simp [*, errW_none, errW_some] <;> rfl), by (with_reducible repeat (first | apply Kd.R_alloc | apply Kd.R_drewN | apply Kd.R_drew)); exact Kd.R_mono HO362.out (fun _ hk => hk.1.1.1.1), mvh HB.out⟩
end Go.Proofs.Ytjdkamhnbheofaa.P

-- squeezed
