-- written by mk.sh, a program of this session, over the kit's print
import Derived.Test.YtdhnjnkjhfomiaaRwPx0
namespace Go.Proofs.Ytdhnjnkjhfomiaa.P
open Go.RowKit Go.Proofs.YtdhnjnkjhfomiaaW.PrintWords Go.Proofs.YtdhnjnkjhfomiaaW.PrintLast Go.Proofs.YtdhnjnkjhfomiaaW.PrintMore
attribute [local go_sem] max2_int min2_int max_two min_two max_three min_three max_four min_four   -- for this text's walks alone
set_option linter.unusedVariables false
set_option linter.unusedSimpArgs false

def l4_elements.l0 : Nat → List Int → Int → List Int → Int → Option (List Int)
 | 0,_,_,_,_ => none
 | k + 1,x1,x5,x6,x7 => if x7 < (x6.length : Int) then (if 0 ≤ x7 then (if x7 < (x1.length : Int) then (if x5 = 0 then (none) else (l4_elements.l0 k x1 x5 (x6.set (x7 : Int).toNat ((Int.tmod (wrap64 (rd x1 x7)) x5) % 256)) (wrap64 (x7 + 1)))) else (none)) else (none)) else (some x6)
def l4_elements.f (k : Nat) (a0_0 : Int) (a0_1 : Int) (a0_2 : Int) (a0_3 : Int) (l1 : List Int) : Option (List Int) := if 0 ≤ (IntKind.u64.wrap (a0_0)) then (if 0 ≤ (mn (l1.length : Int) (wrap64 ((wrap64 ((shl .i64 1 (IntKind.u64.wrap (a0_0))) - 1)) - a0_3))) then (if (mn (l1.length : Int) (wrap64 ((wrap64 ((shl .i64 1 (IntKind.u64.wrap (a0_0))) - 1)) - a0_3)) : Int).toNat ≤ 281474976710656 then (l4_elements.l0 k l1 (shl .i64 1 (IntKind.u64.wrap (a0_0))) (List.replicate (mn (l1.length : Int) (wrap64 ((wrap64 ((shl .i64 1 (IntKind.u64.wrap (a0_0))) - 1)) - a0_3)) : Int).toNat 0) 0) else (none)) else (none)) else (none)
theorem l4_elements.mono_l : ∀ k,(∀ y0 y1 y2 y3,LeO (l4_elements.l0 k y0 y1 y2 y3) (l4_elements.l0 (k + 1) y0 y1 y2 y3))
 | 0 => fun _ _ _ _ r h => by simp [l4_elements.l0] at h
 | k + 1 => by
  have ih0 := l4_elements.mono_l k
  ·intro y0 y1 y2 y3
   unfold l4_elements.l0
   repeat' first
   | (with_reducible exact ih0 _ _ _ _)
   | (with_reducible exact LeO.refl _)
   | (with_reducible exact LeO.none _)
   | (with_reducible refine LeO.ite ?_ ?_)
   | (with_reducible refine LeO.bind ?_ (fun _ => ?_))
theorem l4_elements.mono : ∀ a0 a1 a2 a3 a4 k,LeO (l4_elements.f k a0 a1 a2 a3 a4) (l4_elements.f (k + 1) a0 a1 a2 a3 a4) := by
 intro a0 a1 a2 a3 a4 k
 have ih0 := l4_elements.mono_l k
 unfold l4_elements.f
 repeat' first
   | (with_reducible exact ih0 _ _ _ _)
   | (with_reducible exact LeO.refl _)
   | (with_reducible exact LeO.none _)
   | (with_reducible refine LeO.ite ?_ ?_)
   | (with_reducible refine LeO.bind ?_ (fun _ => ?_))
set_option maxHeartbeats 8000000 in
set_option maxRecDepth 100000 in
theorem l4_elements.calls (k : Nat) (a0_0 : Int) (a0_1 : Int) (a0_2 : Int) (a0_3 : Int) (A1 : Option Addr) (c1 : Nat) (l1 : List Int) (r : List Int) (w : World) (hr1 : Kd.C (Kd.int .u8) w A1 l1.length l1) (hc1 : l1.length ≤ c1) (h : l4_elements.f k a0_0 a0_1 a0_2 a0_3 l1 = some r) :
  Calls Try.prog 24 #[.agg #[.int .i64 a0_0,.int .u64 a0_1,.int .i64 a0_2,.int .i64 a0_3],.slice A1 l1.length c1] w fun e w' => ∃ v0_ : Value,e = .returned (v0_) ∧ Kd.R (Kd.int .u8) 5 w' w.heap.size (fun _ => True) v0_ r ∧ Below w.heap.size w w' := by
 have hu26 := Try.underlying26
 have HR1 := Aside0.mk hr1
 have HC1 := Aside0.mk hc1
 clear hr1 hc1
 have HB := aK (Below.refl w.heap.size w)
 have H : (if 0 ≤ (IntKind.u64.wrap (a0_0)) then (if 0 ≤ (mn (l1.length : Int) (wrap64 ((wrap64 ((shl .i64 1 (IntKind.u64.wrap (a0_0))) - 1)) - a0_3))) then (if (mn (l1.length : Int) (wrap64 ((wrap64 ((shl .i64 1 (IntKind.u64.wrap (a0_0))) - 1)) - a0_3)) : Int).toNat ≤ 281474976710656 then (l4_elements.l0 k l1 (shl .i64 1 (IntKind.u64.wrap (a0_0))) (List.replicate (mn (l1.length : Int) (wrap64 ((wrap64 ((shl .i64 1 (IntKind.u64.wrap (a0_0))) - 1)) - a0_3)) : Int).toNat 0) 0) else (none)) else (none)) else (none)) = some r := h
 clear h
 obtain ⟨ji3,hji3⟩ : ∃ j_ : Int,(IntKind.u64.wrap (a0_0)) = j_ := ⟨_,rfl⟩
 first | rw [hji3] at H | simp only [hji3] at H
 by_cases c4 : 0 ≤ (ji3)
 rotate_left
 ·rw [if_neg c4] at H
  exact absurd H (by simp)

 rw [if_pos c4] at H
 have c4b0 := eq_true c4
 have c4b1 : decide (0 ≤ (ji3)) = true := decide_eq_true c4
 clear c4
 obtain ⟨ji5,hji5⟩ : ∃ j_ : Int,(shl .i64 1 (ji3)) = j_ := ⟨_,rfl⟩
 first | rw [hji5] at H | simp only [hji5] at H
 have hji5_ : (IntKind.i64.wrap (1 * 2 ^ min (ji3).toNat 64)) = ji5 := hji5
 have hji5z : (ji3) ≤ 64 → (IntKind.i64.wrap (1 * 2 ^ (ji3).toNat)) = ji5 := shl_small hji5
 have hji5u : (IntKind.i64.wrap (2 ^ min (ji3).toNat 64)) = ji5 := by have h_ := hji5_; rw [Int.one_mul] at h_; exact h_
 have hji5v : (ji3) ≤ 64 → (IntKind.i64.wrap (2 ^ (ji3).toNat)) = ji5 := fun hle_ => by have h_ := hji5z hle_; rw [Int.one_mul] at h_; exact h_
 have hji5y : (wrap64 (1 * 2 ^ min (ji3).toNat 64)) = ji5 := (i64_w _).symm.trans hji5_
 have hji5x : (ji3) ≤ 64 → (wrap64 (1 * 2 ^ (ji3).toNat)) = ji5 := fun h_ => (i64_w _).symm.trans (hji5z h_)
 obtain ⟨ji6,hji6⟩ : ∃ j_ : Int,(mn (l1.length : Int) (wrap64 ((wrap64 ((ji5) - 1)) - a0_3))) = j_ := ⟨_,rfl⟩
 first | rw [hji6] at H | simp only [hji6] at H
 have hji6_ : (if (wrap64 ((wrap64 ((ji5) - 1)) - a0_3)) < (l1.length : Int) then (wrap64 ((wrap64 ((ji5) - 1)) - a0_3)) else (l1.length : Int)) = ji6 := hji6
 by_cases c7 : 0 ≤ (ji6)
 rotate_left
 ·rw [if_neg c7] at H
  exact absurd H (by simp)
 rw [if_pos c7] at H
 have c7b0 := eq_true c7
 have c7b1 : decide (0 ≤ (ji6)) = true := decide_eq_true c7
 clear c7
 by_cases c8 : (ji6 : Int).toNat ≤ 281474976710656
 rotate_left
 ·rw [if_neg c8] at H
  exact absurd H (by simp)
 rw [if_pos c8] at H
 have c8b0 := eq_true c8
 have c8b1 : decide ((ji6 : Int).toNat ≤ 281474976710656) = true := decide_eq_true c8
 clear c8
 obtain ⟨y574,hy574⟩ : ∃ y_ : List Int,y_ = (List.replicate (ji6 : Int).toNat 0) := ⟨_,rfl⟩
 replace H : (l4_elements.l0 k l1 ji5 y574 0) = some r := by rw [hy574]; exact H
 have Ny574 := Aside0.mk hy574
 clear hy574
 have H' := Aside0.mk H
 clear H
 go_enter Try.func24,Try.ntmps24
 go_wp2_with (first | ((with_reducible refine gate_dst (N := 2) rfl ?_); refine box_event ?hg (N := 2) ?hd (cs := #[.int .i64 a0_0,.int .u64 a0_1,.int .i64 a0_2,.int .i64 a0_3]) (t := 26) ?hr ?_; (case hd => rfl); (case hg => rfl); (case hr => first | (go_simp; done) | (go_simp; rfl)); intro gb573 hg w9 hbox hb; have n0_ := aK (below_step (mvh HB.out) hb); have n1_ := aK (hbox); have n2_ := aK ((by rw [hg]; exact (below_size (mvh HB.out)) : w.heap.size ≤ gb573)); have n3_ := aK ((by rw [hg]; exact (below_size (mvh HB.out)) : w.heap.size ≤ gb573)); clear HB; have HB := n0_; have BK573 := n1_; have GW573 := n2_; have GE573 := n3_; clear n0_ n1_ n2_ n3_; clear hb hbox hg; obtain ⟨hcz10_0,hcz10_1,hcz10_2,hcz10_3,hfz10_0,hfz10_1,hfz10_2,hfz10_3⟩ := cf4 BK573.out) | ((with_reducible refine gate_dst (N := 21) rfl ?_); refine Kd.R_make (Kd.int .u8) _ 5 rfl (N := 21) rfl 27 _ _ rfl ji6 rfl rfl Try.underlying27 (.int .u8 0) 1 info5 rfl (by decide) (by omega) 0 (ok := fun _ => True) (okp := fun _ => True) rfl (fun _ hk => hk) trivial (of_decide_eq_true (by first | (with_reducible assumption) | assumption)) (Nat.le_trans (Nat.mul_le_mul_right _ (of_decide_eq_true (by first | (with_reducible assumption) | assumption) : ji6.toNat ≤ 281474976710656)) (by omega)) (Below.refl _ _) (Nat.le_refl _) ?_; intro v575 w11 ho12 hb hg_ hnew_; clear hg_ hnew_; (first | rw [← Ny574.out] at ho12 | (simp only [Int.reduceToNat] at ho12; rw [← Ny574.out] at ho12)); have n0_ := aK (Kd.R_lower ho12 (below_size (mvh HB.out))); have n1_ := aK (kb BK573.out hb); have n2_ := aK (below_step (mvh HB.out) hb); clear BK573 HB; have HO576 := n0_; have BK573 := n1_; have HB := n2_; clear n0_ n1_ n2_; clear hb ho12))
 go_loopg [7] k (fun kq v7 w' => ∃ (x6_1 : List Int) (x7_1 : Int),v7 = .int .i64 x7_1 ∧ Aside0 (l4_elements.l0 kq l1 ji5 x6_1 x7_1 = some r) ∧ Aside0 (kq ≤ k) ∧ Aside0 (Kd.R (Kd.int .u8) 5 w' w.heap.size (fun _ => True) v575 x6_1) ∧ Aside0 (w'.heap[gb573]? = some (.cells #[.int .i64 a0_0,.int .u64 a0_1,.int .i64 a0_2,.int .i64 a0_3] 26 (0,0))) ∧ Aside0 (Below w.heap.size w w'))
 case atStart => exact ⟨(y574),(0),(by first | rfl | (simp; done) | (simp [*]; done) | (simp [wrap64]; done)),H',⟨Nat.le_refl _⟩,⟨mvR HO576.out⟩,⟨mvb BK573.out⟩,⟨mvh HB.out⟩⟩
 case round =>
  clear H'
  (try clear c1); (try clear c2); (try clear p2); (try clear c4); (try clear c4b0); (try clear c4b1); (try clear p6); (try clear c7); (try clear c7b0); (try clear c7b1); (try clear c8); (try clear c8b0); (try clear c8b1); (try clear hcz10_0); (try clear hcz10_1); (try clear hcz10_2); (try clear hcz10_3)
  (try clear hfz10_0); (try clear hfz10_1); (try clear hfz10_2); (try clear hfz10_3)
  obtain ⟨x6_1,x7_1,rfl,HA,HK1,HO_6,BK573,HB⟩ := hrel
  cases gk with
  | zero => exact absurd HA.out (by simp [l4_elements.l0])
  | succ k1 =>
   have H := HA.out
   clear HA
   simp only [l4_elements.l0] at H
   by_cases c13 : x7_1 < (x6_1.length : Int)
   rotate_left
   ·rw [if_neg c13] at H
    have c13b0 : decide (x7_1 < (x6_1.length : Int)) = false := decide_eq_false c13
    clear c13
    obtain rfl := Option.some.inj H
    obtain ⟨Ao21,co21,eo21⟩ := Kd.R_slice HO_6.out
    subst eo21
    go_wp2
    go_ret
    exact ⟨_,by first | rfl | (simp [errW_none,errW_some] <;> rfl) | (simp only [← hji3,← hji5,← hji6]; first | rfl | (simp [errW_none,errW_some] <;> rfl)) | (simp [*,errW_none,errW_some] <;> rfl),by (with_reducible repeat (first | apply Kd.R_alloc | apply Kd.R_drewN | apply Kd.R_drew)); exact HO_6.out,mvh HB.out⟩
   rw [if_pos c13] at H
   have c13b0 : decide (x7_1 < (x6_1.length : Int)) = true := decide_eq_true c13
   clear c13
   by_cases c14 : 0 ≤ x7_1
   rotate_left
   ·rw [if_neg c14] at H
    exact absurd H (by simp)
   rw [if_pos c14] at H
   have c14b0 : decide (0 ≤ x7_1) = true := decide_eq_true c14
   clear c14
   by_cases c15 : x7_1 < (l1.length : Int)
   rotate_left
   ·rw [if_neg c15] at H
    exact absurd H (by simp)
   rw [if_pos c15] at H
   have c15b0 : decide (x7_1 < (l1.length : Int)) = true := decide_eq_true c15
   clear c15
   by_cases c16 : ji5 = 0
   ·rw [if_pos c16] at H
    exact absurd H (by simp)
   ·rw [if_neg c16] at H
    have c16b0 : (ji5 == 0) = false := beq_eq_false_iff_ne.mpr c16
    have c16b1 : (ji5 != 0) = true := bne_iff_ne.mpr c16
    obtain ⟨y578,hy578⟩ : ∃ y_ : List Int,y_ = (x6_1.set (x7_1 : Int).toNat ((Int.tmod (wrap64 (rd l1 x7_1)) ji5) % 256)) := ⟨_,rfl⟩
    replace H : (l4_elements.l0 k1 l1 ji5 y578 (wrap64 (x7_1 + 1))) = some r := by rw [hy578]; exact H
    have Ny578 := Aside0.mk hy578
    clear hy578
    have H' := Aside0.mk H
    clear H
    obtain ⟨Ao18,co18,eo18⟩ := Kd.R_slice HO_6.out
    subst eo18
    have p577 : 0 ≤ (x7_1 : Int) := of_decide_eq_true (by first | (with_reducible assumption) | assumption)
    have q577 : x7_1 < (l1.length : Int) := of_decide_eq_true (by first | (with_reducible assumption) | assumption)
    obtain ⟨ad577,e577,hx577_0⟩ := Kd.at_int HR1.out x7_1 p577 q577
    cases e577
    replace hx577_0 := (HB.out.cell (World.block_lt_of_cell? w _ hx577_0)).trans hx577_0
    replace p577 := eq_true p577
    replace q577 := eq_true q577
    have p17 : 0 ≤ (x7_1 : Int) := of_decide_eq_true (by first | (with_reducible assumption) | assumption)
    have q17 : (x7_1 : Int) < ((x6_1.length : Int) : Int) := of_decide_eq_true (by first | (with_reducible assumption) | assumption)
    obtain ⟨go17,co17,eo17,gb17,gl17,cl17,HG17⟩ := Kd.R_form HO_6.out (by omega)
    (first | cases eo17 | (injection eo17 with ea_ en_ ec_; (first | subst ea_ | (injection ea_ with ea_; subst ea_)); subst ec_; clear en_))
    have GB17 := Aside0.mk gb17
    have GG17 := Aside0.mk HG17
    clear gb17 gl17 HG17
    obtain ⟨hx17_0,hf17_0⟩ := Kd.R_celln 0 HO_6.out (x7_1 : Int) p17 q17
    replace p17 := eq_true p17
    replace q17 := eq_true q17
    have HP19 := Kd.R_putg HO_6.out (x7_1 : Int) ((Int.tmod (wrap64 (rd l1 x7_1)) ji5) % 256)
    go_wp2_with (first | ((with_reducible refine gate_store (t := 5) (p := 38) rfl ?_); refine store_event (t := 5) (p := 38) (v := ?vo_w20) (w1 := (wr.setCell ⟨go17,(x7_1 : Int).toNat,none⟩ (.int .u8 ((Int.tmod (wrap64 (rd l1 x7_1)) ji5) % 256)))) ?hg ?ho ?hn ?hr ?_; (case ho => rfl); (case hg => rfl); (case hn => rfl); (case hr => first | (go_simp; done) | (go_simp; rfl)); intro w20 hw; have hg : wr.grownBy w20 (some go17) := (by rw [hw]; exact HP19.2); have hp_ : Kd.R (Kd.int .u8) 5 w20 w.heap.size (fun _ => True) (.slice (some ⟨go17,0,none⟩) x6_1.length co18) y578 := (by rw [hw,Ny578.out]; exact HP19.1); clear HP19; have n0_ := aK (hp_); have n1_ := aK (blk_grown (g := gb573) (o := .cells #[.int .i64 a0_0,.int .u64 a0_1,.int .i64 a0_2,.int .i64 a0_3] 26 (0,0)) (mvb BK573.out) hg (Kd.R_ne HO_6.out BK573.out (by decide))); have n2_ := aK ((by rw [hw]; exact below_set (HB.out) GB17.out : Below w.heap.size w w20)); clear HO_6 BK573 HB; have HO_6 := n0_; have BK573 := n1_; have HB := n2_; clear n0_ n1_ n2_; clear hg hw hp_))
    go_roundg k1
    case measure => have := HK1.out; omega
    case rel => exact ⟨(y578),(wrap64 (x7_1 + 1)),(by first | rfl | (simp; done) | (simp [*]; done) | (simp [wrap64]; done)),H',⟨by have := HK1.out; omega⟩,⟨mvR HO_6.out⟩,⟨mvb BK573.out⟩,⟨mvh HB.out⟩⟩
end Go.Proofs.Ytdhnjnkjhfomiaa.P

