-- written by mk.sh, a program of this session, over the kit's print
import Derived.Test.YtpgecdidddoglaaRbQAux
import Derived.Test.YtpgecdidddoglaaRbPx0
import Derived.Test.YtpgecdidddoglaaRbPx6
namespace Go.Proofs.Ytpgecdidddoglaa.P
open Go.RowKit Go.Proofs.YtpgecdidddoglaaW.PrintWords Go.Proofs.YtpgecdidddoglaaW.PrintLast Go.Proofs.YtpgecdidddoglaaW.PrintMore
attribute [local go_sem] max2_int min2_int max_two min_two max_three min_three max_four min_four   -- for this text's walks alone
set_option linter.unusedVariables false
set_option linter.unusedSimpArgs false

def reedsol_code_value.l0 : Nat → RCode → List Int → Int → Int → Int → Option (Int)
 | 0,_,_,_,_,_ => none
 | k + 1,x0,x1,x2,x7,x8 => if x8 ≥ 0 then (if 0 < x0.size then ((reedsol_open_1.f k x0 x7 x2).bind fun t294 => (if 0 ≤ x8 then (if x8 < (x1.length : Int) then (reedsol_code_value.l0 k x0 x1 x2 (Go.bits .xor .u8 t294 (rd x1 x8)) (wrap64 (x8 - 1))) else (none)) else (none))) else (none)) else (some x7)
def reedsol_code_value.f (k : Nat) (a0 : RCode) (l1 : List Int) (a2 : Int) : Option (Int) := reedsol_code_value.l0 k a0 l1 a2 0 (wrap64 ((l1.length : Int) - 1))
theorem reedsol_code_value.mono_l : ∀ k,(∀ y0 y1 y2 y3 y4,LeO (reedsol_code_value.l0 k y0 y1 y2 y3 y4) (reedsol_code_value.l0 (k + 1) y0 y1 y2 y3 y4))
 | 0 => fun _ _ _ _ _ r h => by simp [reedsol_code_value.l0] at h
 | k + 1 => by
  have ih0 := reedsol_code_value.mono_l k
  ·intro y0 y1 y2 y3 y4
   unfold reedsol_code_value.l0
   repeat' with_reducible first
   | exact ih0 _ _ _ _ _
   | exact reedsol_open_1.mono _ _ _ _
   | exact LeO.refl _
   | exact LeO.none _
   | refine LeO.ite ?_ ?_
   | refine LeO.bind ?_ (fun _ => ?_)
theorem reedsol_code_value.mono : ∀ a0 a1 a2 k,LeO (reedsol_code_value.f k a0 a1 a2) (reedsol_code_value.f (k + 1) a0 a1 a2) := by
 intro a0 a1 a2 k
 have ih0 := reedsol_code_value.mono_l k
 unfold reedsol_code_value.f
 repeat' with_reducible first
   | exact ih0 _ _ _ _ _
   | exact reedsol_open_1.mono _ _ _ _
   | exact LeO.refl _
   | exact LeO.none _
   | refine LeO.ite ?_ ?_
   | refine LeO.bind ?_ (fun _ => ?_)
def reedsol_code_value.T5 : Bool × List (List Nat × List Nat) := (true,[([],[]),([0],[0]),([1],[1]),([2],[2]),([],[]),([],[]),([3,4,5],[3,4,5]),([],[]),([],[]),([7,8],[7,8]),([9],[9]),([6,10],[6,10]),([11,6,0,1,2,3,4,5,6,7,8,9,10,11],[4,11])])
def reedsol_code_value.B5 : List Nat := [0,1,3,7,0,0,63,0,0,384,896,2047,4095]
theorem reedsol_code_value.tab5 : rtab .any (opsOf Try.f56 5) = reedsol_code_value.T5 := by kernel_rfl
theorem reedsol_code_value.bits5 : waitsOk reedsol_code_value.T5.2 reedsol_code_value.B5 = true := by kernel_rfl
set_option maxHeartbeats 8000000 in
set_option maxRecDepth 100000 in
theorem reedsol_code_value.calls (k : Nat) (A0 : Option Addr) (a0 : RCode) (A1 : Option Addr) (c1 : Nat) (l1 : List Int) (a2 : Int) (r : Int) (w : World) (hr0 : rs_OK w A0 a0) (hr1 : Kd.C (Kd.int .u8) w A1 l1.length l1) (hc1 : l1.length ≤ c1) (h : reedsol_code_value.f k a0 l1 a2 = some r) :
  Calls Try.prog 56 #[.pointer A0,.slice A1 l1.length c1,.int .u8 a2] w fun e w' => e = .returned (.int .u8 r) ∧ Below w.heap.size w w' := by
 have HR0 := Aside0.mk hr0
 clear hr0
 have HR1 := Aside0.mk hr1
 have HC1 := Aside0.mk hc1
 clear hr1 hc1
 have HB := aK (Below.refl w.heap.size w)
 have H : (reedsol_code_value.l0 k a0 l1 a2 0 (wrap64 ((l1.length : Int) - 1))) = some r := h
 clear h
 have H' := Aside0.mk H
 clear H
 go_enter Try.func56,Try.ntmps56
 go_wp2
 go_loopg [7,8] k (fun kq v7 v8 w' => ∃ (x7_1 : Int) (x8_1 : Int),v7 = .int .u8 x7_1 ∧ v8 = .int .i64 x8_1 ∧ Aside0 (reedsol_code_value.l0 kq a0 l1 a2 x7_1 x8_1 = some r) ∧ Aside0 (kq ≤ k) ∧ Aside0 (Below w.heap.size w w'))
 case atStart => exact ⟨(0),(wrap64 ((l1.length : Int) - 1)),(by first | rfl | (simp; done) | (simp [*]; done) | (simp [wrap64]; done)),(by first | rfl | (simp; done) | (simp [*]; done) | (simp [wrap64]; done)),H',⟨Nat.le_refl _⟩,⟨mvh HB.out⟩⟩
 case round =>
  clear H'
  (try clear c1); (try clear p2)
  obtain ⟨x7_1,x8_1,rfl,rfl,HA,HK1,HB⟩ := hrel
  cases gk with
  | zero => exact absurd HA.out (by simp [reedsol_code_value.l0])
  | succ k1 =>
   have H := HA.out
   clear HA
   simp only [reedsol_code_value.l0] at H
   by_cases c4 : x8_1 ≥ 0
   rotate_left
   ·rw [if_neg c4] at H
    have c4b0 : decide (0 ≤ x8_1) = false := decide_eq_false c4
    clear c4
    obtain rfl := Option.some.inj H
    go_wp2
    go_ret
    exact ⟨by first | rfl | (simp [errW_none,errW_some] <;> rfl) | (simp [*,errW_none,errW_some] <;> rfl),mvh HB.out⟩

   rw [if_pos c4] at H
   have c4b0 : decide (0 ≤ x8_1) = true := decide_eq_true c4
   clear c4
   by_cases c5 : 0 < a0.size
   rotate_left
   ·rw [if_neg c5] at H
    exact absurd H (by simp)
   rw [if_pos c5] at H
   obtain ⟨b_,p_,c_,d_,g_,rfl,hT_⟩ := rs_pos HR0.out c5
   have HT0 := Aside0.mk hT_
   clear hT_ c5
   replace H := Option.bind_eq_some_iff.mp H
   obtain ⟨t294,A70,H⟩ := H
   try dsimp only at H
   have A7 := Aside0.mk A70
   clear A70
   by_cases c8 : 0 ≤ x8_1
   rotate_left
   ·rw [if_neg c8] at H
    exact absurd H (by simp)
   rw [if_pos c8] at H
   have c8b0 : decide (0 ≤ x8_1) = true := decide_eq_true c8
   clear c8
   by_cases c9 : x8_1 < (l1.length : Int)
   rotate_left
   ·rw [if_neg c9] at H
    exact absurd H (by simp)
   rw [if_pos c9] at H
   have c9b0 : decide (x8_1 < (l1.length : Int)) = true := decide_eq_true c9
   clear c9
   have H' := Aside0.mk H
   clear H
   try go_wp2
   have n0_ := aK (below_drew1 HB.out)
   clear HB
   have HB := n0_
   clear n0_
   have ho6 := rs_At_mul HT0.out
   have hx6 := (HB.out.cell (World.block_lt_of_cell? w _ ho6)).trans ho6
   have p295 : 0 ≤ (x8_1 : Int) := oD
   have q295 : x8_1 < (l1.length : Int) := oD
   obtain ⟨ad295,e295,hx295_0⟩ := Kd.at_int HR1.out x8_1 p295 q295
   have hw295_0 := hx295_0
   cases e295
   replace hx295_0 := (HB.out.cell (World.block_lt_of_cell? w _ hx295_0)).trans hx295_0
   replace p295 := eq_true p295
   replace q295 := eq_true q295
   refine start_ (n := 13) (S := fun w' => w'.cell? ⟨b_,5,none⟩ = some (.func (.func 46) #[] #[.pointer (some ⟨p_,0,none⟩)]) ∧ w'.cell? (ad295.add (x8_1).toNat) = some (.int .u8 (rd l1 x8_1))) (ds := []) (bts 13 0) (by kernel_rfl) rfl rfl ⟨((HB.out.cell (World.block_lt_of_cell? w _ ho6)).trans ho6),((HB.out.cell (World.block_lt_of_cell? w _ hw295_0)).trans hw295_0)⟩ (fun hHeld => ?_); refine with_tabW reedsol_code_value.tab5 reedsol_code_value.bits5 (fun HT_ HW_ => ?_)
   generalize wr.drew = w10 at HB hx295_0 hHeld ⊢
   refine pu_ 0 16 13 1 HT_.out ?_; refine pu_ 1 17 13 3 HT_.out ?_; refine pu_ 2 18 13 7 HT_.out ?_; refine pu_ 4 20 13 23 HT_.out ?_; refine pu_ 5 21 13 55 HT_.out ?_; refine pu_ 7 23 13 183 HT_.out ?_; refine pu_ 8 24 13 439 HT_.out ?_; refine pu_ 9 25 13 951 HT_.out ?_; refine ta_ 3 19 13 959 rfl rfl HT_.out HW_.out hHeld (by rintro w' ⟨s0,s1⟩; go_simp; with_reducible rfl) ?_; refine ta_ 10 26 13 1983 rfl rfl HT_.out HW_.out hHeld (by rintro w' ⟨s0,s1⟩; go_simp; with_reducible rfl) ?_
   refine one_ (i := 6) (N := some 22) (bts 13 2047) rfl rfl (one_of HT_.out (by kernel_rfl)) (by decide) (fun K hK => ?_)
   refine goesF_ Try.func46 (by kernel_rfl) rfl #[.int .u8 x7_1,.int .u8 a2,.pointer (some ⟨p_,0,none⟩)] (by rfl) rfl rfl (by rfl) (by (try simp only [List.map_toArray,List.map_cons,List.map_nil]); first | done | rfl | (simp only [List.length_drop,List.length_take]; rfl) | (simp [Act.eval,IntKind.wrap_u8,IntKind.wrap_u32]; done)) ?_
   with_reducible refine (reedsol_open_1.calls k1 b_ p_ c_ d_ g_ a0 x7_1 a2 t294 _ ?side1 A7.out).mono ?_
   (case side1 => exact (rs_At_below HT0.out HB.out))
   rintro e w11 ⟨rfl,hb⟩
   refine ⟨_,rfl,?_⟩
   have n0_ := aK (below_step (mvh HB.out) hb)
   clear HB
   have HB := n0_
   clear n0_
   (try clear hb)
   refine hK.out _ _ ⟨((HB.out.cell (World.block_lt_of_cell? w _ ho6)).trans ho6),((HB.out.cell (World.block_lt_of_cell? w _ hw295_0)).trans hw295_0)⟩ (fun hHeld => ?_)
   clear hK K
   refine norm_ (a' := ?_) ?_ ?_
   rotate_left
   ·show Act.put _ (some 22) _ = _
    simp only [Act.put,List.setIfInBounds_toArray,List.set_cons_zero,List.set_cons_succ,i64_w,i32_w]
    rfl
   refine pu_ 11 27 13 4095 HT_.out ?_; refine pu_ 12 7 13 8191 HT_.out ?_
   refine done_ (done_of HT_.out (by kernel_rfl)) ?_
   try go_wp2
   go_roundg k1
   case measure => have := HK1.out; omega
   case rel => exact ⟨(Go.bits .xor .u8 t294 (rd l1 x8_1)),(wrap64 (x8_1 - 1)),(by first | rfl | (simp; done) | (simp [*]; done) | (simp [wrap64]; done)),(by first | rfl | (simp; done) | (simp [*]; done) | (simp [wrap64]; done)),H',⟨by have := HK1.out; omega⟩,⟨mvh HB.out⟩⟩
end Go.Proofs.Ytpgecdidddoglaa.P

