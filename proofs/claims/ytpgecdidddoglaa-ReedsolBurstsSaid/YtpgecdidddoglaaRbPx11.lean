-- written by mk.sh, a program of this session, over the kit's print
import Derived.Test.YtpgecdidddoglaaRbQAux
import Derived.Test.YtpgecdidddoglaaRbPx0
import Derived.Test.YtpgecdidddoglaaRbPx6
import Derived.Test.YtpgecdidddoglaaRbPx7
namespace Go.Proofs.Ytpgecdidddoglaa.P
open Go.RowKit Go.Proofs.YtpgecdidddoglaaW.PrintWords Go.Proofs.YtpgecdidddoglaaW.PrintLast Go.Proofs.YtpgecdidddoglaaW.PrintMore
attribute [local go_sem] max2_int min2_int max_two min_two max_three min_three max_four min_four   -- for this text's walks alone
set_option linter.unusedVariables false
set_option linter.unusedSimpArgs false

def reedsol_code_syndromes.l0 : Nat → RCode → List Int → List Int → Bool → Int → Int → Option (List Int × Bool)
 | 0,_,_,_,_,_,_ => none
 | k + 1,x0,x1,x6,x7,x16,x17 => if x17 < x16 then (if 0 < x0.size then ((gT_Exp.f x0 (wrap64 (x0.First + x17))).bind fun t261 => ((reedsol_open_3.f k x0 x1 t261).bind fun t262 => (if 0 ≤ x17 then (if x17 < (x6.length : Int) then ((some (x6.set (x17 : Int).toNat t262 : List Int)).bind fun y263 => (if x7 = true then (reedsol_code_syndromes.l0 k x0 x1 y263 (t262 == 0) x16 (wrap64 (x17 + 1))) else (reedsol_code_syndromes.l0 k x0 x1 y263 false x16 (wrap64 (x17 + 1))))) else (none)) else (none)))) else (none)) else (some (x6,x7))
def reedsol_code_syndromes.f (k : Nat) (a0 : RCode) (l1 : List Int) : Option (List Int × Bool) := if 0 < a0.size then (if 0 ≤ a0.Par then (if (a0.Par : Int).toNat ≤ 281474976710656 then ((some (List.replicate (a0.Par : Int).toNat 0 : List Int)).bind fun y258 => (reedsol_code_syndromes.l0 k a0 l1 y258 true (y258.length : Int) 0)) else (none)) else (none)) else (none)
theorem reedsol_code_syndromes.mono_l : ∀ k,(∀ y0 y1 y2 y3 y4 y5,LeO (reedsol_code_syndromes.l0 k y0 y1 y2 y3 y4 y5) (reedsol_code_syndromes.l0 (k + 1) y0 y1 y2 y3 y4 y5))
 | 0 => fun _ _ _ _ _ _ r h => by simp [reedsol_code_syndromes.l0] at h
 | k + 1 => by
  have ih0 := reedsol_code_syndromes.mono_l k
  ·intro y0 y1 y2 y3 y4 y5
   unfold reedsol_code_syndromes.l0
   repeat' with_reducible first
   | exact ih0 _ _ _ _ _ _
   | exact reedsol_open_3.mono _ _ _ _
   | exact LeO.refl _
   | exact LeO.none _
   | refine LeO.ite ?_ ?_
   | refine LeO.bind ?_ (fun _ => ?_)
theorem reedsol_code_syndromes.mono : ∀ a0 a1 k,LeO (reedsol_code_syndromes.f k a0 a1) (reedsol_code_syndromes.f (k + 1) a0 a1) := by
 intro a0 a1 k
 have ih0 := reedsol_code_syndromes.mono_l k
 unfold reedsol_code_syndromes.f
 repeat' with_reducible first
   | exact ih0 _ _ _ _ _ _
   | exact reedsol_open_3.mono _ _ _ _
   | exact LeO.refl _
   | exact LeO.none _
   | refine LeO.ite ?_ ?_
   | refine LeO.bind ?_ (fun _ => ?_)
def reedsol_code_syndromes.T6 : Bool × List (List Nat × List Nat) := (true,[([],[]),([],[]),([],[]),([2],[2]),([3],[3]),([4],[4]),([],[]),([],[]),([7],[7]),([8],[8]),([9],[9]),([],[]),([11],[11]),([12],[12]),([13],[13]),([14],[14]),([],[]),([15,16],[15,16]),([10,17],[10,17]),([5,6,18,18],[5,6,18]),([0,1,0,1,2,3,4,5,6,7,8,9,10,11,12,13,14,15,16,17,18,19],[0,1]),([20,19,19,0,1,2,3,4,5,6,7,8,9,10,11,12,13,14,15,16,17,18,19],[19,20])])
def reedsol_code_syndromes.B6 : List Nat := [0,0,0,4,12,28,0,0,128,384,896,0,2048,6144,14336,30720,0,129024,262016,524284,1048575,2097151]
theorem reedsol_code_syndromes.tab6 : rtab .any (opsOf Try.f53 6) = reedsol_code_syndromes.T6 := by kernel_rfl
theorem reedsol_code_syndromes.bits6 : waitsOk reedsol_code_syndromes.T6.2 reedsol_code_syndromes.B6 = true := by kernel_rfl
set_option maxHeartbeats 8000000 in
set_option maxRecDepth 100000 in
theorem reedsol_code_syndromes.calls (k : Nat) (A0 : Option Addr) (a0 : RCode) (A1 : Option Addr) (c1 : Nat) (l1 : List Int) (r1 : List Int) (r2 : Bool) (w : World) (hr0 : rs_OK w A0 a0) (hr1 : Kd.C (Kd.int .u8) w A1 l1.length l1) (hc1 : l1.length ≤ c1) (h : reedsol_code_syndromes.f k a0 l1 = some (r1,r2)) :
  Calls Try.prog 53 #[.pointer A0,.slice A1 l1.length c1] w fun e w' => ∃ v0_ : Value,e = .returned (.tuple #[v0_,.bool r2]) ∧ Kd.R (Kd.int .u8) 5 w' w.heap.size (fun _ => True) v0_ r1 ∧ Below w.heap.size w w' := by
 have HR0 := Aside0.mk hr0
 clear hr0
 have HR1 := Aside0.mk hr1
 have HC1 := Aside0.mk hc1
 clear hr1 hc1
 have HB := aK (Below.refl w.heap.size w)
 have H : (if 0 < a0.size then (if 0 ≤ a0.Par then (if (a0.Par : Int).toNat ≤ 281474976710656 then ((some (List.replicate (a0.Par : Int).toNat 0 : List Int)).bind fun y258 => (reedsol_code_syndromes.l0 k a0 l1 y258 true (y258.length : Int) 0)) else (none)) else (none)) else (none)) = some (r1,r2) := h
 clear h
 by_cases c3 : 0 < a0.size
 rotate_left
 ·rw [if_neg c3] at H
  exact absurd H (by simp)

 rw [if_pos c3] at H
 obtain ⟨b_,p_,c_,d_,g_,rfl,hT_⟩ := rs_pos HR0.out c3
 have HT0 := Aside0.mk hT_
 clear hT_ c3
 by_cases c5 : 0 ≤ a0.Par
 rotate_left
 ·rw [if_neg c5] at H
  exact absurd H (by simp)
 rw [if_pos c5] at H
 have c5b0 := eq_true c5
 have c5b1 : decide (0 ≤ a0.Par) = true := decide_eq_true c5
 clear c5
 by_cases c6 : (a0.Par : Int).toNat ≤ 281474976710656
 rotate_left
 ·rw [if_neg c6] at H
  exact absurd H (by simp)
 rw [if_pos c6] at H
 have c6b0 := eq_true c6
 have c6b1 : decide ((a0.Par : Int).toNat ≤ 281474976710656) = true := decide_eq_true c6
 clear c6
 obtain ⟨y258,hy258⟩ : ∃ y_ : List Int,y_ = (List.replicate (a0.Par : Int).toNat 0) := ⟨_,rfl⟩
 replace H : (reedsol_code_syndromes.l0 k a0 l1 y258 true (y258.length : Int) 0) = some (r1,r2) := by rw [hy258]; exact H
 have Ny258 := Aside0.mk hy258
 clear hy258
 have H' := Aside0.mk H
 clear H
 have ho4 := rs_At_Par HT0.out
 have hx4 := ho4
 go_enter Try.func53,Try.ntmps53
 go_wp2_with (first | ((with_reducible refine gate_dst (N := 14) rfl ?_); refine Kd.R_make (Kd.int .u8) _ 5 rfl (N := 14) rfl 27 _ _ rfl a0.Par rfl rfl Try.underlying27 (.int .u8 0) 1 info5 rfl (by decide) (by omega) 0 (ok := fun _ => True) (okp := fun _ => True) rfl (fun _ hk => hk) trivial oD (Nat.le_trans (Nat.mul_le_mul_right _ (oD : a0.Par.toNat ≤ 281474976710656)) (by omega)) (Below.refl _ _) (Nat.le_refl _) ?_; intro v259 w7 ho8 hb hg_ hnew_; clear hg_ hnew_; (first | rw [← Ny258.out] at ho8 | (simp only [Int.reduceToNat] at ho8; rw [← Ny258.out] at ho8)); have HO260 := aK (Kd.R_lower ho8 (below_size (mvh HB.out))); replace HB := aK (below_step (mvh HB.out) hb); clear hb ho8; obtain ⟨Ao9,co9,eo9⟩ := Kd.R_slice HO260.out; subst eo9))
 go_loopg [7,17] k (fun kq v7 v17 w' => ∃ (x6_1 : List Int) (x7_1 : Bool) (x17_1 : Int),v7 = .bool x7_1 ∧ v17 = .int .i64 x17_1 ∧ Aside0 (reedsol_code_syndromes.l0 kq a0 l1 x6_1 x7_1 (y258.length : Int) x17_1 = some (r1,r2)) ∧ Aside0 (kq ≤ k) ∧ Aside0 (Kd.R (Kd.int .u8) 5 w' w.heap.size (fun _ => True) (.slice Ao9 y258.length co9) x6_1) ∧ Aside0 (Below w.heap.size w w'))
 case atStart => exact ⟨(y258),(true),(0),(by first | rfl | (simp; done) | (simp [*]; done) | (simp [wrap64]; done)),(by first | rfl | (simp; done) | (simp [*]; done) | (simp [wrap64]; done)),H',⟨Nat.le_refl _⟩,⟨mvR HO260.out⟩,⟨mvh HB.out⟩⟩
 case round =>
  clear H'
  (try clear c1); (try clear p2); (try clear c3); (try clear hx4); (try clear c5); (try clear c5b0); (try clear c5b1); (try clear c6); (try clear c6b0); (try clear c6b1); (try clear p6)
  obtain ⟨x6_1,x7_1,x17_1,rfl,rfl,HA,HK1,HO_6,HB⟩ := hrel
  have hl6_1 := (Kd.R_reads' HO_6.out).1
  rw [hl6_1] at HO_6
  (try simp only [hl6_1])
  cases gk with
  | zero => exact absurd HA.out (by simp [reedsol_code_syndromes.l0])
  | succ k1 =>
   have H := HA.out
   clear HA
   simp only [reedsol_code_syndromes.l0] at H
   by_cases c10 : x17_1 < (y258.length : Int)
   rotate_left
   ·rw [if_neg c10] at H
    have c10b0 : decide (x17_1 < (y258.length : Int)) = false := decide_eq_false c10
    (try simp only [hl6_1] at c10b0)
    clear c10
    simp only [Option.some.injEq,Prod.mk.injEq] at H
    obtain ⟨rfl,rfl⟩ := H
    go_wp2
    go_ret2
    exact ⟨_,by first | rfl | (simp [errW_none,errW_some] <;> rfl) | (simp [*,errW_none,errW_some] <;> rfl),by (with_reducible repeat (first | apply Kd.R_alloc | apply Kd.R_drewN | apply Kd.R_drew)); exact HO_6.out,mvh HB.out⟩
   rw [if_pos c10] at H
   have c10b0 : decide (x17_1 < (y258.length : Int)) = true := decide_eq_true c10
   (try simp only [hl6_1] at c10b0)
   clear c10
   by_cases c11 : 0 < a0.size
   rotate_left
   ·rw [if_neg c11] at H
    exact absurd H (by simp)
   rw [if_pos c11] at H
   clear c11
   replace H := Option.bind_eq_some_iff.mp H
   obtain ⟨t261,A150,H⟩ := H
   try dsimp only at H
   have A15 := Aside0.mk A150
   clear A150
   replace H := Option.bind_eq_some_iff.mp H
   obtain ⟨t262,A160,H⟩ := H
   try dsimp only at H
   have A16 := Aside0.mk A160
   clear A160
   by_cases c17 : 0 ≤ x17_1
   rotate_left
   ·rw [if_neg c17] at H
    exact absurd H (by simp)
   rw [if_pos c17] at H
   have c17b0 : decide (0 ≤ x17_1) = true := decide_eq_true c17
   clear c17
   by_cases c18 : x17_1 < (x6_1.length : Int)
   rotate_left
   ·rw [if_neg c18] at H
    exact absurd H (by simp)
   rw [if_pos c18] at H
   have c18b0 : decide (x17_1 < (x6_1.length : Int)) = true := decide_eq_true c18
   (try simp only [hl6_1] at c18b0)
   clear c18
   obtain ⟨y263,hy263⟩ : ∃ y_ : List Int,y_ = (x6_1.set (x17_1 : Int).toNat t262) := ⟨_,rfl⟩
   replace H : (if x7_1 = true then (reedsol_code_syndromes.l0 k1 a0 l1 y263 (t262 == 0) (y258.length : Int) (wrap64 (x17_1 + 1))) else (reedsol_code_syndromes.l0 k1 a0 l1 y263 false (y258.length : Int) (wrap64 (x17_1 + 1)))) = some (r1,r2) := by rw [hy263]; exact H
   have Ny263 := Aside0.mk hy263
   clear hy263
   by_cases c20 : x7_1 = true
   rotate_left
   ·replace c20 := Bool.eq_false_iff.mpr c20
    subst c20
    have H1 : (reedsol_code_syndromes.l0 k1 a0 l1 y263 false (y258.length : Int) (wrap64 (x17_1 + 1))) = some (r1,r2) := by rw [if_neg (show ¬ (false = true) by decide)] at H; exact H
    clear H
    have H := H1
    clear H1
    have H' := Aside0.mk H
    clear H
    try go_wp2
    have n0_ := aK (Kd.R_drew HO_6.out)
    have n1_ := aK (below_drew1 HB.out)
    clear HO_6 HB
    have HO_6 := n0_
    have HB := n1_
    clear n0_ n1_
    have ho12 := rs_At_at HT0.out
    have hx12 := (HB.out.cell (World.block_lt_of_cell? w _ ho12)).trans ho12
    have ho13 := rs_At_exp HT0.out
    have hx13 := (HB.out.cell (World.block_lt_of_cell? w _ ho13)).trans ho13
    have ho14 := rs_At_First HT0.out
    have hx14 := (HB.out.cell (World.block_lt_of_cell? w _ ho14)).trans ho14
    refine start_ (n := 22) (S := fun w' => w'.cell? ⟨b_,8,none⟩ = some (.func (.func 50) #[] #[.pointer (some ⟨p_,0,none⟩)]) ∧ w'.cell? ⟨b_,7,none⟩ = some (.func (.func 45) #[.pointer (some ⟨c_,0,none⟩)] #[]) ∧ w'.cell? ⟨b_,2,none⟩ = some (.int .i64 a0.First)) (ds := [21]) (bts 22 0) (by kernel_rfl) rfl rfl ⟨((HB.out.cell (World.block_lt_of_cell? w _ ho12)).trans ho12),((HB.out.cell (World.block_lt_of_cell? w _ ho13)).trans ho13),((HB.out.cell (World.block_lt_of_cell? w _ ho14)).trans ho14)⟩ (fun hHeld => ?_); refine with_tabW reedsol_code_syndromes.tab6 reedsol_code_syndromes.bits6 (fun HT_ HW_ => ?_)
    generalize wr.drew = w25 at HO_6 HB hHeld ⊢
    refine pu_ 0 20 22 1 HT_.out ?_; refine pu_ 1 21 22 3 HT_.out ?_; refine pu_ 2 22 22 7 HT_.out ?_; refine pu_ 3 23 22 15 HT_.out ?_; refine pu_ 4 24 22 31 HT_.out ?_; refine pu_ 6 26 22 95 HT_.out ?_; refine pu_ 7 27 22 223 HT_.out ?_; refine pu_ 8 28 22 479 HT_.out ?_; refine pu_ 9 29 22 991 HT_.out ?_; refine pu_ 11 31 22 3039 HT_.out ?_; refine pu_ 12 32 22 7135 HT_.out ?_; refine pu_ 13 33 22 15327 HT_.out ?_; refine pu_ 14 34 22 31711 HT_.out ?_; refine pu_ 16 36 22 97247 HT_.out ?_; refine ta_ 5 25 22 97279 rfl rfl HT_.out HW_.out hHeld (by rintro w' ⟨s0,s1,s2⟩; go_simp; with_reducible rfl) ?_; refine ta_ 10 30 22 98303 rfl rfl HT_.out HW_.out hHeld (by rintro w' ⟨s0,s1,s2⟩; go_simp; with_reducible rfl) ?_; refine ta_ 15 35 22 131071 rfl rfl HT_.out HW_.out hHeld (by rintro w' ⟨s0,s1,s2⟩; go_simp; with_reducible rfl) ?_; refine pu_ 17 37 22 262143 HT_.out ?_
    refine one_ (i := 18) (N := some 38) (bts 22 524287) rfl rfl (one_of HT_.out (by kernel_rfl)) (by decide) (fun K hK => ?_)
    refine goesF_ Try.func45 (by kernel_rfl) rfl #[.pointer (some ⟨c_,0,none⟩),.int .i64 (wrap64 (a0.First + x17_1))] (by rfl) rfl rfl (by rfl) (by (try simp only [List.map_toArray,List.map_cons,List.map_nil]); first | done | rfl | (simp only [List.length_drop,List.length_take]; rfl) | (simp [Act.eval,IntKind.wrap_u8,IntKind.wrap_u32]; done)) ?_
    with_reducible refine (gT_Exp.calls b_ p_ c_ d_ g_ a0 (wrap64 (a0.First + x17_1)) t261 _ ?side1 A15.out).mono ?_
    (case side1 => exact (rs_At_below HT0.out HB.out))
    rintro e w' ⟨rfl,⟨nd,rfl⟩⟩
    refine ⟨_,rfl,?_⟩
    refine hK.out _ _ ⟨((HB.out.cell (World.block_lt_of_cell? w _ ho12)).trans ho12),((HB.out.cell (World.block_lt_of_cell? w _ ho13)).trans ho13),((HB.out.cell (World.block_lt_of_cell? w _ ho14)).trans ho14)⟩ (fun hHeld => ?_)
    clear hK K
    refine norm_ (a' := ?_) ?_ ?_
    rotate_left
    ·show Act.put _ (some 38) _ = _
     simp only [Act.put,List.setIfInBounds_toArray,List.set_cons_zero,List.set_cons_succ,i64_w,i32_w]
     rfl
    refine one_ (i := 19) (N := some 39) (bts 22 1048575) rfl rfl (one_of HT_.out (by kernel_rfl)) (by decide) (fun K hK => ?_)
    refine goesF_ Try.func50 (by kernel_rfl) rfl #[.slice A1 l1.length c1,.int .u8 t261,.pointer (some ⟨p_,0,none⟩)] (by rfl) rfl rfl (by rfl) (by (try simp only [List.map_toArray,List.map_cons,List.map_nil]); first | done | rfl | (simp only [List.length_drop,List.length_take]; rfl) | (simp [Act.eval,IntKind.wrap_u8,IntKind.wrap_u32]; done)) ?_
    with_reducible refine (reedsol_open_3.calls k1 b_ p_ c_ d_ g_ a0 _ _ l1 t261 t262 _ ?side1 ?side2 ?side3 A16.out).mono ?_
    (case side1 => exact (rs_At_below HT0.out (mvh HB.out)))
    (case side2 => exact Kd.C_below HR1.out (mvh HB.out))
    (case side3 => exact HC1.out)
    rintro e w26 ⟨rfl,hb⟩
    refine ⟨_,rfl,?_⟩
    have n0_ := aK (Kd.R_below (mvR HO_6.out) hb)
    have n1_ := aK (below_step (mvh HB.out) hb)
    clear HO_6 HB
    have HO_6 := n0_
    have HB := n1_
    clear n0_ n1_
    (try clear hb)
    have p19 : 0 ≤ (x17_1 : Int) := oD
    have q19 : (x17_1 : Int) < ((x6_1.length : Int) : Int) := oD
    obtain ⟨go19,co19,eo19,gb19,gl19,cl19,HG19⟩ := Kd.R_form HO_6.out (by omega)
    (first | cases eo19 | (injection eo19 with ea_ en_ ec_; (first | subst ea_ | (injection ea_ with ea_; subst ea_)); subst ec_; clear en_))
    have GB19 := Aside0.mk gb19
    have GG19 := Aside0.mk HG19
    clear gb19 gl19 HG19
    obtain ⟨hx19_0,hf19_0⟩ := Kd.R_celln 0 HO_6.out (x17_1 : Int) p19 q19
    replace p19 := eq_true p19
    replace q19 := eq_true q19
    have HP27 := Kd.R_putn HO_6.out (x17_1 : Int) t262
    rw [← Ny263.out] at HP27
    have HQ27 := Aside0.mk HP27
    clear HP27
    refine hK.out _ _ ⟨((HB.out.cell (World.block_lt_of_cell? w _ ho12)).trans ho12),((HB.out.cell (World.block_lt_of_cell? w _ ho13)).trans ho13),((HB.out.cell (World.block_lt_of_cell? w _ ho14)).trans ho14)⟩ (fun hHeld => ?_)
    clear hK K
    refine norm_ (a' := ?_) ?_ ?_
    rotate_left
    ·show Act.put _ (some 39) _ = _
     simp only [Act.put,List.setIfInBounds_toArray,List.set_cons_zero,List.set_cons_succ,i64_w,i32_w]
     rfl
    refine pu_ 20 40 22 2097151 HT_.out ?_
    refine last_ (i := 21) (N := none) (bts 22 4194303) rfl rfl (one_of HT_.out (by kernel_rfl)) (by decide) (fun K hK => ?_)
    refine skip_ (w1 := ?_) (by rfl) rfl ?_ ?_
    rotate_left
    ·go_simp
     rfl
    refine hK.out _ _ ?_
    clear hK K
    refine done_ (done_of HT_.out (by kernel_rfl)) ?_
    try go_wp2
    (try simp only [← hl6_1])
    go_roundg k1
    case measure => have := HK1.out; omega
    case rel => exact ⟨(y263),(false),(wrap64 (x17_1 + 1)),(by first | rfl | (simp; done) | (simp [*]; done) | (simp [wrap64]; done)),(by first | rfl | (simp; done) | (simp [*]; done) | (simp [wrap64]; done)),H',⟨by have := HK1.out; omega⟩,⟨by (try simp only [hl6_1]); exact mvR HQ27.out⟩,⟨by repeat (first | (with_reducible first | exact HB.out | apply below_alloc | apply pw_below_drewN | apply below_drew1 | refine below_set ?_ GB19.out) | exact HB.out)⟩⟩
   subst c20
   have H1 : (reedsol_code_syndromes.l0 k1 a0 l1 y263 (t262 == 0) (y258.length : Int) (wrap64 (x17_1 + 1))) = some (r1,r2) := by rw [if_pos rfl] at H; exact H
   clear H
   have H := H1
   clear H1
   have H' := Aside0.mk H
   clear H
   try go_wp2
   have n0_ := aK (Kd.R_drew HO_6.out)
   have n1_ := aK (below_drew1 HB.out)
   clear HO_6 HB
   have HO_6 := n0_
   have HB := n1_
   clear n0_ n1_
   have ho12 := rs_At_at HT0.out
   have hx12 := (HB.out.cell (World.block_lt_of_cell? w _ ho12)).trans ho12
   have ho13 := rs_At_exp HT0.out
   have hx13 := (HB.out.cell (World.block_lt_of_cell? w _ ho13)).trans ho13
   have ho14 := rs_At_First HT0.out
   have hx14 := (HB.out.cell (World.block_lt_of_cell? w _ ho14)).trans ho14
   refine start_ (n := 22) (S := fun w' => w'.cell? ⟨b_,8,none⟩ = some (.func (.func 50) #[] #[.pointer (some ⟨p_,0,none⟩)]) ∧ w'.cell? ⟨b_,7,none⟩ = some (.func (.func 45) #[.pointer (some ⟨c_,0,none⟩)] #[]) ∧ w'.cell? ⟨b_,2,none⟩ = some (.int .i64 a0.First)) (ds := [21]) (bts 22 0) (by kernel_rfl) rfl rfl ⟨((HB.out.cell (World.block_lt_of_cell? w _ ho12)).trans ho12),((HB.out.cell (World.block_lt_of_cell? w _ ho13)).trans ho13),((HB.out.cell (World.block_lt_of_cell? w _ ho14)).trans ho14)⟩ (fun hHeld => ?_); refine with_tabW reedsol_code_syndromes.tab6 reedsol_code_syndromes.bits6 (fun HT_ HW_ => ?_)
   generalize wr.drew = w22 at HO_6 HB hHeld ⊢
   refine pu_ 0 20 22 1 HT_.out ?_; refine pu_ 1 21 22 3 HT_.out ?_; refine pu_ 2 22 22 7 HT_.out ?_; refine pu_ 3 23 22 15 HT_.out ?_; refine pu_ 4 24 22 31 HT_.out ?_; refine pu_ 6 26 22 95 HT_.out ?_; refine pu_ 7 27 22 223 HT_.out ?_; refine pu_ 8 28 22 479 HT_.out ?_; refine pu_ 9 29 22 991 HT_.out ?_; refine pu_ 11 31 22 3039 HT_.out ?_; refine pu_ 12 32 22 7135 HT_.out ?_; refine pu_ 13 33 22 15327 HT_.out ?_; refine pu_ 14 34 22 31711 HT_.out ?_; refine pu_ 16 36 22 97247 HT_.out ?_; refine ta_ 5 25 22 97279 rfl rfl HT_.out HW_.out hHeld (by rintro w' ⟨s0,s1,s2⟩; go_simp; with_reducible rfl) ?_; refine ta_ 10 30 22 98303 rfl rfl HT_.out HW_.out hHeld (by rintro w' ⟨s0,s1,s2⟩; go_simp; with_reducible rfl) ?_; refine ta_ 15 35 22 131071 rfl rfl HT_.out HW_.out hHeld (by rintro w' ⟨s0,s1,s2⟩; go_simp; with_reducible rfl) ?_; refine pu_ 17 37 22 262143 HT_.out ?_
   refine one_ (i := 18) (N := some 38) (bts 22 524287) rfl rfl (one_of HT_.out (by kernel_rfl)) (by decide) (fun K hK => ?_)
   refine goesF_ Try.func45 (by kernel_rfl) rfl #[.pointer (some ⟨c_,0,none⟩),.int .i64 (wrap64 (a0.First + x17_1))] (by rfl) rfl rfl (by rfl) (by (try simp only [List.map_toArray,List.map_cons,List.map_nil]); first | done | rfl | (simp only [List.length_drop,List.length_take]; rfl) | (simp [Act.eval,IntKind.wrap_u8,IntKind.wrap_u32]; done)) ?_
   with_reducible refine (gT_Exp.calls b_ p_ c_ d_ g_ a0 (wrap64 (a0.First + x17_1)) t261 _ ?side1 A15.out).mono ?_
   (case side1 => exact (rs_At_below HT0.out HB.out))
   rintro e w' ⟨rfl,⟨nd,rfl⟩⟩
   refine ⟨_,rfl,?_⟩
   refine hK.out _ _ ⟨((HB.out.cell (World.block_lt_of_cell? w _ ho12)).trans ho12),((HB.out.cell (World.block_lt_of_cell? w _ ho13)).trans ho13),((HB.out.cell (World.block_lt_of_cell? w _ ho14)).trans ho14)⟩ (fun hHeld => ?_)
   clear hK K
   refine norm_ (a' := ?_) ?_ ?_
   rotate_left
   ·show Act.put _ (some 38) _ = _
    simp only [Act.put,List.setIfInBounds_toArray,List.set_cons_zero,List.set_cons_succ,i64_w,i32_w]
    rfl
   refine one_ (i := 19) (N := some 39) (bts 22 1048575) rfl rfl (one_of HT_.out (by kernel_rfl)) (by decide) (fun K hK => ?_)
   refine goesF_ Try.func50 (by kernel_rfl) rfl #[.slice A1 l1.length c1,.int .u8 t261,.pointer (some ⟨p_,0,none⟩)] (by rfl) rfl rfl (by rfl) (by (try simp only [List.map_toArray,List.map_cons,List.map_nil]); first | done | rfl | (simp only [List.length_drop,List.length_take]; rfl) | (simp [Act.eval,IntKind.wrap_u8,IntKind.wrap_u32]; done)) ?_
   with_reducible refine (reedsol_open_3.calls k1 b_ p_ c_ d_ g_ a0 _ _ l1 t261 t262 _ ?side1 ?side2 ?side3 A16.out).mono ?_
   (case side1 => exact (rs_At_below HT0.out (mvh HB.out)))
   (case side2 => exact Kd.C_below HR1.out (mvh HB.out))
   (case side3 => exact HC1.out)
   rintro e w23 ⟨rfl,hb⟩
   refine ⟨_,rfl,?_⟩
   have n0_ := aK (Kd.R_below (mvR HO_6.out) hb)
   have n1_ := aK (below_step (mvh HB.out) hb)
   clear HO_6 HB
   have HO_6 := n0_
   have HB := n1_
   clear n0_ n1_
   (try clear hb)
   have p19 : 0 ≤ (x17_1 : Int) := oD
   have q19 : (x17_1 : Int) < ((x6_1.length : Int) : Int) := oD
   obtain ⟨go19,co19,eo19,gb19,gl19,cl19,HG19⟩ := Kd.R_form HO_6.out (by omega)
   (first | cases eo19 | (injection eo19 with ea_ en_ ec_; (first | subst ea_ | (injection ea_ with ea_; subst ea_)); subst ec_; clear en_))
   have GB19 := Aside0.mk gb19
   have GG19 := Aside0.mk HG19
   clear gb19 gl19 HG19
   obtain ⟨hx19_0,hf19_0⟩ := Kd.R_celln 0 HO_6.out (x17_1 : Int) p19 q19
   replace p19 := eq_true p19
   replace q19 := eq_true q19
   have HP24 := Kd.R_putn HO_6.out (x17_1 : Int) t262
   rw [← Ny263.out] at HP24
   have HQ24 := Aside0.mk HP24
   clear HP24
   refine hK.out _ _ ⟨((HB.out.cell (World.block_lt_of_cell? w _ ho12)).trans ho12),((HB.out.cell (World.block_lt_of_cell? w _ ho13)).trans ho13),((HB.out.cell (World.block_lt_of_cell? w _ ho14)).trans ho14)⟩ (fun hHeld => ?_)
   clear hK K
   refine norm_ (a' := ?_) ?_ ?_
   rotate_left
   ·show Act.put _ (some 39) _ = _
    simp only [Act.put,List.setIfInBounds_toArray,List.set_cons_zero,List.set_cons_succ,i64_w,i32_w]
    rfl
   refine pu_ 20 40 22 2097151 HT_.out ?_
   refine last_ (i := 21) (N := none) (bts 22 4194303) rfl rfl (one_of HT_.out (by kernel_rfl)) (by decide) (fun K hK => ?_)
   refine skip_ (w1 := ?_) (by rfl) rfl ?_ ?_
   rotate_left
   ·go_simp
    rfl
   refine hK.out _ _ ?_
   clear hK K
   refine done_ (done_of HT_.out (by kernel_rfl)) ?_
   have p21 : 0 ≤ (x17_1 : Int) := oD
   have q21 : (x17_1 : Int) < ((x6_1.length : Int) : Int) := oD
   replace p21 := eq_true p21
   replace q21 := eq_true q21
   try go_wp2
   (try simp only [← hl6_1])
   go_roundg k1
   case measure => have := HK1.out; omega
   case rel => exact ⟨(y263),((t262 == 0)),(wrap64 (x17_1 + 1)),(by first | rfl | (simp; done) | (simp [*]; done) | (simp [wrap64]; done)),(by first | rfl | (simp; done) | (simp [*]; done) | (simp [wrap64]; done)),H',⟨by have := HK1.out; omega⟩,⟨by (try simp only [hl6_1]); exact mvR HQ24.out⟩,⟨by repeat (first | (with_reducible first | exact HB.out | apply below_alloc | apply pw_below_drewN | apply below_drew1 | refine below_set ?_ GB19.out) | exact HB.out)⟩⟩
end Go.Proofs.Ytpgecdidddoglaa.P

