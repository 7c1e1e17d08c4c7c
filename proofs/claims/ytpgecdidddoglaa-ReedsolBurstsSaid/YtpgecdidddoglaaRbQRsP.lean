/- Reedsol: data in rows that are woven, each row encoded, and mended again: Stripe and Unstripe in plain numbers. -/
import Derived.Test.YtpgecdidddoglaaRbPx18
import Derived.Test.YtpgecdidddoglaaRbQRsW
import Derived.Test.YtpgecdidddoglaaRbPx19
import Derived.Test.YtpgecdidddoglaaRbPx20
set_option linter.unusedVariables false
set_option linter.unusedSimpArgs false
namespace Go.Proofs.Ytpgecdidddoglaa.GalP
open Go.RowKit Go.Proofs.Ytpgecdidddoglaa.P Go.Proofs.YtpgecdidddoglaaW.PrintWords Go.Proofs.YtpgecdidddoglaaW.PrintLast Go.Proofs.YtpgecdidddoglaaW.PrintMore Go.Proofs.YtpgecdidddoglaaW.Q
open Go.Proofs.Ytpgecdidddoglaa.Gal
def rowN (R : Nat) (X : List Nat) (i : Nat) : List Nat := (List.range (X.length / R)).map (fun k => X.getD (k * R + i) 0)
theorem rowN_length (R : Nat) (X : List Nat) (i : Nat) : (rowN R X i).length = X.length / R := by unfold rowN; rw [List.length_map,List.length_range]
theorem rowN_getD {R : Nat} {X : List Nat} {i k : Nat} (h : k < X.length / R) : (rowN R X i).getD k 0 = X.getD (k * R + i) 0 := by
  unfold rowN
  rw [List.getD_eq_getElem?_getD,List.getElem?_map,List.getElem?_range h]
  rfl
theorem getD_ltb {B : List Nat} {b : Nat} (h : ∀ x ∈ B,x < b) (h0 : 0 < b) (i : Nat) : B.getD i 0 < b := by
  rw [List.getD_eq_getElem?_getD]
  cases e : B[i]? with
  | none => exact h0
  | some x => exact h x (List.mem_of_getElem? e)
theorem rowN_lt {b : Nat} {X : List Nat} (h : ∀ y ∈ X,y < b) (h0 : 0 < b) (R i : Nat) : ∀ y ∈ rowN R X i,y < b := by
  intro y hy
  unfold rowN at hy
  obtain ⟨k,_,rfl⟩ := List.mem_map.1 hy
  exact getD_ltb h h0 _
def tog (L R : Nat) (W : List (List Nat)) : List Nat := (List.range (L * R)).map (fun q => (W.getD (q % R) []).getD (q / R) 0)
theorem tog_length (L R : Nat) (W : List (List Nat)) : (tog L R W).length = L * R := by unfold tog; rw [List.length_map,List.length_range]
theorem tog_getD {L R : Nat} {W : List (List Nat)} {q : Nat} (h : q < L * R) : (tog L R W).getD q 0 = (W.getD (q % R) []).getD (q / R) 0 := by
  unfold tog
  rw [List.getD_eq_getElem?_getD,List.getElem?_map,List.getElem?_range h]
  rfl
theorem place_lt {R L k j : Nat} (hk : k < L) (hj : j < R) : k * R + j < L * R := by
  have := Nat.mul_le_mul_right R (show k + 1 ≤ L from hk)
  rw [Nat.succ_mul] at this
  omega
theorem place_mod {R k j : Nat} (hj : j < R) : (k * R + j) % R = j ∧ (k * R + j) / R = k := by
  constructor
  · rw [Nat.mul_comm,Nat.mul_add_mod,Nat.mod_eq_of_lt hj]
  · rw [Nat.mul_comm,Nat.mul_add_div (by omega),Nat.div_eq_of_lt hj,Nat.add_zero]
theorem row_tog {L R : Nat} {W : List (List Nat)} {j : Nat} (hj : j < R) (hl : (W.getD j []).length = L) : rowN R (tog L R W) j = W.getD j [] := by
  have h1 : (tog L R W).length / R = L := by rw [tog_length,Nat.mul_div_cancel _ (by omega)]
  refine list_ext_getD (by rw [rowN_length,h1,hl]) (fun k => ?_)
  by_cases hk : k < L
  · rw [rowN_getD (by omega),tog_getD (place_lt hk hj),(place_mod hj).1,(place_mod hj).2]
  · rw [getD_over _ _ (by rw [rowN_length,h1]; omega),getD_over _ _ (by omega)]
theorem tog_rows {R c : Nat} {X : List Nat} (hR : 0 < R) (hX : X.length = c * R) : tog c R ((List.range R).map (rowN R X)) = X := by
  have h1 : X.length / R = c := by rw [hX,Nat.mul_div_cancel _ hR]
  refine list_ext_getD (by rw [tog_length,hX]) (fun q => ?_)
  by_cases hq : q < c * R
  · have hm := Nat.mod_lt q hR
    have hd : q / R < c := Nat.div_lt_of_lt_mul (by rw [Nat.mul_comm]; exact hq)
    rw [tog_getD hq]
    have e : ((List.range R).map (rowN R X)).getD (q % R) [] = rowN R X (q % R) := by
      rw [List.getD_eq_getElem?_getD,List.getElem?_map,List.getElem?_range hm]
      rfl
    rw [e,rowN_getD (by omega),Nat.mul_comm,Nat.div_add_mod]
  · rw [getD_over _ _ (by rw [tog_length]; omega),getD_over _ _ (by omega)]
theorem map_range_getD {R i : Nat} (g : Nat → List Nat) (h : i < R) : ((List.range R).map g).getD i [] = g i := by
  rw [List.getD_eq_getElem?_getD,List.getElem?_map,List.getElem?_range h]
  rfl
theorem ap_l {X : List Nat} {R c i : Nat} (hX : X.length = c * R) (hi : i < R) (hl : X.length ≤ 140737488351232) (hR : R ≤ 140737488351232) (d : Nat) : ∀ j : Nat,j + d = c →
    Ev (fun k => reedsol_apart.l0 k (ints X) (R : Int) (ints ((rowN R X i).take j)) ((j * R + i : Nat) : Int)) (ints (rowN R X i)) := by
  have h1 : X.length / R = c := by rw [hX,Nat.mul_div_cancel _ (by omega)]
  have lr := rowN_length R X i
  have hc : c ≤ c * R := Nat.le_mul_of_pos_right _ (by omega)
  induction d with
  | zero =>
    intro j hj
    have : j = c := by omega
    subst this
    refine Ev.succ ?_
    simp only [reedsol_apart.l0]
    refine ev_neg (by rw [ints_length]; omega) ?_
    rw [List.take_of_length_le (by omega)]
    exact Ev.now _
  | succ d ih =>
    intro j hj
    have hp := place_lt (show j < c by omega) hi
    have e1 : wrap64 (((j * R + i : Nat) : Int) + (R : Int)) = (((j + 1) * R + i : Nat) : Int) := by
      rw [w64 (by omega) (by omega),Nat.succ_mul]
      omega
    have e2 : ints ((rowN R X i).take j) ++ [rd (ints X) ((j * R + i : Nat) : Int)] = ints ((rowN R X i).take (j + 1)) := by
      rw [take_one _ _ (by omega),rowN_getD (by omega),rd_ints,ints_append]
      rfl
    refine Ev.succ ?_
    simp only [reedsol_apart.l0]
    rw [e1,e2]
    clear e1 e2
    exact ev_pos (by rw [ints_length]; omega) (ev_pos (by omega) (ev_pos (by rw [ints_length,List.length_take]; omega) (ih (j + 1) (by omega))))
theorem ap_f {X : List Nat} {R c i : Nat} (hX : X.length = c * R) (hi : i < R) (hl : X.length ≤ 140737488351232) (hR : R ≤ 140737488351232) : Ev (fun k => reedsol_apart.f k (ints X) (i : Int) (R : Int)) (ints (rowN R X i)) := by
  unfold reedsol_apart.f
  have := ap_l hX hi hl hR c 0 (by omega)
  rw [Nat.zero_mul,Nat.zero_add] at this
  exact this
section
variable {W : List (List Nat)} {R L : Nat} (hR : W.length = R) (hL : ∀ j,j < R → (W.getD j []).length = L) (hb : L * R ≤ 1000000) (hR2 : R ≤ 1000000) (h0 : 0 < R)
include hR hL hb hR2 h0
theorem to_l1 {k : Nat} (hk : k < L) {r : List Int} (cont : Ev (fun n => reedsol_together.l0 n (W.map ints) (ints ((tog L R W).take ((k + 1) * R))) (L : Int) ((k + 1 : Nat) : Int)) r) (d : Nat) : ∀ j : Nat,j + d = R →
    Ev (fun n => reedsol_together.l1 n (W.map ints) (ints ((tog L R W).take (k * R + j))) (k : Int) (L : Int) (k : Int) (W.map ints) ((W.map ints).length : Int) (j : Int)) r := by
  have lt := tog_length L R W
  have lw : (W.map ints).length = R := by rw [List.length_map]; exact hR
  induction d with
  | zero =>
    intro j hj
    have e : k * R + j = (k + 1) * R := by rw [Nat.succ_mul]; omega
    have kL : L ≤ L * R := Nat.le_mul_of_pos_right L h0
    refine Ev.succ ?_
    simp only [reedsol_together.l1]
    rw [e]
    refine ev_neg (by omega) ?_
    rw [show wrap64 ((k : Int) + 1) = ((k + 1 : Nat) : Int) from w64s (by omega)]
    exact cont
  | succ d ih =>
    intro j hj
    have hjR : j < R := by omega
    have hp := place_lt hk hjR
    have h1 := hL j hjR
    have e2 : ints ((tog L R W).take (k * R + j)) ++ [rd (ints (W.getD j [])) (k : Int)] = ints ((tog L R W).take (k * R + (j + 1))) := by
      rw [← Nat.add_assoc,take_one _ _ (by omega),tog_getD hp,(place_mod hjR).1,(place_mod hjR).2,rd_ints,ints_append]
      rfl
    refine Ev.succ ?_
    simp only [reedsol_together.l1]
    rw [rd_L1_ints,e2,ints_length,ints_length]
    clear e2
    rw [show wrap64 ((j : Int) + 1) = ((j + 1 : Nat) : Int) from w64s (by omega)]
    exact ev_pos (by omega) (ev_pos (by omega) (ev_pos (by omega) (ev_pos (by omega) (ev_pos (by omega) (ev_pos (by rw [List.length_take]; omega) (ih (j + 1) (by omega)))))))
theorem to_l0 (d : Nat) : ∀ k : Nat,k + d = L → Ev (fun n => reedsol_together.l0 n (W.map ints) (ints ((tog L R W).take (k * R))) (L : Int) (k : Int)) (ints (tog L R W)) := by
  have lt := tog_length L R W
  induction d with
  | zero =>
    intro k hk
    have : k = L := by omega
    subst this
    refine Ev.succ ?_
    simp only [reedsol_together.l0]
    refine ev_neg (by omega) ?_
    rw [List.take_of_length_le (by omega)]
    exact Ev.now _
  | succ d ih =>
    intro k hk
    refine Ev.succ ?_
    simp only [reedsol_together.l0]
    refine ev_pos (by omega) ?_
    exact to_l1 hR hL hb hR2 h0 (by omega) (ih (k + 1) (by omega)) R 0 (by omega)
theorem to_f : Ev (fun n => reedsol_together.f n (W.map ints)) (ints (tog L R W)) := by
  have lw : (W.map ints).length = R := by rw [List.length_map]; exact hR
  unfold reedsol_together.f
  refine ev_pos (by omega) ?_
  rw [show (0 : Int) = ((0 : Nat) : Int) from rfl,rd_L1_ints,ints_length,hL 0 h0]
  have := to_l0 hR hL hb hR2 h0 L 0 (by omega)
  rw [Nat.zero_mul] at this
  exact this
end
def fillL (S : List (List Nat)) (R i : Nat) : List (List Nat) := S.take i ++ List.replicate (R - i) []
theorem fillL_length {S : List (List Nat)} {R i : Nat} (hS : S.length = R) (h : i ≤ R) : (fillL S R i).length = R := by
  unfold fillL
  rw [List.length_append,List.length_take,List.length_replicate]
  omega
theorem fillL_set {S : List (List Nat)} {R i : Nat} (hS : S.length = R) (h : i < R) : (fillL S R i).set i (S.getD i []) = fillL S R (i + 1) := by
  unfold fillL
  have lt : (S.take i).length = i := by rw [List.length_take]; omega
  have hr : List.replicate (R - i) ([] : List Nat) = [] :: List.replicate (R - (i + 1)) [] := by
    rw [show R - i = (R - (i + 1)) + 1 by omega,List.replicate_succ]
  have et : S.take (i + 1) = S.take i ++ [S.getD i []] := by
    rw [List.take_add_one,List.getD_eq_getElem?_getD,List.getElem?_eq_getElem (by omega)]
    rfl
  rw [List.set_append_right _ _ (by omega),hr,lt,Nat.sub_self,List.set_cons_zero,et,List.append_assoc]
  rfl
theorem fillL_all {S : List (List Nat)} {R : Nat} (hS : S.length = R) : fillL S R R = S := by
  unfold fillL
  rw [Nat.sub_self,List.replicate_zero,List.append_nil,List.take_of_length_le (by omega)]
theorem fillL_none (S : List (List Nat)) (R : Nat) : (fillL S R 0).map ints = List.replicate R [] := by
  unfold fillL
  rw [List.take_zero,List.nil_append,Nat.sub_zero,List.map_replicate]
  rfl
theorem set_fill {S : List (List Nat)} {R i : Nat} (hS : S.length = R) (h : i < R) {y : List Nat} (hy : S.getD i [] = y) : ((fillL S R i).map ints).set ((i : Int)).toNat (ints y) = (fillL S R (i + 1)).map ints := by
  rw [Int.toNat_natCast,← fillL_set hS h,hy,List.map_set]
def strW (p m f n R : Nat) (D : List Nat) : List (List Nat) := (List.range R).map (fun i => encN p m f n (rowN R D i))
def strN (p m f n R : Nat) (D : List Nat) : List Nat := tog (D.length / R + n) R (strW p m f n R D)
theorem strW_length (p m f n R : Nat) (D : List Nat) : (strW p m f n R D).length = R := by unfold strW; rw [List.length_map,List.length_range]
theorem strW_getD (p m f n : Nat) {R : Nat} (D : List Nat) {i : Nat} (h : i < R) : (strW p m f n R D).getD i [] = encN p m f n (rowN R D i) := map_range_getD _ h
theorem strW_long (p m f n : Nat) {R : Nat} (D : List Nat) : ∀ i,i < R → ((strW p m f n R D).getD i []).length = D.length / R + n := fun i h => by rw [strW_getD p m f n D h,encN_length,rowN_length]
section
variable {m p f n : Nat} (C : Cd m p f n)
include C
theorem st_l0 {D : List Nat} {R c : Nat} (hX : D.length = c * R) (hD : ∀ y ∈ D,y < 2 ^ m) (hc : c + n ≤ 2 ^ m - 1) (hR : 0 < R) (hR2 : R ≤ 64) (d : Nat) : ∀ i : Nat,i + d = R →
    Ev (fun k => reedsol_Stripe.l0 k (ints D) (R : Int) (cod m p f n) ((fillL (strW p m f n R D) R i).map ints) (R : Int) (i : Int)) (ints (strN p m f n R D),0) := by
  have s256 := C.F.sz256
  have h1 : D.length / R = c := by rw [hX,Nat.mul_div_cancel _ hR]
  have hcR : c * R ≤ 256 * 64 := Nat.mul_le_mul (by omega) hR2
  have hcR2 : (D.length / R + n) * R ≤ 256 * 64 := Nat.mul_le_mul (by omega) hR2
  have lS := strW_length p m f n R D
  induction d with
  | zero =>
    intro i hi
    have : i = R := by omega
    subst this
    refine Ev.succ ?_
    simp only [reedsol_Stripe.l0]
    refine ev_neg (by omega) ?_
    rw [fillL_all lS]
    exact Ev.bind (to_f lS (strW_long p m f n D) (by omega) (by omega) hR) (Ev.now _)
  | succ d ih =>
    intro i hi
    have hiR : i < R := by omega
    have lf : ((fillL (strW p m f n R D) R i).map ints).length = R := by rw [List.length_map]; exact fillL_length lS (by omega)
    have hr := rowN_lt hD C.F.zero_lt R i
    refine Ev.succ ?_
    simp only [reedsol_Stripe.l0]
    refine ev_pos (by omega) (Ev.bind (ap_f hX hiR (by omega) (by omega)) (Ev.bind (enc_f C hr (by rw [rowN_length]; omega)) (ev_pos (by omega) (ev_pos (by omega) ?_))))
    rw [set_fill lS hiR (strW_getD p m f n D hiR),show wrap64 ((i : Int) + 1) = ((i + 1 : Nat) : Int) from w64s (by omega)]
    exact ih (i + 1) (by omega)
theorem Str_ok {D : List Nat} {R c : Nat} (hX : D.length = c * R) (hD : ∀ y ∈ D,y < 2 ^ m) (hc : c + n ≤ 2 ^ m - 1) (hR : 0 < R) (hR2 : R ≤ 64) :
    Ev (fun k => reedsol_Stripe.f k (m : Int) (p : Int) (f : Int) (n : Int) (ints D) (R : Int)) (ints (strN p m f n R D),0) := by
  have s8 := C.F.sz8
  have s256 := C.F.sz256
  have n2 := C.n2
  have h1 : D.length / R = c := by rw [hX,Nat.mul_div_cancel _ hR]
  have hcR : c * R ≤ 256 * 64 := Nat.mul_le_mul (by omega) hR2
  have e1 : ((ints D).length : Int) % (R : Int) = 0 := by
    rw [ints_length,hX]
    have : ((c * R : Nat) : Int) % (R : Int) = ((c * R % R : Nat) : Int) := by omega
    rw [this,Nat.mul_mod_left]
    rfl
  have e2 : wrap64 (((ints D).length : Int) / (R : Int)) = (c : Int) := by
    rw [ints_length]
    have : ((D.length : Nat) : Int) / (R : Int) = ((D.length / R : Nat) : Int) := by omega
    rw [this,h1]
    clear this e1
    exact w64 (by omega) (by omega)
  have e3 : wrap64 (wrap64 (((cod m p f n).size : Int) - 1) - (n : Int)) = ((2 ^ m - 1 - n : Nat) : Int) := by
    have z : wrap64 (((cod m p f n).size : Int) - 1) = ((2 ^ m - 1 : Nat) : Int) := by rw [cod_size,w64 (by omega) (by omega)]; omega
    rw [z]
    clear z e1 e2
    rw [w64 (by omega) (by omega)]
    omega
  have all : D.all (fun x => decide (x < 2 ^ m)) = true := List.all_eq_true.2 (fun y hy => decide_eq_true (hD y hy))
  have rf := right_f C D (fun y hy => Nat.lt_of_lt_of_le (hD y hy) s256) (by omega)
  rw [all] at rf
  have g := st_l0 C hX hD hc hR hR2 R 0 (by omega)
  rw [fillL_none] at g
  unfold reedsol_Stripe.f
  refine Ev.bind (open_t C) (ev_pos rfl (ev_neg (by clear e1 e2 e3; omega) ?_))
  refine Ev.succ ?_
  simp only [reedsol_Stripe.j0]
  rw [e1,e2,e3,Int.toNat_natCast]
  clear e1 e2 e3
  refine ev_neg (fun h => by have := of_decide_eq_true h; omega) (ev_neg (by omega) (ev_pos rfl (ev_pos (by rw [cod_size]; omega) (ev_neg (by omega) (Ev.bind rf (ev_pos rfl (ev_pos (by omega) (ev_pos (by omega) (Ev.bind (Ev.now _) ?_)))))))))
  rw [List.length_replicate]
  exact g
end
def ownN (R : Nat) (er : List Int) (i : Nat) : List Int := (er.filter (fun e => decide (Int.tmod e (R : Int) = (i : Int)))).map (fun e => Int.tdiv e (R : Int))
theorem plN_in (len : Nat) (l : List Int) : ∀ g q z,plN len l g q = some z → ∀ e ∈ l,0 ≤ e ∧ e < (len : Int) := by
  induction l with
  | nil => intro g q z _ e h; cases h
  | cons x l ih =>
    intro g q z h e he
    rw [plN] at h
    by_cases c : x < 0 ∨ (len : Int) ≤ x
    · rw [if_pos c] at h; exact absurd h (by simp)
    · rw [if_neg c] at h
      rcases List.mem_cons.1 he with rfl | he
      · omega
      · split at h
        · exact ih _ _ _ h e he
        · exact ih _ _ _ h e he
theorem plN_some (len : Nat) (l : List Int) (h : ∀ e ∈ l,0 ≤ e ∧ e < (len : Int)) : ∀ g q,∃ z,plN len l g q = some z := by
  induction l with
  | nil => intro g q; exact ⟨_,rfl⟩
  | cons x l ih =>
    intro g q
    have hx := h x (List.mem_cons_self ..)
    have ih' := ih (fun e he => h e (List.mem_cons_of_mem _ he))
    rw [plN,if_neg (by omega)]
    split
    · exact ih' _ _
    · exact ih' _ _
theorem ownN_in {R L : Nat} (hR : 0 < R) {er : List Int} (h : ∀ e ∈ er,0 ≤ e ∧ e < ((L * R : Nat) : Int)) (i : Nat) : ∀ e ∈ ownN R er i,0 ≤ e ∧ e < (L : Int) := by
  intro e he
  unfold ownN at he
  obtain ⟨x,hx,rfl⟩ := List.mem_map.1 he
  obtain ⟨h1,h2⟩ := h x (List.mem_filter.1 hx).1
  obtain ⟨y,rfl⟩ := Int.eq_ofNat_of_zero_le h1
  have h3 : y < L * R := by omega
  have h4 : y / R < L := Nat.div_lt_of_lt_mul (by rw [Nat.mul_comm]; exact h3)
  rw [tdiv_nat]
  generalize y / R = z at h4 ⊢
  omega
theorem ownN_le (R : Nat) (er : List Int) (i : Nat) : (ownN R er i).length ≤ er.length := by
  unfold ownN
  rw [List.length_map]
  exact List.length_filter_le _ _
def plZ (R L : Nat) (er : List Int) (i : Nat) : List Bool × Nat := (plN L (ownN R er i) (List.replicate L false) 0).getD ([],0)
theorem plZ_eq {R L : Nat} (hR : 0 < R) {er : List Int} (h : ∀ e ∈ er,0 ≤ e ∧ e < ((L * R : Nat) : Int)) (i : Nat) : plN L (ownN R er i) (List.replicate L false) 0 = some (plZ R L er i) := by
  obtain ⟨z,hz⟩ := plN_some L _ (ownN_in hR h i) (List.replicate L false) 0
  unfold plZ
  rw [hz]
  rfl
def nearN (p m f n R : Nat) (W : List Nat) (er : List Int) (i : Nat) : List Nat × Bool := mendN p m f n (rowN R W i) (plZ R (W.length / R) er i).1 (plZ R (W.length / R) er i).2
def unsR (p m f n R : Nat) (W : List Nat) (er : List Int) (i : Nat) : List Nat := (if (nearN p m f n R W er i).2 = true then (nearN p m f n R W er i).1 else rowN R W i).take (W.length / R - n)
def unsW (p m f n R : Nat) (W : List Nat) (er : List Int) : List (List Nat) := (List.range R).map (unsR p m f n R W er)
def lostN (p m f n R : Nat) (W : List Nat) (er : List Int) : Nat → Nat
  | 0 => 0
  | i + 1 => lostN p m f n R W er i + (if (nearN p m f n R W er i).2 = true then 0 else 1)
theorem lostN_le (p m f n R : Nat) (W : List Nat) (er : List Int) : ∀ i,lostN p m f n R W er i ≤ i
  | 0 => Nat.le_refl _
  | i + 1 => by
    have := lostN_le p m f n R W er i
    rw [lostN]
    split <;> omega
theorem unsW_length (p m f n R : Nat) (W : List Nat) (er : List Int) : (unsW p m f n R W er).length = R := by unfold unsW; rw [List.length_map,List.length_range]
theorem unsW_getD (p m f n : Nat) {R : Nat} (W : List Nat) (er : List Int) {i : Nat} (h : i < R) : (unsW p m f n R W er).getD i [] = unsR p m f n R W er i := map_range_getD _ h
def unsN (p m f n R : Nat) (W : List Nat) (er : List Int) : List Nat := tog (W.length / R - n) R (unsW p m f n R W er)
section
variable {m p f n : Nat} (C : Cd m p f n) {W : List Nat} {R L : Nat} (hX : W.length = L * R) (hW : ∀ y ∈ W,y < 2 ^ m) (hL : L ≤ 2 ^ m - 1) (hn : n ≤ L) (hR : 0 < R) (hR2 : R ≤ 64)
include C hX hW hL hn hR hR2
omit hL hR2 in
theorem unsR_length (er : List Int) (i : Nat) : (unsR p m f n R W er i).length = L - n := by
  have h1 : W.length / R = L := by rw [hX,Nat.mul_div_cancel _ hR]
  unfold unsR
  rw [List.length_take,h1]
  split
  · rename_i h
    have := (mendN_ok C.F f n (rowN_lt hW C.F.zero_lt R i) _ _ h).2.1
    unfold nearN
    rw [this,rowN_length,h1]
    omega
  · rw [rowN_length,h1]
    omega
section
variable {er : List Int} (he : ∀ e ∈ er,0 ≤ e ∧ e < ((L * R : Nat) : Int)) (le : er.length ≤ 4611686018427387904)
include he le
theorem un_l1 {i : Nat} (hi : i < R) {r : List Int × Int × Int}
    (cont : Ev (fun k => reedsol_Unstripe.l0 k (ints W) (R : Int) er ((lostN p m f n R W er (i + 1) : Nat) : Int) (cod m p f n) ((L - n : Nat) : Int) ((fillL (unsW p m f n R W er) R (i + 1)).map ints) (R : Int) ((i + 1 : Nat) : Int)) r) (le2 : er.length < 17592186044416) (d : Nat) : ∀ j : Nat,j + d = er.length →
    Ev (fun k => reedsol_Unstripe.l1 k (ints W) (R : Int) er ((lostN p m f n R W er i : Nat) : Int) (cod m p f n) ((L - n : Nat) : Int) ((fillL (unsW p m f n R W er) R i).map ints) (i : Int) (ints (rowN R W i)) (ownN R (er.take j) i) (R : Int) (i : Int) er (er.length : Int) (j : Int)) r := by
  have s8 := C.F.sz8
  have s256 := C.F.sz256
  have n2 := C.n2
  have h1 : W.length / R = L := by rw [hX,Nat.mul_div_cancel _ hR]
  have hLR : L * R ≤ 256 * 64 := Nat.mul_le_mul (by omega) hR2
  have lr := rowN_length R W i
  have lS := unsW_length p m f n R W er
  have lf : ((fillL (unsW p m f n R W er) R i).map ints).length = R := by rw [List.length_map]; exact fillL_length lS (by omega)
  have lin := ints_length (rowN R W i)
  induction d with
  | zero =>
    intro j hj
    have ej : er.take j = er := List.take_of_length_le (by omega)
    have hz := plZ_eq hR he i
    have lz := plN_length _ _ _ _ _ hz
    rw [List.length_replicate] at lz
    have pf := places_f L (by omega) (ownN R er i) (by have := ownN_le R er i; omega)
    rw [hz] at pf
    have lzr : (plZ R L er i).1.length = (rowN R W i).length := by rw [lz,lr,h1]
    have hr := rowN_lt hW C.F.zero_lt R i
    have mf := mend_f C hr (by rw [lr,h1]; exact hL) lzr (fc := (plZ R L er i).2)
    have hnear : mendN p m f n (rowN R W i) (plZ R L er i).1 (plZ R L er i).2 = nearN p m f n R W er i := by unfold nearN; rw [h1]
    rw [hnear] at mf
    have ok := mendN_ok C.F f n hr (plZ R L er i).1 (plZ R L er i).2
    rw [hnear] at ok
    have hu := unsW_getD p m f n W er hi
    have ei : wrap64 ((i : Int) + 1) = ((i + 1 : Nat) : Int) := w64s (by omega)
    have hlost := lostN_le p m f n R W er i
    have eq : wrap64 (((lostN p m f n R W er i : Nat) : Int) + 1) = ((lostN p m f n R W er i + 1 : Nat) : Int) := by clear ei; exact w64s (by omega)
    refine Ev.succ ?_
    simp only [reedsol_Unstripe.l1]
    rw [ej,ei,eq,lin,lr,h1]
    clear ei eq
    refine ev_neg (by omega) (Ev.bind pf ?_)
    refine Ev.bind mf ?_
    unfold lostN at cont
    by_cases hb : (nearN p m f n R W er i).2 = true
    · have o2 := (ok hb).2.1
      rw [if_pos hb,Nat.add_zero] at cont
      have ey : unsR p m f n R W er i = (nearN p m f n R W er i).1.take (L - n) := by unfold unsR; rw [if_pos hb,h1]
      rw [ey] at hu
      refine ev_pos hb (ev_pos (by omega) (ev_pos (by rw [ints_length,o2,lr,h1]; omega) (ev_pos (by omega) (ev_pos (by omega) ?_))))
      rw [Int.toNat_natCast (L - n),ints_take,set_fill lS hi hu]
      exact cont
    · rw [if_neg hb] at cont
      have ey : unsR p m f n R W er i = (rowN R W i).take (L - n) := by unfold unsR; rw [if_neg hb,h1]
      rw [ey] at hu
      refine ev_neg hb (ev_pos (by omega) (ev_pos (by omega) (ev_pos (by omega) (ev_pos (by omega) ?_))))
      rw [Int.toNat_natCast (L - n),ints_take,set_fill lS hi hu]
      exact cont
  | succ d ih =>
    intro j hj
    have hjl : j < er.length := by omega
    have hm : rd er (j : Int) ∈ er := by
      unfold rd
      rw [Int.toNat_natCast,List.getD_eq_getElem?_getD,List.getElem?_eq_getElem hjl]
      exact List.getElem_mem hjl
    have et : er.take (j + 1) = er.take j ++ [rd er (j : Int)] := by
      unfold rd
      rw [Int.toNat_natCast,List.take_add_one,List.getElem?_eq_getElem hjl,List.getD_eq_getElem?_getD,List.getElem?_eq_getElem hjl]
      rfl
    have g := ih (j + 1) (by omega)
    obtain ⟨b1,b2⟩ := he _ hm
    have lo := ownN_le R (er.take j) i
    rw [List.length_take] at lo
    have ej : wrap64 ((j : Int) + 1) = ((j + 1 : Nat) : Int) := w64s (by omega)
    rw [et] at g
    refine Ev.succ ?_
    simp only [reedsol_Unstripe.l1]
    rw [ej]
    clear ej
    generalize rd er (j : Int) = x at g b1 b2
    have ed : wrap64 (Int.tdiv x (R : Int)) = Int.tdiv x (R : Int) := by
      obtain ⟨y,rfl⟩ := Int.eq_ofNat_of_zero_le b1
      have h3 : y < L * R := by omega
      have h4 := Nat.div_le_self y R
      rw [tdiv_nat]
      generalize y / R = z at h4 ⊢
      exact w64 (by omega) (by omega)
    refine ev_pos (by clear ed; omega) (ev_pos (by clear ed; omega) (ev_pos (by clear ed; omega) (ev_neg (by clear ed; omega) ?_)))
    by_cases c : Int.tmod x (R : Int) = (i : Int)
    · have e9 : ownN R (er.take j ++ [x]) i = ownN R (er.take j) i ++ [Int.tdiv x (R : Int)] := by
        unfold ownN
        rw [List.filter_append,List.map_append]
        simp [c]
      rw [e9] at g
      rw [ed]
      exact ev_pos c (ev_pos (by clear ed; omega) g)
    · have e9 : ownN R (er.take j ++ [x]) i = ownN R (er.take j) i := by
        unfold ownN
        rw [List.filter_append,List.map_append]
        simp [c]
      rw [e9] at g
      exact ev_neg c g
theorem un_l0 (le2 : er.length < 17592186044416) (d : Nat) : ∀ i : Nat,i + d = R →
    Ev (fun k => reedsol_Unstripe.l0 k (ints W) (R : Int) er ((lostN p m f n R W er i : Nat) : Int) (cod m p f n) ((L - n : Nat) : Int) ((fillL (unsW p m f n R W er) R i).map ints) (R : Int) (i : Int)) (ints (unsN p m f n R W er),((lostN p m f n R W er R : Nat) : Int),0) := by
  have s256 := C.F.sz256
  have h1 : W.length / R = L := by rw [hX,Nat.mul_div_cancel _ hR]
  have hLR : L * R ≤ 256 * 64 := Nat.mul_le_mul (by omega) hR2
  have hLR2 : (L - n) * R ≤ 256 * 64 := Nat.mul_le_mul (by omega) hR2
  have lS := unsW_length p m f n R W er
  induction d with
  | zero =>
    intro i hi
    have : i = R := by omega
    subst this
    have tf := to_f lS (L := L - n) (fun j hj => by rw [unsW_getD p m f n W er hj]; exact unsR_length C hX hW hn hR er j) (by omega) (by omega) hR
    refine Ev.succ ?_
    simp only [reedsol_Unstripe.l0]
    refine ev_neg (by omega) ?_
    rw [fillL_all lS]
    refine Ev.bind tf ?_
    unfold unsN
    rw [h1]
    exact Ev.now _
  | succ d ih =>
    intro i hi
    have hiR : i < R := by omega
    have g := un_l1 C hX hW hL hn hR hR2 he le hiR (ih (i + 1) (by omega)) le2 er.length 0 (by omega)
    refine Ev.succ ?_
    simp only [reedsol_Unstripe.l0]
    exact ev_pos (by omega) (Ev.bind (ap_f hX hiR (by omega) (by omega)) g)
omit he in
theorem Uns_ok {z : List Bool × Nat} (hz : plN W.length er (List.replicate W.length false) 0 = some z) (le2 : er.length < 17592186044416) :
    Ev (fun k => reedsol_Unstripe.f k (m : Int) (p : Int) (f : Int) (n : Int) (ints W) (R : Int) er) (ints (unsN p m f n R W er),((lostN p m f n R W er R : Nat) : Int),0) := by
  have s8 := C.F.sz8
  have s256 := C.F.sz256
  have n2 := C.n2
  have h1 : W.length / R = L := by rw [hX,Nat.mul_div_cancel _ hR]
  have hLR : L * R ≤ 256 * 64 := Nat.mul_le_mul (by omega) hR2
  have he : ∀ e ∈ er,0 ≤ e ∧ e < ((L * R : Nat) : Int) := by rw [← hX]; exact plN_in _ _ _ _ _ hz
  have lw := ints_length W
  have e1 : ((ints W).length : Int) % (R : Int) = 0 := by
    rw [lw,hX]
    have : ((L * R : Nat) : Int) % (R : Int) = ((L * R % R : Nat) : Int) := by omega
    rw [this,Nat.mul_mod_left]
    rfl
  have e2 : wrap64 (((ints W).length : Int) / (R : Int)) = (L : Int) := by
    rw [lw]
    have : ((W.length : Nat) : Int) / (R : Int) = ((W.length / R : Nat) : Int) := by omega
    rw [this,h1]
    clear this e1
    exact w64 (by omega) (by omega)
  have e3 : wrap64 (((cod m p f n).size : Int) - 1) = ((2 ^ m - 1 : Nat) : Int) := by
    clear e1 e2
    rw [cod_size,w64 (by omega) (by omega)]
    omega
  have e4 : wrap64 ((L : Int) - (n : Int)) = ((L - n : Nat) : Int) := by
    clear e1 e2 e3
    rw [w64 (by omega) (by omega)]
    omega
  have eP : (cod m p f n).Par = (n : Int) := rfl
  have all : W.all (fun x => decide (x < 2 ^ m)) = true := List.all_eq_true.2 (fun y hy => decide_eq_true (hW y hy))
  have rf := right_f C W (fun y hy => Nat.lt_of_lt_of_le (hW y hy) s256) (by clear e1 e2 e3 e4; omega)
  rw [all] at rf
  have sf : Ev (fun k => reedsol_code_striped.f k (cod m p f n) (ints W) (R : Int)) 0 := by
    unfold reedsol_code_striped.f
    refine ev_neg (by clear e1 e2 e3 e4; omega) ?_
    refine Ev.succ ?_
    simp only [reedsol_code_striped.j0]
    rw [e1,e2,eP]
    refine ev_neg (fun h => by have := of_decide_eq_true h; clear e1 e2 e3 e4; omega) (ev_neg (by clear e1 e2 e3 e4; omega) (ev_pos rfl (ev_pos (by rw [cod_size]; clear e1 e2 e3 e4; omega) ?_)))
    refine Ev.succ ?_
    simp only [reedsol_code_striped.j1]
    rw [e2,e3]
    clear e1 e2 e3 e4
    exact ev_neg (fun h => by have := of_decide_eq_true h; omega) (ev_neg (by omega) (ev_pos (by rw [cod_size]; omega) (ev_neg (by omega) (Ev.bind rf (ev_pos rfl (Ev.now _))))))
  have pf := places_f W.length (by clear e1 e2 e3 e4; omega) er le
  rw [hz] at pf
  have g := un_l0 C hX hW hL hn hR hR2 he le le2 R 0 (by omega)
  rw [fillL_none] at g
  unfold reedsol_Unstripe.f
  refine Ev.bind (open_t C) (ev_pos rfl (Ev.bind sf (ev_pos rfl ?_)))
  rw [lw] at e2 ⊢
  refine Ev.bind pf (ev_pos rfl (ev_neg (by clear e1 e2 e3 e4; omega) (ev_pos (by clear e1 e2 e3 e4; omega) (ev_pos (by clear e1 e2 e3 e4; omega) (Ev.bind (Ev.now _) ?_)))))
  rw [e2,e4,Int.toNat_natCast,List.length_replicate]
  exact g
end
end
end Go.Proofs.Ytpgecdidddoglaa.GalP
