/- For every code and all data: two unlike code words of one length are unlike in more places than the parity; each place of the generator counts. The plain law of ReedsolApart; no condition. -/
import Derived.Test.YtdhnjnkjhfomiaaRpPx95
import Derived.Test.YtdhnjnkjhfomiaaRpQRsK
import Derived.Test.YtdhnjnkjhfomiaaRpQRsE
import Derived.Lib.Bytes
set_option linter.unusedVariables false
set_option linter.unusedSimpArgs false
namespace Go.Proofs.Ytdhnjnkjhfomiaa.Pure
open Go.RowKit Go.Proofs.Ytdhnjnkjhfomiaa.P Go.Proofs.YtdhnjnkjhfomiaaW.PrintWords Go.Proofs.YtdhnjnkjhfomiaaW.PrintLast Go.Proofs.YtdhnjnkjhfomiaaW.Q Go.Proofs.Ytdhnjnkjhfomiaa.GalP Go.Proofs.Ytdhnjnkjhfomiaa.Gal
theorem str_inj {A B : List Nat} (hA : ∀ x ∈ A,x < 256) (hB : ∀ x ∈ B,x < 256) (h : (strOfNums (ints A)).toList = (strOfNums (ints B)).toList) : A = B := by
  have e : ∀ (C : List Nat),(∀ x ∈ C,x < 256) → (strOfNums (ints C)).toList.map UInt8.toNat = C := fun C hC => by
    rw [Lib.strOfNums_toList]
    unfold Lib.bytesOf ints
    rw [List.map_map,List.map_map]
    calc C.map (UInt8.toNat ∘ _) = C.map id := List.map_congr_left (fun x hx => by
          have := hC x hx
          simp [Nat.mod_eq_of_lt this])
      _ = C := List.map_id C
  rw [← e A hA,h,e B hB]
theorem nz_drop {a b : List Nat} (hl : a.length = b.length) (i : Nat) (h : i < a.length) : nz ((zx a b).drop i) = (if a.getD i 0 = b.getD i 0 then 0 else 1) + nz ((zx a b).drop (i + 1)) := by
  rw [drop_get (by rw [zx_length hl]; exact h),nz,zx_getD hl]
  by_cases c : a.getD i 0 = b.getD i 0
  · rw [c,Nat.xor_self,if_pos rfl,if_pos rfl]
  · rw [if_neg (fun e => c (xor_eq_zero e)),if_neg c]
section
variable {m p f n : Nat} (C : Cd m p f n) {X Y U V G : List Nat} {N : Nat} (hN : N ≤ X.length ∧ N ≤ Y.length) (hX : ∀ x ∈ X,x < 256) (hY : ∀ x ∈ Y,x < 256)
  (hu : U.length = V.length) (lU : U.length ≤ 1000) (hG : ∀ i,i < G.length → G.getD i 0 ≠ 0) (lG : G.length ≤ 1000)
  (far : X.take N = Y.take N ∧ nz (zx U V) = 0 ∨ X.take N ≠ Y.take N ∧ n < nz (zx U V))
include hN hX hY hG lG far
theorem apart_l1 (d : Nat) : ∀ i : Nat,i + d = G.length → Ev (fun k => l4_ReedsolApart.l1 k (ints X) (ints Y) (N : Int) (ints G) ((nz (zx U V) : Nat) : Int) (i : Int) (m : Int) (p : Int) (f : Int) (n : Int)) true := by
  induction d with
  | zero =>
    intro i hi
    have tx : (ints X).take ((N : Int)).toNat = ints (X.take N) := by rw [Int.toNat_natCast,ints_take]
    have ty : (ints Y).take ((N : Int)).toNat = ints (Y.take N) := by rw [Int.toNat_natCast,ints_take]
    refine Ev.succ ?_
    simp only [l4_ReedsolApart.l1]
    refine ev_neg (by rw [ints_length]; omega) (ev_pos (by omega) (ev_pos (by rw [ints_length]; omega) (ev_pos (by rw [ints_length]; omega) ?_)))
    rw [tx,ty]
    rcases far with ⟨h1,h2⟩ | ⟨h1,h2⟩
    · rw [h1,h2]
      exact ev_pos rfl (ev_pos rfl (Ev.now _))
    · have hs : ¬ ((strOfNums (ints (X.take N))).toList = (strOfNums (ints (Y.take N))).toList) := fun e => h1 (str_inj (fun y hy => hX y (List.mem_of_mem_take hy)) (fun y hy => hY y (List.mem_of_mem_take hy)) e)
      refine ev_neg hs (ev_neg hs ?_)
      exact ev_const (by rw [decide_eq_true (by omega)])
  | succ d ih =>
    intro i hi
    have h0 := hG i (by omega)
    refine Ev.succ ?_
    simp only [l4_ReedsolApart.l1]
    refine ev_pos (by rw [ints_length]; omega) (ev_pos (by omega) (ev_neg (by rw [rd_ints]; omega) ?_))
    rw [show wrap64 ((i : Int) + 1) = ((i + 1 : Nat) : Int) from w64s (by omega)]
    exact ih (i + 1) (by omega)
include hu lU
theorem apart_l0 (d : Nat) : ∀ i : Nat,i + d = U.length → ∀ q : Nat,q + nz ((zx U V).drop i) = nz (zx U V) → Ev (fun k => l4_ReedsolApart.l0 k (ints X) (ints Y) (N : Int) (ints U) (ints V) (ints G) (q : Int) (i : Int) (m : Int) (p : Int) (f : Int) (n : Int)) true := by
  have lz := zx_length hu
  have nl := nz_le_length (zx U V)
  induction d with
  | zero =>
    intro i hi q hq
    have e0 : (zx U V).drop i = [] := List.drop_of_length_le (by omega)
    rw [e0,show nz [] = 0 from rfl,Nat.add_zero] at hq
    subst hq
    refine Ev.succ ?_
    simp only [l4_ReedsolApart.l0]
    refine ev_neg (by rw [ints_length]; omega) ?_
    exact apart_l1 hN hX hY hG lG far G.length 0 (by omega)
  | succ d ih =>
    intro i hi q hq
    have hil : i < U.length := by omega
    have hd := nz_drop hu i hil
    have c1 : (i : Int) < ((ints U).length : Int) := by rw [ints_length]; omega
    have c2 : (0 : Int) ≤ (i : Int) := by omega
    have c3 : (i : Int) < ((ints V).length : Int) := by rw [ints_length]; omega
    refine Ev.succ ?_
    simp only [l4_ReedsolApart.l0]
    refine ev_pos c1 (ev_pos c2 (ev_pos c3 ?_))
    have e : wrap64 ((i : Int) + 1) = ((i + 1 : Nat) : Int) := w64s (by omega)
    rw [rd_ints,rd_ints,e]
    clear e
    by_cases c : U.getD i 0 = V.getD i 0
    · rw [if_pos c] at hd
      refine ev_pos (by rw [c]) (ih (i + 1) (by omega) q (by omega))
    · rw [if_neg c] at hd
      refine ev_neg (fun h => c (Int.ofNat_inj.1 h)) ?_
      rw [show wrap64 ((q : Int) + 1) = ((q + 1 : Nat) : Int) from w64s (by omega)]
      exact ih (i + 1) (by omega) (q + 1) (by omega)
end
theorem ReedsolApart : l4_ReedsolApart.Pure := by
  intro M P A B l1 l2 hM hP hA hB ml sl hl ml2 sl2 hl2
  obtain ⟨W,rfl,hW⟩ := bytes_of hl
  obtain ⟨V,rfl,hV⟩ := bytes_of hl2
  rw [ints_length] at ml sl ml2 sl2
  have lw : W.length ≤ 9223372036854775806 := by omega
  have lv : V.length ≤ 9223372036854775806 := by omega
  refine Ev.rounds (g := fun k => l4_ReedsolApart.f k M P A B (ints W) (ints V)) ?_
  unfold l4_ReedsolApart.f
  obtain ⟨c,g1,g2,hc⟩ := checks_f M P A B (wf_i64 hM) (wf_u64 hP)
  rcases hc with hc | ⟨rfl,m,p,f,n,rfl,rfl,rfl,rfl,C⟩
  · refine Ev.bind g2 (ev_neg hc ?_)
    refine Ev.succ ?_
    simp only [l4_ReedsolApart.j0]
    exact ev_pos trivial (Ev.bind knows_f (Ev.now _))
  · have s8 := C.F.sz8
    have s256 := C.F.sz256
    have n1 := C.n1
    have n2 := C.n2
    have hX := elN_lt (m := m) (n := n) C.F.zero_lt W
    have hY := elN_lt (m := m) (n := n) C.F.zero_lt V
    have lX := elN_length m n W
    have lY := elN_length m n V
    have kx := el_f C W hW lw
    have ky := el_f C V hV lv
    generalize elN m n W = X at hX lX kx
    generalize elN m n V = Y at hY lY ky
    have mnN : ∃ N : Nat,mn (X.length : Int) (Y.length : Int) = (N : Int) ∧ N ≤ X.length ∧ N ≤ Y.length := ⟨_,mn_nat _ _,Nat.min_le_right _ _,Nat.min_le_left _ _⟩
    obtain ⟨N,eN,hN⟩ := mnN
    have hX1 : ∀ y ∈ X.take N,y < 2 ^ m := fun y hy => hX y (List.mem_of_mem_take hy)
    have hY1 : ∀ y ∈ Y.take N,y < 2 ^ m := fun y hy => hY y (List.mem_of_mem_take hy)
    have lX1 : (X.take N).length = N := by rw [List.length_take]; omega
    have lY1 : (Y.take N).length = N := by rw [List.length_take]; omega
    have k1 := Enc_t C (X.take N) (fun y hy => Nat.lt_of_lt_of_le (hX1 y hy) s256) (by omega)
    have k2 := Enc_t C (Y.take N) (fun y hy => Nat.lt_of_lt_of_le (hY1 y hy) s256) (by omega)
    unfold EncR at k1 k2
    rw [dE_ok (n := n) (by omega) hX1,if_pos rfl] at k1
    rw [dE_ok (n := n) (by omega) hY1,if_pos rfl] at k2
    have k3 := Gen_t C
    have lU := encN_length p m f n (X.take N)
    have lV := encN_length p m f n (Y.take N)
    rw [lX1] at lU
    rw [lY1] at lV
    have hU := encN_lt C.F f n hX1
    have hV2 := encN_lt C.F f n hY1
    have far : X.take N = Y.take N ∧ nz (zx (encN p m f n (X.take N)) (encN p m f n (Y.take N))) = 0 ∨ X.take N ≠ Y.take N ∧ n < nz (zx (encN p m f n (X.take N)) (encN p m f n (Y.take N))) := by
      by_cases c : X.take N = Y.take N
      · left
        refine ⟨c,?_⟩
        rw [c,(zx_self rfl).2 rfl,nz_rep]
      · right
        refine ⟨c,?_⟩
        rcases Nat.lt_or_ge n (nz (zx (encN p m f n (X.take N)) (encN p m f n (Y.take N)))) with h | h
        · exact h
        · exfalso
          have e := near_same C.F f n (by rw [lU,lV]) (by omega) hU hV2 (syn_enc C.F f n hX1) (syn_enc C.F f n hY1) h
          apply c
          have e2 := congrArg (List.take N) e
          unfold encN at e2
          rw [List.take_left' lX1,List.take_left' lY1] at e2
          exact e2
    have hG : ∀ i,i < (genN p m f n).length → (genN p m f n).getD i 0 ≠ 0 := fun i hi => gen_pos C.F n2 i (by rw [genN_length] at hi; exact hi)
    have lG := genN_length p m f n
    have g0 : (rd (ints (genN p m f n)) 0 != 1) = false := by
      have : rd (ints (genN p m f n)) ((0 : Nat) : Int) = 1 := by rw [rd_ints,gen_head]; rfl
      rw [show (0 : Int) = ((0 : Nat) : Int) from rfl,this]
      rfl
    refine Ev.bind g2 (ev_pos rfl (Ev.bind knows_f ?_))
    refine Ev.succ ?_
    simp only [l4_ReedsolApart.j0]
    refine ev_neg Bool.false_ne_true (Ev.bind kx (Ev.bind ky ?_))
    simp only [ints_length]
    rw [eN]
    have tx : (ints X).take ((N : Int)).toNat = ints (X.take N) := by rw [Int.toNat_natCast,ints_take]
    have ty : (ints Y).take ((N : Int)).toNat = ints (Y.take N) := by rw [Int.toNat_natCast,ints_take]
    rw [tx,ty]
    refine ev_pos (by omega) (ev_pos (by omega) (Ev.bind k1 (ev_pos (by omega) (Ev.bind k2 (Ev.bind k3 (Ev.bind (ev_const (num_id 0)) (Ev.bind (ev_const (num_id 0)) (Ev.bind (ev_const (num_id 0)) ?_))))))))
    refine ev_pos (by decide +kernel) ?_
    have e1 : wrap64 ((N : Int) + (n : Int)) = ((N + n : Nat) : Int) := by rw [w64 (by omega) (by omega)]; omega
    have e2 : wrap64 ((n : Int) + 1) = ((n + 1 : Nat) : Int) := by clear e1; exact w64s (by omega)
    simp only [ints_length]
    rw [e1,e2,g0]
    refine ev_pos (by clear e1 e2; omega) (ev_pos (by clear e1 e2; omega) (ev_pos (by clear e1 e2; omega) (ev_pos (by clear e1 e2; omega) ?_)))
    clear e1 e2
    refine Ev.succ ?_
    simp only [l4_ReedsolApart.j1]
    refine ev_neg Bool.false_ne_true ?_
    have g := apart_l0 hN (fun y hy => Nat.lt_of_lt_of_le (hX y hy) s256) (fun y hy => Nat.lt_of_lt_of_le (hY y hy) s256) (by omega) (by omega) hG (by omega) far (m := m) (p := p) (f := f) (encN p m f n (X.take N)).length 0 (by omega) 0 (by rw [List.drop_zero,Nat.zero_add])
    exact g
end Go.Proofs.Ytdhnjnkjhfomiaa.Pure
