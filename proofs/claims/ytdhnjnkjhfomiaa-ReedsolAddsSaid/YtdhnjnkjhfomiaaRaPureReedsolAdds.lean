/- For every code and all words: a word and a code word added up have the word's syndromes, and a word is a member just if its syndromes are nothing. The plain law of ReedsolAdds; no condition. -/
import Derived.Test.YtdhnjnkjhfomiaaRaPx94
import Derived.Test.YtdhnjnkjhfomiaaRaQRsK
import Derived.Test.YtdhnjnkjhfomiaaRaQRsE
set_option linter.unusedVariables false
set_option linter.unusedSimpArgs false
namespace Go.Proofs.Ytdhnjnkjhfomiaa.Pure
open Go.RowKit Go.Proofs.Ytdhnjnkjhfomiaa.P Go.Proofs.YtdhnjnkjhfomiaaW.PrintWords Go.Proofs.YtdhnjnkjhfomiaaW.PrintLast Go.Proofs.YtdhnjnkjhfomiaaW.Q Go.Proofs.Ytdhnjnkjhfomiaa.GalP Go.Proofs.Ytdhnjnkjhfomiaa.Gal
theorem adds_l1 (S : List Nat) (hl : S.length ≤ 1000000) (b : Bool) (d : Nat) : ∀ i : Nat,i + d = S.length → ∀ z : Bool,Ev (fun k => l4_ReedsolAdds.l1 k (ints S) b z (i : Int)) (b == (z && allz (S.drop i))) := by
  induction d with
  | zero =>
    intro i hi z
    refine Ev.succ ?_
    simp only [l4_ReedsolAdds.l1]
    refine ev_neg (by rw [ints_length]; omega) ?_
    rw [List.drop_of_length_le (by omega)]
    rw [show allz [] = true from rfl,Bool.and_true]
    exact Ev.now _
  | succ d ih =>
    intro i hi z
    have hil : i < S.length := by omega
    have e : wrap64 ((i : Int) + 1) = ((i + 1 : Nat) : Int) := w64s (by omega)
    have ed : allz (S.drop i) = (decide (S.getD i 0 = 0) && allz (S.drop (i + 1))) := by rw [drop_get hil]; rfl
    refine Ev.succ ?_
    simp only [l4_ReedsolAdds.l1]
    refine ev_pos (by rw [ints_length]; omega) ?_
    rw [e,ed]
    cases z with
    | true =>
      refine ev_pos rfl (ev_pos (by omega) ?_)
      rw [rd_ints,nat_beq0,Bool.true_and]
      exact ih (i + 1) (by omega) _
    | false =>
      refine ev_neg Bool.false_ne_true ?_
      have := ih (i + 1) (by omega) false
      rw [Bool.false_and] at this ⊢
      exact this
def padN (m L : Nat) (B : List Nat) : List Nat := (List.range L).map (fun i => B.getD i 0 % 2 ^ m)
theorem padN_length (m L : Nat) (B : List Nat) : (padN m L B).length = L := by unfold padN; rw [List.length_map,List.length_range]
theorem padN_getD (m L : Nat) (B : List Nat) {i : Nat} (h : i < L) : (padN m L B).getD i 0 = B.getD i 0 % 2 ^ m := by
  unfold padN
  rw [List.getD_eq_getElem?_getD,List.getElem?_map,List.getElem?_range h]
  rfl
theorem padN_lt {m : Nat} (h0 : 0 < 2 ^ m) (L : Nat) (B : List Nat) : ∀ y ∈ padN m L B,y < 2 ^ m := by
  intro y hy
  unfold padN at hy
  obtain ⟨x,_,rfl⟩ := List.mem_map.1 hy
  exact Nat.mod_lt _ h0
theorem fill_set0 (S : List Nat) (n i : Nat) (hn : S.length = n) (h : i < n) (h0 : S.getD i 0 = 0) : S.take i ++ List.replicate (n - i) 0 = S.take (i + 1) ++ List.replicate (n - (i + 1)) 0 := by
  rw [take_one S i (by omega),h0,List.append_assoc,show n - i = (n - (i + 1)) + 1 by omega,List.replicate_succ]
  rfl
theorem set_same (Y : List Nat) (i : Nat) (h : i < Y.length) (h0 : Y.getD i 0 = 0) : Y.set i 0 = Y := by
  refine list_ext_getD (List.length_set ..) (fun j => ?_)
  rw [getD_set]
  split
  · rename_i c; rw [c.1,h0]
  · rfl
theorem adds_st {m p f n : Nat} (s256 : 2 ^ m ≤ 256) (h0 : 0 < 2 ^ m) {B V Y Z : List Nat} (hB : ∀ x ∈ B,x < 256) (hV : ∀ x ∈ V,x < 256) (lV : V.length ≤ 1000) (lY : Y.length = V.length) (lZ : Z.length = V.length) (i : Nat) (hi : i < V.length) (z : Y.getD i 0 = 0)
    (g : Ev (fun k => l4_ReedsolAdds.l0 k (ints B) ((2 ^ m : Nat) : Int) (ints V) (ints (Y.set i (B.getD i 0 % 2 ^ m))) (ints (Z.set i (B.getD i 0 % 2 ^ m ^^^ V.getD i 0))) ((i + 1 : Nat) : Int) (m : Int) (p : Int) (f : Int) (n : Int)) true) :
    Ev (fun k => l4_ReedsolAdds.l0 k (ints B) ((2 ^ m : Nat) : Int) (ints V) (ints Y) (ints Z) (i : Int) (m : Int) (p : Int) (f : Int) (n : Int)) true := by
  have hm : B.getD i 0 % 2 ^ m < 256 := Nat.lt_of_lt_of_le (Nat.mod_lt _ h0) s256
  have hv : V.getD i 0 < 256 := getD_lt hV i
  have q := el_one s256 h0 hB i
  have qx := bxor8 (B.getD i 0 % 2 ^ m) (V.getD i 0) hm hv
  have gy : (Y.set i (B.getD i 0 % 2 ^ m)).getD i 0 = B.getD i 0 % 2 ^ m := by rw [getD_set,if_pos ⟨rfl,by omega⟩]
  have c0 : (i : Int) < ((ints V).length : Int) := by rw [ints_length]; omega
  have c2 : (0 : Int) ≤ (i : Int) := by omega
  have c3 : ¬ (((2 ^ m : Nat) : Int) = 0) := by omega
  have c4 : (i : Int) < ((ints Y).length : Int) := by rw [ints_length]; omega
  have c5 : (i : Int) < ((ints Z).length : Int) := by rw [ints_length]; omega
  have over : ¬ (i < B.length) → B.getD i 0 % 2 ^ m = 0 := fun c => by rw [getD_over _ _ (by omega),Nat.zero_mod]
  generalize B.getD i 0 % 2 ^ m = bm at g q qx gy hm over
  generalize ((2 ^ m : Nat) : Int) = Q at g q c3 ⊢
  have e : wrap64 ((i : Int) + 1) = ((i + 1 : Nat) : Int) := w64s (by omega)
  by_cases c : i < B.length
  · have c1 : (i : Int) < ((ints B).length : Int) := by rw [ints_length]; clear e q; omega
    refine Ev.succ ?_
    simp only [l4_ReedsolAdds.l0]
    refine ev_pos c0 (ev_pos c1 (ev_pos c2 (ev_neg c3 (ev_pos c4 ?_))))
    rw [q,set_ints]
    refine Ev.bind (Ev.now _) (ev_pos c5 ?_)
    rw [rd_ints,rd_ints,gy,qx,set_ints,e]
    exact g
  · have c1 : ¬ ((i : Int) < ((ints B).length : Int)) := by rw [ints_length]; clear e q; omega
    have b0 := over c
    subst b0
    rw [set_same Y i (by clear e q; omega) z] at g gy
    refine Ev.succ ?_
    simp only [l4_ReedsolAdds.l0]
    refine ev_pos c0 (ev_neg c1 (ev_pos c2 (ev_pos c4 (ev_pos c5 ?_))))
    rw [rd_ints,rd_ints,gy,qx,set_ints,e]
    exact g
section
variable {m p f n : Nat} (C : Cd m p f n) {B V : List Nat} (hB : ∀ x ∈ B,x < 256) (hV : ∀ x ∈ V,x < 2 ^ m) (lV : V.length ≤ 2 ^ m - 1) (ln : n ≤ V.length) (sV : syn p m f n V = List.replicate n 0)
include C hB hV lV ln sV
theorem adds_l0 (d : Nat) : ∀ i : Nat,i + d = V.length →
    Ev (fun k => l4_ReedsolAdds.l0 k (ints B) ((2 ^ m : Nat) : Int) (ints V) (ints ((padN m V.length B).take i ++ List.replicate (V.length - i) 0)) (ints ((zx (padN m V.length B) V).take i ++ List.replicate (V.length - i) 0)) (i : Int) (m : Int) (p : Int) (f : Int) (n : Int)) true := by
  have s256 := C.F.sz256
  have h0 := C.F.zero_lt
  have ly : (padN m V.length B).length = V.length := padN_length ..
  have lz : (zx (padN m V.length B) V).length = V.length := by rw [zx_length ly,ly]
  have l1 : ∀ (X : List Nat) i,X.length = V.length → i ≤ V.length → (X.take i ++ List.replicate (V.length - i) 0).length = V.length := fun X i hX hi => by
    rw [List.length_append,List.length_take,List.length_replicate]; omega
  have g1 : ∀ (X : List Nat) i,X.length = V.length → i < V.length → (X.take (i + 1) ++ List.replicate (V.length - (i + 1)) 0).getD i 0 = X.getD i 0 := fun X i hX hi => by
    rw [getD_app,List.length_take,if_pos (by omega)]
    simp only [List.getD_eq_getElem?_getD,List.getElem?_take]
    rw [if_pos (by omega)]
  induction d with
  | zero =>
    intro i hi
    have hY := padN_lt h0 V.length B
    have hZ := zx_lt hY hV
    refine Ev.succ ?_
    simp only [l4_ReedsolAdds.l0]
    refine ev_neg (by rw [ints_length]; omega) ?_
    rw [show V.length - i = 0 by omega,List.replicate_zero,List.append_nil,List.append_nil,List.take_of_length_le (by omega),List.take_of_length_le (by omega)]
    have w1 : wE m n (padN m V.length B) = 0 := wE_ok (by omega) (by omega) hY
    have w2 : wE m n (zx (padN m V.length B) V) = 0 := wE_ok (by omega) (by omega) hZ
    have ss : syn p m f n (zx (padN m V.length B) V) = syn p m f n (padN m V.length B) := by
      have e := zx_zeros (syn p m f n (padN m V.length B))
      rw [syn_length] at e
      rw [syn_zx C.F f n ly hY hV,sV,e]
    have hY2 : ∀ y ∈ padN m V.length B,y < 256 := fun y hy => Nat.lt_of_lt_of_le (hY y hy) s256
    have hZ2 : ∀ y ∈ zx (padN m V.length B) V,y < 256 := fun y hy => Nat.lt_of_lt_of_le (hZ y hy) s256
    have k1 := Syn_t C (padN m V.length B) hY2 (by omega)
    have k2 := Syn_t C (zx (padN m V.length B) V) hZ2 (by omega)
    have k3 := Mem_t C (padN m V.length B) hY2 (by omega)
    have k4 := Mem_t C (zx (padN m V.length B) V) hZ2 (by omega)
    unfold SynR at k1 k2
    unfold MemR at k3 k4
    rw [w1,if_pos rfl] at k1 k3
    rw [w2,if_pos rfl,ss] at k2 k4
    have lS := syn_length p m f n (padN m V.length B)
    generalize syn p m f n (padN m V.length B) = S at k1 k2 k3 k4 lS
    have hn : S.length ≤ 1000000 := by omega
    refine Ev.bind k1 (Ev.bind k2 (Ev.bind k3 (Ev.bind k4 (Ev.bind (ev_const (num_id 0)) (Ev.bind (ev_const (num_id 0)) (Ev.bind (ev_const (num_id 0)) (Ev.bind (ev_const (num_id 0)) ?_)))))))
    refine ev_pos (by decide +kernel) (ev_pos rfl (ev_neg ?_ ?_))
    · show ¬ ((allz S != allz S) = true)
      rw [bne_self_eq_false]
      exact Bool.false_ne_true
    · have e : (((ints S).length : Int) != (n : Int)) = false := by
        rw [ints_length,lS]
        exact bne_self_eq_false _
      refine Ev.succ ?_
      simp only [l4_ReedsolAdds.j3]
      rw [e]
      refine ev_neg Bool.false_ne_true ?_
      have := adds_l1 S hn (allz S) S.length 0 (by omega) true
      rw [List.drop_zero,Bool.true_and,beq_self_eq_true] at this
      exact this
  | succ d ih =>
    intro i hi
    have hil : i < V.length := by omega
    have hy := padN_getD m V.length B hil
    have hz : (zx (padN m V.length B) V).getD i 0 = B.getD i 0 % 2 ^ m ^^^ V.getD i 0 := by rw [zx_getD ly,hy]
    have g := ih (i + 1) (by omega)
    refine adds_st s256 h0 hB (fun y hy => Nat.lt_of_lt_of_le (hV y hy) s256) (by omega) (l1 _ _ ly (by omega)) (l1 _ _ lz (by omega)) i hil (by rw [getD_app,List.length_take,if_neg (by omega)]; exact getD_rep _ _) ?_
    rw [← hz,← hy,fill_set _ _ _ ly hil,fill_set _ _ _ lz hil]
    exact g
end
theorem ReedsolAdds : l4_ReedsolAdds.Pure := by
  intro M P A B l1 l2 hM hP hA hB ml sl hl ml2 sl2 hl2
  obtain ⟨W,rfl,hW⟩ := bytes_of hl
  obtain ⟨V,rfl,hV⟩ := bytes_of hl2
  rw [ints_length] at ml sl ml2 sl2
  have lw : W.length ≤ 9223372036854775806 := by omega
  have lv : V.length ≤ 9223372036854775806 := by omega
  refine Ev.rounds (g := fun k => l4_ReedsolAdds.f k M P A B (ints W) (ints V)) ?_
  unfold l4_ReedsolAdds.f
  obtain ⟨c,g1,g2,hc⟩ := checks_f M P A B (wf_i64 hM) (wf_u64 hP)
  rcases hc with hc | ⟨rfl,m,p,f,n,rfl,rfl,rfl,rfl,C⟩
  · refine Ev.bind g2 (ev_neg hc ?_)
    refine Ev.succ ?_
    simp only [l4_ReedsolAdds.j0]
    exact ev_pos trivial (Ev.bind knows_f (Ev.now _))
  · have s256 := C.F.sz256
    have h8 := C.F.eight
    have n1 := C.n1
    have n2 := C.n2
    have hD := elN_lt (m := m) (n := n) C.F.zero_lt W
    have hD2 : ∀ y ∈ elN m n W,y < 256 := fun y hy => Nat.lt_of_lt_of_le (hD y hy) s256
    have lD := elN_length m n W
    have k1 := Enc_t C (elN m n W) hD2 (by omega)
    unfold EncR at k1
    rw [dE_ok (n := n) (by omega) hD,if_pos rfl] at k1
    have hE := encN_lt C.F f n hD
    have lE := encN_length p m f n (elN m n W)
    have sE := syn_enc C.F f n hD
    have e0 : (((ints (encN p m f n (elN m n W))).length : Int) != wrap64 (((ints (elN m n W)).length : Int) + (n : Int))) = false := by
      rw [ints_length,ints_length,lE,w64 (by omega) (by omega)]
      simp
    have e1 : IntKind.u64.wrap (m : Int) = (m : Int) := wu64 (by omega) (by omega)
    have e2 := shl1 m h8
    have lle : (encN p m f n (elN m n W)).length ≤ 2 ^ m - 1 := by clear e0 e1 e2; omega
    refine Ev.bind g2 (ev_pos rfl (Ev.bind knows_f ?_))
    refine Ev.succ ?_
    simp only [l4_ReedsolAdds.j0]
    rw [e1,e2]
    refine ev_neg Bool.false_ne_true (ev_pos (by clear e0 e1 e2; omega) (Ev.bind (el_f C W hW lw) (Ev.bind k1 (Ev.bind (ev_const (num_id 0)) (ev_pos rfl ?_)))))
    refine Ev.succ ?_
    simp only [l4_ReedsolAdds.j1]
    rw [e0]
    refine ev_neg Bool.false_ne_true (ev_pos (by clear e0 e1 e2; omega) (ev_pos (by clear e0 e1 e2; rw [ints_length]; omega) ?_))
    have g := adds_l0 C hV hE lle (by clear e0 e1 e2; omega) sE (encN p m f n (elN m n W)).length 0 (by clear e0 e1 e2; omega)
    rw [List.take_zero,List.nil_append,Nat.sub_zero,List.take_zero,List.nil_append,ints_replicate] at g
    have e3 : ((((ints (encN p m f n (elN m n W))).length : Int)) : Int).toNat = (encN p m f n (elN m n W)).length := by rw [ints_length]; rfl
    rw [e3]
    exact g
end Go.Proofs.Ytdhnjnkjhfomiaa.Pure
