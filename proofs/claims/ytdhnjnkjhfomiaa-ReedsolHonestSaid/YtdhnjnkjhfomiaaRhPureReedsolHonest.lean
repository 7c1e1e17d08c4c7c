/- For every code, any word and any erased places: what Decode answers is the data of a near code word, or that there is none; its own code word is decoded as it is. The plain law of ReedsolHonest; no condition. -/
import Derived.Test.YtdhnjnkjhfomiaaRhPx97
import Derived.Test.YtdhnjnkjhfomiaaRhQRsK
import Derived.Test.YtdhnjnkjhfomiaaRhQRsE
import Derived.Test.YtdhnjnkjhfomiaaRhQRsY
set_option linter.unusedVariables false
set_option linter.unusedSimpArgs false
namespace Go.Proofs.Ytdhnjnkjhfomiaa.Pure
open Go.RowKit P YtdhnjnkjhfomiaaW.PrintWords YtdhnjnkjhfomiaaW.PrintLast YtdhnjnkjhfomiaaW.Q GalP Gal
theorem setT (g : List Bool) (p : Nat) (h : g.getD p false = true) : g.set p true = g := by
  refine List.ext_getElem? (fun i => ?_)
  rw [List.getElem?_set]
  by_cases c : p = i
  · subst c
    rw [if_pos rfl]
    by_cases l : p < g.length
    · rw [if_pos l,List.getElem?_eq_getElem l]
      rw [List.getD_eq_getElem?_getD,List.getElem?_eq_getElem l] at h
      exact congrArg some h.symm
    · rw [if_neg l,List.getElem?_eq_none (by omega)]
  · rw [if_neg c]
def pN (L : Nat) (e : Int) : Nat := (Int.tmod (wrap64 (Int.tmod e (L : Int) + (L : Int))) (L : Int)).toNat
theorem pN_eq {L : Nat} (h1 : 1 ≤ L) (h2 : L ≤ 1000) (e : Int) : Int.tmod (wrap64 (Int.tmod e (L : Int) + (L : Int))) (L : Int) = ((pN L e : Nat) : Int) ∧ pN L e < L := by
  have b : (Int.tmod e (L : Int)).natAbs < L := by
    rw [Int.natAbs_tmod]
    exact Nat.mod_lt _ (by omega)
  unfold pN
  generalize Int.tmod e (L : Int) = x at b ⊢
  rw [w64 (by omega) (by omega),Int.tmod_eq_emod_of_nonneg (by omega)]
  have y1 := Int.emod_nonneg (x + (L : Int)) (b := (L : Int)) (by omega)
  have y2 := Int.emod_lt_of_pos (x + (L : Int)) (b := (L : Int)) (by omega)
  omega
theorem plN_in {L p : Nat} (h : p < L) (l : List Int) (g : List Bool) (q : Nat) : plN L ((p : Int) :: l) g q = if g.getD p false = true then plN L l g q else plN L l (g.set p true) (q + 1) := by
  rw [plN,if_neg (by omega),Int.toNat_natCast]
theorem plN_all {L : Nat} (h1 : 1 ≤ L) (h2 : L ≤ 1000) (E : List Int) : ∀ g q,∃ z,plN L (E.map (fun e => (pN L e : Int))) g q = some z := by
  induction E with
  | nil => intro g q; exact ⟨_,rfl⟩
  | cons e E ih =>
    intro g q
    rw [List.map_cons,plN_in (pN_eq h1 h2 e).2]
    split
    · exact ih _ _
    · exact ih _ _
section
variable {m p f n : Nat} (C : Cd m p f n) {W : List Nat} (hW : ∀ y ∈ W,y < 2 ^ m) (lW : W.length ≤ 2 ^ m - 1)
include C hW lW
omit hW in
theorem hon_l2 {out d : List Nat} {gone : List Bool} {fc : Nat} (lo : out.length = W.length) (ho : ∀ y ∈ out,y < 2 ^ m) (ln : n ≤ W.length) (lg : gone.length = W.length) (so : syn p m f n out = List.replicate n 0) (hd : d = out.take (W.length - n)) (hfc : fc ≤ n) (hw : 2 * wrN W out gone W.length 0 0 ≤ n - fc) (c : Nat) :
    ∀ i q r : Nat,i + c = out.length → q ≤ i → r ≤ i → q + nz ((zx out W).drop i) = nz (zx out W) → wrN W out gone c i r = wrN W out gone W.length 0 0 →
    Ev (fun k => l4_RH.l2 k (ints W) gone (fc : Int) (ints d) ((nz (zx out W) : Nat) : Int) (ints out) (q : Int) (r : Int) (i : Int) (m : Int) (p : Int) (f : Int) (n : Int)) true := by
  have s8 := C.F.sz8
  have s256 := C.F.sz256
  have n2 := C.n2
  have lz := zx_length lo
  have lio := ints_length out
  have liW := ints_length W
  induction c with
  | zero =>
    intro i q r hi hq hr hq2 hr2
    rw [List.drop_of_length_le (by rw [lz]; omega),show nz [] = 0 from rfl,Nat.add_zero] at hq2
    rw [wrN] at hr2
    have k1 := Dec_t C out (fun y hy => Nat.lt_of_lt_of_le (ho y hy) s256) (by omega) [] (by show 0 ≤ 4611686018427387904; omega)
    rw [dec_right C (by omega) (by omega) ho so] at k1
    have e1 : wrap64 (wrap64 (2 * (r : Int)) + (fc : Int)) = ((2 * r + fc : Nat) : Int) := by
      rw [show wrap64 (2 * (r : Int)) = ((2 * r : Nat) : Int) by rw [w64 (by omega) (by omega)]; omega]
      rw [w64 (by omega) (by omega)]
      omega
    refine Ev.succ ?_
    simp only [l4_RH.l2]
    rw [e1]
    clear e1
    refine ev_neg (by omega) (Ev.bind k1 (ev_pos (by omega) (ev_pos (by omega) (Ev.bind (ev_const (num_id 0)) (ev_pos rfl (ev_pos rfl ?_))))))
    rw [hd,lo]
    exact ev_const (by rw [beq_self_eq_true])
  | succ c ih =>
    intro i q r hi hq hr hq2 hr2
    have c1 : (i : Int) < ((ints out).length : Int) := by omega
    have c2 : (0 : Int) ≤ (i : Int) := by omega
    have c3 : (i : Int) < ((ints W).length : Int) := by omega
    have c4 : (i : Int) < (gone.length : Int) := by omega
    have hd2 : nz ((zx out W).drop i) = (if out.getD i 0 = W.getD i 0 then 0 else 1) + nz ((zx out W).drop (i + 1)) := by
      rw [drop_get (by rw [lz]; omega),nz,zx_getD lo]
      by_cases c : out.getD i 0 = W.getD i 0
      · rw [c,Nat.xor_self,if_pos rfl,if_pos rfl]
      · rw [if_neg (fun e => c (xor_eq_zero e)),if_neg c]
    rw [wrN] at hr2
    refine Ev.succ ?_
    simp only [l4_RH.l2]
    refine ev_pos c1 (ev_pos c2 (ev_pos c3 ?_))
    rw [rd_ints,rd_ints,rdOf_bool,show wrap64 ((i : Int) + 1) = ((i + 1 : Nat) : Int) from w64s (by omega)]
    by_cases a1 : out.getD i 0 = W.getD i 0
    · rw [if_pos a1] at hd2 hr2
      exact ev_pos (by rw [a1]) (ih (i + 1) q r (by omega) (by omega) (by omega) (by omega) hr2)
    · rw [if_neg a1] at hd2 hr2
      rw [show wrap64 ((q : Int) + 1) = ((q + 1 : Nat) : Int) from w64s (by omega)]
      refine ev_neg (fun h => a1 (Int.ofNat_inj.1 h)) (ev_pos c4 ?_)
      by_cases a2 : gone.getD i false = true
      · rw [if_pos a2] at hr2
        exact ev_pos a2 (ih (i + 1) (q + 1) r (by omega) (by omega) (by omega) (by omega) hr2)
      · rw [if_neg a2] at hr2
        refine ev_neg a2 ?_
        rw [show wrap64 ((r : Int) + 1) = ((r + 1 : Nat) : Int) from w64s (by omega)]
        exact ih (i + 1) (q + 1) (r + 1) (by omega) (by omega) (by omega) (by omega) hr2
theorem hon_j3 (E : List Int) (i : Int) {Pl : List Int} (lP : Pl.length ≤ 4611686018427387904) {z : List Bool × Nat} (hz : plN W.length Pl (List.replicate W.length false) 0 = some z) :
    Ev (fun k => l4_RH.j3 k E (ints W) Pl z.1 (z.2 : Int) i false (m : Int) (p : Int) (f : Int) (n : Int)) true := by
  have s8 := C.F.sz8
  have s256 := C.F.sz256
  have n1 := C.n1
  have n2 := C.n2
  have liW := ints_length W
  have lz := plN_length _ _ _ _ _ hz
  rw [List.length_replicate] at lz
  have k1 := Dec_t C W (fun y hy => Nat.lt_of_lt_of_le (hW y hy) s256) (by omega) Pl lP
  unfold decR at k1
  refine Ev.succ ?_
  simp only [l4_RH.j3]
  refine ev_neg Bool.false_ne_true ?_
  by_cases ln : n ≤ W.length
  · rw [if_pos (wE_ok ln lW hW),hz] at k1
    dsimp only at k1
    by_cases hm : (mendN p m f n W z.1 z.2).2 = true
    · rw [if_pos hm] at k1
      obtain ⟨o1,o2,o3,o4,o5⟩ := mendN_ok C.F f n hW z.1 z.2 hm
      generalize (mendN p m f n W z.1 z.2).1 = out at k1 o1 o2 o3 o5
      have hD : ∀ y ∈ out.take (W.length - n),y < 2 ^ m := fun y hy => o1 y (List.mem_of_mem_take hy)
      have lD : (out.take (W.length - n)).length = W.length - n := by rw [List.length_take]; omega
      have k2 := Enc_t C (out.take (W.length - n)) (fun y hy => Nat.lt_of_lt_of_le (hD y hy) s256) (by omega)
      have me := member_enc C.F (f := f) (n := n) (W := out) (by omega) (by omega) o1 o3
      rw [o2] at me
      unfold EncR at k2
      rw [dE_ok (n := n) (by omega) hD,if_pos rfl,me] at k2
      have k3 := Mem_t C out (fun y hy => Nat.lt_of_lt_of_le (o1 y hy) s256) (by omega)
      unfold MemR at k3
      have az : allz (List.replicate n 0) = true := by
        unfold allz
        exact List.all_eq_true.2 (fun y hy => decide_eq_true (List.eq_of_mem_replicate hy))
      rw [wE_ok (m := m) (n := n) (by omega) (by omega) o1,if_pos rfl,o3,az] at k3
      have lio := ints_length out
      refine Ev.bind k1 (Ev.bind (ev_const (num_id 0)) (ev_pos rfl (Ev.bind k2 (Ev.bind k3 (Ev.bind (ev_const (num_id 0)) (Ev.bind (ev_const (num_id 0)) (ev_pos (by decide +kernel) (ev_pos rfl ?_))))))))
      have e : (((ints out).length : Int) != ((ints W).length : Int)) = false := by
        rw [lio,liW,o2]
        exact bne_self_eq_false _
      refine Ev.succ ?_
      simp only [l4_RH.j4]
      rw [e]
      refine ev_neg Bool.false_ne_true ?_
      exact hon_l2 C lW o2 o1 ln lz o3 rfl o4 o5 out.length 0 0 0 (by omega) (Nat.le_refl _) (Nat.le_refl _) (by rw [List.drop_zero,Nat.zero_add]) (by rw [o2])
    · rw [if_neg hm] at k1
      refine Ev.bind k1 (Ev.bind (ev_const (num_id 331)) (ev_neg (by decide) (ev_pos rfl (ev_pos rfl (Ev.bind (ev_const (num_id 331)) ?_)))))
      have d1 : decide (((ints W).length : Int) ≥ (n : Int)) = true := decide_eq_true (by omega)
      have d2 : decide (((ints W).length : Int) < (n : Int)) = false := decide_eq_false (by omega)
      rw [d1,d2]
      exact ev_pos (by decide) (Ev.bind (ev_const (num_id 331)) (ev_const (by decide)))
  · have we : wE m n W = 5 := by unfold wE; rw [if_pos (by omega)]
    rw [we,if_neg (by decide)] at k1
    refine Ev.bind k1 (Ev.bind (ev_const (num_id 5)) (ev_neg (by decide) (ev_pos rfl (ev_pos rfl (Ev.bind (ev_const (num_id 5)) ?_)))))
    have d1 : decide (((ints W).length : Int) ≥ (n : Int)) = false := decide_eq_false (by omega)
    have d2 : decide (((ints W).length : Int) < (n : Int)) = true := decide_eq_true (by omega)
    rw [d1,d2]
    exact ev_pos (by decide) (Ev.bind (ev_const (num_id 5)) (ev_const (by decide)))
theorem hon_l1 (hW1 : 1 ≤ W.length) (E : List Int) (lE : E.length < 17592186044416) {z : List Bool × Nat} (hz : plN W.length (E.map (fun e => (pN W.length e : Int))) (List.replicate W.length false) 0 = some z) (c : Nat) : ∀ (i q : Nat) (g : List Bool),i + c = E.length → g.length = W.length → q ≤ i →
    plN W.length ((E.drop i).map (fun e => (pN W.length e : Int))) g q = some z →
    Ev (fun k => l4_RH.l1 k E (ints W) ((E.take i).map (fun e => (pN W.length e : Int))) g (q : Int) (i : Int) (m : Int) (p : Int) (f : Int) (n : Int)) true := by
  have s8 := C.F.sz8
  have s256 := C.F.sz256
  have liW := ints_length W
  induction c with
  | zero =>
    intro i q g hi hg hq h
    rw [List.drop_of_length_le (by omega),List.map_nil,plN] at h
    have h' := Option.some.inj h
    rw [List.take_of_length_le (by omega)]
    refine Ev.succ ?_
    simp only [l4_RH.l1]
    refine ev_neg (by omega) ?_
    have g0 := hon_j3 C hW lW E (i : Int) (Pl := E.map (fun e => (pN W.length e : Int))) (by rw [List.length_map]; omega) hz
    rw [← h'] at g0
    exact g0
  | succ c ih =>
    intro i q g hi hg hq h
    have hil : i < E.length := by omega
    obtain ⟨ep,pl⟩ := pN_eq (L := W.length) hW1 (by omega) (rd E (i : Int))
    rw [drop_getI hil,List.map_cons,plN_in pl] at h
    have c0 : (i : Int) < (E.length : Int) := by omega
    have lt : ((E.take i).map (fun e => (pN W.length e : Int))).length = i := by rw [List.length_map,List.length_take]; omega
    have et : (E.take i).map (fun e => (pN W.length e : Int)) ++ [((pN W.length (rd E (i : Int)) : Nat) : Int)] = (E.take (i + 1)).map (fun e => (pN W.length e : Int)) := by
      have : E.take (i + 1) = E.take i ++ [rd E (i : Int)] := by
        unfold rd
        rw [Int.toNat_natCast,List.take_succ_eq_append_getElem hil,List.getD_eq_getElem?_getD,List.getElem?_eq_getElem hil]
        rfl
      rw [this,List.map_append]
      rfl
    have d1 : decide (((ints W).length : Int) > 0) = true := decide_eq_true (by omega)
    refine Ev.succ ?_
    simp only [l4_RH.l1]
    refine ev_pos c0 ?_
    rw [d1]
    refine Ev.succ ?_
    simp only [l4_RH.j3]
    rw [liW,ep,et]
    clear ep
    refine ev_pos trivial (ev_pos (by omega) (ev_pos c0 (ev_neg (by omega) (ev_pos (by omega) (Ev.bind (Ev.now _) (ev_pos (by omega) (ev_pos (by omega) ?_)))))))
    rw [rdOf_bool,Int.toNat_natCast,show wrap64 ((i : Int) + 1) = ((i + 1 : Nat) : Int) from w64s (by omega)]
    by_cases a : g.getD (pN W.length (rd E (i : Int))) false = true
    · rw [if_pos a] at h
      rw [setT g _ a]
      exact ev_pos a (ih (i + 1) q g (by omega) hg (by omega) h)
    · rw [if_neg a] at h
      refine ev_neg a ?_
      rw [show wrap64 ((q : Int) + 1) = ((q + 1 : Nat) : Int) from w64s (by omega)]
      exact ih (i + 1) (q + 1) _ (by omega) (by rw [List.length_set]; exact hg) (by omega) h
end
theorem hon_l0 {m p f n : Nat} (C : Cd m p f n) {B : List Nat} (hB : ∀ x ∈ B,x < 256) (E : List Int) (lE : E.length < 17592186044416) (d : Nat) : ∀ i : Nat,i + d = (elN m 0 B).length →
    Ev (fun k => l4_RH.l0 k (ints B) E ((2 ^ m : Nat) : Int) (ints ((elN m 0 B).take i ++ List.replicate ((elN m 0 B).length - i) 0)) (i : Int) (m : Int) (p : Int) (f : Int) (n : Int)) true := by
  have s8 := C.F.sz8
  have s256 := C.F.sz256
  have h0 := C.F.zero_lt
  have hW := elN_lt (m := m) (n := 0) h0 B
  have le := elN_length m 0 B
  have lz : ∀ i,i ≤ (elN m 0 B).length → ((elN m 0 B).take i ++ List.replicate ((elN m 0 B).length - i) 0).length = (elN m 0 B).length := fun i hi => by
    rw [List.length_append,List.length_take,List.length_replicate]; omega
  induction d with
  | zero =>
    intro i hi
    have lW : (elN m 0 B).length ≤ 2 ^ m - 1 := by omega
    have eT : (elN m 0 B).take i ++ List.replicate ((elN m 0 B).length - i) 0 = elN m 0 B := by
      rw [show (elN m 0 B).length - i = 0 by omega,List.replicate_zero,List.append_nil,List.take_of_length_le (by omega)]
    rw [eT]
    generalize elN m 0 B = W at *
    have liW := ints_length W
    have e3 : ((((ints W).length : Int)) : Int).toNat = W.length := by rw [liW]; rfl
    refine Ev.succ ?_
    simp only [l4_RH.l0]
    rw [e3]
    refine ev_neg (by omega) (ev_pos (by omega) (ev_pos (by omega) ?_))
    by_cases w0 : W.length = 0
    · have hz : plN W.length [] (List.replicate W.length false) 0 = some (List.replicate W.length false,0) := rfl
      have g := hon_j3 C hW lW E 0 (by show 0 ≤ 4611686018427387904; omega) hz
      have d1 : decide (((ints W).length : Int) > 0) = false := decide_eq_false (by omega)
      refine Ev.succ ?_
      simp only [l4_RH.l1]
      rw [d1]
      by_cases c : (0 : Int) < (E.length : Int)
      · exact ev_pos c g
      · exact ev_neg c g
    · obtain ⟨z,hz⟩ := plN_all (L := W.length) (by omega) (by omega) E (List.replicate W.length false) 0
      have g := hon_l1 C hW lW (by omega) E lE hz E.length 0 0 (List.replicate W.length false) (by omega) (List.length_replicate ..) (Nat.le_refl _) (by rw [List.drop_zero]; exact hz)
      rw [List.take_zero,List.map_nil] at g
      exact g
  | succ d ih =>
    intro i hi
    have c1 : (i : Int) < ((ints ((elN m 0 B).take i ++ List.replicate ((elN m 0 B).length - i) 0)).length : Int) := by rw [ints_length,lz i (by omega)]; omega
    have c3 : (i : Int) < ((ints B).length : Int) := by rw [ints_length]; omega
    have c4 : ¬ (((2 ^ m : Nat) : Int) = 0) := by omega
    refine Ev.succ ?_
    simp only [l4_RH.l0]
    refine ev_pos c1 (ev_pos (by omega) (ev_pos c3 (ev_neg c4 ?_)))
    rw [el_one s256 h0 hB,set_ints,← elN_getD m 0 B i (by omega),fill_set _ _ _ rfl (by omega),w64s (by omega)]
    exact ih (i + 1) (by omega)
theorem ReedsolHonest : l4_RH.Pure := by
  intro M P A B l1 l2 hM hP hA hB ml sl hl ml2 sl2 hl2
  obtain ⟨W,rfl,hW⟩ := bytes_of hl
  rw [ints_length] at ml sl
  have lw : W.length ≤ 9223372036854775806 := by omega
  refine Ev.rounds (g := fun k => l4_RH.f k M P A B (ints W) l2) ?_
  unfold l4_RH.f
  obtain ⟨c,g1,g2,hc⟩ := checks_f M P A B (wf_i64 hM) (wf_u64 hP)
  rcases hc with hc | ⟨rfl,m,p,f,n,rfl,rfl,rfl,rfl,C⟩
  · refine Ev.bind g2 (ev_neg hc ?_)
    refine Ev.succ ?_
    simp only [l4_RH.j0]
    exact ev_pos trivial (Ev.bind knows_f (Ev.now _))
  · have s8 := C.F.sz8
    have s256 := C.F.sz256
    have h8 := C.F.eight
    have g := hon_l0 C hW l2 (by omega) (elN m 0 W).length 0 (by omega)
    rw [List.take_zero,List.nil_append,Nat.sub_zero,ints_replicate] at g
    have le := elN_length m 0 W
    have e1 : IntKind.u64.wrap (m : Int) = (m : Int) := wu64 (by omega) (by omega)
    have e2 : wrap64 (shl .i64 1 (m : Int) - 1) = ((2 ^ m - 1 : Nat) : Int) := by
      clear e1
      rw [shl1 m h8,w64 (by omega) (by omega)]; omega
    have e3 : mn ((ints W).length : Int) ((2 ^ m - 1 : Nat) : Int) = (((elN m 0 W).length : Nat) : Int) := by
      rw [ints_length,mn_nat,le,Nat.sub_zero]
    refine Ev.bind g2 (ev_pos rfl (Ev.bind knows_f ?_))
    refine Ev.succ ?_
    simp only [l4_RH.j0]
    rw [e1,e2,shl1 m h8,e3,Int.toNat_natCast]
    clear e1 e2 e3
    exact ev_neg Bool.false_ne_true (ev_pos (by omega) (ev_pos (by omega) (ev_pos (by omega) g)))
end Go.Proofs.Ytdhnjnkjhfomiaa.Pure
