/- For every code, all data and any hits: a data's code word with errors and erasures, twice the errors and the erasures together at most the parity, is decoded with that data. The plain law of ReedsolMends; no condition. -/
import Derived.Test.YtpgecdidddoglaaRtPx90
import Derived.Test.YtpgecdidddoglaaRtQRsK
import Derived.Test.YtpgecdidddoglaaRtQRsE
import Derived.Test.YtpgecdidddoglaaRtQRsV
set_option linter.unusedVariables false
set_option linter.unusedSimpArgs false
namespace Go.Proofs.Ytpgecdidddoglaa.Pure
open Go.RowKit Go.Proofs.Ytpgecdidddoglaa.P Go.Proofs.YtpgecdidddoglaaW.PrintWords Go.Proofs.YtpgecdidddoglaaW.PrintLast Go.Proofs.YtpgecdidddoglaaW.Q Go.Proofs.Ytpgecdidddoglaa.GalP Go.Proofs.Ytpgecdidddoglaa.Gal
def pN (L : Nat) (e : Int) : Nat := (Int.tmod (wrap64 (Int.tmod e (L : Int) + (L : Int))) (L : Int)).toNat
theorem pN_eq {L : Nat} (h1 : 1 ≤ L) (h2 : L ≤ 1000) (e : Int) : Int.tmod (wrap64 (Int.tmod e (L : Int) + (L : Int))) (L : Int) = ((pN L e : Nat) : Int) ∧ pN L e < L := by
  have b : (Int.tmod e (L : Int)).natAbs < L := by
    rw [Int.natAbs_tmod]
    exact Nat.mod_lt _ (by omega)
  unfold pN
  generalize Int.tmod e (L : Int) = x at b ⊢
  rw [w64 (by omega) (by omega),Int.tmod_eq_emod_of_nonneg (by omega)]
  have y1 := Int.emod_nonneg (x + (L : Int)) (b := (L : Int)) (by omega)
  have y2 := Int.emod_lt_of_pos (x + (L : Int)) (b := (L : Int)) (by omega)
  omega
theorem hit_v {m a : Nat} (h8 : 2 ^ m ≤ 256) (h0 : 0 < 2 ^ m) (ha : a < 256) {b : Int} (hb : (Lit.int .u8 b).wf = true) :
    ∃ v : Nat,v < 2 ^ m ∧ Int.tmod (Go.bits .xor .i64 (wrap64 ((a : Nat) : Int)) (wrap64 b)) ((2 ^ m : Nat) : Int) % 256 = ((v : Nat) : Int) := by
  obtain ⟨B,hB,hB2⟩ := bytes_of (l := [b]) (fun x hx => by rw [List.mem_singleton.1 hx]; exact hb)
  have hl : B.length = 1 := by rw [← ints_length,← hB]; rfl
  obtain ⟨c,rfl⟩ := List.length_eq_one_iff.1 hl
  have hc : c < 256 := hB2 c (List.mem_singleton.2 rfl)
  injection hB with hb2 _
  subst hb2
  have hm : (a ^^^ c) % 2 ^ m < 2 ^ m := Nat.mod_lt _ h0
  refine ⟨_,hm,?_⟩
  rw [show wrap64 ((a : Nat) : Int) = (a : Int) from w64 (by omega) (by omega),show wrap64 ((c : Nat) : Int) = (c : Int) from w64 (by omega) (by omega),xor_i64 _ _ (by omega) (by omega),tmod_nat]
  generalize (a ^^^ c) % 2 ^ m = z at hm ⊢
  omega
section
variable {m p f n : Nat} (C : Cd m p f n) {W : List Nat} (hW : ∀ y ∈ W,y < 2 ^ m) (lW : W.length ≤ 2 ^ m - 1)
include C hW lW
omit hW in
theorem str_l1 {out : List Nat} (lo : out.length = W.length) (er : List Int) (d : Nat) : ∀ i q : Nat,i + d = W.length → q ≤ i → q + nz ((zx W out).drop i) = nz (zx W out) →
    Ev (fun k => l4_struck.l1 k (ints W) (ints out) er (q : Int) (i : Int)) (ints out,er,((nz (zx W out) : Nat) : Int)) := by
  have s8 := C.F.sz8
  have s256 := C.F.sz256
  have lz := zx_length lo.symm
  induction d with
  | zero =>
    intro i q hi _ hq
    rw [List.drop_of_length_le (by omega),show nz [] = 0 from rfl,Nat.add_zero] at hq
    subst hq
    refine Ev.succ ?_
    simp only [l4_struck.l1]
    exact ev_neg (by rw [ints_length]; omega) (Ev.now _)
  | succ d ih =>
    intro i q hi hqi hq
    have hd : nz ((zx W out).drop i) = (if W.getD i 0 = out.getD i 0 then 0 else 1) + nz ((zx W out).drop (i + 1)) := by
      rw [drop_get (by omega),nz,zx_getD lo.symm]
      by_cases c : W.getD i 0 = out.getD i 0
      · rw [c,Nat.xor_self,if_pos rfl,if_pos rfl]
      · rw [if_neg (fun e => c (xor_eq_zero e)),if_neg c]
    refine Ev.succ ?_
    simp only [l4_struck.l1]
    refine ev_pos (by rw [ints_length]; omega) (ev_pos (by omega) (ev_pos (by rw [ints_length]; omega) ?_))
    rw [rd_ints,rd_ints,show wrap64 ((i : Int) + 1) = ((i + 1 : Nat) : Int) from w64s (by omega)]
    by_cases c : W.getD i 0 = out.getD i 0
    · rw [if_pos c] at hd
      exact ev_pos (by rw [c]) (ih (i + 1) q (by omega) (by omega) (by omega))
    · rw [if_neg c] at hd
      rw [show wrap64 ((q : Int) + 1) = ((q + 1 : Nat) : Int) from w64s (by omega)]
      exact ev_neg (fun e => c (Int.ofNat_inj.1 e).symm) (ih (i + 1) (q + 1) (by omega) (by omega) (by omega))
def Str (m n : Nat) (W : List Nat) (g : Nat → Option (List Int × List Int × Int)) : Prop :=
  ∃ (out : List Nat) (named gone : List Bool) (er : List Int) (cost : Nat),Hs m n W out named gone er cost ∧ Ev g (ints out,er,((nz (zx W out) : Nat) : Int))
omit C hW lW in
theorem Str.map {g g' : Nat → Option (List Int × List Int × Int)} (h : Str m n W g) (e : ∀ r,Ev g r → Ev g' r) : Str m n W g' := by
  obtain ⟨a,b,c,d,q,h1,h2⟩ := h
  exact ⟨a,b,c,d,q,h1,e _ h2⟩
section
variable {H : List S70} (hH : ∀ x ∈ H,(Lit.int .i64 x.f0).wf = true ∧ (Lit.int .u8 x.f1).wf = true ∧ True) (lH : H.length ≤ 4611686018427387904) {i : Nat} (hi : i < H.length)
  (next : ∀ (out : List Nat) (named gone : List Bool) (er : List Int) (cost : Nat),Hs m n W out named gone er cost → Str m n W (fun k => l4_struck.l0 k (ints W) H ((2 ^ m : Nat) : Int) (ints out) named er (cost : Int) ((i + 1 : Nat) : Int) (m : Int) (p : Int) (f : Int) (n : Int)))
  {out : List Nat} {named gone : List Bool} {er : List Int} {cost : Nat} (h : Hs m n W out named gone er cost) {at_ : Nat} (ha : at_ < W.length) {pr : Nat} (hpr : (rd_T70 H (i : Int)).f2 = true ∧ pr = 1 ∨ ¬ ((rd_T70 H (i : Int)).f2 = true) ∧ pr = 2)
include hH lH hi next h ha hpr
omit hW lW in
theorem str_j3 (x71 : Bool) (hx : x71 = false → ¬ named.getD at_ false = true ∧ cost + pr ≤ n) :
    Str m n W (fun k => l4_struck.j3 k (ints W) H ((2 ^ m : Nat) : Int) (ints out) named er (cost : Int) (i : Int) (at_ : Int) (pr : Int) x71 (m : Int) (p : Int) (f : Int) (n : Int)) := by
  have s8 := C.F.sz8
  have s256 := C.F.sz256
  have n2 := C.n2
  have hmem : rd_T70 H (i : Int) ∈ H := by
    unfold rd_T70
    rw [Int.toNat_natCast,List.getD_eq_getElem?_getD,List.getElem?_eq_getElem (by omega)]
    exact List.getElem_mem _
  have hy := (hH _ hmem).2.1
  have ei : wrap64 ((i : Int) + 1) = ((i + 1 : Nat) : Int) := w64s (by omega)
  cases x71 with
  | true =>
    refine (next _ _ _ _ _ h).map (fun r hr => Ev.succ ?_)
    simp only [l4_struck.j3]
    rw [ei]
    exact ev_pos trivial hr
  | false =>
    obtain ⟨hn,hc⟩ := hx rfl
    have lo := h.lo
    have ln := h.ln
    have lr := h.lr
    have hle := h.le
    have hco := h.co
    have lio := ints_length out
    have hov : out.getD at_ 0 < 256 := Nat.lt_of_lt_of_le (by
      rcases Nat.lt_or_ge at_ out.length with c | c
      · rw [List.getD_eq_getElem?_getD,List.getElem?_eq_getElem c]; exact h.ho _ (List.getElem_mem c)
      · rw [getD_over _ _ c]; exact C.F.zero_lt) s256
    obtain ⟨v,hv,ev⟩ := hit_v s256 C.F.zero_lt hov hy
    have ec : wrap64 ((cost : Int) + (pr : Int)) = ((cost + pr : Nat) : Int) := by clear ei ev; rw [w64 (by omega) (by omega)]; omega
    have c1 : (at_ : Int) < (named.length : Int) := by clear ei ev ec; omega
    have c2 : (at_ : Int) < ((ints out).length : Int) := by clear ei ev ec; omega
    have c3 : (i : Int) < (H.length : Int) := by clear ei ev ec; omega
    have c4 : ¬ (((2 ^ m : Nat) : Int) = 0) := by clear ei ev ec; omega
    have c5 : er.length < 17592186044416 := by clear ei ev ec; omega
    have c6 : (0 : Int) ≤ (at_ : Int) := by clear ei ev ec; omega
    have c7 : (0 : Int) ≤ (i : Int) := by clear ei ev ec; omega
    rcases hpr with ⟨hp,rfl⟩ | ⟨hp,rfl⟩
    · have h' := h.say ha hn hv (by clear ei ev ec; omega)
      refine (next _ _ _ _ _ h').map (fun r hr => Ev.succ ?_)
      simp only [l4_struck.j3]
      rw [rd_ints,ev,set_ints,ei,ec,Int.toNat_natCast]
      exact ev_neg Bool.false_ne_true (ev_pos c6 (ev_pos c1 (Ev.bind (Ev.now _) (ev_pos c2 (ev_pos c7 (ev_pos c3 (ev_neg c4 (Ev.bind (Ev.now _) (ev_pos hp (ev_pos c5 hr))))))))))
    · have h' := h.err ha hn hv (by clear ei ev ec; omega)
      refine (next _ _ _ _ _ h').map (fun r hr => Ev.succ ?_)
      simp only [l4_struck.j3]
      rw [rd_ints,ev,set_ints,ei,ec,Int.toNat_natCast]
      exact ev_neg Bool.false_ne_true (ev_pos c6 (ev_pos c1 (Ev.bind (Ev.now _) (ev_pos c2 (ev_pos c7 (ev_pos c3 (ev_neg c4 (Ev.bind (Ev.now _) (ev_neg hp hr)))))))))
omit hW lW in
theorem str_j2 : Str m n W (fun k => l4_struck.j2 k (ints W) H ((2 ^ m : Nat) : Int) (ints out) named er (cost : Int) (i : Int) (at_ : Int) (pr : Int) (m : Int) (p : Int) (f : Int) (n : Int)) := by
  have s8 := C.F.sz8
  have s256 := C.F.sz256
  have n2 := C.n2
  have ln := h.ln
  have hle := h.le
  have hp2 : pr ≤ 2 := by omega
  have c1 : (at_ : Int) < (named.length : Int) := by omega
  have ec : wrap64 ((cost : Int) + (pr : Int)) = ((cost + pr : Nat) : Int) := by rw [w64 (by omega) (by omega)]; omega
  by_cases c : named.getD at_ false = true
  · refine (str_j3 C hH lH hi next h ha hpr true (fun e => absurd e (by decide))).map (fun r hr => Ev.succ ?_)
    simp only [l4_struck.j2]
    rw [rdOf_bool]
    exact ev_pos (by clear ec; omega) (ev_pos c1 (ev_pos c hr))
  · refine (str_j3 C hH lH hi next h ha hpr (decide (((cost + pr : Nat) : Int) > (n : Int))) (fun e => ⟨c,by have := of_decide_eq_false e; clear ec; omega⟩)).map (fun r hr => Ev.succ ?_)
    simp only [l4_struck.j2]
    rw [rdOf_bool,ec]
    exact ev_pos (by clear ec; omega) (ev_pos c1 (ev_neg c hr))
end
omit hW in
theorem str_l0 {H : List S70} (hH : ∀ x ∈ H,(Lit.int .i64 x.f0).wf = true ∧ (Lit.int .u8 x.f1).wf = true ∧ True) (lH : H.length ≤ 4611686018427387904) (d : Nat) : ∀ (i : Nat) (out : List Nat) (named gone : List Bool) (er : List Int) (cost : Nat),i + d = H.length → Hs m n W out named gone er cost →
    Str m n W (fun k => l4_struck.l0 k (ints W) H ((2 ^ m : Nat) : Int) (ints out) named er (cost : Int) (i : Int) (m : Int) (p : Int) (f : Int) (n : Int)) := by
  have s8 := C.F.sz8
  have s256 := C.F.sz256
  have n2 := C.n2
  have liW := ints_length W
  have start : ∀ {out : List Nat} {named gone : List Bool} {er : List Int} {cost : Nat},Hs m n W out named gone er cost → Str m n W (fun k => l4_struck.l1 k (ints W) (ints out) er 0 0) := fun h =>
    ⟨_,_,_,_,_,h,str_l1 C lW h.lo _ W.length 0 0 (by omega) (Nat.le_refl _) (by rw [List.drop_zero,Nat.zero_add])⟩
  induction d with
  | zero =>
    intro i out named gone er cost hi h
    refine (start h).map (fun r hr => Ev.succ ?_)
    simp only [l4_struck.l0]
    refine ev_neg (by omega) ?_
    refine Ev.succ ?_
    simp only [l4_struck.j1]
    exact ev_neg Bool.false_ne_true hr
  | succ d ih =>
    intro i out named gone er cost hi h
    have c0 : (i : Int) < (H.length : Int) := by omega
    by_cases w0 : W.length = 0
    · refine (start h).map (fun r hr => Ev.succ ?_)
      simp only [l4_struck.l0]
      refine ev_pos c0 ?_
      refine Ev.succ ?_
      simp only [l4_struck.j1]
      exact ev_neg (fun e => by have := of_decide_eq_true e; omega) hr
    · obtain ⟨e1,e2⟩ := pN_eq (L := W.length) (by omega) (by omega) (rd_T70 H (i : Int)).f0
      have next := fun out named gone er cost h => ih (i + 1) out named gone er cost (by omega) h
      have c2 : ((ints W).length : Int) > 0 := by clear e1; omega
      have c3 : ¬ (((ints W).length : Int) = 0) := by clear e1; omega
      have c4 : (0 : Int) ≤ (i : Int) := by clear e1; omega
      have c5 : i < H.length := by clear e1; omega
      by_cases hp : (rd_T70 H (i : Int)).f2 = true
      · refine (str_j2 C hH lH c5 next h e2 (pr := 1) (.inl ⟨hp,rfl⟩)).map (fun r hr => Ev.succ ?_)
        simp only [l4_struck.l0]
        refine ev_pos c0 ?_
        refine Ev.succ ?_
        simp only [l4_struck.j1]
        refine ev_pos (decide_eq_true c2) (ev_pos c4 (ev_pos c0 (ev_neg c3 (ev_pos hp ?_))))
        rw [liW,e1]
        exact hr
      · refine (str_j2 C hH lH c5 next h e2 (pr := 2) (.inr ⟨hp,rfl⟩)).map (fun r hr => Ev.succ ?_)
        simp only [l4_struck.l0]
        refine ev_pos c0 ?_
        refine Ev.succ ?_
        simp only [l4_struck.j1]
        refine ev_pos (decide_eq_true c2) (ev_pos c4 (ev_pos c0 (ev_neg c3 (ev_neg hp ?_))))
        rw [liW,e1]
        exact hr
theorem str_f {H : List S70} (hH : ∀ x ∈ H,(Lit.int .i64 x.f0).wf = true ∧ (Lit.int .u8 x.f1).wf = true ∧ True) (lH : H.length ≤ 4611686018427387904) :
    Str m n W (fun k => l4_struck.f k (m : Int) (p : Int) (f : Int) (n : Int) (ints W) H) := by
  have h8 := C.F.eight
  have s8 := C.F.sz8
  have s256 := C.F.sz256
  have e1 : IntKind.u64.wrap (m : Int) = (m : Int) := wu64 (by omega) (by omega)
  have g := str_l0 C lW hH lH H.length 0 W _ _ [] 0 (by omega) (Hs.start hW)
  refine g.map (fun r hr => ?_)
  unfold l4_struck.f
  rw [e1,shl1 m h8,ints_length]
  clear e1
  refine ev_pos (by omega) (Ev.bind (Ev.now _) (ev_pos (by rw [List.length_nil]; omega) (ev_pos (by omega) (ev_pos (by omega) ?_))))
  rw [Int.toNat_natCast,List.nil_append]
  exact hr
end
theorem ReedsolMends : l4_ReedsolMends.Pure := by
  intro M P A B l1 H hM hP hA hB hl1 hl2 hl3 hH1 hH2 hH3
  obtain ⟨W,rfl,hW⟩ := bytes_of hl3
  have lw : W.length ≤ 9223372036854775806 := by rw [ints_length] at hl2; omega
  refine Ev.rounds (g := fun k => l4_ReedsolMends.f k M P A B (ints W) H) ?_
  unfold l4_ReedsolMends.f
  obtain ⟨c,g1,g2,hc⟩ := checks_f M P A B (wf_i64 hM) (wf_u64 hP)
  rcases hc with hc | ⟨rfl,m,p,f,n,rfl,rfl,rfl,rfl,C⟩
  · refine Ev.bind g2 (ev_neg hc ?_)
    refine Ev.succ ?_
    simp only [l4_ReedsolMends.j0]
    exact ev_pos trivial (Ev.bind knows_f (Ev.now _))
  · have s8 := C.F.sz8
    have s256 := C.F.sz256
    have n1 := C.n1
    have n2 := C.n2
    have hX := elN_lt (m := m) (n := n) C.F.zero_lt W
    have lX := elN_length m n W
    have kx := el_f C W hW lw
    generalize elN m n W = X at hX lX kx
    have lX2 : X.length ≤ 2 ^ m - 1 - n := by rw [lX]; exact Nat.min_le_left _ _
    have k1 := Enc_t C X (fun y hy => Nat.lt_of_lt_of_le (hX y hy) s256) (by omega)
    unfold EncR at k1
    rw [dE_ok (n := n) lX2 hX,if_pos rfl] at k1
    have lU := encN_length p m f n X
    have hU := encN_lt C.F f n hX
    have sU := syn_enc C.F f n hX
    have tU : (encN p m f n X).take X.length = X := by unfold encN; exact List.take_left' rfl
    generalize encN p m f n X = U at lU hU sU k1 tU
    obtain ⟨out,named,gone,er,cost,hs,k2⟩ := str_f C hU (by omega) hH3 (by omega)
    have hd := hs.dec C hU (by omega) (by omega) sU
    have ho : ∀ x ∈ out,x < 256 := fun y hy => Nat.lt_of_lt_of_le (hs.ho y hy) s256
    have ler : er.length ≤ n := by rw [hs.lr]; have := hs.co; have := hs.le; omega
    have k3 := Dec_t C out ho (by have := hs.lo; omega) er (by omega)
    rw [hd] at k3
    have tx : (ints U).take ((X.length : Int)).toNat = ints X := by rw [Int.toNat_natCast,ints_take,tU]
    have tu : U.take (U.length - n) = X := by rw [lU,Nat.add_sub_cancel,tU]
    rw [tu] at k3
    have e1 : wrap64 ((X.length : Int) + (n : Int)) = ((X.length + n : Nat) : Int) := by rw [w64 (by omega) (by omega)]; omega
    refine Ev.bind g2 (ev_pos rfl (Ev.bind knows_f ?_))
    refine Ev.succ ?_
    simp only [l4_ReedsolMends.j0]
    refine ev_neg Bool.false_ne_true (Ev.bind kx (Ev.bind k1 (Ev.bind (ev_const (num_id 0)) (ev_pos rfl ?_))))
    simp only [ints_length]
    rw [e1,tx]
    refine ev_pos (by clear e1; omega) (ev_pos (by clear e1; omega) (ev_pos (by clear e1; omega) ?_))
    clear e1
    refine Ev.succ ?_
    simp only [l4_ReedsolMends.j1]
    have e2 : ((strOfNums (ints X)).toList != (strOfNums (ints X)).toList) = false := bne_self_eq_false _
    rw [e2]
    refine ev_neg Bool.false_ne_true (Ev.bind k2 (Ev.bind k3 (Ev.bind (ev_const (num_id 0)) (ev_pos rfl (ev_pos rfl ?_)))))
    exact ev_const (by rw [beq_self_eq_true])
end Go.Proofs.Ytpgecdidddoglaa.Pure
