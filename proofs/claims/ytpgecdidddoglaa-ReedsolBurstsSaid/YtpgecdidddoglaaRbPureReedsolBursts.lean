/- For every code, all data in one to eight rows, and any burst: a burst of (parity / 2) rows neighbouring places is mended, one of parity rows if it is told. The plain law of ReedsolBursts; no condition. -/
import Derived.Test.YtpgecdidddoglaaRbPx91
import Derived.Test.YtpgecdidddoglaaRbQRsK
import Derived.Test.YtpgecdidddoglaaRbQRsE
import Derived.Test.YtpgecdidddoglaaRbQRsV
import Derived.Test.YtpgecdidddoglaaRbQRsP
set_option linter.unusedVariables false
set_option linter.unusedSimpArgs false
namespace Go.Proofs.Ytpgecdidddoglaa.Pure
open Go.RowKit Go.Proofs.Ytpgecdidddoglaa.P Go.Proofs.YtpgecdidddoglaaW.PrintWords Go.Proofs.YtpgecdidddoglaaW.PrintLast Go.Proofs.YtpgecdidddoglaaW.Q Go.Proofs.Ytpgecdidddoglaa.GalP Go.Proofs.Ytpgecdidddoglaa.Gal
def pN (L : Nat) (e : Int) : Nat := (Int.tmod (wrap64 (Int.tmod e (L : Int) + (L : Int))) (L : Int)).toNat
theorem pN_eq {L : Nat} (h1 : 1 ≤ L) (h2 : L ≤ 1000000) (e : Int) : Int.tmod (wrap64 (Int.tmod e (L : Int) + (L : Int))) (L : Int) = ((pN L e : Nat) : Int) ∧ pN L e < L := by
  have b : (Int.tmod e (L : Int)).natAbs < L := by
    rw [Int.natAbs_tmod]
    exact Nat.mod_lt _ (by omega)
  unfold pN
  generalize Int.tmod e (L : Int) = x at b ⊢
  rw [w64 (by omega) (by omega),Int.tmod_eq_emod_of_nonneg (by omega)]
  have y1 := Int.emod_nonneg (x + (L : Int)) (b := (L : Int)) (by omega)
  have y2 := Int.emod_lt_of_pos (x + (L : Int)) (b := (L : Int)) (by omega)
  omega
theorem hit_v {m a : Nat} (h8 : 2 ^ m ≤ 256) (h0 : 0 < 2 ^ m) (ha : a < 256) {c : Nat} (hc : c < 256) :
    ∃ v : Nat,v < 2 ^ m ∧ Int.tmod (Go.bits .xor .i64 (wrap64 ((a : Nat) : Int)) (wrap64 ((c : Nat) : Int))) ((2 ^ m : Nat) : Int) % 256 = ((v : Nat) : Int) := by
  have hm : (a ^^^ c) % 2 ^ m < 2 ^ m := Nat.mod_lt _ h0
  refine ⟨_,hm,?_⟩
  rw [show wrap64 ((a : Nat) : Int) = (a : Int) from w64 (by omega) (by omega),show wrap64 ((c : Nat) : Int) = (c : Int) from w64 (by omega) (by omega),xor_i64 _ _ (by omega) (by omega),tmod_nat]
  generalize (a ^^^ c) % 2 ^ m = z at hm ⊢
  omega
theorem cnt_int {Q : Nat → Bool} {k0 h : Nat} (hQ : ∀ k,Q k = true → k0 ≤ k ∧ k < k0 + h) : ∀ c i,cntB Q c i ≤ h ∧ cntB Q c i ≤ k0 + h - i := by
  intro c
  induction c with
  | zero => intro i; exact ⟨Nat.zero_le _,Nat.zero_le _⟩
  | succ c ih =>
    intro i
    have := ih (i + 1)
    rw [cntB]
    split
    · rename_i g
      have := hQ i g
      omega
    · omega
theorem cntT_B (g : List Bool) : ∀ c i,cntT g c i = cntB (fun k => g.getD k false) c i := by
  intro c
  induction c with
  | zero => intro i; rfl
  | succ c ih => intro i; rw [cntT,cntB,ih]
theorem burst_int {R a h j k : Nat} (hj : j < R) (h1 : a ≤ k * R + j) (h2 : k * R + j < a + h * R) : (a + R - 1 - j) / R ≤ k ∧ k < (a + R - 1 - j) / R + h := by
  have hR : 0 < R := by omega
  have e1 := Nat.div_add_mod (a + R - 1 - j) R
  have e2 := Nat.mod_lt (a + R - 1 - j) hR
  generalize hx : (a + R - 1 - j) / R = x at e1 ⊢
  constructor
  · rw [← hx]
    refine Nat.le_of_lt_succ (Nat.div_lt_of_lt_mul ?_)
    show a + R - 1 - j < R * (k + 1)
    have : R * (k + 1) = k * R + R := by rw [Nat.mul_succ,Nat.mul_comm]
    omega
  · have e3 : k * R < (x + h) * R := by
      rw [Nat.add_mul,Nat.mul_comm x R]
      omega
    exact Nat.lt_of_mul_lt_mul_right e3
theorem burst_le {R a i h j : Nat} (hj : j < R) (hi : i ≤ h * R) {Q : Nat → Bool} (hQ : ∀ k,Q k = true → a ≤ k * R + j ∧ k * R + j < a + i) (c : Nat) : cntB Q c 0 ≤ h :=
  (cnt_int (k0 := (a + R - 1 - j) / R) (fun k hk => burst_int hj (hQ k hk).1 (by have := (hQ k hk).2; omega)) c 0).1
theorem cntB_mono {P Q : Nat → Bool} (h : ∀ k,P k = true → Q k = true) : ∀ c i,cntB P c i ≤ cntB Q c i := by
  intro c
  induction c with
  | zero => intro i; exact Nat.le_refl _
  | succ c ih =>
    intro i
    have := ih (i + 1)
    rw [cntB,cntB]
    by_cases a : P i = true
    · rw [if_pos a,if_pos (h i a)]; omega
    · rw [if_neg a]; omega
theorem cntB_none {P : Nat → Bool} (h : ∀ k,P k = false) : ∀ c i,cntB P c i = 0 := by
  intro c
  induction c with
  | zero => intro i; rfl
  | succ c ih => intro i; rw [cntB,ih,h i]; rfl
def toldN (told : Bool) (a i : Nat) : List Int := if told = true then (List.range i).map (fun t => ((a + t : Nat) : Int)) else []
structure Bs (m L a : Nat) (told : Bool) (V Z : List Nat) (i : Nat) (er : List Int) : Prop where
  lz : Z.length = V.length
  hz : ∀ y ∈ Z,y < 2 ^ m
  un : ∀ q,Z.getD q 0 ≠ V.getD q 0 → a ≤ q ∧ q < a + i
  er : er = toldN told a i
  ai : a + i ≤ V.length
theorem Bs.start {m L a : Nat} {told : Bool} {V : List Nat} (hV : ∀ y ∈ V,y < 2 ^ m) (ha : a < V.length) : Bs m L a told V V 0 [] :=
  ⟨rfl,hV,fun q h => absurd rfl h,by unfold toldN; split <;> rfl,by omega⟩
theorem toldN_succ (told : Bool) (a i : Nat) : toldN told a (i + 1) = if told = true then toldN told a i ++ [((a + i : Nat) : Int)] else toldN told a i := by
  unfold toldN
  by_cases c : told = true
  · rw [if_pos c,if_pos c,if_pos c,List.range_succ,List.map_append]
    rfl
  · rw [if_neg c,if_neg c,if_neg c]
theorem toldN_length (told : Bool) (a i : Nat) : (toldN told a i).length ≤ i := by
  unfold toldN
  split
  · rw [List.length_map,List.length_range]; exact Nat.le_refl _
  · exact Nat.zero_le _
theorem Bs.next {m L a i : Nat} {told : Bool} {V Z : List Nat} {er : List Int} (h : Bs m L a told V Z i er) (hl : a + i < V.length) : Bs m L a told V Z (i + 1) (if told = true then er ++ [((a + i : Nat) : Int)] else er) :=
  ⟨h.lz,h.hz,fun q hq => by have := h.un q hq; omega,by rw [toldN_succ,h.er],by omega⟩
theorem Bs.put {m L a i v : Nat} {told : Bool} {V Z : List Nat} {er : List Int} (h : Bs m L a told V Z i er) (hl : a + i < V.length) (hv : v < 2 ^ m) : Bs m L a told V (Z.set (a + i) v) (i + 1) (if told = true then er ++ [((a + i : Nat) : Int)] else er) := by
  refine ⟨by rw [List.length_set]; exact h.lz,mem_set_lt h.hz (a + i) hv,fun q hq => ?_,by rw [toldN_succ,h.er],by omega⟩
  rw [getD_set] at hq
  by_cases c : q = a + i ∧ a + i < Z.length
  · omega
  · rw [if_neg c] at hq
    have := h.un q hq
    omega
section
variable {m p f n : Nat} (C : Cd m p f n) {D : List Nat} {R K : Nat} (hX : D.length = K * R) (hD : ∀ y ∈ D,y < 2 ^ m) (hK : K + n ≤ 2 ^ m - 1) (hR : 0 < R) (hR2 : R ≤ 64)
include C hX hD hK hR hR2
omit hK hR2 in
theorem bu_V : (strN p m f n R D).length = (K + n) * R ∧ ∀ y ∈ strN p m f n R D,y < 2 ^ m := by
  have h1 : D.length / R = K := by rw [hX,Nat.mul_div_cancel _ hR]
  refine ⟨by unfold strN; rw [tog_length,h1],fun y hy => ?_⟩
  unfold strN tog at hy
  obtain ⟨q,hq,rfl⟩ := List.mem_map.1 hy
  rw [strW_getD p m f n D (Nat.mod_lt _ hR)]
  exact getD_ltb (encN_lt C.F f n (rowN_lt hD C.F.zero_lt R _)) C.F.zero_lt _
omit hR2 in
theorem bu_row {a i h : Nat} {told : Bool} {Z : List Nat} {er : List Int} (B : Bs m (K + n) a told (strN p m f n R D) Z i er) (hi : i ≤ h * R) (hh : told = true ∧ h ≤ n ∨ told = false ∧ 2 * h ≤ n) {j : Nat} (hj : j < R) :
    nearN p m f n R Z er j = (encN p m f n (rowN R D j),true) := by
  obtain ⟨lV,hV⟩ := bu_V C hX hD hR
  have h1 : D.length / R = K := by rw [hX,Nat.mul_div_cancel _ hR]
  have lZ : Z.length = (K + n) * R := by rw [B.lz,lV]
  have hL : Z.length / R = K + n := by rw [lZ,Nat.mul_div_cancel _ hR]
  have rV : rowN R (strN p m f n R D) j = encN p m f n (rowN R D j) := by
    unfold strN
    rw [row_tog hj (strW_long p m f n D j hj),strW_getD p m f n D hj]
  have he : ∀ e ∈ er,0 ≤ e ∧ e < (((K + n) * R : Nat) : Int) := by
    intro e he
    rw [B.er] at he
    have := B.ai
    unfold toldN at he
    split at he
    · obtain ⟨t,ht,rfl⟩ := List.mem_map.1 he
      rw [List.mem_range] at ht
      omega
    · cases he
  have hp := plZ_eq hR he j
  have lg := plN_length _ _ _ _ _ hp
  rw [List.length_replicate] at lg
  have fc := plN_fc hp
  have gone := plN_gone _ _ _ _ _ hp (List.length_replicate ..)
  have gt : ∀ k,k < K + n → ((plZ R (K + n) er j).1.getD k false = true ↔ told = true ∧ a ≤ k * R + j ∧ k * R + j < a + i) := by
    intro k hk
    rw [gone k hk]
    have hf : (List.replicate (K + n) false).getD k false = false := by
      simp only [List.getD_eq_getElem?_getD,List.getElem?_replicate]
      split <;> rfl
    rw [hf]
    unfold ownN
    rw [B.er]
    constructor
    · rintro (h | h)
      · exact absurd h (by decide)
      · obtain ⟨e,h2,h3⟩ := List.mem_map.1 h
        obtain ⟨h4,h5⟩ := List.mem_filter.1 h2
        unfold toldN at h4
        split at h4
        · rename_i ht
          obtain ⟨t,h6,rfl⟩ := List.mem_map.1 h4
          rw [List.mem_range] at h6
          have h5 := of_decide_eq_true h5
          rw [tmod_nat] at h5
          rw [tdiv_nat] at h3
          have h7 : (a + t) % R = j := Int.ofNat_inj.1 h5
          have h8 : (a + t) / R = k := Int.ofNat_inj.1 h3
          have h9 := Nat.div_add_mod (a + t) R
          rw [h7,h8,Nat.mul_comm] at h9
          exact ⟨ht,by omega,by omega⟩
        · cases h4
    · rintro ⟨ht,h2,h3⟩
      refine .inr (List.mem_map.2 ⟨((k * R + j : Nat) : Int),List.mem_filter.2 ⟨?_,?_⟩,?_⟩)
      · unfold toldN
        rw [if_pos ht]
        refine List.mem_map.2 ⟨k * R + j - a,List.mem_range.2 (by omega),?_⟩
        rw [show a + (k * R + j - a) = k * R + j by omega]
      · rw [tmod_nat,(place_mod hj).1]
        exact decide_eq_true rfl
      · rw [tdiv_nat,(place_mod hj).2]
  have un : ∀ k,k < K + n → (rowN R Z j).getD k 0 ≠ (encN p m f n (rowN R D j)).getD k 0 → a ≤ k * R + j ∧ k * R + j < a + i := by
    intro k hk h
    rw [← rV,rowN_getD (by omega),rowN_getD (by rw [lV,Nat.mul_div_cancel _ hR]; exact hk)] at h
    exact B.un _ h
  have lr : (rowN R Z j).length = K + n := by rw [rowN_length,hL]
  have le : (encN p m f n (rowN R D j)).length = K + n := by rw [encN_length,rowN_length,h1]
  have hDj := rowN_lt hD C.F.zero_lt R j
  have near : Near p m f n (rowN R Z j) (plZ R (K + n) er j).1 (plZ R (K + n) er j).2 (encN p m f n (rowN R D j)) := by
    refine ⟨encN_lt C.F f n hDj,by rw [le,lr],syn_enc C.F f n hDj,?_⟩
    rw [lr,← fc,cntT_B]
    rcases hh with ⟨ht,hn⟩ | ⟨ht,hn⟩
    · have w0 := wr_le (rowN R Z j) (encN p m f n (rowN R D j)) (plZ R (K + n) er j).1 (plZ R (K + n) er j).1 (fun k hk => by
        have hk2 : k < K + n := by
          rcases Nat.lt_or_ge k (K + n) with c | c
          · exact c
          · rw [getD_over _ _ (by omega),getD_over _ _ (by omega)] at hk
            exact absurd rfl hk
        exact (gt k hk2).2 ⟨ht,un k hk2 hk⟩) (K + n) 0 0
      rw [cntB_none (fun k => by cases (plZ R (K + n) er j).1.getD k false <;> rfl)] at w0
      have c0 := burst_le hj hi (Q := fun k => (plZ R (K + n) er j).1.getD k false) (a := a) (fun k hk => by
        have hk2 : k < K + n := by
          rcases Nat.lt_or_ge k (K + n) with c | c
          · exact c
          · have hk3 : (plZ R (K + n) er j).1.getD k false = true := hk
            rw [List.getD_eq_getElem?_getD,List.getElem?_eq_none (by omega)] at hk3
            exact absurd hk3 (by decide)
        exact ((gt k hk2).1 hk).2) (K + n)
      omega
    · let named : List Bool := (List.range (K + n)).map (fun k => decide (a ≤ k * R + j ∧ k * R + j < a + i))
      have nm : ∀ k,k < K + n → named.getD k false = decide (a ≤ k * R + j ∧ k * R + j < a + i) := fun k hk => by
        show ((List.range (K + n)).map _).getD k false = _
        rw [List.getD_eq_getElem?_getD,List.getElem?_map,List.getElem?_range hk]
        rfl
      have nm2 : ∀ k,named.getD k false = true → a ≤ k * R + j ∧ k * R + j < a + i := fun k hk => by
        rcases Nat.lt_or_ge k (K + n) with c | c
        · rw [nm k c] at hk
          exact of_decide_eq_true hk
        · rw [List.getD_eq_getElem?_getD,List.getElem?_eq_none (by show ((List.range (K + n)).map _).length ≤ k; rw [List.length_map,List.length_range]; exact c)] at hk
          exact absurd hk (by decide)
      have w0 := wr_le (rowN R Z j) (encN p m f n (rowN R D j)) (plZ R (K + n) er j).1 named (fun k hk => by
        have hk2 : k < K + n := by
          rcases Nat.lt_or_ge k (K + n) with c | c
          · exact c
          · rw [getD_over _ _ (by omega),getD_over _ _ (by omega)] at hk
            exact absurd rfl hk
        rw [nm k hk2]
        exact decide_eq_true (un k hk2 hk)) (K + n) 0 0
      have c0 := burst_le hj hi (Q := fun k => named.getD k false) (a := a) (fun k hk => nm2 k hk) (K + n)
      have c1 := cntB_mono (P := fun k => named.getD k false && !(plZ R (K + n) er j).1.getD k false) (Q := fun k => named.getD k false) (fun k hk => by
        simp only [Bool.and_eq_true] at hk
        exact hk.1) (K + n) 0
      have c2 : cntB (fun k => (plZ R (K + n) er j).1.getD k false) (K + n) 0 = 0 := by
        rw [cntB_congr (Q := fun _ => false) (K + n) 0 (fun k _ hk => by
          cases e : (plZ R (K + n) er j).1.getD k false with
          | false => rfl
          | true =>
            have := ((gt k (by omega)).1 e).1
            rw [ht] at this
            exact absurd this (by decide))]
        exact cntB_none (fun _ => rfl) _ _
      omega
  unfold nearN
  rw [hL]
  exact near_mend C (rowN_lt B.hz C.F.zero_lt R j) (by rw [lr]; exact hK) (by rw [lg,lr]) (by rw [lr]; exact fc) near
theorem bu_end {a i h : Nat} {told : Bool} {Z : List Nat} {er : List Int} (B : Bs m (K + n) a told (strN p m f n R D) Z i er) (hi : i ≤ h * R) (hh : told = true ∧ h ≤ n ∨ told = false ∧ 2 * h ≤ n) :
    Ev (fun k => reedsol_Unstripe.f k (m : Int) (p : Int) (f : Int) (n : Int) (ints Z) (R : Int) er) (ints D,0,0) := by
  have n1 := C.n1
  have s256 := C.F.sz256
  obtain ⟨lV,hV⟩ := bu_V C hX hD hR
  have h1 : D.length / R = K := by rw [hX,Nat.mul_div_cancel _ hR]
  have lZ : Z.length = (K + n) * R := by rw [B.lz,lV]
  have hL : Z.length / R = K + n := by rw [lZ,Nat.mul_div_cancel _ hR]
  have hLR : (K + n) * R ≤ 256 * 64 := Nat.mul_le_mul (by omega) hR2
  have ai := B.ai
  have tl := toldN_length told a i
  have le : er.length ≤ 256 * 64 := by rw [B.er]; omega
  obtain ⟨z,hz⟩ := plN_some Z.length er (fun e he => by
    rw [B.er] at he
    unfold toldN at he
    split at he
    · obtain ⟨t,ht,rfl⟩ := List.mem_map.1 he
      rw [List.mem_range] at ht
      omega
    · cases he) (List.replicate Z.length false) 0
  have k := Uns_ok C lZ B.hz hK (by omega) hR hR2 (er := er) (by omega) hz (by omega)
  have rows : ∀ j,j < R → nearN p m f n R Z er j = (encN p m f n (rowN R D j),true) := fun j hj => bu_row C hX hD hK hR B hi hh hj
  have lost : ∀ j,j ≤ R → lostN p m f n R Z er j = 0 := by
    intro j
    induction j with
    | zero => intro _; rfl
    | succ j ih => intro hj; rw [lostN,ih (by omega),rows j (by omega),if_pos rfl]
  have un : unsN p m f n R Z er = D := by
    unfold unsN unsW
    have e : (List.range R).map (unsR p m f n R Z er) = (List.range R).map (rowN R D) := by
      refine List.map_congr_left (fun j hj => ?_)
      rw [List.mem_range] at hj
      unfold unsR
      rw [rows j hj,if_pos rfl,hL]
      show (encN p m f n (rowN R D j)).take _ = _
      unfold encN
      exact List.take_left' (by rw [rowN_length,h1]; omega)
    rw [e,hL,show K + n - n = K by omega]
    exact tog_rows hR hX
  rw [lost R (Nat.le_refl _),un] at k
  exact k
section
variable {Y : List Nat} (hY : ∀ y ∈ Y,y < 256) {a h : Nat} {told : Bool} (hh : told = true ∧ h ≤ n ∨ told = false ∧ 2 * h ≤ n)
include hY hh
theorem bu_l1 (d : Nat) : ∀ (i : Nat) (Z : List Nat) (er : List Int),i + d = h * R → Bs m (K + n) a told (strN p m f n R D) Z i er →
    Ev (fun k => l4_ReedsolBursts.l1 k (R : Int) (a : Int) (ints Y) told ((2 ^ m : Nat) : Int) (ints D) (ints (strN p m f n R D)) ((h * R : Nat) : Int) (ints Z) er (i : Int) (m : Int) (p : Int) (f : Int) (n : Int)) true := by
  have s8 := C.F.sz8
  have s256 := C.F.sz256
  obtain ⟨lV,hV⟩ := bu_V C hX hD hR
  have hLR : (K + n) * R ≤ 256 * 64 := Nat.mul_le_mul (by omega) hR2
  have liV := ints_length (strN p m f n R D)
  have fin : ∀ (i : Nat) (Z : List Nat) (er : List Int),i ≤ h * R → Bs m (K + n) a told (strN p m f n R D) Z i er →
      Ev (fun k => l4_ReedsolBursts.j5 k (R : Int) (a : Int) (ints Y) told ((2 ^ m : Nat) : Int) (ints D) (ints (strN p m f n R D)) ((h * R : Nat) : Int) (ints Z) er (i : Int) false (m : Int) (p : Int) (f : Int) (n : Int)) true := fun i Z er hi B => by
    refine Ev.succ ?_
    simp only [l4_ReedsolBursts.j5]
    refine ev_neg Bool.false_ne_true (Ev.bind (bu_end C hX hD hK hR hR2 B hi hh) (Ev.bind (ev_const (num_id 0)) (ev_pos rfl (ev_pos rfl ?_))))
    exact ev_const (by rw [beq_self_eq_true])
  induction d with
  | zero =>
    intro i Z er hi B
    refine Ev.succ ?_
    simp only [l4_ReedsolBursts.l1]
    exact ev_neg (by omega) (fin i Z er (by omega) B)
  | succ d ih =>
    intro i Z er hi B
    have ai := B.ai
    have ei : wrap64 ((a : Int) + (i : Int)) = ((a + i : Nat) : Int) := by rw [w64 (by omega) (by omega)]; omega
    refine Ev.succ ?_
    simp only [l4_ReedsolBursts.l1]
    rw [ei]
    clear ei
    refine ev_pos (by omega) ?_
    by_cases c : a + i < (strN p m f n R D).length
    · have liZ := ints_length Z
      have lz := B.lz
      have liY := ints_length Y
      have ler : er.length ≤ i := by rw [B.er]; exact toldN_length told a i
      have q0 : decide (((a + i : Nat) : Int) < ((ints (strN p m f n R D)).length : Int)) = true := decide_eq_true (by omega)
      rw [q0]
      have ei : wrap64 ((a : Int) + (i : Int)) = ((a + i : Nat) : Int) := by rw [w64 (by omega) (by omega)]; omega
      have ej : wrap64 ((i : Int) + 1) = ((i + 1 : Nat) : Int) := by clear ei; exact w64s (by omega)
      refine Ev.succ ?_
      simp only [l4_ReedsolBursts.j5]
      rw [ei,ej]
      clear ei ej
      refine ev_pos trivial ?_
      by_cases y : i < Y.length
      · have hzv : Z.getD (a + i) 0 < 256 := Nat.lt_of_lt_of_le (getD_ltb B.hz C.F.zero_lt _) s256
        obtain ⟨v,hv,ev⟩ := hit_v s256 C.F.zero_lt hzv (getD_lt hY i)
        have g := ih (i + 1) _ _ (by omega) (B.put c hv)
        rw [rd_ints,rd_ints,ev,set_ints]
        clear ev
        refine ev_pos (by omega) (ev_pos (by omega) (ev_pos (by omega) (ev_pos (by omega) (ev_neg (by omega) (Ev.bind (Ev.now _) ?_)))))
        by_cases t : told = true
        · rw [if_pos t] at g
          exact ev_pos t (ev_pos (by omega) g)
        · rw [if_neg t] at g
          exact ev_neg t g
      · have g := ih (i + 1) _ _ (by omega) (B.next c)
        refine ev_neg (by omega) ?_
        by_cases t : told = true
        · rw [if_pos t] at g
          exact ev_pos t (ev_pos (by omega) g)
        · rw [if_neg t] at g
          exact ev_neg t g
    · have q0 : decide (((a + i : Nat) : Int) < ((ints (strN p m f n R D)).length : Int)) = false := decide_eq_false (by omega)
      rw [q0]
      exact fin i Z er (by omega) B
end
end
def elX (m L : Nat) (W : List Nat) : List Nat := (W.take L).map (fun x => x % 2 ^ m)
theorem elX_length {m L : Nat} {W : List Nat} (h : L ≤ W.length) : (elX m L W).length = L := by
  unfold elX
  rw [List.length_map,List.length_take]
  omega
theorem elX_getD {m L : Nat} {W : List Nat} (h : L ≤ W.length) {i : Nat} (hi : i < L) : (elX m L W).getD i 0 = W.getD i 0 % 2 ^ m := by
  unfold elX
  simp only [List.getD_eq_getElem?_getD,List.getElem?_map,List.getElem?_take]
  rw [if_pos hi,List.getElem?_eq_getElem (by omega)]
  rfl
theorem elX_lt {m : Nat} (h0 : 0 < 2 ^ m) (L : Nat) (W : List Nat) : ∀ y ∈ elX m L W,y < 2 ^ m := by
  intro y hy
  unfold elX at hy
  obtain ⟨x,_,rfl⟩ := List.mem_map.1 hy
  exact Nat.mod_lt _ h0
theorem bu_l0 {m p f n L : Nat} (C : Cd m p f n) {W Y : List Nat} (hW : ∀ x ∈ W,x < 256) (hL : L ≤ W.length) (hl : W.length ≤ 140737488351232) {R : Nat} {a : Int} {told : Bool} {K : Nat}
    (cont : Ev (fun k => l4_ReedsolBursts.l0 k (ints W) (R : Int) a (ints Y) told ((2 ^ m : Nat) : Int) (K : Int) (ints (elX m L W)) (L : Int) (m : Int) (p : Int) (f : Int) (n : Int)) true) (d : Nat) : ∀ i : Nat,i + d = L →
    Ev (fun k => l4_ReedsolBursts.l0 k (ints W) (R : Int) a (ints Y) told ((2 ^ m : Nat) : Int) (K : Int) (ints ((elX m L W).take i ++ List.replicate (L - i) 0)) (i : Int) (m : Int) (p : Int) (f : Int) (n : Int)) true := by
  have s256 := C.F.sz256
  have h0 := C.F.zero_lt
  have le := elX_length (m := m) hL
  induction d with
  | zero =>
    intro i hi
    have : i = L := by omega
    subst this
    rw [Nat.sub_self,List.replicate_zero,List.append_nil,List.take_of_length_le (by omega)]
    exact cont
  | succ d ih =>
    intro i hi
    have lf : (ints ((elX m L W).take i ++ List.replicate (L - i) 0)).length = L := by
      rw [ints_length,List.length_append,List.length_take,List.length_replicate]
      omega
    have liW := ints_length W
    refine Ev.succ ?_
    simp only [l4_ReedsolBursts.l0]
    refine ev_pos (by omega) (ev_pos (by omega) (ev_pos (by omega) (ev_neg (by omega) ?_)))
    rw [el_one s256 h0 hW,set_ints,← elX_getD hL (by omega),fill_set _ _ _ le (by omega),show wrap64 ((i : Int) + 1) = ((i + 1 : Nat) : Int) from w64s (by omega)]
    exact ih (i + 1) (by omega)
theorem ReedsolBursts : l4_ReedsolBursts.Pure := by
  intro M P A B l1 rows at_ l4 told hM hP hA hB hl1 hl2 hl3 hrows hat hk1 hk2 hk3
  obtain ⟨W,rfl,hW⟩ := bytes_of hl3
  obtain ⟨Y,rfl,hY⟩ := bytes_of hk3
  have lw : W.length ≤ 140737488351232 := by rw [ints_length] at hl2; omega
  have ly : Y.length ≤ 140737488351232 := by rw [ints_length] at hk2; omega
  refine Ev.rounds (g := fun k => l4_ReedsolBursts.f k M P A B (ints W) rows at_ (ints Y) told) ?_
  unfold l4_ReedsolBursts.f
  obtain ⟨c,g1,g2,hc⟩ := checks_f M P A B (wf_i64 hM) (wf_u64 hP)
  rcases hc with hc | ⟨rfl,m,p,f,n,rfl,rfl,rfl,rfl,C⟩
  · refine Ev.bind g2 (ev_neg hc ?_)
    refine Ev.succ ?_
    simp only [l4_ReedsolBursts.j0]
    exact ev_pos trivial (Ev.bind knows_f (Ev.now _))
  · have h8 := C.F.eight
    have s8 := C.F.sz8
    have s256 := C.F.sz256
    have n1 := C.n1
    have n2 := C.n2
    have liW := ints_length W
    -- rows
    obtain ⟨R,hR0⟩ : ∃ R,R = 1 + pN 8 rows := ⟨_,rfl⟩
    obtain ⟨e8,e9⟩ := pN_eq (L := 8) (by omega) (by omega) rows
    have eR : wrap64 (1 + Int.tmod (wrap64 (Int.tmod rows 8 + 8)) 8) = (R : Int) := by
      have e8' : Int.tmod (wrap64 (Int.tmod rows 8 + 8)) 8 = ((pN 8 rows : Nat) : Int) := e8
      rw [e8']
      clear e8 e8'
      rw [w64 (by omega) (by omega)]
      omega
    clear e8
    have hR : 0 < R := by clear eR; omega
    have hR8 : R ≤ 8 := by clear eR; omega
    -- data's length
    obtain ⟨K,hK0⟩ : ∃ K,K = min (2 ^ m - 1 - n) (W.length / R) := ⟨_,rfl⟩
    have q1 : wrap64 (((ints W).length : Int) / (R : Int)) = ((W.length / R : Nat) : Int) := by
      have : ((ints W).length : Int) / (R : Int) = ((W.length / R : Nat) : Int) := by rw [liW]; omega
      rw [this]
      have := Nat.div_le_self W.length R
      clear eR
      generalize W.length / R = z at this ⊢
      exact w64 (by omega) (by omega)
    have q2 : wrap64 (wrap64 (shl .i64 1 (m : Int) - 1) - (n : Int)) = ((2 ^ m - 1 - n : Nat) : Int) := by
      have z : wrap64 (shl .i64 1 (m : Int) - 1) = ((2 ^ m - 1 : Nat) : Int) := by
        clear eR q1
        rw [shl1 m h8,w64 (by omega) (by omega)]
        omega
      rw [z]
      clear z eR q1
      rw [w64 (by omega) (by omega)]
      omega
    have hKle : K ≤ 2 ^ m - 1 - n := by rw [hK0]; exact Nat.min_le_left _ _
    have hKR : K * R ≤ W.length := by
      have : K ≤ W.length / R := by rw [hK0]; exact Nat.min_le_right _ _
      exact Nat.le_trans (Nat.mul_le_mul_right R this) (Nat.div_mul_le_self _ _)
    have hKb : K * R ≤ 256 * 8 := Nat.mul_le_mul (by clear eR q1 q2; omega) hR8
    have q3 : wrap64 ((K : Int) * (R : Int)) = ((K * R : Nat) : Int) := by
      clear eR q1 q2
      rw [← Int.natCast_mul]
      exact w64 (by omega) (by omega)
    have hX : (elX m (K * R) W).length = K * R := elX_length hKR
    have hD := elX_lt (m := m) C.F.zero_lt (K * R) W
    have hKn : K + n ≤ 2 ^ m - 1 := by clear eR q1 q2 q3; omega
    obtain ⟨lV,hV⟩ := bu_V C hX hD hR
    have st := Str_ok C hX hD hKn hR (by clear eR q1 q2 q3; omega)
    have hLR : (K + n) * R ≤ 256 * 8 := Nat.mul_le_mul (by clear eR q1 q2 q3; omega) hR8
    have hL1 : 1 ≤ (K + n) * R := Nat.mul_pos (by clear eR q1 q2 q3; omega) hR
    have liV := ints_length (strN p m f n R (elX m (K * R) W))
    have e1 : IntKind.u64.wrap (m : Int) = (m : Int) := by clear eR q1 q2 q3; exact wu64 (by omega) (by omega)
    refine Ev.bind g2 (ev_pos rfl (Ev.bind knows_f ?_))
    refine Ev.succ ?_
    simp only [l4_ReedsolBursts.j0]
    rw [e1,eR,q1,q2,mn_nat,← hK0,q3,shl1 m h8,Int.toNat_natCast]
    clear e1 eR q1 q2 q3
    refine ev_neg Bool.false_ne_true (ev_pos (by omega) (ev_neg (by omega) (ev_pos (by omega) (ev_pos (by omega) ?_))))
    have g := bu_l0 (Y := Y) (R := R) (a := at_) (told := told) (K := K) C hW hKR lw ?_ (K * R) 0 (by omega)
    · rw [List.take_zero,List.nil_append,Nat.sub_zero,ints_replicate] at g
      exact g
    · refine Ev.succ ?_
      simp only [l4_ReedsolBursts.l0]
      refine ev_neg (by rw [ints_length,hX]; omega) (Ev.bind st (Ev.bind (ev_const (num_id 0)) (ev_pos rfl ?_)))
      have z1 : wrap64 (wrap64 ((K : Int) + (n : Int)) * (R : Int)) = (((K + n) * R : Nat) : Int) := by
        have z : wrap64 ((K : Int) + (n : Int)) = ((K + n : Nat) : Int) := by rw [w64 (by omega) (by omega)]; omega
        rw [z,← Int.natCast_mul]
        clear z
        exact w64 (by omega) (by omega)
      have z2 : ((((ints (strN p m f n R (elX m (K * R) W))).length : Nat) : Int) != wrap64 (wrap64 ((K : Int) + (n : Int)) * (R : Int))) = false := by
        rw [z1,liV,lV]
        exact bne_self_eq_false _
      dsimp only
      rw [z2]
      clear z1 z2
      obtain ⟨a1,a2⟩ := pN_eq (L := (strN p m f n R (elX m (K * R) W)).length) (by omega) (by omega) at_
      have go : ∀ h : Nat,(told = true ∧ h ≤ n ∨ told = false ∧ 2 * h ≤ n) → Ev (fun k => l4_ReedsolBursts.j3 k (R : Int) at_ (ints Y) told ((2 ^ m : Nat) : Int) (ints (elX m (K * R) W)) (ints (strN p m f n R (elX m (K * R) W))) ((h * R : Nat) : Int) (m : Int) (p : Int) (f : Int) (n : Int)) true := fun h hh => by
        have g := bu_l1 C hX hD hKn hR (by clear a1; omega) hY hh (h * R) 0 _ [] (by rw [Nat.zero_add]) (Bs.start (L := K + n) (told := told) hV a2)
        refine Ev.succ ?_
        simp only [l4_ReedsolBursts.j3]
        rw [liV,a1]
        clear a1
        refine ev_neg (by omega) (Ev.bind (Ev.now _) (ev_pos (by rw [List.length_nil]; omega) ?_))
        rw [List.nil_append]
        exact g
      refine Ev.succ ?_
      simp only [l4_ReedsolBursts.j2]
      refine ev_neg Bool.false_ne_true ?_
      by_cases t : told = true
      · refine ev_pos t ?_
        have z : wrap64 ((n : Int) * (R : Int)) = ((n * R : Nat) : Int) := by
          have hb : n * R ≤ 256 * 8 := Nat.mul_le_mul (by clear a1; omega) hR8
          clear a1
          rw [← Int.natCast_mul]
          exact w64 (by omega) (by omega)
        rw [z]
        exact go n (.inl ⟨t,Nat.le_refl _⟩)
      · refine ev_neg t ?_
        have z0 : wrap64 (Int.tdiv (n : Int) 2) = ((n / 2 : Nat) : Int) := by
          have : Int.tdiv (n : Int) ((2 : Nat) : Int) = ((n / 2 : Nat) : Int) := tdiv_nat n 2
          rw [show (2 : Int) = ((2 : Nat) : Int) from rfl,this]
          clear a1
          exact w64 (by omega) (by omega)
        have z : wrap64 (((n / 2 : Nat) : Int) * (R : Int)) = ((n / 2 * R : Nat) : Int) := by
          have hb : n / 2 * R ≤ 256 * 8 := Nat.mul_le_mul (by clear a1 z0; omega) hR8
          clear a1 z0
          rw [← Int.natCast_mul]
          exact w64 (by omega) (by omega)
        rw [z0,z]
        clear z0 z
        exact go (n / 2) (.inr ⟨by cases told <;> simp_all,by omega⟩)
end Go.Proofs.Ytpgecdidddoglaa.Pure
