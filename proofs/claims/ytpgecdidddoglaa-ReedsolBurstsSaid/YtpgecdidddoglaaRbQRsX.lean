/- Reedsol's decoder in plain numbers: erased places, the near code word, Decode. -/
import Derived.Test.YtpgecdidddoglaaRbPx12
import Derived.Test.YtpgecdidddoglaaRbPx6
import Derived.Test.YtpgecdidddoglaaRbQRsD
import Derived.Test.YtpgecdidddoglaaRbPx10
import Derived.Test.YtpgecdidddoglaaRbPx15
import Derived.Test.YtpgecdidddoglaaRbPx16
set_option linter.unusedVariables false
set_option linter.unusedSimpArgs false
namespace Go.Proofs.Ytpgecdidddoglaa.GalP
open Go.RowKit Go.Proofs.Ytpgecdidddoglaa.P Go.Proofs.YtpgecdidddoglaaW.PrintWords Go.Proofs.YtpgecdidddoglaaW.PrintLast Go.Proofs.YtpgecdidddoglaaW.PrintMore Go.Proofs.YtpgecdidddoglaaW.Q
open Go.Proofs.Ytpgecdidddoglaa.Gal
def eraN (p m : Nat) (gone : List Bool) (len fc : Nat) : Nat → Nat → List Nat → List Nat
  | 0,_,A => A
  | c + 1,i,A => eraN p m gone len fc c (i + 1) (if gone.getD i false = true then plow p m A [1,pw p (2 ^ m) (len - 1 - i)] (fc + 1) else A)
def fillN (n : Nat) (T : List Nat) : List Nat := T ++ List.replicate (n - T.length) 0
def slP (b : List Nat) (u : Nat) : List Nat := (List.range (b.length - 1)).map (fun t => if t % 2 = 0 ∧ t < 2 * u then b.getD (t + 1) 0 else 0)
def slN (b : List Nat) : List Nat := slP b b.length
def bkN (p m len i : Nat) : Nat := pw p (2 ^ m) (ex_of m (-((len - 1 - i : Nat) : Int)))
def scN (p m f len i : Nat) : Nat := pw p (2 ^ m) (ex_of m (((len - 1 - i : Nat) : Int) * Int.tmod (1 - (f : Int)) ((2 ^ m - 1 : Nat) : Int)))
def magN (p m f len : Nat) (worth slope : List Nat) (i : Nat) : Nat := mu p m (scN p m f len i) (mu p m (hv p m worth.reverse (bkN p m len i)) (iv p m (hv p m slope.reverse (bkN p m len i))))
def fixN (p m f len : Nat) (both worth slope : List Nat) : Nat → Nat → List Nat → Option (List Nat)
  | 0,_,out => some out
  | c + 1,i,out => if hv p m both.reverse (bkN p m len i) = 0 then (if hv p m slope.reverse (bkN p m len i) = 0 then none else fixN p m f len both worth slope c (i + 1) (out.set i (out.getD i 0 ^^^ magN p m f len worth slope i))) else fixN p m f len both worth slope c (i + 1) out
def wrN (W out : List Nat) (gone : List Bool) : Nat → Nat → Nat → Nat
  | 0,_,q => q
  | c + 1,i,q => wrN W out gone c (i + 1) (if out.getD i 0 = W.getD i 0 then q else if gone.getD i false = true then q else q + 1)
def mendN (p m f n : Nat) (W : List Nat) (gone : List Bool) (fc : Nat) : List Nat × Bool :=
  if n < fc then ([],false)
  else if n - fc < 2 * (locN p m ((fillN n (plow p m (syn p m f n W) (eraN p m gone W.length fc gone.length 0 [1]) n)).drop fc)).L then ([],false)
  else match fixN p m f W.length (plow p m (eraN p m gone W.length fc gone.length 0 [1]) (locN p m ((fillN n (plow p m (syn p m f n W) (eraN p m gone W.length fc gone.length 0 [1]) n)).drop fc)).now ((eraN p m gone W.length fc gone.length 0 [1]).length + (locN p m ((fillN n (plow p m (syn p m f n W) (eraN p m gone W.length fc gone.length 0 [1]) n)).drop fc)).now.length))
      (plow p m (syn p m f n W) (plow p m (eraN p m gone W.length fc gone.length 0 [1]) (locN p m ((fillN n (plow p m (syn p m f n W) (eraN p m gone W.length fc gone.length 0 [1]) n)).drop fc)).now ((eraN p m gone W.length fc gone.length 0 [1]).length + (locN p m ((fillN n (plow p m (syn p m f n W) (eraN p m gone W.length fc gone.length 0 [1]) n)).drop fc)).now.length)) n)
      (slN (plow p m (eraN p m gone W.length fc gone.length 0 [1]) (locN p m ((fillN n (plow p m (syn p m f n W) (eraN p m gone W.length fc gone.length 0 [1]) n)).drop fc)).now ((eraN p m gone W.length fc gone.length 0 [1]).length + (locN p m ((fillN n (plow p m (syn p m f n W) (eraN p m gone W.length fc gone.length 0 [1]) n)).drop fc)).now.length))) W.length 0 W with
    | none => ([],false)
    | some out => (out,allz (syn p m f n out) && decide (2 * wrN W out gone W.length 0 0 ≤ n - fc))
theorem eraN_ok {m p : Nat} (F : Fi m p) (gone : List Bool) (len fc : Nat) : ∀ c i A,(∀ y ∈ A,y < 2 ^ m) → 1 ≤ A.length → A.length ≤ fc + 1 → (∀ y ∈ eraN p m gone len fc c i A,y < 2 ^ m) ∧ 1 ≤ (eraN p m gone len fc c i A).length ∧ (eraN p m gone len fc c i A).length ≤ fc + 1 := by
  intro c
  induction c with
  | zero => intro i A h1 h2 h3; exact ⟨h1,h2,h3⟩
  | succ c ih =>
    intro i A h1 h2 h3
    rw [eraN]
    split
    · have lp := plow_length p m A [1,pw p (2 ^ m) (len - 1 - i)] (fc + 1)
      rw [show [1,pw p (2 ^ m) (len - 1 - i)].length = 2 from rfl] at lp
      exact ih _ _ (plow_lt F h1 _ _) (by rw [lp]; omega) (by rw [lp]; omega)
    · exact ih _ _ h1 h2 h3
theorem slP_length (b : List Nat) (u : Nat) : (slP b u).length = b.length - 1 := by unfold slP; rw [List.length_map,List.length_range]
theorem slP_getD (b : List Nat) (u t : Nat) (h : t < b.length - 1) : (slP b u).getD t 0 = if t % 2 = 0 ∧ t < 2 * u then b.getD (t + 1) 0 else 0 := by
  unfold slP
  rw [List.getD_eq_getElem?_getD,List.getElem?_map,List.getElem?_range h]
  rfl
theorem slP_zero (b : List Nat) : slP b 0 = List.replicate (b.length - 1) 0 := by
  refine list_ext_getD (by rw [slP_length,List.length_replicate]) (fun i => ?_)
  rw [getD_rep]
  by_cases c : i < b.length - 1
  · rw [slP_getD b 0 i c,if_neg (by omega)]
  · exact getD_over _ _ (by rw [slP_length]; omega)
theorem slP_step (b : List Nat) (u : Nat) (h : 2 * u + 1 < b.length) : (slP b u).set (2 * u) (b.getD (2 * u + 1) 0) = slP b (u + 1) := by
  refine list_ext_getD (by rw [List.length_set,slP_length,slP_length]) (fun i => ?_)
  rw [getD_set,slP_length]
  by_cases c : i < b.length - 1
  · rw [slP_getD b _ i c,slP_getD b _ i c]
    by_cases c2 : i = 2 * u
    · subst c2
      rw [if_pos ⟨rfl,by omega⟩,if_pos ⟨by omega,by omega⟩]
    · rw [if_neg (by omega)]
      by_cases c3 : i % 2 = 0 ∧ i < 2 * u
      · rw [if_pos c3,if_pos ⟨c3.1,by omega⟩]
      · rw [if_neg c3,if_neg (by omega)]
  · rw [if_neg (by omega),getD_over _ _ (by rw [slP_length]; omega),getD_over _ _ (by rw [slP_length]; omega)]
theorem slP_end (b : List Nat) (u : Nat) (h : b.length ≤ 2 * u + 1) : slP b u = slN b := by
  unfold slN
  refine list_ext_getD (by rw [slP_length,slP_length]) (fun i => ?_)
  by_cases c : i < b.length - 1
  · rw [slP_getD b _ i c,slP_getD b _ i c]
    by_cases c3 : i % 2 = 0
    · rw [if_pos ⟨c3,by omega⟩,if_pos ⟨c3,by omega⟩]
    · rw [if_neg (fun h => c3 h.1),if_neg (fun h => c3 h.1)]
  · rw [getD_over _ _ (by rw [slP_length]; omega),getD_over _ _ (by rw [slP_length]; omega)]
theorem slN_lt {m : Nat} (h0 : 0 < 2 ^ m) {b : List Nat} (hb : ∀ y ∈ b,y < 2 ^ m) : ∀ y ∈ slN b,y < 2 ^ m := by
  intro y hy
  unfold slN slP at hy
  obtain ⟨t,_,rfl⟩ := List.mem_map.1 hy
  show (if _ then _ else _) < _
  split
  · exact getD_lt' h0 hb _
  · exact h0
theorem rdOf_bool (g : List Bool) (i : Nat) : rdOf false g (i : Int) = g.getD i false := by unfold rdOf; rw [Int.toNat_natCast]
theorem reverse_lt {m : Nat} {l : List Nat} (h : ∀ y ∈ l,y < 2 ^ m) : ∀ y ∈ l.reverse,y < 2 ^ m := fun y hy => h y (List.mem_reverse.1 hy)
theorem fixN_ok {m p : Nat} (F : Fi m p) (f len : Nat) (both worth slope : List Nat) : ∀ c i out out',fixN p m f len both worth slope c i out = some out' → (∀ y ∈ out,y < 2 ^ m) → (∀ y ∈ out',y < 2 ^ m) ∧ out'.length = out.length := by
  intro c
  induction c with
  | zero => intro i out out' h h1; rw [fixN] at h; rw [← Option.some.inj h]; exact ⟨h1,rfl⟩
  | succ c ih =>
    intro i out out' h h1
    rw [fixN] at h
    split at h
    · split at h
      · exact absurd h (by simp)
      · have := ih _ _ _ h (mem_set_lt h1 i (Nat.xor_lt_two_pow (getD_lt' F.zero_lt h1 i) (F.mu_lt (F.pw_lt _))))
        rw [List.length_set] at this
        exact this
    · exact ih _ _ _ h h1
section
variable {m p f n : Nat} (C : Cd m p f n) {W : List Nat} (hW : ∀ y ∈ W,y < 2 ^ m) (lW : W.length ≤ 2 ^ m - 1) {gone : List Bool} (lg : gone.length = W.length) {fc : Nat}
include C hW lW lg
omit hW in
theorem md_l4 {out : List Nat} (lo : out.length = W.length) (hfc : fc ≤ n) (b : Bool) (c : Nat) : ∀ i q : Nat,i + c = out.length → q ≤ i →
    Ev (fun k => reedsol_code_mend.l4 k (cod m p f n) (ints W) gone (fc : Int) (ints out) b (q : Int) (out.length : Int) (i : Int)) (ints out,b && decide (2 * wrN W out gone c i q ≤ n - fc)) := by
  have s8 := C.F.sz8
  have s256 := C.F.sz256
  have n2 := C.n2
  induction c with
  | zero =>
    intro i q hi hq
    rw [wrN]
    have e : decide (wrap64 (2 * (q : Int)) ≤ wrap64 ((n : Int) - (fc : Int))) = decide (2 * q ≤ n - fc) := by
      rw [w64 (by omega) (by omega),w64 (by omega) (by omega)]
      exact decide_eq_decide.2 (by omega)
    have eP : (cod m p f n).Par = (n : Int) := rfl
    refine Ev.succ ?_
    simp only [reedsol_code_mend.l4]
    rw [eP,e]
    clear e
    refine ev_neg (by omega) ?_
    cases b with
    | true => exact ev_pos rfl (ev_pos (by rw [cod_size]; omega) (Ev.now _))
    | false => exact ev_neg Bool.false_ne_true (Ev.now _)
  | succ c ih =>
    intro i q hi hq
    have c1 : (i : Int) < (out.length : Int) := by omega
    have c2 : (0 : Int) ≤ (i : Int) := by omega
    have c3 : (i : Int) < ((ints out).length : Int) := by rw [ints_length]; omega
    have c4 : (i : Int) < ((ints W).length : Int) := by rw [ints_length]; omega
    have c5 : (i : Int) < (gone.length : Int) := by omega
    rw [wrN]
    refine Ev.succ ?_
    simp only [reedsol_code_mend.l4]
    refine ev_pos c1 (ev_pos c2 (ev_pos c3 (ev_pos c4 ?_)))
    rw [rd_ints,rd_ints,rdOf_bool,show wrap64 ((i : Int) + 1) = ((i + 1 : Nat) : Int) from w64s (by omega)]
    by_cases a1 : out.getD i 0 = W.getD i 0
    · rw [if_pos a1]
      exact ev_pos (by rw [a1]) (ih (i + 1) q (by omega) (by omega))
    · rw [if_neg a1]
      refine ev_neg (fun h => a1 (Int.ofNat_inj.1 h)) (ev_pos c5 ?_)
      by_cases a2 : gone.getD i false = true
      · rw [if_pos a2]
        exact ev_pos a2 (ih (i + 1) q (by omega) (by omega))
      · rw [if_neg a2]
        refine ev_neg a2 ?_
        rw [show wrap64 ((q : Int) + 1) = ((q + 1 : Nat) : Int) from w64s (by omega)]
        exact ih (i + 1) (q + 1) (by omega) (by omega)
omit hW in
theorem md_l3 (hfc : fc ≤ n) {both worth slope : List Nat} (h1 : ∀ y ∈ both,y < 2 ^ m) (h2 : ∀ y ∈ worth,y < 2 ^ m) (h3 : ∀ y ∈ slope,y < 2 ^ m) (l1 : both.length ≤ 100000) (l2 : worth.length ≤ 100000) (l3 : slope.length ≤ 100000) (c : Nat) : ∀ (i : Nat) (out : List Nat),i + c = W.length → out.length = W.length → (∀ y ∈ out,y < 2 ^ m) →
    Ev (fun k => reedsol_code_mend.l3 k (cod m p f n) (ints W) gone (fc : Int) (ints both) (ints worth) (ints slope) (ints out) (W.length : Int) (i : Int))
      (match fixN p m f W.length both worth slope c i out with
        | none => ([],false)
        | some out' => (ints out',allz (syn p m f n out') && decide (2 * wrN W out' gone W.length 0 0 ≤ n - fc))) := by
  have s8 := C.F.sz8
  have s256 := C.F.sz256
  have n2 := C.n2
  have hf := C.hf
  induction c with
  | zero =>
    intro i out hi lo ho
    rw [fixN]
    have q := md_l4 C lW lg lo hfc (allz (syn p m f n out)) out.length 0 0 (by omega) (Nat.le_refl _)
    rw [lo] at q
    refine Ev.succ ?_
    simp only [reedsol_code_mend.l3]
    refine ev_neg (by omega) (Ev.bind (syn_f C out ho (by omega)) ?_)
    rw [ints_length,lo]
    exact q
  | succ c ih =>
    intro i out hi lo ho
    have c1 : (i : Int) < (W.length : Int) := by omega
    have c2 : 0 < (cod m p f n).size := by rw [cod_size]; omega
    have c3 : (0 : Int) ≤ (i : Int) := by omega
    have c4 : (i : Int) < ((ints out).length : Int) := by rw [ints_length]; omega
    have hb : bkN p m W.length i < 2 ^ m := C.F.pw_lt _
    have hs : scN p m f W.length i < 2 ^ m := C.F.pw_lt _
    have v1 := val_f C (f := f) (n := n) hb h1 l1
    have v2 := val_f C (f := f) (n := n) hb h3 l3
    have v3 := val_f C (f := f) (n := n) hb h2 l2
    have t1 := C.F.hv_lt hb (reverse_lt h1)
    have t2 := C.F.hv_lt hb (reverse_lt h3)
    have t3 := C.F.hv_lt hb (reverse_lt h2)
    have ei : i + 1 ≤ 9223372036854775806 := by omega
    have eb : gT_Exp.f (cod m p f n) (wrap64 (-(wrap64 ((wrap64 (((ints W).length : Int) - 1)) - (i : Int))))) = some ((bkN p m W.length i : Nat) : Int) := by
      have z1 : wrap64 (((ints W).length : Int) - 1) = ((W.length - 1 : Nat) : Int) := by rw [ints_length,w64 (by omega) (by omega)]; omega
      rw [z1]; clear z1
      have z2 : wrap64 (((W.length - 1 : Nat) : Int) - (i : Int)) = ((W.length - 1 - i : Nat) : Int) := by rw [w64 (by omega) (by omega)]; omega
      rw [z2]; clear z2
      rw [w64 (by omega) (by omega)]
      exact exp_i C _
    have es : gT_Exp.f (cod m p f n) (wrap64 ((wrap64 ((wrap64 (((ints W).length : Int) - 1)) - (i : Int))) * (Int.tmod (wrap64 (1 - (cod m p f n).First)) (wrap64 (((cod m p f n).size : Int) - 1))))) = some ((scN p m f W.length i : Nat) : Int) := by
      have z1 : wrap64 (((ints W).length : Int) - 1) = ((W.length - 1 : Nat) : Int) := by rw [ints_length,w64 (by omega) (by omega)]; omega
      rw [z1]; clear z1
      have z2 : wrap64 (((W.length - 1 : Nat) : Int) - (i : Int)) = ((W.length - 1 - i : Nat) : Int) := by rw [w64 (by omega) (by omega)]; omega
      rw [z2]; clear z2
      have z3 : wrap64 (((cod m p f n).size : Int) - 1) = ((2 ^ m - 1 : Nat) : Int) := by rw [cod_size,w64 (by omega) (by omega)]; omega
      rw [z3]; clear z3
      have z4 : wrap64 (1 - (cod m p f n).First) = 1 - (f : Int) := by rw [show (cod m p f n).First = (f : Int) from rfl,w64 (by omega) (by omega)]
      rw [z4]; clear z4
      have b1 : (Int.tmod (1 - (f : Int)) ((2 ^ m - 1 : Nat) : Int)).natAbs ≤ 1000 := by
        rw [Int.natAbs_tmod]
        exact Nat.le_trans (Nat.mod_le _ _) (by omega)
      have b2 : (((W.length - 1 - i : Nat) : Int) * Int.tmod (1 - (f : Int)) ((2 ^ m - 1 : Nat) : Int)).natAbs ≤ 1000 * 1000 := by
        rw [Int.natAbs_mul]
        exact Nat.mul_le_mul (by omega) b1
      rw [w64 (by omega) (by omega)]
      exact exp_i C _
    have cq : ¬ (wrap64 (((cod m p f n).size : Int) - 1) = 0) := by
      have z3 : wrap64 (((cod m p f n).size : Int) - 1) = ((2 ^ m - 1 : Nat) : Int) := by rw [cod_size,w64 (by omega) (by omega)]; omega
      rw [z3]; clear z3 eb es; omega
    rw [fixN]
    refine Ev.succ ?_
    simp only [reedsol_code_mend.l3]
    refine ev_pos c1 (ev_pos c2 ?_)
    rw [eb]
    simp only [Option.bind_some]
    refine Ev.bind v1 ?_
    by_cases a1 : hv p m both.reverse (bkN p m W.length i) = 0
    · rw [if_pos a1]
      refine ev_pos (by rw [a1]; rfl) (Ev.bind v2 ?_)
      by_cases a2 : hv p m slope.reverse (bkN p m W.length i) = 0
      · rw [if_pos a2]
        exact ev_pos (by rw [a2]; rfl) (Ev.now _)
      · rw [if_neg a2]
        have dv := div_o C (f := f) (n := n) t3 (Nat.pos_of_ne_zero a2) t2
        have m1 : mu p m (hv p m worth.reverse (bkN p m W.length i)) (iv p m (hv p m slope.reverse (bkN p m W.length i))) < 2 ^ m := C.F.mu_lt t3
        have mm := mul_o C (f := f) (n := n) hs m1
        have x1 : out.getD i 0 < 2 ^ m := getD_lt' C.F.zero_lt ho i
        have x2 : magN p m f W.length worth slope i < 2 ^ m := C.F.mu_lt hs
        have g := ih (i + 1) (out.set i (out.getD i 0 ^^^ magN p m f W.length worth slope i)) (by clear eb es cq; omega) (by rw [List.length_set]; exact lo) (mem_set_lt ho i (Nat.xor_lt_two_pow x1 x2))
        have y1 : out.getD i 0 < 256 := by clear eb es cq; omega
        have y2 : magN p m f W.length worth slope i < 256 := by clear eb es cq; omega
        refine ev_neg (by clear eb es cq; omega) (ev_pos c3 (ev_pos c4 (ev_neg cq ?_)))
        rw [es]
        simp only [Option.bind_some]
        refine Ev.bind v3 (Ev.bind dv (Ev.bind mm ?_))
        clear eb es cq
        unfold magN at y2 g
        rw [rd_ints,bxor8 _ _ y1 y2,set_ints,show wrap64 ((i : Int) + 1) = ((i + 1 : Nat) : Int) from w64s (by omega)]
        exact g
    · rw [if_neg a1]
      have g := ih (i + 1) out (by clear eb es cq; omega) lo ho
      refine ev_neg (by clear eb es cq; omega) ?_
      clear eb es cq
      rw [show wrap64 ((i : Int) + 1) = ((i + 1 : Nat) : Int) from w64s (by omega)]
      exact g
theorem md_l2 (hfc : fc ≤ n) {both worth : List Nat} (h1 : ∀ y ∈ both,y < 2 ^ m) (h2 : ∀ y ∈ worth,y < 2 ^ m) (l1 : both.length ≤ 10000) (l2 : worth.length ≤ 10000) (c : Nat) : ∀ (u : Nat),both.length ≤ 2 * (u + c) + 1 → 2 * u ≤ both.length + 1 →
    Ev (fun k => reedsol_code_mend.l2 k (cod m p f n) (ints W) gone (fc : Int) (ints both) (ints worth) (ints (slP both u)) ((2 * u + 1 : Nat) : Int))
      (match fixN p m f W.length both worth (slN both) W.length 0 W with
        | none => ([],false)
        | some out' => (ints out',allz (syn p m f n out') && decide (2 * wrN W out' gone W.length 0 0 ≤ n - fc))) := by
  have s8 := C.F.sz8
  have s256 := C.F.sz256
  have lb := ints_length both
  have stop : ∀ u : Nat,both.length ≤ 2 * u + 1 → Ev (fun k => reedsol_code_mend.l2 k (cod m p f n) (ints W) gone (fc : Int) (ints both) (ints worth) (ints (slP both u)) ((2 * u + 1 : Nat) : Int))
      (match fixN p m f W.length both worth (slN both) W.length 0 W with
        | none => ([],false)
        | some out' => (ints out',allz (syn p m f n out') && decide (2 * wrN W out' gone W.length 0 0 ≤ n - fc))) := fun u hu => by
    have q := md_l3 C lW lg hfc h1 h2 (slN_lt C.F.zero_lt h1) (by omega) (by omega) (by unfold slN; rw [slP_length]; omega) W.length 0 W (by omega) rfl hW
    have e1 : (((ints W).length : Int)).toNat = W.length := by rw [ints_length]; rfl
    have lr : (List.replicate W.length (0 : Int)).length = W.length := List.length_replicate ..
    have e2 : (ints W).take (min (ints W).length (List.replicate W.length (0 : Int)).length) ++ (List.replicate W.length (0 : Int)).drop (min (ints W).length (List.replicate W.length (0 : Int)).length) = ints W := by
      rw [lr,ints_length,Nat.min_self,ints_take,List.take_length,List.drop_replicate,Nat.sub_self,List.replicate_zero,List.append_nil]
    refine Ev.succ ?_
    simp only [reedsol_code_mend.l2]
    rw [e1,slP_end both u hu]
    refine ev_neg (by rw [lb]; omega) (ev_pos (by omega) (ev_pos (by omega) (Ev.bind (Ev.now _) (ev_pos (by rw [lr,ints_length]; omega) ?_))))
    rw [e2]
    refine Ev.bind (Ev.now _) ?_
    rw [ints_length]
    exact q
  induction c with
  | zero => intro u hu _; exact stop u hu
  | succ c ih =>
    intro u hu hu2
    by_cases hb : both.length ≤ 2 * u + 1
    · exact stop u hb
    have g := ih (u + 1) (by omega) (by omega)
    have ls := slP_length both u
    have li := ints_length (slP both u)
    have st := slP_step both u (by omega)
    have c1 : ((2 * u + 1 : Nat) : Int) < ((ints both).length : Int) := by rw [lb]; omega
    have c2 : (0 : Int) ≤ ((2 * u + 1 : Nat) : Int) := by omega
    have c3 : (0 : Int) ≤ ((2 * u : Nat) : Int) := by omega
    have c4 : ((2 * u : Nat) : Int) < ((ints (slP both u)).length : Int) := by rw [li,ls]; omega
    have e1 : wrap64 (((2 * u + 1 : Nat) : Int) - 1) = ((2 * u : Nat) : Int) := by rw [w64 (by omega) (by omega)]; omega
    have e2 : wrap64 (((2 * u + 1 : Nat) : Int) + 2) = ((2 * (u + 1) + 1 : Nat) : Int) := by clear e1; rw [w64 (by omega) (by omega)]; omega
    refine Ev.succ ?_
    simp only [reedsol_code_mend.l2]
    rw [e1,e2,rd_ints]
    refine ev_pos c1 (ev_pos c2 (ev_pos c3 (ev_pos c4 ?_)))
    rw [set_ints,st]
    exact g
theorem md_l1 (hfc : fc ≤ n) {A : List Nat} (hA : ∀ y ∈ A,y < 2 ^ m) (lA : 1 ≤ A.length ∧ A.length ≤ fc + 1) (c : Nat) : ∀ (T : List Nat),T.length + c = n → (∀ y ∈ T,y < 2 ^ m) →
    Ev (fun k => reedsol_code_mend.l1 k (cod m p f n) (ints W) gone (fc : Int) (ints (syn p m f n W)) (ints A) (ints T))
      (if n - fc < 2 * (locN p m ((fillN n T).drop fc)).L then ([],false) else
        match fixN p m f W.length (plow p m A (locN p m ((fillN n T).drop fc)).now (A.length + (locN p m ((fillN n T).drop fc)).now.length)) (plow p m (syn p m f n W) (plow p m A (locN p m ((fillN n T).drop fc)).now (A.length + (locN p m ((fillN n T).drop fc)).now.length)) n) (slN (plow p m A (locN p m ((fillN n T).drop fc)).now (A.length + (locN p m ((fillN n T).drop fc)).now.length))) W.length 0 W with
        | none => ([],false)
        | some out' => (ints out',allz (syn p m f n out') && decide (2 * wrN W out' gone W.length 0 0 ≤ n - fc))) := by
  have s8 := C.F.sz8
  have s256 := C.F.sz256
  have n2 := C.n2
  have eP : (cod m p f n).Par = (n : Int) := rfl
  have c0 : 0 < (cod m p f n).size := by rw [cod_size]; omega
  induction c with
  | zero =>
    intro T lT hT
    have lT' : T.length = n := by omega
    have eF : fillN n T = T := by unfold fillN; rw [lT',Nat.sub_self,List.replicate_zero,List.append_nil]
    have li := ints_length T
    rw [eF]
    have hR : ∀ y ∈ T.drop fc,y < 2 ^ m := fun y hy => hT y (List.mem_of_mem_drop hy)
    have lR : (T.drop fc).length = n - fc := by rw [List.length_drop,lT']
    have k1 := loc_f C (f := f) (n := n) hR (by omega)
    have ok := locN_ok C.F hR
    rw [lR] at ok
    generalize locN p m (T.drop fc) = s at k1 ok
    have okL := ok.L
    have okn := ok.n1
    have k2 := prod_f C (f := f) (n := n) hA ok.h1 (by omega) (by omega) (A.length + s.now.length) (by omega)
    have hb := plow_lt C.F hA s.now (A.length + s.now.length)
    have lb := plow_length p m A s.now (A.length + s.now.length)
    generalize plow p m A s.now (A.length + s.now.length) = both at k2 hb lb
    have hS := syn_lt (f := f) (n := n) C.F hW
    have lS := syn_length p m f n W
    have k3 := prod_f C (f := f) (n := n) hS hb (by omega) (by omega) n (by omega)
    have hw := plow_lt C.F hS both n
    have lw := plow_length p m (syn p m f n W) both n
    generalize plow p m (syn p m f n W) both n = worth at k3 hw lw
    have k4 := md_l2 C hW lW lg hfc hb hw (by omega) (by omega) both.length 0 (by omega) (by omega)
    have eR : ((ints T).take ((n : Int)).toNat).drop ((fc : Int)).toNat = ints (T.drop fc) := by
      rw [Int.toNat_natCast,Int.toNat_natCast,ints_take,ints_drop,List.take_of_length_le (by omega)]
    have lbi := ints_length both
    refine Ev.succ ?_
    simp only [reedsol_code_mend.l1]
    rw [eP,eR]
    refine ev_pos c0 (ev_neg (by omega) (ev_pos (by omega) (ev_pos (by omega) (ev_pos (by omega) (Ev.bind k1 ?_)))))
    have e1 : wrap64 (2 * (s.L : Int)) = ((2 * s.L : Nat) : Int) := by rw [w64 (by omega) (by omega)]; omega
    have e2 : wrap64 ((n : Int) - (fc : Int)) = ((n - fc : Nat) : Int) := by clear e1; rw [w64 (by omega) (by omega)]; omega
    have e3 : wrap64 (((ints A).length : Int) + ((ints s.now).length : Int)) = ((A.length + s.now.length : Nat) : Int) := by clear e1 e2; rw [ints_length,ints_length,w64 (by omega) (by omega)]; omega
    have e4 : Go.Proofs.YtpgecdidddoglaaW.PrintWords.mx 0 (wrap64 (((ints both).length : Int) - 1)) = ((both.length - 1 : Nat) : Int) := by clear e1 e2 e3; rw [lbi,w64 (by omega) (by omega),mx_nat]
    show Ev (fun k => if wrap64 (2 * (s.L : Int)) > wrap64 ((n : Int) - (fc : Int)) then _ else _) _
    rw [e1,e2]
    clear e1 e2
    by_cases cc : n - fc < 2 * s.L
    · rw [if_pos cc]
      exact ev_pos (by clear e3 e4; omega) (Ev.now _)
    · rw [if_neg cc]
      refine ev_neg (by clear e3 e4; omega) ?_
      rw [e3]
      refine Ev.bind k2 (Ev.bind k3 ?_)
      rw [e4,Int.toNat_natCast]
      clear e3 e4
      refine ev_pos (by omega) (ev_pos (by omega) ?_)
      rw [slP_zero,ints_replicate] at k4
      exact k4
  | succ c ih =>
    intro T lT hT
    have g := ih (T ++ [0]) (by rw [List.length_append,List.length_singleton]; omega) (mem_app_lt hT (fun y hy => by rw [List.mem_singleton.1 hy]; exact C.F.zero_lt))
    have eF : fillN n (T ++ [0]) = fillN n T := by
      unfold fillN
      rw [List.length_append,List.length_singleton,List.append_assoc,show n - T.length = (n - (T.length + 1)) + 1 by omega,List.replicate_succ]
      rfl
    rw [eF] at g
    have li := ints_length T
    refine Ev.succ ?_
    simp only [reedsol_code_mend.l1]
    rw [eP]
    refine ev_pos c0 (ev_pos (by omega) (ev_pos (by omega) ?_))
    rw [ints_append] at g
    exact g
omit hW lg in
theorem md_ex (i : Nat) (hi : i < W.length) : gT_Exp.f (cod m p f n) (wrap64 (wrap64 (((ints W).length : Int) - 1) - (i : Int))) = some ((pw p (2 ^ m) (W.length - 1 - i) : Nat) : Int) := by
  have s256 := C.F.sz256
  have z1 : wrap64 (((ints W).length : Int) - 1) = ((W.length - 1 : Nat) : Int) := by rw [ints_length,w64 (by omega) (by omega)]; omega
  rw [z1]; clear z1
  have z2 : wrap64 (((W.length - 1 : Nat) : Int) - (i : Int)) = ((W.length - 1 - i : Nat) : Int) := by rw [w64 (by omega) (by omega)]; omega
  rw [z2]
  exact exp_o C _
omit hW in
theorem md_l0 (hfc : fc ≤ n) (c : Nat) : ∀ (i : Nat) (A : List Nat) (r : List Int × Bool),i + c = W.length → (∀ y ∈ A,y < 2 ^ m) → 1 ≤ A.length ∧ A.length ≤ fc + 1 →
    Ev (fun k => if 0 < (cod m p f n).size then ((reedsol_code_product.f k (cod m p f n) (ints (syn p m f n W)) (ints (eraN p m gone W.length fc c i A)) (cod m p f n).Par).bind fun t362 => (reedsol_code_mend.l1 k (cod m p f n) (ints W) gone (fc : Int) (ints (syn p m f n W)) (ints (eraN p m gone W.length fc c i A)) t362)) else none) r →
    Ev (fun k => reedsol_code_mend.l0 k (cod m p f n) (ints W) gone (fc : Int) (ints (syn p m f n W)) (ints A) gone (gone.length : Int) (i : Int)) r := by
  have s8 := C.F.sz8
  have s256 := C.F.sz256
  have n2 := C.n2
  have lWi := ints_length W
  induction c with
  | zero =>
    intro i A r hi hA lA g
    rw [eraN] at g
    refine Ev.succ ?_
    simp only [reedsol_code_mend.l0]
    exact ev_neg (by omega) g
  | succ c ih =>
    intro i A r hi hA lA g
    rw [eraN] at g
    have c1 : (i : Int) < (gone.length : Int) := by omega
    have c2 : (0 : Int) ≤ (i : Int) := by omega
    have c6 : 0 < (cod m p f n).size := by rw [cod_size]; omega
    refine Ev.succ ?_
    simp only [reedsol_code_mend.l0]
    refine ev_pos c1 (ev_pos c2 (ev_pos c1 ?_))
    rw [rdOf_bool]
    by_cases a : gone.getD i false = true
    · rw [if_pos a] at g
      have lp := plow_length p m A [1,pw p (2 ^ m) (W.length - 1 - i)] (fc + 1)
      rw [show [1,pw p (2 ^ m) (W.length - 1 - i)].length = 2 from rfl] at lp
      have q := ih (i + 1) _ r (by omega) (plow_lt C.F hA _ _) (by rw [lp]; omega) g
      have hE : ∀ y ∈ [1,pw p (2 ^ m) (W.length - 1 - i)],y < 2 ^ m := fun y hy => by
        rcases List.mem_cons.1 hy with rfl | hy
        · exact C.F.one_lt
        · rw [List.mem_singleton.1 hy]; exact C.F.pw_lt _
      have k1 := prod_f C (f := f) (n := n) hA hE (by omega) (by show 2 ≤ 100000; omega) (fc + 1) (by omega)
      have ex := md_ex C lW i (by omega)
      have eE : ([1,((pw p (2 ^ m) (W.length - 1 - i) : Nat) : Int)] : List Int) = ints [1,pw p (2 ^ m) (W.length - 1 - i)] := by simp [ints]
      have ef : wrap64 ((fc : Int) + 1) = ((fc + 1 : Nat) : Int) := by clear ex eE; exact w64s (by omega)
      have ei : wrap64 ((i : Int) + 1) = ((i + 1 : Nat) : Int) := by clear ex eE ef; exact w64s (by omega)
      rw [ef,ei]
      refine ev_pos a (ev_pos c6 (Ev.bind (ev_const ex) ?_))
      rw [eE]
      exact Ev.bind k1 q
    · rw [if_neg a] at g
      have q := ih (i + 1) A r (by omega) hA lA g
      refine ev_neg a ?_
      rw [show wrap64 ((i : Int) + 1) = ((i + 1 : Nat) : Int) from w64s (by omega)]
      exact q
theorem mend_f : Ev (fun k => reedsol_code_mend.f k (cod m p f n) (ints W) gone (fc : Int)) (ints (mendN p m f n W gone fc).1,(mendN p m f n W gone fc).2) := by
  have s8 := C.F.sz8
  have s256 := C.F.sz256
  have n2 := C.n2
  have c6 : 0 < (cod m p f n).size := by rw [cod_size]; omega
  have eP : (cod m p f n).Par = (n : Int) := rfl
  unfold reedsol_code_mend.f
  refine ev_pos c6 ?_
  rw [eP]
  by_cases hfc : n < fc
  · have e : mendN p m f n W gone fc = ([],false) := by unfold mendN; rw [if_pos hfc]
    rw [e]
    exact ev_pos (by omega) (Ev.now _)
  · refine ev_neg (by omega) (Ev.bind (syn_f C W hW lW) ?_)
    have eA := eraN_ok C.F gone W.length fc W.length 0 [1] (fun y hy => by rw [List.mem_singleton.1 hy]; exact C.F.one_lt) (Nat.le_refl _) (by show 1 ≤ fc + 1; omega)
    have hS := syn_lt (f := f) (n := n) C.F hW
    have lS := syn_length p m f n W
    have k1 := prod_f C (f := f) (n := n) hS eA.1 (by omega) (by omega) n (by omega)
    have lT := plow_length p m (syn p m f n W) (eraN p m gone W.length fc W.length 0 [1]) n
    have hT := plow_lt C.F hS (eraN p m gone W.length fc W.length 0 [1]) n
    have k2 := md_l1 C hW lW lg (fc := fc) (by omega) eA.1 eA.2 (n - (plow p m (syn p m f n W) (eraN p m gone W.length fc W.length 0 [1]) n).length) (plow p m (syn p m f n W) (eraN p m gone W.length fc W.length 0 [1]) n) (by omega) hT
    have fin : (ints (mendN p m f n W gone fc).1,(mendN p m f n W gone fc).2) = _ := rfl
    refine md_l0 C lW lg (by omega) W.length 0 [1] _ (by omega) (fun y hy => by rw [List.mem_singleton.1 hy]; exact C.F.one_lt) ⟨Nat.le_refl _,by show 1 ≤ fc + 1; omega⟩ ?_
    refine ev_pos c6 (Ev.bind k1 ?_)
    have e : (ints (mendN p m f n W gone fc).1,(mendN p m f n W gone fc).2) = (if n - fc < 2 * (locN p m ((fillN n (plow p m (syn p m f n W) (eraN p m gone W.length fc W.length 0 [1]) n)).drop fc)).L then ([],false) else
        match fixN p m f W.length (plow p m (eraN p m gone W.length fc W.length 0 [1]) (locN p m ((fillN n (plow p m (syn p m f n W) (eraN p m gone W.length fc W.length 0 [1]) n)).drop fc)).now ((eraN p m gone W.length fc W.length 0 [1]).length + (locN p m ((fillN n (plow p m (syn p m f n W) (eraN p m gone W.length fc W.length 0 [1]) n)).drop fc)).now.length)) (plow p m (syn p m f n W) (plow p m (eraN p m gone W.length fc W.length 0 [1]) (locN p m ((fillN n (plow p m (syn p m f n W) (eraN p m gone W.length fc W.length 0 [1]) n)).drop fc)).now ((eraN p m gone W.length fc W.length 0 [1]).length + (locN p m ((fillN n (plow p m (syn p m f n W) (eraN p m gone W.length fc W.length 0 [1]) n)).drop fc)).now.length)) n) (slN (plow p m (eraN p m gone W.length fc W.length 0 [1]) (locN p m ((fillN n (plow p m (syn p m f n W) (eraN p m gone W.length fc W.length 0 [1]) n)).drop fc)).now ((eraN p m gone W.length fc W.length 0 [1]).length + (locN p m ((fillN n (plow p m (syn p m f n W) (eraN p m gone W.length fc W.length 0 [1]) n)).drop fc)).now.length))) W.length 0 W with
        | none => ([],false)
        | some out' => (ints out',allz (syn p m f n out') && decide (2 * wrN W out' gone W.length 0 0 ≤ n - fc))) := by
      unfold mendN
      rw [if_neg hfc,lg]
      generalize locN p m ((fillN n (plow p m (syn p m f n W) (eraN p m gone W.length fc W.length 0 [1]) n)).drop fc) = s
      generalize eraN p m gone W.length fc W.length 0 [1] = A
      generalize plow p m A s.now (A.length + s.now.length) = both
      by_cases cc : n - fc < 2 * s.L
      · rw [if_pos cc,if_pos cc]; rfl
      · rw [if_neg cc,if_neg cc]
        cases fixN p m f W.length both (plow p m (syn p m f n W) both n) (slN both) W.length 0 W <;> rfl
    rw [e]
    exact k2
end
end Go.Proofs.Ytpgecdidddoglaa.GalP
