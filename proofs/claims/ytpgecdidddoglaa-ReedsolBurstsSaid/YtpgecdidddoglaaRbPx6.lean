-- written by mk.sh, a program of this session, over the kit's print
import Derived.Test.YtpgecdidddoglaaRbPx0
import Derived.Test.YtpgecdidddoglaaRbPx5
namespace Go.Proofs.Ytpgecdidddoglaa.P
open Go.RowKit Go.Proofs.YtpgecdidddoglaaW.PrintWords Go.Proofs.YtpgecdidddoglaaW.PrintLast Go.Proofs.YtpgecdidddoglaaW.PrintMore
attribute [local go_sem] max2_int min2_int max_two min_two max_three min_three max_four min_four   -- for this text's walks alone
set_option linter.unusedVariables false
set_option linter.unusedSimpArgs false

structure GTab where
 nil : Bool
 size : Nat
 exp : Nat → Nat
 log : Nat → Nat
def GTab.ex (t : GTab) (i : Int) : Int := (t.exp i.toNat : Nat)
def GTab.lg (t : GTab) (i : Int) : Int := (t.log i.toNat : Nat)
def gxn (P sz : Nat) : Nat → Nat
 | 0 => 1
 | n + 1 => if sz ≤ 2 * gxn P sz n then 2 * gxn P sz n ^^^ P else 2 * gxn P sz n
def glg (P sz : Nat) : Nat → Nat → Nat
 | 0,_ => 0
 | n + 1,x => if gxn P sz n = x then n else glg P sz n x
def gxe (P sz n : Nat) (k : Nat) : Nat := if k < n then gxn P sz k else 0
def GTab.of (P sz : Nat) : GTab := ⟨false,sz,gxe P sz (sz - 1),glg P sz (sz - 1)⟩
def GTab.none : GTab := ⟨true,0,fun _ => 0,fun _ => 0⟩
def gal_At (w : World) (b p q : Nat) (t : GTab) : Prop :=
 ((∃ cs,w.heap[b]? = some (.cells cs 112 (0,0)) ∧ cs[0]? = some (.int .i64 (t.size : Int)) ∧ (∀ k,k < 256 → cs[1 + k]? = some (.int .u8 ((t.exp k : Nat) : Int))) ∧ (∀ k,k < 256 → cs[257 + k]? = some (.int .i64 ((t.log k : Nat) : Int))) ∧ cs[513]? = some (.func (.func 68) #[] #[.pointer (some ⟨p,0,none⟩),.pointer (some ⟨q,0,none⟩)])) ∧
  w.heap[p]? = some (.cells #[.pointer (some ⟨b,0,none⟩)] 88 (0,0)) ∧ w.heap[q]? = some (.cells #[.int .i64 ((t.size : Int) - 1)] 3 (0,0))) ∧
  2 ≤ t.size ∧ t.size ≤ 256 ∧ (∀ k,t.exp k < 256) ∧ ∀ k,t.log k < 256
def gal_OK (w : World) (A : Option Addr) (t : GTab) : Prop :=
 (t.size = 0 ∧ ((t.nil = true ∧ A = none) ∨ (t.nil = false ∧ ∃ b cs,A = some ⟨b,0,none⟩ ∧ w.heap[b]? = some (.cells cs 112 (0,0)) ∧ cs[0]? = some (.int .i64 0)))) ∨ (t.nil = false ∧ ∃ b p q,A = some ⟨b,0,none⟩ ∧ gal_At w b p q t)
theorem gal_At_below {w w1 : World} {b p q : Nat} {t : GTab} (h : gal_At w b p q t) (hb : Below w.heap.size w w1) : gal_At w1 b p q t := by
 obtain ⟨⟨⟨cs,h1,h2⟩,h3,h4⟩,h5⟩ := h
 exact ⟨⟨⟨cs,blk_below h1 hb,h2⟩,blk_below h3 hb,blk_below h4 hb⟩,h5⟩
theorem gal_OK_below {w w1 : World} {A : Option Addr} {t : GTab} (h : gal_OK w A t) (hb : Below w.heap.size w w1) : gal_OK w1 A t := by
 rcases h with ⟨h1,h2⟩ | ⟨h0,b,p,q,h1,h2⟩
 ·refine .inl ⟨h1,?_⟩
  rcases h2 with h2 | ⟨h0,b,cs,h2,h3,h4⟩
  ·exact .inl h2
  ·exact .inr ⟨h0,b,cs,h2,blk_below h3 hb,h4⟩
 ·exact .inr ⟨h0,b,p,q,h1,gal_At_below h2 hb⟩
theorem gal_OK_alloc {w : World} {A : Option Addr} {t : GTab} (h : gal_OK w A t) (o : Obj) : gal_OK (w.alloc o) A t := gal_OK_below h (below_alloc (Below.refl _ _) o)
theorem gal_OK_drewN {w : World} {A : Option Addr} {t : GTab} (h : gal_OK w A t) (m : Nat) : gal_OK (w.drewN m) A t := h
theorem gal_OK_drew {w : World} {A : Option Addr} {t : GTab} (h : gal_OK w A t) : gal_OK w.drew A t := h
theorem gal_pos {w : World} {A : Option Addr} {t : GTab} (h : gal_OK w A t) (h0 : 0 < t.size) : ∃ b p q,A = some ⟨b,0,none⟩ ∧ gal_At w b p q t := by
 rcases h with ⟨h1,_⟩ | ⟨_,h⟩
 ·omega
 ·exact h
theorem gal_nil {w : World} {A : Option Addr} {t : GTab} (h : gal_OK w A t) (h0 : t.nil = true) : A = none := by
 rcases h with ⟨_,⟨_,h2⟩ | ⟨h2,_⟩⟩ | ⟨h2,_⟩
 ·exact h2
 ·rw [h0] at h2; cases h2
 ·rw [h0] at h2; cases h2
theorem gal_some {w : World} {A : Option Addr} {t : GTab} (h : gal_OK w A t) (h0 : ¬ t.nil = true) : ∃ b,A = some ⟨b,0,none⟩ := by
 rcases h with ⟨_,⟨h1,_⟩ | ⟨_,b,_,h2,_⟩⟩ | ⟨_,b,_,_,h2,_⟩
 ·exact absurd h1 h0
 ·exact ⟨b,h2⟩
 ·exact ⟨b,h2⟩
theorem gal_At_size {w : World} {b p q : Nat} {t : GTab} (h : gal_At w b p q t) : w.cell? ⟨b,0,none⟩ = some (.int .i64 (t.size : Int)) := by
 obtain ⟨⟨⟨cs,h1,h2,_⟩,_⟩,_⟩ := h
 exact (blk_cell h1 0).trans h2
theorem gal_At_exp {w : World} {b p q : Nat} {t : GTab} (h : gal_At w b p q t) (i : Int) (h0 : 0 ≤ i) (h1 : i < 256) : w.cell? ⟨b,1 + i.toNat,none⟩ = some (.int .u8 (t.ex i)) := by
 obtain ⟨⟨⟨cs,h2,_,h3,_⟩,_⟩,_⟩ := h
 exact (blk_cell h2 _).trans (h3 i.toNat (by omega))
theorem gal_At_log {w : World} {b p q : Nat} {t : GTab} (h : gal_At w b p q t) (i : Int) (h0 : 0 ≤ i) (h1 : i < 256) : w.cell? ⟨b,257 + i.toNat,none⟩ = some (.int .i64 (t.lg i)) := by
 obtain ⟨⟨⟨cs,h2,_,_,h3,_⟩,_⟩,_⟩ := h
 exact (blk_cell h2 _).trans (h3 i.toNat (by omega))
theorem gal_At_mul {w : World} {b p q : Nat} {t : GTab} (h : gal_At w b p q t) : w.cell? ⟨b,513,none⟩ = some (.func (.func 68) #[] #[.pointer (some ⟨p,0,none⟩),.pointer (some ⟨q,0,none⟩)]) := by
 obtain ⟨⟨⟨cs,h1,_,_,_,h2⟩,_⟩,_⟩ := h
 exact (blk_cell h1 513).trans h2
theorem gal_At_p {w : World} {b p q : Nat} {t : GTab} (h : gal_At w b p q t) : w.cell? ⟨p,0,none⟩ = some (.pointer (some ⟨b,0,none⟩)) := (blk_cell h.1.2.1 0).trans rfl
theorem gal_At_q {w : World} {b p q : Nat} {t : GTab} (h : gal_At w b p q t) : w.cell? ⟨q,0,none⟩ = some (.int .i64 ((t.size : Int) - 1)) := (blk_cell h.1.2.2 0).trans rfl
theorem GTab.ex_byte {w : World} {b p q : Nat} {t : GTab} (h : gal_At w b p q t) (i : Int) : 0 ≤ t.ex i ∧ t.ex i < 256 := by
 have := h.2.2.2.1 i.toNat
 unfold GTab.ex
 omega
theorem GTab.lg_byte {w : World} {b p q : Nat} {t : GTab} (h : gal_At w b p q t) (i : Int) : 0 ≤ t.lg i ∧ t.lg i < 256 := by
 have := h.2.2.2.2 i.toNat
 unfold GTab.lg
 omega
def gN1.f (t : GTab) (a b : Int) : Option Int :=
 if a = 0 then some 0 else if b = 0 then some 0 else if 0 ≤ a ∧ a < 256 ∧ 0 ≤ b ∧ b < 256 then some (t.ex ((t.lg a + t.lg b) % ((t.size : Int) - 1))) else none
set_option maxHeartbeats 8000000 in
set_option maxRecDepth 100000 in
theorem gN1.calls (b p q : Nat) (a0 : GTab) (a1 a2 r : Int) (w : World) (hr0 : gal_At w b p q a0) (h : gN1.f a0 a1 a2 = some r) :
  Calls Try.prog 68 #[.int .u8 a1,.int .u8 a2,.pointer (some ⟨p,0,none⟩),.pointer (some ⟨q,0,none⟩)] w fun e w' => e = .returned (.int .u8 r) ∧ Drawn0 w w' := by
 unfold gN1.f at h
 by_cases c1 : a1 = 0
 ·rw [if_pos c1] at h
  obtain rfl := Option.some.inj h
  subst c1
  go_enter Try.func68,Try.ntmps68
  go_wp2
  go_ret
  exact ⟨rfl,Drawn0.refl _⟩
 rw [if_neg c1] at h
 have b1 : (a1 == 0) = false := beq_eq_false_iff_ne.mpr c1
 by_cases c2 : a2 = 0
 ·rw [if_pos c2] at h
  obtain rfl := Option.some.inj h
  subst c2
  go_enter Try.func68,Try.ntmps68
  go_wp2
  go_ret
  exact ⟨rfl,Drawn0.refl _⟩
 rw [if_neg c2] at h
 have b2 : (a2 == 0) = false := beq_eq_false_iff_ne.mpr c2
 by_cases c3 : 0 ≤ a1 ∧ a1 < 256 ∧ 0 ≤ a2 ∧ a2 < 256
 rotate_left
 ·rw [if_neg c3] at h
  exact absurd h (by simp)


 rw [if_pos c3] at h
 obtain rfl := Option.some.inj h
 clear h c1 c2
 obtain ⟨g1,g2,g3,g4⟩ := c3
 have hb1 := GTab.lg_byte hr0 a1
 have hb2 := GTab.lg_byte hr0 a2
 have hsz := hr0.2.1
 have hsz2 := hr0.2.2.1
 obtain ⟨s,hs⟩ : ∃ s : Int,s = (a0.lg a1 + a0.lg a2) % ((a0.size : Int) - 1) := ⟨_,rfl⟩
 have hs0 : 0 ≤ s := by rw [hs]; exact Int.emod_nonneg _ (by omega)
 have hs1 : s < 256 := by
  have : s < (a0.size : Int) - 1 := by rw [hs]; exact Int.emod_lt_of_pos _ (by omega)
  omega
 have hx1 := gal_At_log hr0 a1 g1 g2
 have hx2 := gal_At_log hr0 a2 g3 g4
 have hx3 := gal_At_exp hr0 s hs0 hs1
 have hx4 := gal_At_p hr0
 have hx5 := gal_At_q hr0
 rw [← hs]
 obtain ⟨l1,hl1⟩ : ∃ l : Int,l = a0.lg a1 := ⟨_,rfl⟩
 obtain ⟨l2,hl2⟩ : ∃ l : Int,l = a0.lg a2 := ⟨_,rfl⟩
 obtain ⟨o,ho⟩ : ∃ o : Int,o = (a0.size : Int) - 1 := ⟨_,rfl⟩
 obtain ⟨x,hx⟩ : ∃ x : Int,x = a0.ex s := ⟨_,rfl⟩
 rw [← hl1] at hx1 hb1 hs
 rw [← hl2] at hx2 hb2 hs
 rw [← ho] at hx5 hs
 rw [← hx] at hx3 ⊢
 obtain ⟨hb1a,hb1b⟩ := hb1
 obtain ⟨hb2a,hb2b⟩ := hb2
 have ho1 : 1 ≤ o := by omega
 have ho2 : o ≤ 255 := by omega
 have ht0 : 0 ≤ l1 + l2 := by omega
 have ho3 : ¬ (o = 0) := by omega
 have ho4 : (o == 0) = false := beq_eq_false_iff_ne.mpr ho3
 have hq0 : 0 ≤ s := hs0
 have he2 : (l1 + l2) % o = s := hs.symm
 have he1 : Int.tmod (l1 + l2) o = s := by rw [Int.tmod_eq_emod_of_nonneg ht0]; exact he2
 clear hl1 hl2 ho hx hsz hsz2 hr0 hs
 go_enter Try.func68,Try.ntmps68
 go_wp2
 go_quiet (fail)
 go_wp2
 go_ret
 exact ⟨rfl,by repeat (first | exact Drawn0.refl _ | apply Drawn0.step)⟩
def galois_New.f (k : Nat) (a0_0 a0_1 : Int) : Option (GTab × Int) :=
 (galois_Check.f k a0_0 a0_1).bind fun e => if e = 0 then (if 3 ≤ a0_0 ∧ a0_0 ≤ 8 ∧ 0 ≤ a0_1 ∧ a0_1 < 512 ∧ ∀ n,n < 2 ^ a0_0.toNat → gxn a0_1.toNat (2 ^ a0_0.toNat) n < 2 ^ a0_0.toNat then some (GTab.of a0_1.toNat (2 ^ a0_0.toNat),0) else none) else some (GTab.none,e)
theorem galois_New.mono : ∀ a0 a1 k,LeO (galois_New.f k a0 a1) (galois_New.f (k + 1) a0 a1) := by
 intro a0 a1 k
 unfold galois_New.f
 refine LeO.bind (galois_Check.mono _ _ _) (fun _ => LeO.refl _)
def galRow (x : Value) (A B : List Value) (z : Value) : List Value := x :: (A ++ (B ++ [z]))
theorem galRow_len (x z : Value) (A B : List Value) (ha : A.length = 256) (hb : B.length = 256) : (galRow x A B z).length = 514 := by simp [galRow,ha,hb]
theorem galRow_a (x z : Value) (A B : List Value) (ha : A.length = 256) (k : Nat) (hk : k < 256) : (galRow x A B z)[1 + k]? = A[k]? := by
 unfold galRow
 rw [Nat.add_comm 1 k,List.getElem?_cons_succ,List.getElem?_append_left (by omega)]
theorem galRow_b (x z : Value) (A B : List Value) (ha : A.length = 256) (hb : B.length = 256) (k : Nat) (hk : k < 256) : (galRow x A B z)[257 + k]? = B[k]? := by
 unfold galRow
 rw [show 257 + k = (256 + k) + 1 by omega,List.getElem?_cons_succ,List.getElem?_append_right (by omega),List.getElem?_append_left (by omega),ha,Nat.add_sub_cancel_left]
theorem galZero_eq : Try.zeroCells112 = (galRow (.int .i64 0) (List.replicate 256 (.int .u8 0)) (List.replicate 256 (.int .i64 0)) .nilFunc).toArray := by kernel_rfl
def galPart (P sz n : Nat) (cs : Array Value) : Prop :=
 cs.size = 514 ∧ cs[0]? = some (.int .i64 (sz : Int)) ∧ (∀ k,k < 256 → cs[1 + k]? = some (.int .u8 ((gxe P sz n k : Nat) : Int))) ∧ ∀ k,k < 256 → cs[257 + k]? = some (.int .i64 ((glg P sz n k : Nat) : Int))
theorem galPart_zero (P sz : Nat) : galPart P sz 0 (Try.zeroCells112.setIfInBounds 0 (.int .i64 (sz : Int))) := by
 rw [galZero_eq]
 have hl := galRow_len (.int .i64 0) .nilFunc (List.replicate 256 (.int .u8 0)) (List.replicate 256 (.int .i64 0)) List.length_replicate List.length_replicate
 refine ⟨by rw [Array.size_setIfInBounds,List.size_toArray]; exact hl,?_,fun k hk => ?_,fun k hk => ?_⟩
 ·rw [Array.getElem?_setIfInBounds_self_of_lt (by rw [List.size_toArray,hl]; omega)]
 ·have e : gxe P sz 0 k = 0 := by simp [gxe]
  rw [e,Array.getElem?_setIfInBounds_ne (by omega),List.getElem?_toArray,galRow_a _ _ _ _ List.length_replicate k hk,List.getElem?_replicate,if_pos hk]
  rfl
 ·have e : glg P sz 0 k = 0 := rfl
  rw [e,Array.getElem?_setIfInBounds_ne (by omega),List.getElem?_toArray,galRow_b _ _ _ _ List.length_replicate List.length_replicate k hk,List.getElem?_replicate,if_pos hk]
  rfl
theorem galPart_step {P sz n : Nat} {cs : Array Value} (h : galPart P sz n cs) (hn : n < 255) (hx : gxn P sz n < 256) :
  galPart P sz (n + 1) ((cs.setIfInBounds (1 + n) (.int .u8 ((gxn P sz n : Nat) : Int))).setIfInBounds (257 + gxn P sz n) (.int .i64 (n : Int))) := by
 obtain ⟨h1,h2,h3,h4⟩ := h
 refine ⟨by simp [h1],?_,fun k hk => ?_,fun k hk => ?_⟩
 ·rw [Array.getElem?_setIfInBounds_ne (by omega),Array.getElem?_setIfInBounds_ne (by omega)]; exact h2
 ·rw [Array.getElem?_setIfInBounds_ne (by omega)]
  by_cases c : k = n
  ·subst c
   rw [Array.getElem?_setIfInBounds_self_of_lt (by omega),gxe,if_pos (by omega)]
  ·rw [Array.getElem?_setIfInBounds_ne (by omega),h3 k hk]
   unfold gxe
   by_cases c2 : k < n
   ·rw [if_pos c2,if_pos (by omega)]
   ·rw [if_neg c2,if_neg (by omega)]
 ·unfold glg
  by_cases c : gxn P sz n = k
  ·rw [if_pos c,c,Array.getElem?_setIfInBounds_self_of_lt (by simp; omega)]
  ·rw [if_neg c,Array.getElem?_setIfInBounds_ne (by omega),Array.getElem?_setIfInBounds_ne (by omega)]
   exact h4 k hk
theorem gxe_byte (P sz n : Nat) (h : ∀ k,k < sz → gxn P sz k < sz) (hn : n < sz) (hs : sz ≤ 256) (k : Nat) : gxe P sz n k < 256 := by
 unfold gxe
 split
 ·exact Nat.lt_of_lt_of_le (h k (by omega)) hs
 ·omega
theorem glg_byte (P sz n x : Nat) (hn : n ≤ 256) : glg P sz n x < 256 := by
 induction n with
 | zero => simp [glg]
 | succ n ih =>
  unfold glg
  split
  ·omega
  ·exact ih (by omega)
theorem gal_store_nilFunc {P : Program} {w : World} {a : Addr} {m : Mode} : (store a .nilFunc m).run P w = stored P w a .nilFunc m := run_store P w a _ m rfl
theorem gal_store_func {P : Program} {w : World} {a : Addr} {m : Mode} (fn : Fn) (first captured : Array Value) : (store a (.func fn first captured) m).run P w = stored P w a (.func fn first captured) m := run_store P w a _ m rfl
attribute [local go_sem] gal_store_nilFunc gal_store_func
set_option maxHeartbeats 8000000 in
set_option maxRecDepth 100000 in
theorem galois_New.calls (k : Nat) (a0_0 a0_1 : Int) (r1 : GTab) (r2 : Int) (w : World) (h : galois_New.f k a0_0 a0_1 = some (r1,r2)) :
  Calls Try.prog 43 #[.agg #[.int .i64 a0_0,.int .u64 a0_1]] w fun e w' => ∃ A_ : Option Addr,e = .returned (.tuple #[.pointer A_,.int .i64 r2]) ∧ gal_OK w' A_ r1 ∧ Below w.heap.size w w' := by
 have hu24 := Try.underlying24
 have HB := aK (Below.refl w.heap.size w)
 unfold galois_New.f at h
 obtain ⟨e,he,h⟩ := Option.bind_eq_some_iff.mp h
 have HE := Aside0.mk he
 clear he
 by_cases c0 : e = 0
 rotate_left
 ·rw [if_neg c0] at h
  simp only [Option.some.injEq,Prod.mk.injEq] at h
  obtain ⟨rfl,rfl⟩ := h
  have b0 : (e != 0) = true := bne_iff_ne.mpr c0
  clear c0
  go_enter Try.func43,Try.ntmps43
  go_wp2_with (first | ((with_reducible refine gate_dst (N := 1) rfl ?_); refine box_event ?hg (N := 1) ?hd (cs := #[.int .i64 a0_0,.int .u64 a0_1]) (t := 24) ?hr ?_; (case hd => rfl); (case hg => rfl); (case hr => first | (go_simp; done) | (go_simp; rfl)); intro g hg_ wg hbox_ hb_; have n0_ := aK (below_step HB.out hb_); have n1_ := Aside0.mk hbox_; clear HB; have HB := n0_; have BKg := n1_; clear n0_ n1_; clear hb_ hbox_ hg_; have hcg_0 : wg.cell? ⟨g,0,none⟩ = some (.int .i64 a0_0) := (blk_cell BKg.out 0).trans rfl; have hfg_0 := blk_frozen BKg.out 0; have hcg_1 : wg.cell? ⟨g,1,none⟩ = some (.int .u64 a0_1) := (blk_cell BKg.out 1).trans rfl; have hfg_1 := blk_frozen BKg.out 1) | (go_at_call 67; (with_reducible refine (galois_Check.calls k _ _ e _ HE.out).mono ?_); rintro e w5 ⟨rfl,hb⟩; replace HB := aK (below_step HB.out hb); clear hb))
  go_ret2
  exact ⟨none,rfl,.inl ⟨rfl,.inl ⟨rfl,rfl⟩⟩,HB.out⟩


 rw [if_pos c0] at h
 subst c0
 by_cases c1 : 3 ≤ a0_0 ∧ a0_0 ≤ 8 ∧ 0 ≤ a0_1 ∧ a0_1 < 512 ∧ ∀ n,n < 2 ^ a0_0.toNat → gxn a0_1.toNat (2 ^ a0_0.toNat) n < 2 ^ a0_0.toNat
 rotate_left
 ·rw [if_neg c1] at h
  exact absurd h (by simp)
 rw [if_pos c1] at h
 simp only [Option.some.injEq,Prod.mk.injEq] at h
 obtain ⟨rfl,rfl⟩ := h
 obtain ⟨m1,m2,m3,m4,m5⟩ := c1
 obtain ⟨M,rfl⟩ : ∃ M : Nat,a0_0 = (M : Int) := ⟨a0_0.toNat,by omega⟩
 obtain ⟨P,rfl⟩ : ∃ P : Nat,a0_1 = (P : Int) := ⟨a0_1.toNat,by omega⟩
 simp only [Int.toNat_natCast] at m5 ⊢
 obtain ⟨sz,hsz⟩ : ∃ sz,sz = 2 ^ M := ⟨_,rfl⟩
 rw [← hsz] at m5 ⊢
 have hsz1 : 8 ≤ sz := by rw [hsz]; exact Nat.pow_le_pow_right (n := 2) (by omega) (show 3 ≤ M by omega)
 have hsz2 : sz ≤ 256 := by rw [hsz]; exact Nat.pow_le_pow_right (n := 2) (by omega) (show M ≤ 8 by omega)
 have hsh : shl .i64 1 (M : Int) = (sz : Int) := by
  unfold shl
  rw [show min (M : Int).toNat IntKind.i64.bits = M by simp [IntKind.bits]; omega,Int.one_mul,show ((2 : Int) ^ M) = ((2 ^ M : Nat) : Int) by simp,← hsz]
  exact IntWalk.i64_in _ (by omega)
 have hw : IntKind.i64.wrap (2 ^ M) = (sz : Int) := by
  rw [show ((2 : Int) ^ M) = ((2 ^ M : Nat) : Int) by simp,← hsz]
  exact IntWalk.i64_in _ (by omega)
 have HM5 := Aside0.mk m5
 have HP5 : Aside0 (P < 512) := ⟨by omega⟩
 have HSZ1 := Aside0.mk hsz1
 have HSZ2 := Aside0.mk hsz2
 have hM : (M : Int) ≤ 8 := m2
 have s1 : (8 : Int) ≤ (sz : Int) := by omega
 have s2 : (sz : Int) ≤ 256 := by omega
 have hmf : ∀ (fn : Fn) (first cap : Array Value) (w : World),(Instr.makeFunc fn first cap).run Try.prog w = .ok (.func fn first cap) w := fun _ _ _ _ => rfl
 clear m1 m2 m3 m4 m5 hsz hsz1 hsz2 hsh
 go_enter Try.func43,Try.ntmps43
 go_wp2_with (first | ((with_reducible refine gate_dst (N := 1) rfl ?_); refine box_event ?hg (N := 1) ?hd (cs := #[.int .i64 (M : Int),.int .u64 (P : Int)]) (t := 24) ?hr ?_; (case hd => rfl); (case hg => rfl); (case hr => first | (go_simp; done) | (go_simp; rfl)); intro g hg_ wg hbox_ hb_; have n0_ := aK (below_step HB.out hb_); have n1_ := Aside0.mk hbox_; have n2_ := aK ((by rw [hg_]; exact below_size HB.out) : w.heap.size ≤ g); clear HB; have HB := n0_; have BKg := n1_; have GEg := n2_; clear n0_ n1_ n2_; clear hb_ hbox_ hg_; have hcg_0 : wg.cell? ⟨g,0,none⟩ = some (.int .i64 (M : Int)) := (blk_cell BKg.out 0).trans rfl; have hfg_0 := blk_frozen BKg.out 0; have hcg_1 : wg.cell? ⟨g,1,none⟩ = some (.int .u64 (P : Int)) := (blk_cell BKg.out 1).trans rfl; have hfg_1 := blk_frozen BKg.out 1) | (go_at_call 67; (with_reducible refine (galois_Check.calls k _ _ 0 _ HE.out).mono ?_); rintro e w5 ⟨rfl,hb⟩; replace HB := aK (below_step HB.out hb); replace BKg := aK (blk_below BKg.out hb); clear hcg_0 hcg_1 hfg_0 hfg_1; clear hb; have hcg_0 : w5.cell? ⟨g,0,none⟩ = some (.int .i64 (M : Int)) := (blk_cell BKg.out 0).trans rfl; have hfg_0 := blk_frozen BKg.out 0; have hcg_1 : w5.cell? ⟨g,1,none⟩ = some (.int .u64 (P : Int)) := (blk_cell BKg.out 1).trans rfl; have hfg_1 := blk_frozen BKg.out 1) | ((with_reducible refine gate_dst (N := 18) rfl ?_); refine box_event ?hg (N := 18) ?hd (cs := Try.zeroCells112.setIfInBounds 0 (.int .i64 (sz : Int))) (t := 112) ?hr ?_; (case hd => rfl); (case hg => rfl); (case hr => first | (go_simp; done) | (go_simp; rfl)); intro b hg_ wb hbox_ hb_; have n0_ := aK (below_step HB.out hb_); have n1_ := Aside0.mk hbox_; have n2_ := aK ((by rw [hg_]; exact below_size HB.out) : w.heap.size ≤ b); have n3_ := aK (blk_below BKg.out hb_); have n4_ := aK (show g ≠ b by rw [hg_]; exact Nat.ne_of_lt (blk_lt BKg.out)); clear HB BKg hcg_0 hcg_1 hfg_0 hfg_1; have HB := n0_; have BKb := n1_; have GEb := n2_; have BKg := n3_; have NEg := n4_; clear n0_ n1_ n2_ n3_ n4_; clear hb_ hbox_ hg_) | ((with_reducible refine gate_dst (N := 5) rfl ?_); refine box_event ?hg (N := 5) ?hd (cs := #[.pointer none]) (t := 88) ?hr ?_; (case hd => rfl); (case hg => rfl); (case hr => first | (go_simp; done) | (go_simp; rfl)); intro p hg_ wp hbox_ hb_; have n0_ := aK (below_step HB.out hb_); have n1_ := Aside0.mk hbox_; have n2_ := aK ((by rw [hg_]; exact below_size HB.out) : w.heap.size ≤ p); have n3_ := aK (blk_below BKg.out hb_); have n4_ := aK (blk_below BKb.out hb_); have n5_ := aK (show b ≠ p by rw [hg_]; exact Nat.ne_of_lt (blk_lt BKb.out)); have n6_ := aK (show g ≠ p by rw [hg_]; exact Nat.ne_of_lt (blk_lt BKg.out)); clear HB BKg BKb; have HB := n0_; have BKp := n1_; have GEp := n2_; have BKg := n3_; have BKb := n4_; have NEp := n5_; have NEq := n6_; clear n0_ n1_ n2_ n3_ n4_ n5_ n6_; clear hb_ hbox_ hg_; have hcp_0 : wp.cell? ⟨p,0,none⟩ = some (.pointer none) := (blk_cell BKp.out 0).trans rfl; have hfp_0 := blk_frozen BKp.out 0; have hcb_0 : wp.cell? ⟨b,0,none⟩ = some (.int .i64 (sz : Int)) := (blk_cell BKb.out 0).trans (galPart_zero P sz).2.1; have hfb_0 := blk_frozen BKb.out 0; have nbp := NEp.out; have nbp2 := Ne.symm NEp.out))
 have HBS := aK (below_set (j := 0) (v := .pointer (some ⟨b,0,none⟩)) HB.out GEp.out)
 have BKS := aK (blk_put (cs' := #[.pointer (some ⟨b,0,none⟩)]) BKp.out 0 (.pointer (some ⟨b,0,none⟩)) rfl)
 have BBS := aK (blk_far (p := ⟨p,0,none⟩) BKb.out NEp.out (.pointer (some ⟨b,0,none⟩)))
 have BGS := aK (blk_far (p := ⟨p,0,none⟩) BKg.out NEq.out (.pointer (some ⟨b,0,none⟩)))
 clear hcp_0 hfp_0 hcb_0 hfb_0 nbp nbp2
 go_loopg [6,24] (sz - 1) (fun kq v6 v24 w' => ∃ (n : Nat) (cs : Array Value),v6 = .int .u64 ((gxn P sz n : Nat) : Int) ∧ v24 = .int .i64 (n : Int) ∧ Aside0 (n + kq = sz - 1) ∧ Aside0 (galPart P sz n cs) ∧ Aside0 (w'.heap[b]? = some (.cells cs 112 (0,0))) ∧ Aside0 (w'.heap[p]? = some (.cells #[.pointer (some ⟨b,0,none⟩)] 88 (0,0))) ∧ Aside0 (w'.heap[g]? = some (.cells #[.int .i64 (M : Int),.int .u64 (P : Int)] 24 (0,0))) ∧ Aside0 (Below w.heap.size w w'))
 case atStart => exact ⟨0,_,rfl,rfl,⟨by omega⟩,⟨galPart_zero P sz⟩,BBS,BKS,BGS,HBS⟩
 case round =>
  clear HB BKg BKb BKp HBS BKS BBS BGS
  obtain ⟨n,cs,rfl,rfl,HN,HP,BKb,BKp,BKg,HB⟩ := hrel
  have hcp_0 : wr.cell? ⟨p,0,none⟩ = some (.pointer (some ⟨b,0,none⟩)) := (blk_cell BKp.out 0).trans rfl
  have hfp_0 := blk_frozen BKp.out 0
  have hcb_0 : wr.cell? ⟨b,0,none⟩ = some (.int .i64 (sz : Int)) := (blk_cell BKb.out 0).trans HP.out.2.1
  have hfb_0 := blk_frozen BKb.out 0
  have nbp := NEp.out
  have nbp2 := Ne.symm NEp.out
  have ngb := NEg.out
  have ngb2 := Ne.symm NEg.out
  have hcg_1 : wr.cell? ⟨g,1,none⟩ = some (.int .u64 (P : Int)) := (blk_cell BKg.out 1).trans rfl
  have hfg_1 := blk_frozen BKg.out 1
  cases gk with
  | zero =>
   have hj : decide ((n : Int) < (sz : Int) - 1) = false := decide_eq_false (by have := HN.out; omega)
   have en : n = sz - 1 := by have := HN.out; omega
   subst en
   obtain ⟨v513,hv513⟩ : ∃ v,cs[513]? = some v := ⟨_,Array.getElem?_eq_getElem (show 513 < cs.size by rw [HP.out.1]; omega)⟩
   have hcb_513 : wr.cell? ⟨b,513,none⟩ = some v513 := (blk_cell BKb.out 513).trans hv513
   have hfb_513 := blk_frozen BKb.out 513
   go_wp2_with (first | ((with_reducible refine gate_dst (N := 8) rfl ?_); refine box_event ?hg (N := 8) ?hd (cs := #[.int .i64 0]) (t := 3) ?hr ?_; (case hd => rfl); (case hg => rfl); (case hr => first | (go_simp; done) | (go_simp; rfl)); intro q hg_ wq hbox_ hb_; have n0_ := aK (below_step HB.out hb_); have n1_ := Aside0.mk hbox_; have n2_ := aK ((by rw [hg_]; exact below_size HB.out) : w.heap.size ≤ q); have n4_ := aK (blk_below BKb.out hb_); have n3_ := aK (blk_below BKp.out hb_); have n5_ := aK (show b ≠ q by rw [hg_]; exact Nat.ne_of_lt (blk_lt BKb.out)); have n6_ := aK (show p ≠ q by rw [hg_]; exact Nat.ne_of_lt (blk_lt BKp.out)); clear HB BKb BKp hcp_0 hfp_0 hcb_0 hfb_0 hcb_513 hfb_513; have HB := n0_; have BKq := n1_; have GEq := n2_; have BKb := n4_; have BKp := n3_; have NEbq := n5_; have NEpq := n6_; clear n0_ n1_ n2_ n3_ n4_ n5_ n6_; clear hb_ hbox_ hg_; have hcp_0 : wq.cell? ⟨p,0,none⟩ = some (.pointer (some ⟨b,0,none⟩)) := (blk_cell BKp.out 0).trans rfl; have hfp_0 := blk_frozen BKp.out 0; have hcb_0 : wq.cell? ⟨b,0,none⟩ = some (.int .i64 (sz : Int)) := (blk_cell BKb.out 0).trans HP.out.2.1; have hfb_0 := blk_frozen BKb.out 0; have hcb_513 : wq.cell? ⟨b,513,none⟩ = some v513 := (blk_cell BKb.out 513).trans hv513; have hfb_513 := blk_frozen BKb.out 513; have hcq_0 : wq.cell? ⟨q,0,none⟩ = some (.int .i64 0) := (blk_cell BKq.out 0).trans rfl; have hfq_0 := blk_frozen BKq.out 0; have nbq := NEbq.out; have npq := NEpq.out; have nbq2 := Ne.symm NEbq.out; have npq2 := Ne.symm NEpq.out))
   have HBS := aK (below_set (j := 513) (v := .func (.func 68) #[] #[.pointer (some ⟨p,0,none⟩),.pointer (some ⟨q,0,none⟩)]) (below_set (j := 0) (v := .int .i64 ((sz : Int) - 1)) HB.out GEq.out) GEb.out)
   have BQ1 := blk_put (cs' := #[.int .i64 ((sz : Int) - 1)]) BKq.out 0 (.int .i64 ((sz : Int) - 1)) rfl
   have BB1 := blk_far (p := ⟨q,0,none⟩) BKb.out NEbq.out (.int .i64 ((sz : Int) - 1))
   have BP1 := blk_far (p := ⟨q,0,none⟩) BKp.out NEpq.out (.int .i64 ((sz : Int) - 1))
   have BQ2 := blk_far (p := ⟨b,513,none⟩) BQ1 (Ne.symm NEbq.out) (.func (.func 68) #[] #[.pointer (some ⟨p,0,none⟩),.pointer (some ⟨q,0,none⟩)])
   have BB2 := blk_set BB1 513 (.func (.func 68) #[] #[.pointer (some ⟨p,0,none⟩),.pointer (some ⟨q,0,none⟩)])
   have BP2 := blk_far (p := ⟨b,513,none⟩) BP1 (Ne.symm NEp.out) (.func (.func 68) #[] #[.pointer (some ⟨p,0,none⟩),.pointer (some ⟨q,0,none⟩)])
   go_ret2
   refine ⟨some ⟨b,0,none⟩,rfl,.inr ⟨rfl,b,p,q,rfl,⟨⟨⟨_,BB2,?_,fun k hk => ?_,fun k hk => ?_,?_⟩,BP2,BQ2⟩,by have := HSZ1.out; show 2 ≤ sz; omega,HSZ2.out,fun k => ?_,fun k => ?_⟩⟩,HBS.out⟩
   ·rw [Array.getElem?_setIfInBounds_ne (by omega)]; exact HP.out.2.1
   ·rw [Array.getElem?_setIfInBounds_ne (by omega)]; exact HP.out.2.2.1 k hk
   ·by_cases c : k = 256
    ·omega
    ·rw [Array.getElem?_setIfInBounds_ne (by omega)]; exact HP.out.2.2.2 k hk
   ·rw [Array.getElem?_setIfInBounds_self_of_lt (by rw [HP.out.1]; omega)]
   ·exact gxe_byte P sz (sz - 1) HM5.out (by have := HSZ1.out; omega) HSZ2.out k
   ·exact glg_byte P sz (sz - 1) k (by have := HSZ2.out; omega)
  | succ k1 =>
   have hj : decide ((n : Int) < (sz : Int) - 1) = true := decide_eq_true (by have := HN.out; omega)
   have hn1 : n < sz - 1 := by have := HN.out; omega
   obtain ⟨x,hx⟩ : ∃ x,x = gxn P sz n := ⟨_,rfl⟩
   have hxs : x < sz := by rw [hx]; exact HM5.out n (by omega)
   have hx2 : x < 256 := by have := HSZ2.out; omega
   have hxi : (x : Int) < 256 := by omega
   have hni : (n : Int) < 255 := by have := HSZ2.out; omega
   have t1 : ((n : Int) < 256) = True := eq_true (by omega)
   have hxm : (x : Int) % 256 = (x : Int) := by omega
   rw [← hx]
   obtain ⟨v1,hv1⟩ : ∃ v,cs[1 + n]? = some v := ⟨_,HP.out.2.2.1 n (by omega)⟩
   obtain ⟨v2,hv2⟩ : ∃ v,cs[257 + x]? = some v := ⟨_,HP.out.2.2.2 x (by omega)⟩
   have hcb_1 : wr.cell? ⟨b,1 + n,none⟩ = some v1 := (blk_cell BKb.out _).trans hv1
   have hfb_1 := blk_frozen BKb.out (1 + n)
   have hcb_2 : wr.cell? ⟨b,257 + x,none⟩ = some v2 := (blk_cell BKb.out _).trans hv2
   have hfb_2 := blk_frozen BKb.out (257 + x)
   have ne1 : ¬ (1 + n = 257 + x) := by omega
   have ne2 : ¬ (257 + x = 1 + n) := by omega
   have HX := Aside0.mk hx
   have HX2 := Aside0.mk hx2
   have HN1 := Aside0.mk hn1
   clear hx hx2 hn1 hxs
   have nx0 : (0 : Int) ≤ (x : Int) := by omega
   have finish : ∀ (y : Nat),y = gxn P sz (n + 1) → ∀ K : Prop,(∀ (cs' : Array Value),galPart P sz (n + 1) cs' → ((wr.setCell ⟨b,1 + n,none⟩ (.int .u8 (x : Int))).setCell ⟨b,257 + x,none⟩ (.int .i64 (n : Int))).heap[b]? = some (.cells cs' 112 (0,0)) → K) → K := by
    intro y _ K hK
    exact hK _ (by have hs := galPart_step HP.out (by have := HN1.out; have := HSZ2.out; omega) (by rw [← HX.out]; exact HX2.out); rw [← HX.out] at hs; exact hs) (blk_set (blk_set BKb.out (1 + n) (.int .u8 (x : Int))) (257 + x) (.int .i64 (n : Int)))
   have HBS := aK (below_set (j := 257 + x) (v := .int .i64 (n : Int)) (below_set (j := 1 + n) (v := .int .u8 (x : Int)) HB.out GEb.out) GEb.out)
   have BPS := aK (blk_far (p := ⟨b,257 + x,none⟩) (blk_far (p := ⟨b,1 + n,none⟩) BKp.out (Ne.symm NEp.out) (.int .u8 (x : Int))) (Ne.symm NEp.out) (.int .i64 (n : Int)))
   have BGS := aK (blk_far (p := ⟨b,257 + x,none⟩) (blk_far (p := ⟨b,1 + n,none⟩) BKg.out NEg.out (.int .u8 (x : Int))) NEg.out (.int .i64 (n : Int)))
   have HF := Aside0.mk finish
   clear finish
   by_cases cs1 : sz ≤ 2 * x
   ·have b1 : decide ((sz : Int) ≤ (x : Int) * 2) = true := decide_eq_true (by omega)
    have HC1 := Aside0.mk cs1
    clear cs1
    go_wp2
    go_roundg k1
    case measure => omega
    case rel =>
     have ey : 2 * x ^^^ P = gxn P sz (n + 1) := by
      rw [gxn,← HX.out,if_pos HC1.out]
     refine HF.out _ ey _ fun cs' hp hb => ⟨n + 1,cs',?_,congrArg (Value.int .i64) (by first | omega | (unfold wrap64; omega)),⟨by have := HN.out; omega⟩,⟨hp⟩,⟨hb⟩,BPS,BGS,HBS⟩
     rw [← ey,show ((x : Int) * 2) = ((2 * x : Nat) : Int) by omega,u64_xor_nat _ _ (by have := HX2.out; omega) (by have := HP5.out; omega)]
   ·have b1 : decide ((sz : Int) ≤ (x : Int) * 2) = false := decide_eq_false (by omega)
    have HC1 := Aside0.mk cs1
    clear cs1
    go_wp2
    go_roundg k1
    case measure => omega
    case rel =>
     have ey : 2 * x = gxn P sz (n + 1) := by
      rw [gxn,← HX.out,if_neg HC1.out]
     refine HF.out _ ey _ fun cs' hp hb => ⟨n + 1,cs',?_,congrArg (Value.int .i64) (by first | omega | (unfold wrap64; omega)),⟨by have := HN.out; omega⟩,⟨hp⟩,⟨hb⟩,BPS,BGS,HBS⟩
     rw [← ey,show ((x : Int) * 2) = ((2 * x : Nat) : Int) by omega]
def gT_none.f (t : GTab) : Option Bool := some (decide (t.size = 0))
set_option maxHeartbeats 8000000 in
set_option maxRecDepth 100000 in
theorem gT_none.calls (A0 : Option Addr) (a0 : GTab) (r : Bool) (w : World) (hr0 : gal_OK w A0 a0) (h : gT_none.f a0 = some r) :
  Calls Try.prog 69 #[.pointer A0] w fun e w' => e = .returned (.bool r) ∧ Drawn0 w w' := by
 unfold gT_none.f at h
 obtain rfl := Option.some.inj h
 clear h
 rcases hr0 with ⟨h1,h2⟩ | ⟨_,b,p,q,rfl,h2⟩
 ·rw [decide_eq_true h1]
  rcases h2 with ⟨_,rfl⟩ | ⟨_,b,cs,rfl,h3,h4⟩
  ·go_enter Try.func69,Try.ntmps69
   go_wp2
   go_ret
   exact ⟨rfl,Drawn0.refl _⟩
  ·have hc : w.cell? ⟨b,0,none⟩ = some (.int .i64 0) := (blk_cell h3 0).trans h4
   clear h3 h4 h1
   go_enter Try.func69,Try.ntmps69
   go_wp2
   go_ret
   exact ⟨rfl,Drawn0.refl _⟩
 ·have h3 : a0.size ≠ 0 := by have := h2.2.1; omega
  rw [decide_eq_false h3]
  have hc := gal_At_size h2
  have h4 : ((a0.size : Int) == 0) = false := beq_eq_false_iff_ne.mpr (by omega)
  clear h2
  go_enter Try.func69,Try.ntmps69
  go_wp2
  go_ret
  exact ⟨rfl,Drawn0.refl _⟩

def gT_Size.f (a0 : GTab) : Option (Int) := (gT_none.f a0).bind fun t182 => (if t182 = true then (some 0) else (if 0 < a0.size then (some (a0.size : Int)) else (none)))
set_option maxHeartbeats 8000000 in
set_option maxRecDepth 100000 in
theorem gT_Size.calls (A0 : Option Addr) (a0 : GTab) (r : Int) (w : World) (hr0 : gal_OK w A0 a0) (h : gT_Size.f a0 = some r) :
  Calls Try.prog 44 #[.pointer A0] w fun e w' => e = .returned (.int .i64 r) ∧ Drawn0 w w' := by
 have HR0 := Aside0.mk hr0
 clear hr0
 have H : ((gT_none.f a0).bind fun t182 => (if t182 = true then (some 0) else (if 0 < a0.size then (some (a0.size : Int)) else (none)))) = some r := h
 clear h
 replace H := Option.bind_eq_some_iff.mp H
 obtain ⟨t182,A20,H⟩ := H
 try dsimp only at H
 have A2 := Aside0.mk A20
 clear A20
 by_cases c3 : t182 = true
 ·subst c3
  have H1 : (some 0) = some r := by rw [if_pos rfl] at H; exact H
  clear H
  have H := H1
  clear H1
  obtain rfl := Option.some.inj H
  go_enter Try.func44,Try.ntmps44
  go_wp2_with (first | (go_at_call 69; (with_reducible refine (gT_none.calls _ a0 true _ ?side1 A2.out).mono ?_); (case side1 => exact HR0.out); rintro e w' ⟨rfl,⟨nd,rfl⟩⟩))
  go_ret
  exact ⟨by first | rfl | (simp; done) | (simp [*]; done) | (simp [wrap64]; done),by repeat (first | exact Drawn0.refl _ | apply Drawn0.step)⟩
 ·replace c3 := Bool.eq_false_iff.mpr c3
  subst c3
  have H1 : (if 0 < a0.size then (some (a0.size : Int)) else (none)) = some r := by rw [if_neg (show ¬ (false = true) by decide)] at H; exact H
  clear H
  have H := H1
  clear H1
  by_cases c4 : 0 < a0.size
  rotate_left
  ·rw [if_neg c4] at H
   exact absurd H (by simp)


  rw [if_pos c4] at H
  obtain ⟨b_,p_,q_,rfl,hT_⟩ := gal_pos HR0.out c4
  have HT0 := Aside0.mk hT_
  clear hT_ c4
  obtain rfl := Option.some.inj H
  go_enter Try.func44,Try.ntmps44
  go_wp2_with (first | (go_at_call 69; (with_reducible refine (gT_none.calls _ a0 false _ ?side1 A2.out).mono ?_); (case side1 => exact HR0.out); rintro e w' ⟨rfl,⟨nd,rfl⟩⟩; have ho5 := gal_At_size HT0.out; have hx5 := ho5))
  go_ret
  exact ⟨by first | rfl | (simp; done) | (simp [*]; done) | (simp [wrap64]; done),by repeat (first | exact Drawn0.refl _ | apply Drawn0.step)⟩
def gT_check.l0 : Nat → GTab → List Int → Int → Int → Option (Int)
 | 0,_,_,_,_ => none
 | k + 1,x0,x9,x10,x11 => if x11 < x10 then (if 0 ≤ x11 then (if x11 < (x9.length : Int) then (if 0 < x0.size then (if (wrap64 (rd x9 x11)) ≥ (x0.size : Int) then (some 11) else (gT_check.l0 k x0 x9 x10 (wrap64 (x11 + 1)))) else (none)) else (none)) else (none)) else (some 0)
def gT_check.f (k : Nat) (a0 : GTab) (l1 : List Int) : Option (Int) := (gT_none.f a0).bind fun t183 => (if t183 = true then (some 1) else (gT_check.l0 k a0 l1 (l1.length : Int) 0))
theorem gT_check.mono_l : ∀ k,(∀ y0 y1 y2 y3,LeO (gT_check.l0 k y0 y1 y2 y3) (gT_check.l0 (k + 1) y0 y1 y2 y3))
 | 0 => fun _ _ _ _ r h => by simp [gT_check.l0] at h
 | k + 1 => by
  have ih0 := gT_check.mono_l k
  ·intro y0 y1 y2 y3
   unfold gT_check.l0
   repeat' with_reducible first
   | exact ih0 _ _ _ _
   | exact LeO.refl _
   | exact LeO.none _
   | refine LeO.ite ?_ ?_
   | refine LeO.bind ?_ (fun _ => ?_)
theorem gT_check.mono : ∀ a0 a1 k,LeO (gT_check.f k a0 a1) (gT_check.f (k + 1) a0 a1) := by
 intro a0 a1 k
 have ih0 := gT_check.mono_l k
 unfold gT_check.f
 repeat' with_reducible first
   | exact ih0 _ _ _ _
   | exact LeO.refl _
   | exact LeO.none _
   | refine LeO.ite ?_ ?_
   | refine LeO.bind ?_ (fun _ => ?_)
set_option maxHeartbeats 8000000 in
set_option maxRecDepth 100000 in
theorem gT_check.calls (k : Nat) (A0 : Option Addr) (a0 : GTab) (A1 : Option Addr) (c1 : Nat) (l1 : List Int) (r : Int) (w : World) (hr0 : gal_OK w A0 a0) (hr1 : Kd.C (Kd.int .u8) w A1 l1.length l1) (hc1 : l1.length ≤ c1) (h : gT_check.f k a0 l1 = some r) :
  Calls Try.prog 71 #[.pointer A0,.slice A1 l1.length c1] w fun e w' => e = .returned (.int .i64 r) ∧ Drawn0 w w' := by
 have HR0 := Aside0.mk hr0
 clear hr0
 have HR1 := Aside0.mk hr1
 have HC1 := Aside0.mk hc1
 clear hr1 hc1
 have H : ((gT_none.f a0).bind fun t183 => (if t183 = true then (some 1) else (gT_check.l0 k a0 l1 (l1.length : Int) 0))) = some r := h
 clear h
 replace H := Option.bind_eq_some_iff.mp H
 obtain ⟨t183,A30,H⟩ := H
 try dsimp only at H
 have A3 := Aside0.mk A30
 clear A30
 by_cases c4 : t183 = true
 ·subst c4
  have H1 : (some 1) = some r := by rw [if_pos rfl] at H; exact H
  clear H
  have H := H1
  clear H1
  obtain rfl := Option.some.inj H
  go_enter Try.func71,Try.ntmps71
  go_wp2_with (first | (go_at_call 69; (with_reducible refine (gT_none.calls _ a0 true _ ?side1 A3.out).mono ?_); (case side1 => exact HR0.out); rintro e w' ⟨rfl,⟨nd,rfl⟩⟩))
  go_ret
  exact ⟨by first | rfl | (simp; done) | (simp [*]; done) | (simp [wrap64]; done),by repeat (first | exact Drawn0.refl _ | apply Drawn0.step)⟩
 ·replace c4 := Bool.eq_false_iff.mpr c4
  subst c4
  have H1 : (gT_check.l0 k a0 l1 (l1.length : Int) 0) = some r := by rw [if_neg (show ¬ (false = true) by decide)] at H; exact H
  clear H
  have H := H1
  clear H1
  have H' := Aside0.mk H
  clear H
  go_enter Try.func71,Try.ntmps71
  go_wp2_with (first | (go_at_call 69; (with_reducible refine (gT_none.calls _ a0 false _ ?side1 A3.out).mono ?_); (case side1 => exact HR0.out); rintro e w' ⟨rfl,⟨nd,rfl⟩⟩))
  go_loopg [11] k (fun kq v11 w' => ∃ (x11_1 : Int),v11 = .int .i64 x11_1 ∧ Aside0 (gT_check.l0 kq a0 l1 (l1.length : Int) x11_1 = some r) ∧ Aside0 (kq ≤ k) ∧ Drawn0 w w')
  case atStart => exact ⟨(0),(by first | rfl | (simp; done) | (simp [*]; done) | (simp [wrap64]; done)),H',⟨Nat.le_refl _⟩,by repeat (first | exact Drawn0.refl _ | apply Drawn0.step)⟩
  case round =>
   clear H'
   (try clear c1); (try clear p2); (try clear c4)
   obtain ⟨x11_1,rfl,HA,HK1,⟨m1,rfl⟩⟩ := hrel
   cases gk with
   | zero => exact absurd HA.out (by simp [gT_check.l0])
   | succ k1 =>
    have H := HA.out
    clear HA
    simp only [gT_check.l0] at H
    by_cases c5 : x11_1 < (l1.length : Int)
    rotate_left
    ·rw [if_neg c5] at H
     have c5b0 : decide (x11_1 < (l1.length : Int)) = false := decide_eq_false c5
     clear c5
     obtain rfl := Option.some.inj H
     go_wp2
     go_ret
     exact ⟨by first | rfl | (simp; done) | (simp [*]; done) | (simp [wrap64]; done),by repeat (first | exact Drawn0.refl _ | apply Drawn0.step)⟩


    rw [if_pos c5] at H
    have c5b0 : decide (x11_1 < (l1.length : Int)) = true := decide_eq_true c5
    clear c5
    by_cases c6 : 0 ≤ x11_1
    rotate_left
    ·rw [if_neg c6] at H
     exact absurd H (by simp)
    rw [if_pos c6] at H
    have c6b0 : decide (0 ≤ x11_1) = true := decide_eq_true c6
    clear c6
    by_cases c7 : x11_1 < (l1.length : Int)
    rotate_left
    ·rw [if_neg c7] at H
     exact absurd H (by simp)
    rw [if_pos c7] at H
    have c7b0 : decide (x11_1 < (l1.length : Int)) = true := decide_eq_true c7
    clear c7
    by_cases c8 : 0 < a0.size
    rotate_left
    ·rw [if_neg c8] at H
     exact absurd H (by simp)
    rw [if_pos c8] at H
    obtain ⟨b_,p_,q_,rfl,hT_⟩ := gal_pos HR0.out c8
    have HT0 := Aside0.mk hT_
    clear hT_ c8
    by_cases c10 : (wrap64 (rd l1 x11_1)) ≥ (a0.size : Int)
    ·rw [if_pos c10] at H
     have c10b0 : decide ((a0.size : Int) ≤ (wrap64 (rd l1 x11_1))) = true := decide_eq_true c10
     clear c10
     obtain rfl := Option.some.inj H
     have p184 : 0 ≤ (x11_1 : Int) := oD
     have q184 : x11_1 < (l1.length : Int) := oD
     obtain ⟨ad184,e184,hx184_0⟩ := Kd.at_int HR1.out x11_1 p184 q184
     cases e184
     replace p184 := eq_true p184
     replace q184 := eq_true q184
     have ho9 := gal_At_size HT0.out
     have hx9 := ho9
     go_wp2
     go_ret
     exact ⟨by first | rfl | (simp; done) | (simp [*]; done) | (simp [wrap64]; done),by repeat (first | exact Drawn0.refl _ | apply Drawn0.step)⟩
    ·rw [if_neg c10] at H
     have c10b0 : decide ((a0.size : Int) ≤ (wrap64 (rd l1 x11_1))) = false := decide_eq_false c10
     clear c10
     have H' := Aside0.mk H
     clear H
     have p184 : 0 ≤ (x11_1 : Int) := oD
     have q184 : x11_1 < (l1.length : Int) := oD
     obtain ⟨ad184,e184,hx184_0⟩ := Kd.at_int HR1.out x11_1 p184 q184
     cases e184
     replace p184 := eq_true p184
     replace q184 := eq_true q184
     have ho9 := gal_At_size HT0.out
     have hx9 := ho9
     go_wp2
     go_roundg k1
     case measure => have := HK1.out; omega
     case rel => exact ⟨(wrap64 (x11_1 + 1)),(by first | rfl | (simp; done) | (simp [*]; done) | (simp [wrap64]; done)),H',⟨by have := HK1.out; omega⟩,by repeat (first | exact Drawn0.refl _ | apply Drawn0.step)⟩
def gT_Mul.f (k : Nat) (a0 : GTab) (a1 : Int) (a2 : Int) : Option (Int × Int) := (gT_check.f k a0 (([a1,a2] : List Int))).bind fun t188 => (if t188 = 0 then (if 0 < a0.size then ((gN1.f a0 a1 a2).bind fun t189 => (some (t189,0))) else (none)) else (some (0,t188)))
theorem gT_Mul.mono : ∀ a0 a1 a2 k,LeO (gT_Mul.f k a0 a1 a2) (gT_Mul.f (k + 1) a0 a1 a2) := by
 intro a0 a1 a2 k
 unfold gT_Mul.f
 repeat' with_reducible first
   | exact gT_check.mono _ _ _
   | exact LeO.refl _
   | exact LeO.none _
   | refine LeO.ite ?_ ?_
   | refine LeO.bind ?_ (fun _ => ?_)
set_option maxHeartbeats 8000000 in
set_option maxRecDepth 100000 in
theorem gT_Mul.calls (k : Nat) (A0 : Option Addr) (a0 : GTab) (a1 : Int) (a2 : Int) (r1 : Int) (r2 : Int) (w : World) (hr0 : gal_OK w A0 a0) (h : gT_Mul.f k a0 a1 a2 = some (r1,r2)) :
  Calls Try.prog 47 #[.pointer A0,.int .u8 a1,.int .u8 a2] w fun e w' => e = .returned (.tuple #[.int .u8 r1,.int .i64 r2]) ∧ Below w.heap.size w w' := by
 have HR0 := Aside0.mk hr0
 clear hr0
 have HB := aK (Below.refl w.heap.size w)
 have H : ((gT_check.f k a0 (([a1,a2] : List Int))).bind fun t188 => (if t188 = 0 then (if 0 < a0.size then ((gN1.f a0 a1 a2).bind fun t189 => (some (t189,0))) else (none)) else (some (0,t188)))) = some (r1,r2) := h
 clear h
 obtain ⟨y185,hy185⟩ : ∃ y_ : List Int,y_ = (([a1,a2] : List Int)) := ⟨_,rfl⟩
 replace H : ((gT_check.f k a0 y185).bind fun t188 => (if t188 = 0 then (if 0 < a0.size then ((gN1.f a0 a1 a2).bind fun t189 => (some (t189,0))) else (none)) else (some (0,t188)))) = some (r1,r2) := by rw [hy185]; exact H
 have Ny185 := Aside0.mk hy185
 clear hy185
 replace H := Option.bind_eq_some_iff.mp H
 obtain ⟨t188,A40,H⟩ := H
 try dsimp only at H
 have A4 := Aside0.mk A40
 clear A40
 by_cases c5 : t188 = 0
 rotate_left
 ·rw [if_neg c5] at H
  have c5b0 : (t188 == 0) = false := beq_eq_false_iff_ne.mpr c5
  have c5b1 : (t188 != 0) = true := bne_iff_ne.mpr c5
  simp only [Option.some.injEq,Prod.mk.injEq] at H
  obtain ⟨rfl,rfl⟩ := H
  go_enter Try.func47,Try.ntmps47
  go_wp2_with (first | ((with_reducible refine gate_dst (N := 12) rfl ?_); refine Kd.R_lit (Kd.int .u8) _ 5 ?hg (N := 12) ?hd (xs := ([a1,a2] : List Int)) (inner := [.int .u8 a1,.int .u8 a2]) (ok := fun _ => True) (okp := fun _ => True) ?hr ?hp (fun _ hk => hk) trivial (Below.refl _ _) (Nat.le_refl _) (by simp) ?_; (case hd => rfl); (case hg => rfl); (case hr => first | (go_simp; done) | (go_simp; rfl)); (case hp => exact (Reps.one (show Kd.M (Kd.int .u8) _ _ _ a1 [.int .u8 a1] from rfl) (Reps.one (show Kd.M (Kd.int .u8) _ _ _ a2 [.int .u8 a2] from rfl) (Reps.none _ _)))); intro v186 w12 ho13 hb hg_ hnew_; clear hg_ hnew_; (first | rw [← Ny185.out] at ho13 | (simp only [Int.reduceToNat] at ho13; rw [← Ny185.out] at ho13)); have HO187 := aK (Kd.R_lower ho13 (below_size (mvh HB.out))); replace HB := aK (below_step (mvh HB.out) hb); clear hb ho13; obtain ⟨Ao14,co14,eo14⟩ := Kd.R_slice HO187.out; subst eo14) | (go_at_call 71; (with_reducible refine (gT_check.calls k _ a0 _ _ y185 t188 _ ?side1 ?side2 ?side3 A4.out).mono ?_); (case side1 => exact (gal_OK_below HR0.out HB.out)); (case side2 => exact mvC (Kd.R_reads' HO187.out).2.2); (case side3 => exact (Kd.R_reads' HO187.out).2.1); rintro e w' ⟨rfl,⟨nd,rfl⟩⟩))
  go_ret2
  exact ⟨by first | rfl | (simp [errW_none,errW_some] <;> rfl) | (simp [*,errW_none,errW_some] <;> rfl),mvh HB.out⟩

 rw [if_pos c5] at H
 have c5b0 : (t188 == 0) = true := beq_iff_eq.mpr c5
 have c5b1 : (t188 != 0) = false := bne_eq_false_iff_eq.mpr c5
 clear c5
 by_cases c6 : 0 < a0.size
 rotate_left
 ·rw [if_neg c6] at H
  exact absurd H (by simp)
 rw [if_pos c6] at H
 obtain ⟨b_,p_,q_,rfl,hT_⟩ := gal_pos HR0.out c6
 have HT0 := Aside0.mk hT_
 clear hT_ c6
 replace H := Option.bind_eq_some_iff.mp H
 obtain ⟨t189,A80,H⟩ := H
 replace H : (some (t189,0)) = some (r1,r2) := H
 have A8 := Aside0.mk A80
 clear A80
 simp only [Option.some.injEq,Prod.mk.injEq] at H
 obtain ⟨rfl,rfl⟩ := H
 go_enter Try.func47,Try.ntmps47
 go_wp2_with (first | ((with_reducible refine gate_dst (N := 12) rfl ?_); refine Kd.R_lit (Kd.int .u8) _ 5 ?hg (N := 12) ?hd (xs := ([a1,a2] : List Int)) (inner := [.int .u8 a1,.int .u8 a2]) (ok := fun _ => True) (okp := fun _ => True) ?hr ?hp (fun _ hk => hk) trivial (Below.refl _ _) (Nat.le_refl _) (by simp) ?_; (case hd => rfl); (case hg => rfl); (case hr => first | (go_simp; done) | (go_simp; rfl)); (case hp => exact (Reps.one (show Kd.M (Kd.int .u8) _ _ _ a1 [.int .u8 a1] from rfl) (Reps.one (show Kd.M (Kd.int .u8) _ _ _ a2 [.int .u8 a2] from rfl) (Reps.none _ _)))); intro v186 w9 ho10 hb hg_ hnew_; clear hg_ hnew_; (first | rw [← Ny185.out] at ho10 | (simp only [Int.reduceToNat] at ho10; rw [← Ny185.out] at ho10)); have HO187 := aK (Kd.R_lower ho10 (below_size (mvh HB.out))); replace HB := aK (below_step (mvh HB.out) hb); clear hb ho10; obtain ⟨Ao11,co11,eo11⟩ := Kd.R_slice HO187.out; subst eo11) | (go_at_call 71; (with_reducible refine (gT_check.calls k _ a0 _ _ y185 t188 _ ?side1 ?side2 ?side3 A4.out).mono ?_); (case side1 => exact (gal_OK_below HR0.out HB.out)); (case side2 => exact mvC (Kd.R_reads' HO187.out).2.2); (case side3 => exact (Kd.R_reads' HO187.out).2.1); rintro e w' ⟨rfl,⟨nd,rfl⟩⟩; have ho7 := gal_At_mul HT0.out; have hx7 := (HB.out.cell (World.block_lt_of_cell? w _ ho7)).trans ho7) | (go_at_call 68; (with_reducible refine (gN1.calls b_ p_ q_ a0 a1 a2 t189 _ ?side1 A8.out).mono ?_); (case side1 => exact (gal_At_below HT0.out (mvh HB.out))); rintro e w' ⟨rfl,⟨nd,rfl⟩⟩))
 go_ret2
 exact ⟨by first | rfl | (simp [errW_none,errW_some] <;> rfl) | (simp [*,errW_none,errW_some] <;> rfl),mvh HB.out⟩
structure RCode where
 M : Int
 P : Int
 First : Int
 Par : Int
 T : GTab
def RCode.size (c : RCode) : Nat := c.T.size
def RCode.none : RCode := ⟨0,0,0,0,GTab.none⟩
def rs_At (w : World) (b p c d g : Nat) (t : RCode) : Prop :=
 w.heap[b]? = some (.cells #[.int .i64 t.M,.int .u64 t.P,.int .i64 t.First,.int .i64 t.Par,.int .i64 (t.size : Int),.func (.func 46) #[] #[.pointer (some ⟨p,0,none⟩)],.func (.func 48) #[] #[.pointer (some ⟨p,0,none⟩)],.func (.func 45) #[.pointer (some ⟨c,0,none⟩)] #[],.func (.func 50) #[] #[.pointer (some ⟨p,0,none⟩)]] 66 (0,0)) ∧
  w.heap[p]? = some (.cells #[.pointer (some ⟨c,0,none⟩)] 88 (0,0)) ∧ t.T.nil = false ∧ gal_At w c d g t.T
def rs_OK (w : World) (A : Option Addr) (t : RCode) : Prop := (t.size = 0 ∧ A = none) ∨ ∃ b p c d g,A = some ⟨b,0,none⟩ ∧ rs_At w b p c d g t
theorem rs_At_below {w w1 : World} {b p c d g : Nat} {t : RCode} (h : rs_At w b p c d g t) (hb : Below w.heap.size w w1) : rs_At w1 b p c d g t :=
 ⟨blk_below h.1 hb,blk_below h.2.1 hb,h.2.2.1,gal_At_below h.2.2.2 hb⟩
theorem rs_OK_below {w w1 : World} {A : Option Addr} {t : RCode} (h : rs_OK w A t) (hb : Below w.heap.size w w1) : rs_OK w1 A t := by
 rcases h with h | ⟨b,p,c,d,g,h1,h2⟩
 ·exact .inl h
 ·exact .inr ⟨b,p,c,d,g,h1,rs_At_below h2 hb⟩
theorem rs_OK_alloc {w : World} {A : Option Addr} {t : RCode} (h : rs_OK w A t) (o : Obj) : rs_OK (w.alloc o) A t := rs_OK_below h (below_alloc (Below.refl _ _) o)
theorem rs_OK_drewN {w : World} {A : Option Addr} {t : RCode} (h : rs_OK w A t) (m : Nat) : rs_OK (w.drewN m) A t := h
theorem rs_OK_drew {w : World} {A : Option Addr} {t : RCode} (h : rs_OK w A t) : rs_OK w.drew A t := h
theorem rs_pos {w : World} {A : Option Addr} {t : RCode} (h : rs_OK w A t) (h0 : 0 < t.size) : ∃ b p c d g,A = some ⟨b,0,none⟩ ∧ rs_At w b p c d g t := by
 rcases h with ⟨h1,_⟩ | h
 ·omega
 ·exact h
theorem rs_At_M {w : World} {b p c d g : Nat} {t : RCode} (h : rs_At w b p c d g t) : w.cell? ⟨b,0,none⟩ = some (.int .i64 t.M) := (blk_cell h.1 0).trans rfl
theorem rs_At_P {w : World} {b p c d g : Nat} {t : RCode} (h : rs_At w b p c d g t) : w.cell? ⟨b,1,none⟩ = some (.int .u64 t.P) := (blk_cell h.1 1).trans rfl
theorem rs_At_First {w : World} {b p c d g : Nat} {t : RCode} (h : rs_At w b p c d g t) : w.cell? ⟨b,2,none⟩ = some (.int .i64 t.First) := (blk_cell h.1 2).trans rfl
theorem rs_At_Par {w : World} {b p c d g : Nat} {t : RCode} (h : rs_At w b p c d g t) : w.cell? ⟨b,3,none⟩ = some (.int .i64 t.Par) := (blk_cell h.1 3).trans rfl
theorem rs_At_size {w : World} {b p c d g : Nat} {t : RCode} (h : rs_At w b p c d g t) : w.cell? ⟨b,4,none⟩ = some (.int .i64 (t.size : Int)) := (blk_cell h.1 4).trans rfl
theorem rs_At_mul {w : World} {b p c d g : Nat} {t : RCode} (h : rs_At w b p c d g t) : w.cell? ⟨b,5,none⟩ = some (.func (.func 46) #[] #[.pointer (some ⟨p,0,none⟩)]) := (blk_cell h.1 5).trans rfl
theorem rs_At_div {w : World} {b p c d g : Nat} {t : RCode} (h : rs_At w b p c d g t) : w.cell? ⟨b,6,none⟩ = some (.func (.func 48) #[] #[.pointer (some ⟨p,0,none⟩)]) := (blk_cell h.1 6).trans rfl
theorem rs_At_exp {w : World} {b p c d g : Nat} {t : RCode} (h : rs_At w b p c d g t) : w.cell? ⟨b,7,none⟩ = some (.func (.func 45) #[.pointer (some ⟨c,0,none⟩)] #[]) := (blk_cell h.1 7).trans rfl
theorem rs_At_at {w : World} {b p c d g : Nat} {t : RCode} (h : rs_At w b p c d g t) : w.cell? ⟨b,8,none⟩ = some (.func (.func 50) #[] #[.pointer (some ⟨p,0,none⟩)]) := (blk_cell h.1 8).trans rfl
theorem rs_At_var {w : World} {b p c d g : Nat} {t : RCode} (h : rs_At w b p c d g t) : w.cell? ⟨p,0,none⟩ = some (.pointer (some ⟨c,0,none⟩)) := (blk_cell h.2.1 0).trans rfl
theorem rs_At_T {w : World} {b p c d g : Nat} {t : RCode} (h : rs_At w b p c d g t) : gal_OK w (some ⟨c,0,none⟩) t.T := .inr ⟨h.2.2.1,c,d,g,rfl,h.2.2.2⟩
def reedsol_open_1.f (k : Nat) (t : RCode) (a b : Int) : Option Int := (gT_Mul.f k t.T a b).bind fun r => some r.1
theorem reedsol_open_1.mono : ∀ a0 a1 a2 k,LeO (reedsol_open_1.f k a0 a1 a2) (reedsol_open_1.f (k + 1) a0 a1 a2) := by
 intro a0 a1 a2 k
 unfold reedsol_open_1.f
 exact LeO.bind (gT_Mul.mono _ _ _ _) (fun _ => LeO.refl _)
set_option maxHeartbeats 8000000 in
set_option maxRecDepth 100000 in
theorem reedsol_open_1.calls (k : Nat) (b p c d g : Nat) (a0 : RCode) (a1 a2 r : Int) (w : World) (hr0 : rs_At w b p c d g a0) (h : reedsol_open_1.f k a0 a1 a2 = some r) :
  Calls Try.prog 46 #[.int .u8 a1,.int .u8 a2,.pointer (some ⟨p,0,none⟩)] w fun e w' => e = .returned (.int .u8 r) ∧ Below w.heap.size w w' := by
 unfold reedsol_open_1.f at h
 obtain ⟨⟨x,z⟩,h1,h2⟩ := Option.bind_eq_some_iff.mp h
 obtain rfl := Option.some.inj h2
 have HA := Aside0.mk h1
 have HT := aK (rs_At_T hr0)
 have hx := rs_At_var hr0
 clear h h1 h2 hr0
 go_enter Try.func46,Try.ntmps46
 go_wp2_with (go_at_call 47; (with_reducible refine (gT_Mul.calls k _ a0.T a1 a2 x z _ ?side1 HA.out).mono ?_); (case side1 => exact HT.out); rintro e w5 ⟨rfl,hb⟩; have HB := Aside0.mk hb; clear hb)
 go_ret
 exact ⟨rfl,HB.out⟩

def gT_power.f (a0 : GTab) (a1 : Int) (a2 : Int) : Option (Int) := if 0 < a0.size then (if (wrap64 ((a0.size : Int) - 1)) = 0 then (none) else (if 0 ≤ (Int.tmod (wrap64 ((Int.tmod (wrap64 ((Int.tmod a1 (wrap64 ((a0.size : Int) - 1))) + (wrap64 ((a0.size : Int) - 1)))) (wrap64 ((a0.size : Int) - 1))) * a2)) (wrap64 ((a0.size : Int) - 1))) then (if (Int.tmod (wrap64 ((Int.tmod (wrap64 ((Int.tmod a1 (wrap64 ((a0.size : Int) - 1))) + (wrap64 ((a0.size : Int) - 1)))) (wrap64 ((a0.size : Int) - 1))) * a2)) (wrap64 ((a0.size : Int) - 1))) < 256 then (some (GTab.ex a0 (Int.tmod (wrap64 ((Int.tmod (wrap64 ((Int.tmod a1 (wrap64 ((a0.size : Int) - 1))) + (wrap64 ((a0.size : Int) - 1)))) (wrap64 ((a0.size : Int) - 1))) * a2)) (wrap64 ((a0.size : Int) - 1))))) else (none)) else (none))) else (none)
set_option maxHeartbeats 8000000 in
set_option maxRecDepth 100000 in
theorem gT_power.calls (A0 : Option Addr) (a0 : GTab) (a1 : Int) (a2 : Int) (r : Int) (w : World) (hr0 : gal_OK w A0 a0) (h : gT_power.f a0 a1 a2 = some r) :
  Calls Try.prog 70 #[.pointer A0,.int .i64 a1,.int .i64 a2] w fun e w' => e = .returned (.int .u8 r) ∧ Drawn0 w w' := by
 have HR0 := Aside0.mk hr0
 clear hr0
 have H : (if 0 < a0.size then (if (wrap64 ((a0.size : Int) - 1)) = 0 then (none) else (if 0 ≤ (Int.tmod (wrap64 ((Int.tmod (wrap64 ((Int.tmod a1 (wrap64 ((a0.size : Int) - 1))) + (wrap64 ((a0.size : Int) - 1)))) (wrap64 ((a0.size : Int) - 1))) * a2)) (wrap64 ((a0.size : Int) - 1))) then (if (Int.tmod (wrap64 ((Int.tmod (wrap64 ((Int.tmod a1 (wrap64 ((a0.size : Int) - 1))) + (wrap64 ((a0.size : Int) - 1)))) (wrap64 ((a0.size : Int) - 1))) * a2)) (wrap64 ((a0.size : Int) - 1))) < 256 then (some (GTab.ex a0 (Int.tmod (wrap64 ((Int.tmod (wrap64 ((Int.tmod a1 (wrap64 ((a0.size : Int) - 1))) + (wrap64 ((a0.size : Int) - 1)))) (wrap64 ((a0.size : Int) - 1))) * a2)) (wrap64 ((a0.size : Int) - 1))))) else (none)) else (none))) else (none)) = some r := h
 clear h
 by_cases c4 : 0 < a0.size
 rotate_left
 ·rw [if_neg c4] at H
  exact absurd H (by simp)


 rw [if_pos c4] at H
 obtain ⟨b_,p_,q_,rfl,hT_⟩ := gal_pos HR0.out c4
 have HT0 := Aside0.mk hT_
 clear hT_ c4
 by_cases c6 : (wrap64 ((a0.size : Int) - 1)) = 0
 ·rw [if_pos c6] at H
  exact absurd H (by simp)
 ·rw [if_neg c6] at H
  have c6b0 : ((wrap64 ((a0.size : Int) - 1)) == 0) = false := beq_eq_false_iff_ne.mpr c6
  have c6b1 : ((wrap64 ((a0.size : Int) - 1)) != 0) = true := bne_iff_ne.mpr c6
  obtain ⟨ji7,hji7⟩ : ∃ j_ : Int,(Int.tmod (wrap64 ((Int.tmod (wrap64 ((Int.tmod a1 (wrap64 ((a0.size : Int) - 1))) + (wrap64 ((a0.size : Int) - 1)))) (wrap64 ((a0.size : Int) - 1))) * a2)) (wrap64 ((a0.size : Int) - 1))) = j_ := ⟨_,rfl⟩
  first | rw [hji7] at H | simp only [hji7] at H
  by_cases c8 : 0 ≤ (ji7)
  rotate_left
  ·rw [if_neg c8] at H
   exact absurd H (by simp)
  rw [if_pos c8] at H
  have c8b0 : decide (0 ≤ (ji7)) = true := decide_eq_true c8
  clear c8
  by_cases c9 : (ji7) < 256
  rotate_left
  ·rw [if_neg c9] at H
   exact absurd H (by simp)
  rw [if_pos c9] at H
  have c9b0 : decide ((ji7) < 256) = true := decide_eq_true c9
  clear c9
  obtain rfl := Option.some.inj H
  have ho5 := gal_At_size HT0.out
  have hx5 := ho5
  have p10 : 0 ≤ (ji7 : Int) := oD
  have q10 : (ji7 : Int) < 256 := oD
  have ho10 := gal_At_exp HT0.out ji7 p10 q10
  have hx10 := ho10
  replace p10 := eq_true p10
  replace q10 := eq_true q10
  go_enter Try.func70,Try.ntmps70
  go_wp2
  go_ret
  exact ⟨by first | rfl | (simp; done) | (simp only [← hji7] <;> (first | rfl | simp)) | (simp [*]; done) | (simp [wrap64]; done),by repeat (first | exact Drawn0.refl _ | apply Drawn0.step)⟩
def gT_Exp.f (t : RCode) (n : Int) : Option Int := (gT_none.f t.T).bind fun z => if z = true then some 0 else gT_power.f t.T n 1
set_option maxHeartbeats 8000000 in
set_option maxRecDepth 100000 in
theorem gT_Exp.calls (b p c d g : Nat) (a0 : RCode) (a1 r : Int) (w : World) (hr0 : rs_At w b p c d g a0) (h : gT_Exp.f a0 a1 = some r) :
  Calls Try.prog 45 #[.pointer (some ⟨c,0,none⟩),.int .i64 a1] w fun e w' => e = .returned (.int .u8 r) ∧ Drawn0 w w' := by
 unfold gT_Exp.f at h
 obtain ⟨z,h1,h2⟩ := Option.bind_eq_some_iff.mp h
 have HA := Aside0.mk h1
 have HT := aK (rs_At_T hr0)
 clear h h1 hr0
 by_cases cz : z = true
 ·rw [if_pos cz] at h2
  subst cz
  obtain rfl := Option.some.inj h2
  go_enter Try.func45,Try.ntmps45
  go_wp2_with (go_at_call 69; (with_reducible refine (gT_none.calls _ a0.T true _ ?side1 HA.out).mono ?_); (case side1 => exact HT.out); rintro e w5 ⟨rfl,⟨nd,rfl⟩⟩)
  go_ret
  exact ⟨rfl,by repeat (first | exact Drawn0.refl _ | apply Drawn0.step)⟩
 ·rw [if_neg cz] at h2
  have cf : z = false := by simpa using cz
  subst cf
  have HP := Aside0.mk h2
  clear h2 cz
  go_enter Try.func45,Try.ntmps45
  go_wp2_with (first | (go_at_call 69; (with_reducible refine (gT_none.calls _ a0.T false _ ?side1 HA.out).mono ?_); (case side1 => exact HT.out); rintro e w5 ⟨rfl,⟨nd,rfl⟩⟩) | (go_at_call 70; (with_reducible refine (gT_power.calls _ a0.T a1 1 r _ ?side1 HP.out).mono ?_); (case side1 => exact HT.out); rintro e w5 ⟨rfl,⟨nd,rfl⟩⟩))
  go_ret
  exact ⟨rfl,by repeat (first | exact Drawn0.refl _ | apply Drawn0.step)⟩

def gT_inv.f (a0 : GTab) (a1 : Int) : Option (Int) := if 0 < a0.size then (if 0 ≤ a1 then (if a1 < 256 then (if (wrap64 ((a0.size : Int) - 1)) = 0 then (none) else (if 0 ≤ (Int.tmod (wrap64 ((wrap64 ((a0.size : Int) - 1)) - (GTab.lg a0 a1))) (wrap64 ((a0.size : Int) - 1))) then (if (Int.tmod (wrap64 ((wrap64 ((a0.size : Int) - 1)) - (GTab.lg a0 a1))) (wrap64 ((a0.size : Int) - 1))) < 256 then (some (GTab.ex a0 (Int.tmod (wrap64 ((wrap64 ((a0.size : Int) - 1)) - (GTab.lg a0 a1))) (wrap64 ((a0.size : Int) - 1))))) else (none)) else (none))) else (none)) else (none)) else (none)
set_option maxHeartbeats 8000000 in
set_option maxRecDepth 100000 in
theorem gT_inv.calls (A0 : Option Addr) (a0 : GTab) (a1 : Int) (r : Int) (w : World) (hr0 : gal_OK w A0 a0) (h : gT_inv.f a0 a1 = some r) :
  Calls Try.prog 72 #[.pointer A0,.int .u8 a1] w fun e w' => e = .returned (.int .u8 r) ∧ Drawn0 w w' := by
 have HR0 := Aside0.mk hr0
 clear hr0
 have H : (if 0 < a0.size then (if 0 ≤ a1 then (if a1 < 256 then (if (wrap64 ((a0.size : Int) - 1)) = 0 then (none) else (if 0 ≤ (Int.tmod (wrap64 ((wrap64 ((a0.size : Int) - 1)) - (GTab.lg a0 a1))) (wrap64 ((a0.size : Int) - 1))) then (if (Int.tmod (wrap64 ((wrap64 ((a0.size : Int) - 1)) - (GTab.lg a0 a1))) (wrap64 ((a0.size : Int) - 1))) < 256 then (some (GTab.ex a0 (Int.tmod (wrap64 ((wrap64 ((a0.size : Int) - 1)) - (GTab.lg a0 a1))) (wrap64 ((a0.size : Int) - 1))))) else (none)) else (none))) else (none)) else (none)) else (none)) = some r := h
 clear h
 by_cases c3 : 0 < a0.size
 rotate_left
 ·rw [if_neg c3] at H
  exact absurd H (by simp)

 rw [if_pos c3] at H
 obtain ⟨b_,p_,q_,rfl,hT_⟩ := gal_pos HR0.out c3
 have HT0 := Aside0.mk hT_
 clear hT_ c3
 by_cases c5 : 0 ≤ a1
 rotate_left
 ·rw [if_neg c5] at H
  exact absurd H (by simp)
 rw [if_pos c5] at H
 have c5b0 : decide (0 ≤ a1) = true := decide_eq_true c5
 clear c5
 by_cases c6 : a1 < 256
 rotate_left
 ·rw [if_neg c6] at H
  exact absurd H (by simp)
 rw [if_pos c6] at H
 have c6b0 : decide (a1 < 256) = true := decide_eq_true c6
 clear c6
 by_cases c9 : (wrap64 ((a0.size : Int) - 1)) = 0
 ·rw [if_pos c9] at H
  exact absurd H (by simp)
 ·rw [if_neg c9] at H
  have c9b0 : ((wrap64 ((a0.size : Int) - 1)) == 0) = false := beq_eq_false_iff_ne.mpr c9
  have c9b1 : ((wrap64 ((a0.size : Int) - 1)) != 0) = true := bne_iff_ne.mpr c9
  obtain ⟨ji10,hji10⟩ : ∃ j_ : Int,(Int.tmod (wrap64 ((wrap64 ((a0.size : Int) - 1)) - (GTab.lg a0 a1))) (wrap64 ((a0.size : Int) - 1))) = j_ := ⟨_,rfl⟩
  first | rw [hji10] at H | simp only [hji10] at H
  by_cases c11 : 0 ≤ (ji10)
  rotate_left
  ·rw [if_neg c11] at H
   exact absurd H (by simp)
  rw [if_pos c11] at H
  have c11b0 : decide (0 ≤ (ji10)) = true := decide_eq_true c11
  clear c11
  by_cases c12 : (ji10) < 256
  rotate_left
  ·rw [if_neg c12] at H
   exact absurd H (by simp)
  rw [if_pos c12] at H
  have c12b0 : decide ((ji10) < 256) = true := decide_eq_true c12
  clear c12
  obtain rfl := Option.some.inj H
  have ho4 := gal_At_size HT0.out
  have hx4 := ho4
  have p7 : 0 ≤ (a1 : Int) := oD
  have q7 : (a1 : Int) < 256 := oD
  have ho7 := gal_At_log HT0.out a1 p7 q7
  have hx7 := ho7
  replace p7 := eq_true p7
  replace q7 := eq_true q7
  have ho8 := gal_At_size HT0.out
  have hx8 := ho8
  have p13 : 0 ≤ (ji10 : Int) := oD
  have q13 : (ji10 : Int) < 256 := oD
  have ho13 := gal_At_exp HT0.out ji10 p13 q13
  have hx13 := ho13
  replace p13 := eq_true p13
  replace q13 := eq_true q13
  go_enter Try.func72,Try.ntmps72
  go_wp2
  repeat (go_quiet (fail); try go_wp2)
  go_ret
  exact ⟨by first | rfl | (simp; done) | (simp only [← hji10] <;> (first | rfl | simp)) | (simp [*]; done) | (simp [wrap64]; done),by repeat (first | exact Drawn0.refl _ | apply Drawn0.step)⟩
end Go.Proofs.Ytpgecdidddoglaa.P

