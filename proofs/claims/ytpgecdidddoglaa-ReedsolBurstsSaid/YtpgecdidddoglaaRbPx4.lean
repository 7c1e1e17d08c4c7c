-- written by mk.sh, a program of this session, over the kit's print
import Derived.Test.YtpgecdidddoglaaRbPx0
namespace Go.Proofs.Ytpgecdidddoglaa.P
open Go.RowKit Go.Proofs.YtpgecdidddoglaaW.PrintWords Go.Proofs.YtpgecdidddoglaaW.PrintLast Go.Proofs.YtpgecdidddoglaaW.PrintMore
attribute [local go_sem] max2_int min2_int max_two min_two max_three min_three max_four min_four   -- for this text's walks alone
set_option linter.unusedVariables false
set_option linter.unusedSimpArgs false

def bits_ltab : ByteArray := { data := (([0,1,2,2,3,3,3,3,4,4,4,4,4,4,4,4,5,5,5,5,5,5,5,5,5,5,5,5,5,5,5,5,6,6,6,6,6,6,6,6,6,6,6,6,6,6,6,6,6,6,6,6,6,6,6,6,6,6,6,6,6,6,6,6].append [7,7,7,7,7,7,7,7,7,7,7,7,7,7,7,7,7,7,7,7,7,7,7,7,7,7,7,7,7,7,7,7,7,7,7,7,7,7,7,7,7,7,7,7,7,7,7,7,7,7,7,7,7,7,7,7,7,7,7,7,7,7,7,7]).append ([8,8,8,8,8,8,8,8,8,8,8,8,8,8,8,8,8,8,8,8,8,8,8,8,8,8,8,8,8,8,8,8,8,8,8,8,8,8,8,8,8,8,8,8,8,8,8,8,8,8,8,8,8,8,8,8,8,8,8,8,8,8,8,8].append [8,8,8,8,8,8,8,8,8,8,8,8,8,8,8,8,8,8,8,8,8,8,8,8,8,8,8,8,8,8,8,8,8,8,8,8,8,8,8,8,8,8,8,8,8,8,8,8,8,8,8,8,8,8,8,8,8,8,8,8,8,8,8,8])).toArray }
theorem bits_ltab_size : bits_ltab.size = 256 := by decide +kernel
theorem bits_ltab_all : (List.range 256).all (fun x => decide (bt bits_ltab (x : Int) = (Poly.blen x : Nat))) = true := by decide +kernel
theorem bits_ltab_at (x : Nat) (hx : x < 256) : bt bits_ltab (x : Int) = (Poly.blen x : Nat) := by
 have h := List.all_eq_true.1 bits_ltab_all x (List.mem_range.2 hx)
 exact of_decide_eq_true h
theorem bits_blen8 (x : Nat) (hx : x < 256) : Poly.blen x ≤ 8 := by
 rcases Nat.lt_or_ge 8 (Poly.blen x) with h | h
 ·have h0 : x ≠ 0 := by
   intro h0
   rw [h0] at h
   exact absurd h (by decide)
  have h1 := Poly.blen_le h0
  have h2 : 2 ^ 8 ≤ 2 ^ (Poly.blen x - 1) := Nat.pow_le_pow_right (by omega) (by omega)
  omega
 ·exact h
theorem bits_fin0 (b : Nat) (hb : b ≤ 8) : wrap64 (b : Int) = (b : Int) := by unfold wrap64; omega
theorem bits_fin (t b : Nat) (hb : b ≤ 8) (ht : t ≤ 56) : wrap64 ((t : Int) + wrap64 (b : Int)) = ((t + b : Nat) : Int) := by unfold wrap64; omega
theorem bits_fin1 (b : Nat) (hb : b ≤ 8) : wrap64 (wrap64 (b : Int)) = ((0 + b : Nat) : Int) := by unfold wrap64; omega
def bits_Len64.f (a0 : Int) : Option (Int) := if 0 ≤ a0 ∧ a0 < 18446744073709551616 then some (Poly.blen a0.toNat : Nat) else none
set_option maxHeartbeats 8000000 in
set_option maxRecDepth 100000 in
theorem bits_Len64_111 (x0 : Nat) (w : World) (x1 : Nat) (e0 : (x0 : Int) / 4294967296 = (x1 : Int)) (b0 : decide ((4294967296 : Int) ≤ (x0 : Int)) = true) (x2 : Nat) (e1 : (x1 : Int) / 65536 = (x2 : Int)) (b1 : decide ((65536 : Int) ≤ (x1 : Int)) = true) (x3 : Nat) (e2 : (x2 : Int) / 256 = (x3 : Int)) (b2 : decide ((256 : Int) ≤ (x2 : Int)) = true) (HY : Aside0 (x3 < 256)) (HE : Aside0 (Poly.blen x0 = 56 + Poly.blen x3)) :
  Calls Try.prog 82 #[.int .u64 (x0 : Int)] w fun e w' => e = .returned (.int .i64 ((Poly.blen x0 : Nat) : Int)) ∧ Drawn0 w w' := by
 have HT := aK (bits_ltab_at x3 HY.out)
 have hbl := aK (bits_blen8 x3 HY.out)
 have hm : (x3 : Int) % 256 = (x3 : Int) := by have := HY.out; omega
 have q4 : ((x3 : Int) < 256) = True := eq_true (by have := HY.out; omega)
 have p4 : ((0 : Int) ≤ (x3 : Int)) = True := eq_true (by omega)
 have hsz := bits_ltab_size
 go_enter Try.func82,Try.ntmps82
 rw [show ({ data := _ } : ByteArray) = bits_ltab from rfl]
 go_wp2
 go_ret
 refine ⟨congrArg (fun z => Ending.returned (Value.int .i64 z)) ?_,Drawn0.refl _⟩
 have h1 := HT.out
 have h2 := HE.out
 have h3 := hbl.out
 have h4 : ((bits_ltab[x3]'(by have := HY.out; rw [bits_ltab_size]; exact this)).toNat : Int) = ((Poly.blen x3 : Nat) : Int) := (bt_at bits_ltab (x3 : Int) (by have := HY.out; rw [bits_ltab_size]; omega)).trans h1
 rw [h2]
 refine Eq.trans ?_ (bits_fin 56 _ h3 (by decide))
 rw [← h4]
 try rfl
set_option maxHeartbeats 8000000 in
set_option maxRecDepth 100000 in
theorem bits_Len64_110 (x0 : Nat) (w : World) (x1 : Nat) (e0 : (x0 : Int) / 4294967296 = (x1 : Int)) (b0 : decide ((4294967296 : Int) ≤ (x0 : Int)) = true) (x2 : Nat) (e1 : (x1 : Int) / 65536 = (x2 : Int)) (b1 : decide ((65536 : Int) ≤ (x1 : Int)) = true) (b2 : decide ((256 : Int) ≤ (x2 : Int)) = false) (HY : Aside0 (x2 < 256)) (HE : Aside0 (Poly.blen x0 = 48 + Poly.blen x2)) :
  Calls Try.prog 82 #[.int .u64 (x0 : Int)] w fun e w' => e = .returned (.int .i64 ((Poly.blen x0 : Nat) : Int)) ∧ Drawn0 w w' := by
 have HT := aK (bits_ltab_at x2 HY.out)
 have hbl := aK (bits_blen8 x2 HY.out)
 have hm : (x2 : Int) % 256 = (x2 : Int) := by have := HY.out; omega
 have q4 : ((x2 : Int) < 256) = True := eq_true (by have := HY.out; omega)
 have p4 : ((0 : Int) ≤ (x2 : Int)) = True := eq_true (by omega)
 have hsz := bits_ltab_size
 go_enter Try.func82,Try.ntmps82
 rw [show ({ data := _ } : ByteArray) = bits_ltab from rfl]
 go_wp2
 go_ret
 refine ⟨congrArg (fun z => Ending.returned (Value.int .i64 z)) ?_,Drawn0.refl _⟩
 have h1 := HT.out
 have h2 := HE.out
 have h3 := hbl.out
 have h4 : ((bits_ltab[x2]'(by have := HY.out; rw [bits_ltab_size]; exact this)).toNat : Int) = ((Poly.blen x2 : Nat) : Int) := (bt_at bits_ltab (x2 : Int) (by have := HY.out; rw [bits_ltab_size]; omega)).trans h1
 rw [h2]
 refine Eq.trans ?_ (bits_fin 48 _ h3 (by decide))
 rw [← h4]
 try rfl
set_option maxHeartbeats 8000000 in
set_option maxRecDepth 100000 in
theorem bits_Len64_101 (x0 : Nat) (w : World) (x1 : Nat) (e0 : (x0 : Int) / 4294967296 = (x1 : Int)) (b0 : decide ((4294967296 : Int) ≤ (x0 : Int)) = true) (b1 : decide ((65536 : Int) ≤ (x1 : Int)) = false) (x3 : Nat) (e2 : (x1 : Int) / 256 = (x3 : Int)) (b2 : decide ((256 : Int) ≤ (x1 : Int)) = true) (HY : Aside0 (x3 < 256)) (HE : Aside0 (Poly.blen x0 = 40 + Poly.blen x3)) :
  Calls Try.prog 82 #[.int .u64 (x0 : Int)] w fun e w' => e = .returned (.int .i64 ((Poly.blen x0 : Nat) : Int)) ∧ Drawn0 w w' := by
 have HT := aK (bits_ltab_at x3 HY.out)
 have hbl := aK (bits_blen8 x3 HY.out)
 have hm : (x3 : Int) % 256 = (x3 : Int) := by have := HY.out; omega
 have q4 : ((x3 : Int) < 256) = True := eq_true (by have := HY.out; omega)
 have p4 : ((0 : Int) ≤ (x3 : Int)) = True := eq_true (by omega)
 have hsz := bits_ltab_size
 go_enter Try.func82,Try.ntmps82
 rw [show ({ data := _ } : ByteArray) = bits_ltab from rfl]
 go_wp2
 go_ret
 refine ⟨congrArg (fun z => Ending.returned (Value.int .i64 z)) ?_,Drawn0.refl _⟩
 have h1 := HT.out
 have h2 := HE.out
 have h3 := hbl.out
 have h4 : ((bits_ltab[x3]'(by have := HY.out; rw [bits_ltab_size]; exact this)).toNat : Int) = ((Poly.blen x3 : Nat) : Int) := (bt_at bits_ltab (x3 : Int) (by have := HY.out; rw [bits_ltab_size]; omega)).trans h1
 rw [h2]
 refine Eq.trans ?_ (bits_fin 40 _ h3 (by decide))
 rw [← h4]
 try rfl
set_option maxHeartbeats 8000000 in
set_option maxRecDepth 100000 in
theorem bits_Len64_100 (x0 : Nat) (w : World) (x1 : Nat) (e0 : (x0 : Int) / 4294967296 = (x1 : Int)) (b0 : decide ((4294967296 : Int) ≤ (x0 : Int)) = true) (b1 : decide ((65536 : Int) ≤ (x1 : Int)) = false) (b2 : decide ((256 : Int) ≤ (x1 : Int)) = false) (HY : Aside0 (x1 < 256)) (HE : Aside0 (Poly.blen x0 = 32 + Poly.blen x1)) :
  Calls Try.prog 82 #[.int .u64 (x0 : Int)] w fun e w' => e = .returned (.int .i64 ((Poly.blen x0 : Nat) : Int)) ∧ Drawn0 w w' := by
 have HT := aK (bits_ltab_at x1 HY.out)
 have hbl := aK (bits_blen8 x1 HY.out)
 have hm : (x1 : Int) % 256 = (x1 : Int) := by have := HY.out; omega
 have q4 : ((x1 : Int) < 256) = True := eq_true (by have := HY.out; omega)
 have p4 : ((0 : Int) ≤ (x1 : Int)) = True := eq_true (by omega)
 have hsz := bits_ltab_size
 go_enter Try.func82,Try.ntmps82
 rw [show ({ data := _ } : ByteArray) = bits_ltab from rfl]
 go_wp2
 go_ret
 refine ⟨congrArg (fun z => Ending.returned (Value.int .i64 z)) ?_,Drawn0.refl _⟩
 have h1 := HT.out
 have h2 := HE.out
 have h3 := hbl.out
 have h4 : ((bits_ltab[x1]'(by have := HY.out; rw [bits_ltab_size]; exact this)).toNat : Int) = ((Poly.blen x1 : Nat) : Int) := (bt_at bits_ltab (x1 : Int) (by have := HY.out; rw [bits_ltab_size]; omega)).trans h1
 rw [h2]
 refine Eq.trans ?_ (bits_fin 32 _ h3 (by decide))
 rw [← h4]
 try rfl
set_option maxHeartbeats 8000000 in
set_option maxRecDepth 100000 in
theorem bits_Len64_011 (x0 : Nat) (w : World) (b0 : decide ((4294967296 : Int) ≤ (x0 : Int)) = false) (x2 : Nat) (e1 : (x0 : Int) / 65536 = (x2 : Int)) (b1 : decide ((65536 : Int) ≤ (x0 : Int)) = true) (x3 : Nat) (e2 : (x2 : Int) / 256 = (x3 : Int)) (b2 : decide ((256 : Int) ≤ (x2 : Int)) = true) (HY : Aside0 (x3 < 256)) (HE : Aside0 (Poly.blen x0 = 24 + Poly.blen x3)) :
  Calls Try.prog 82 #[.int .u64 (x0 : Int)] w fun e w' => e = .returned (.int .i64 ((Poly.blen x0 : Nat) : Int)) ∧ Drawn0 w w' := by
 have HT := aK (bits_ltab_at x3 HY.out)
 have hbl := aK (bits_blen8 x3 HY.out)
 have hm : (x3 : Int) % 256 = (x3 : Int) := by have := HY.out; omega
 have q4 : ((x3 : Int) < 256) = True := eq_true (by have := HY.out; omega)
 have p4 : ((0 : Int) ≤ (x3 : Int)) = True := eq_true (by omega)
 have hsz := bits_ltab_size
 go_enter Try.func82,Try.ntmps82
 rw [show ({ data := _ } : ByteArray) = bits_ltab from rfl]
 go_wp2
 go_ret
 refine ⟨congrArg (fun z => Ending.returned (Value.int .i64 z)) ?_,Drawn0.refl _⟩
 have h1 := HT.out
 have h2 := HE.out
 have h3 := hbl.out
 have h4 : ((bits_ltab[x3]'(by have := HY.out; rw [bits_ltab_size]; exact this)).toNat : Int) = ((Poly.blen x3 : Nat) : Int) := (bt_at bits_ltab (x3 : Int) (by have := HY.out; rw [bits_ltab_size]; omega)).trans h1
 rw [h2]
 refine Eq.trans ?_ (bits_fin 24 _ h3 (by decide))
 rw [← h4]
 try rfl
set_option maxHeartbeats 8000000 in
set_option maxRecDepth 100000 in
theorem bits_Len64_010 (x0 : Nat) (w : World) (b0 : decide ((4294967296 : Int) ≤ (x0 : Int)) = false) (x2 : Nat) (e1 : (x0 : Int) / 65536 = (x2 : Int)) (b1 : decide ((65536 : Int) ≤ (x0 : Int)) = true) (b2 : decide ((256 : Int) ≤ (x2 : Int)) = false) (HY : Aside0 (x2 < 256)) (HE : Aside0 (Poly.blen x0 = 16 + Poly.blen x2)) :
  Calls Try.prog 82 #[.int .u64 (x0 : Int)] w fun e w' => e = .returned (.int .i64 ((Poly.blen x0 : Nat) : Int)) ∧ Drawn0 w w' := by
 have HT := aK (bits_ltab_at x2 HY.out)
 have hbl := aK (bits_blen8 x2 HY.out)
 have hm : (x2 : Int) % 256 = (x2 : Int) := by have := HY.out; omega
 have q4 : ((x2 : Int) < 256) = True := eq_true (by have := HY.out; omega)
 have p4 : ((0 : Int) ≤ (x2 : Int)) = True := eq_true (by omega)
 have hsz := bits_ltab_size
 go_enter Try.func82,Try.ntmps82
 rw [show ({ data := _ } : ByteArray) = bits_ltab from rfl]
 go_wp2
 go_ret
 refine ⟨congrArg (fun z => Ending.returned (Value.int .i64 z)) ?_,Drawn0.refl _⟩
 have h1 := HT.out
 have h2 := HE.out
 have h3 := hbl.out
 have h4 : ((bits_ltab[x2]'(by have := HY.out; rw [bits_ltab_size]; exact this)).toNat : Int) = ((Poly.blen x2 : Nat) : Int) := (bt_at bits_ltab (x2 : Int) (by have := HY.out; rw [bits_ltab_size]; omega)).trans h1
 rw [h2]
 refine Eq.trans ?_ (bits_fin 16 _ h3 (by decide))
 rw [← h4]
 try rfl
set_option maxHeartbeats 8000000 in
set_option maxRecDepth 100000 in
theorem bits_Len64_001 (x0 : Nat) (w : World) (b0 : decide ((4294967296 : Int) ≤ (x0 : Int)) = false) (b1 : decide ((65536 : Int) ≤ (x0 : Int)) = false) (x3 : Nat) (e2 : (x0 : Int) / 256 = (x3 : Int)) (b2 : decide ((256 : Int) ≤ (x0 : Int)) = true) (HY : Aside0 (x3 < 256)) (HE : Aside0 (Poly.blen x0 = 8 + Poly.blen x3)) :
  Calls Try.prog 82 #[.int .u64 (x0 : Int)] w fun e w' => e = .returned (.int .i64 ((Poly.blen x0 : Nat) : Int)) ∧ Drawn0 w w' := by
 have HT := aK (bits_ltab_at x3 HY.out)
 have hbl := aK (bits_blen8 x3 HY.out)
 have hm : (x3 : Int) % 256 = (x3 : Int) := by have := HY.out; omega
 have q4 : ((x3 : Int) < 256) = True := eq_true (by have := HY.out; omega)
 have p4 : ((0 : Int) ≤ (x3 : Int)) = True := eq_true (by omega)
 have hsz := bits_ltab_size
 go_enter Try.func82,Try.ntmps82
 rw [show ({ data := _ } : ByteArray) = bits_ltab from rfl]
 go_wp2
 go_ret
 refine ⟨congrArg (fun z => Ending.returned (Value.int .i64 z)) ?_,Drawn0.refl _⟩
 have h1 := HT.out
 have h2 := HE.out
 have h3 := hbl.out
 have h4 : ((bits_ltab[x3]'(by have := HY.out; rw [bits_ltab_size]; exact this)).toNat : Int) = ((Poly.blen x3 : Nat) : Int) := (bt_at bits_ltab (x3 : Int) (by have := HY.out; rw [bits_ltab_size]; omega)).trans h1
 rw [h2]
 refine Eq.trans ?_ (bits_fin 8 _ h3 (by decide))
 rw [← h4]
 try rfl
set_option maxHeartbeats 8000000 in
set_option maxRecDepth 100000 in
theorem bits_Len64_000 (x0 : Nat) (w : World) (b0 : decide ((4294967296 : Int) ≤ (x0 : Int)) = false) (b1 : decide ((65536 : Int) ≤ (x0 : Int)) = false) (b2 : decide ((256 : Int) ≤ (x0 : Int)) = false) (HY : Aside0 (x0 < 256)) (HE : Aside0 (Poly.blen x0 = 0 + Poly.blen x0)) :
  Calls Try.prog 82 #[.int .u64 (x0 : Int)] w fun e w' => e = .returned (.int .i64 ((Poly.blen x0 : Nat) : Int)) ∧ Drawn0 w w' := by
 have HT := aK (bits_ltab_at x0 HY.out)
 have hbl := aK (bits_blen8 x0 HY.out)
 have hm : (x0 : Int) % 256 = (x0 : Int) := by have := HY.out; omega
 have q4 : ((x0 : Int) < 256) = True := eq_true (by have := HY.out; omega)
 have p4 : ((0 : Int) ≤ (x0 : Int)) = True := eq_true (by omega)
 have hsz := bits_ltab_size
 go_enter Try.func82,Try.ntmps82
 rw [show ({ data := _ } : ByteArray) = bits_ltab from rfl]
 go_wp2
 go_ret
 refine ⟨congrArg (fun z => Ending.returned (Value.int .i64 z)) ?_,Drawn0.refl _⟩
 have h1 := HT.out
 have h2 := HE.out
 have h3 := hbl.out
 have h4 : ((bits_ltab[x0]'(by have := HY.out; rw [bits_ltab_size]; exact this)).toNat : Int) = ((Poly.blen x0 : Nat) : Int) := (bt_at bits_ltab (x0 : Int) (by have := HY.out; rw [bits_ltab_size]; omega)).trans h1
 rw [h2]
 refine Eq.trans ?_ (bits_fin1 _ h3)
 rw [← h4]
 try rfl
theorem bits_Len64.calls (a0 : Int) (r : Int) (w : World) (h : bits_Len64.f a0 = some r) :
  Calls Try.prog 82 #[.int .u64 a0] w fun e w' => e = .returned (.int .i64 r) ∧ Drawn0 w w' := by
 unfold bits_Len64.f at h
 by_cases c : 0 ≤ a0 ∧ a0 < 18446744073709551616
 rotate_left
 ·rw [if_neg c] at h
  exact absurd h (by simp)


 rw [if_pos c] at h
 obtain rfl := Option.some.inj h
 obtain ⟨x0,rfl⟩ := Int.eq_ofNat_of_zero_le c.1
 have hx := c.2
 rw [Int.toNat_natCast]
 have hx0 : x0 < 18446744073709551616 := by omega
 clear h c hx
 by_cases c0 : 4294967296 ≤ x0
 rotate_left
 ·skip
  by_cases c1 : 65536 ≤ x0
  rotate_left
  ·skip
   by_cases c2 : 256 ≤ x0
   rotate_left
   ·skip
    exact bits_Len64_000 x0 w (decide_eq_false (by omega)) (decide_eq_false (by omega)) (decide_eq_false (by omega)) ⟨by omega⟩ ⟨by omega⟩
   obtain ⟨x3,h2⟩ : ∃ y,y = x0 / 256 := ⟨_,rfl⟩
   have d2 : Poly.blen x0 = 8 + Poly.blen x3 := by rw [h2]; exact Poly.blen_div (s := 8) (by omega)
   exact bits_Len64_001 x0 w (decide_eq_false (by omega)) (decide_eq_false (by omega)) x3 (by omega) (decide_eq_true (by omega)) ⟨by omega⟩ ⟨by omega⟩
  obtain ⟨x2,h1⟩ : ∃ y,y = x0 / 65536 := ⟨_,rfl⟩
  have d1 : Poly.blen x0 = 16 + Poly.blen x2 := by rw [h1]; exact Poly.blen_div (s := 16) (by omega)
  by_cases c2 : 256 ≤ x2
  rotate_left
  ·skip
   exact bits_Len64_010 x0 w (decide_eq_false (by omega)) x2 (by omega) (decide_eq_true (by omega)) (decide_eq_false (by omega)) ⟨by omega⟩ ⟨by omega⟩
  obtain ⟨x3,h2⟩ : ∃ y,y = x2 / 256 := ⟨_,rfl⟩
  have d2 : Poly.blen x2 = 8 + Poly.blen x3 := by rw [h2]; exact Poly.blen_div (s := 8) (by omega)
  exact bits_Len64_011 x0 w (decide_eq_false (by omega)) x2 (by omega) (decide_eq_true (by omega)) x3 (by omega) (decide_eq_true (by omega)) ⟨by omega⟩ ⟨by omega⟩
 obtain ⟨x1,h0⟩ : ∃ y,y = x0 / 4294967296 := ⟨_,rfl⟩
 have d0 : Poly.blen x0 = 32 + Poly.blen x1 := by rw [h0]; exact Poly.blen_div (s := 32) (by omega)
 by_cases c1 : 65536 ≤ x1
 rotate_left
 ·skip
  by_cases c2 : 256 ≤ x1
  rotate_left
  ·skip
   exact bits_Len64_100 x0 w x1 (by omega) (decide_eq_true (by omega)) (decide_eq_false (by omega)) (decide_eq_false (by omega)) ⟨by omega⟩ ⟨by omega⟩
  obtain ⟨x3,h2⟩ : ∃ y,y = x1 / 256 := ⟨_,rfl⟩
  have d2 : Poly.blen x1 = 8 + Poly.blen x3 := by rw [h2]; exact Poly.blen_div (s := 8) (by omega)
  exact bits_Len64_101 x0 w x1 (by omega) (decide_eq_true (by omega)) (decide_eq_false (by omega)) x3 (by omega) (decide_eq_true (by omega)) ⟨by omega⟩ ⟨by omega⟩
 obtain ⟨x2,h1⟩ : ∃ y,y = x1 / 65536 := ⟨_,rfl⟩
 have d1 : Poly.blen x1 = 16 + Poly.blen x2 := by rw [h1]; exact Poly.blen_div (s := 16) (by omega)
 by_cases c2 : 256 ≤ x2
 rotate_left
 ·skip
  exact bits_Len64_110 x0 w x1 (by omega) (decide_eq_true (by omega)) x2 (by omega) (decide_eq_true (by omega)) (decide_eq_false (by omega)) ⟨by omega⟩ ⟨by omega⟩
 obtain ⟨x3,h2⟩ : ∃ y,y = x2 / 256 := ⟨_,rfl⟩
 have d2 : Poly.blen x2 = 8 + Poly.blen x3 := by rw [h2]; exact Poly.blen_div (s := 8) (by omega)
 exact bits_Len64_111 x0 w x1 (by omega) (decide_eq_true (by omega)) x2 (by omega) (decide_eq_true (by omega)) x3 (by omega) (decide_eq_true (by omega)) ⟨by omega⟩ ⟨by omega⟩
def poly_Degree.f (a0 : Int) : Option (Int) := (bits_Len64.f a0).bind fun t150 => (some (wrap64 (t150 - 1)))
set_option maxHeartbeats 8000000 in
set_option maxRecDepth 100000 in
theorem poly_Degree.calls (a0 : Int) (r : Int) (w : World) (h : poly_Degree.f a0 = some r) :
  Calls Try.prog 79 #[.int .u64 a0] w fun e w' => e = .returned (.int .i64 r) ∧ Drawn0 w w' := by
 have H : ((bits_Len64.f a0).bind fun t150 => (some (wrap64 (t150 - 1)))) = some r := h
 clear h
 replace H := Option.bind_eq_some_iff.mp H
 obtain ⟨t150,A20,H⟩ := H
 replace H : (some (wrap64 (t150 - 1))) = some r := H
 have A2 := Aside0.mk A20
 clear A20
 obtain rfl := Option.some.inj H
 go_enter Try.func79,Try.ntmps79
 go_wp2_with (first | (go_at_call 82; (with_reducible refine (bits_Len64.calls a0 t150 _ A2.out).mono ?_); rintro e w' ⟨rfl,⟨nd,rfl⟩⟩))
 go_ret
 exact ⟨by first | rfl | (simp; done) | (simp [*]; done) | (simp [wrap64]; done),by repeat (first | exact Drawn0.refl _ | apply Drawn0.step)⟩

mutual
def poly_long.l0 : Nat → Int → Int → Int → Int → Int → Int → Option (Int × Int)
 | 0,_,_,_,_,_,_ => none
 | k + 1,x0,x1,x2,x6,x8,x9 => if x9 ≥ 0 then (if 0 ≤ x9 then (if (Go.bits .and .u64 (shr .u64 x0 x9) 1) = 0 then (poly_long.l0 k x0 x1 x2 x6 x8 (wrap64 (x9 - 1))) else (if (wrap64 ((wrap64 (64 + x9)) - x8)) ≥ 64 then (if 0 ≤ (wrap64 ((wrap64 ((wrap64 (64 + x9)) - x8)) - 64)) then (poly_long.l0 k (Go.bits .xor .u64 x0 (shl .u64 x2 (wrap64 ((wrap64 ((wrap64 (64 + x9)) - x8)) - 64)))) x1 x2 x6 x8 (wrap64 (x9 - 1))) else (none)) else (if 0 ≤ (wrap64 ((wrap64 (64 + x9)) - x8)) then (if 0 ≤ (wrap64 (64 - (wrap64 ((wrap64 (64 + x9)) - x8)))) then (poly_long.l0 k (Go.bits .xor .u64 x0 (shr .u64 x2 (wrap64 (64 - (wrap64 ((wrap64 (64 + x9)) - x8)))))) (Go.bits .xor .u64 x1 (shl .u64 x2 (wrap64 ((wrap64 (64 + x9)) - x8)))) x2 (Go.bits .or .u64 x6 (shl .u64 1 (wrap64 ((wrap64 (64 + x9)) - x8)))) x8 (wrap64 (x9 - 1))) else (none)) else (none)))) else (none)) else ((poly_Degree.f x1).bind fun t153 => (poly_long.l1 k x1 x2 x6 x8 t153))
def poly_long.l1 : Nat → Int → Int → Int → Int → Int → Option (Int × Int)
 | 0,_,_,_,_,_ => none
 | k + 1,x1,x2,x6,x8,x11 => if x11 ≥ x8 then (if 0 ≤ x11 then (if (Go.bits .and .u64 (shr .u64 x1 x11) 1) = 0 then (poly_long.l1 k x1 x2 x6 x8 (wrap64 (x11 - 1))) else (if 0 ≤ (wrap64 (x11 - x8)) then (poly_long.l1 k (Go.bits .xor .u64 x1 (shl .u64 x2 (wrap64 (x11 - x8)))) x2 (Go.bits .or .u64 x6 (shl .u64 1 (wrap64 (x11 - x8)))) x8 (wrap64 (x11 - 1))) else (none))) else (none)) else (some (x6,x1))
end
def poly_long.f (k : Nat) (a0 : Int) (a1 : Int) (a2 : Int) : Option (Int × Int) := (poly_Degree.f a2).bind fun t151 => ((poly_Degree.f a0).bind fun t152 => (poly_long.l0 k a0 a1 a2 0 t151 t152))
theorem poly_long.mono_l : ∀ k,(∀ y0 y1 y2 y3 y4 y5,LeO (poly_long.l0 k y0 y1 y2 y3 y4 y5) (poly_long.l0 (k + 1) y0 y1 y2 y3 y4 y5)) ∧ (∀ y0 y1 y2 y3 y4,LeO (poly_long.l1 k y0 y1 y2 y3 y4) (poly_long.l1 (k + 1) y0 y1 y2 y3 y4))
 | 0 => ⟨fun _ _ _ _ _ _ r h => by simp [poly_long.l0] at h,fun _ _ _ _ _ r h => by simp [poly_long.l1] at h⟩
 | k + 1 => by
  obtain ⟨ih0,ih1⟩ := poly_long.mono_l k
  refine ⟨?_,?_⟩
  ·intro y0 y1 y2 y3 y4 y5
   unfold poly_long.l0
   repeat' with_reducible first
   | exact ih0 _ _ _ _ _ _
   | exact ih1 _ _ _ _ _
   | exact LeO.refl _
   | exact LeO.none _
   | refine LeO.ite ?_ ?_
   | refine LeO.bind ?_ (fun _ => ?_)
  ·intro y0 y1 y2 y3 y4
   unfold poly_long.l1
   repeat' with_reducible first
   | exact ih0 _ _ _ _ _ _
   | exact ih1 _ _ _ _ _
   | exact LeO.refl _
   | exact LeO.none _
   | refine LeO.ite ?_ ?_
   | refine LeO.bind ?_ (fun _ => ?_)
theorem poly_long.mono : ∀ a0 a1 a2 k,LeO (poly_long.f k a0 a1 a2) (poly_long.f (k + 1) a0 a1 a2) := by
 intro a0 a1 a2 k
 obtain ⟨ih0,ih1⟩ := poly_long.mono_l k
 unfold poly_long.f
 repeat' with_reducible first
   | exact ih0 _ _ _ _ _ _
   | exact ih1 _ _ _ _ _
   | exact LeO.refl _
   | exact LeO.none _
   | refine LeO.ite ?_ ?_
   | refine LeO.bind ?_ (fun _ => ?_)
set_option maxHeartbeats 8000000 in
set_option maxRecDepth 100000 in
theorem poly_long.calls (k : Nat) (a0 : Int) (a1 : Int) (a2 : Int) (r1 : Int) (r2 : Int) (w : World) (h : poly_long.f k a0 a1 a2 = some (r1,r2)) :
  Calls Try.prog 88 #[.int .u64 a0,.int .u64 a1,.int .u64 a2] w fun e w' => e = .returned (.tuple #[.int .u64 r1,.int .u64 r2]) ∧ Drawn0 w w' := by
 have H : ((poly_Degree.f a2).bind fun t151 => ((poly_Degree.f a0).bind fun t152 => (poly_long.l0 k a0 a1 a2 0 t151 t152))) = some (r1,r2) := h
 clear h
 replace H := Option.bind_eq_some_iff.mp H
 obtain ⟨t151,A40,H⟩ := H
 try dsimp only at H
 have A4 := Aside0.mk A40
 clear A40
 replace H := Option.bind_eq_some_iff.mp H
 obtain ⟨t152,A50,H⟩ := H
 try dsimp only at H
 have A5 := Aside0.mk A50
 clear A50
 have H' := Aside0.mk H
 clear H
 go_enter Try.func88,Try.ntmps88
 go_wp2_with (first | (go_at_call 79; (with_reducible refine (poly_Degree.calls a2 t151 _ A4.out).mono ?_); rintro e w' ⟨rfl,⟨nd,rfl⟩⟩) | (go_at_call 79; (with_reducible refine (poly_Degree.calls a0 t152 _ A5.out).mono ?_); rintro e w' ⟨rfl,⟨nd,rfl⟩⟩))
 go_loopg [0,1,6,9] k (fun kq v0 v1 v6 v9 w' => ∃ (x0_1 : Int) (x1_1 : Int) (x6_1 : Int) (x9_1 : Int),v0 = .int .u64 x0_1 ∧ v1 = .int .u64 x1_1 ∧ v6 = .int .u64 x6_1 ∧ v9 = .int .i64 x9_1 ∧ Aside0 (poly_long.l0 kq x0_1 x1_1 a2 x6_1 t151 x9_1 = some (r1,r2)) ∧ Aside0 (kq ≤ k) ∧ Drawn0 w w')
 case atStart => exact ⟨(a0),(a1),(0),(t152),(by first | rfl | (simp; done) | (simp [*]; done) | (simp [wrap64]; done)),(by first | rfl | (simp; done) | (simp [*]; done) | (simp [wrap64]; done)),(by first | rfl | (simp; done) | (simp [*]; done) | (simp [wrap64]; done)),(by first | rfl | (simp; done) | (simp [*]; done) | (simp [wrap64]; done)),H',⟨Nat.le_refl _⟩,by repeat (first | exact Drawn0.refl _ | apply Drawn0.step)⟩
 case round =>
  clear H'
  try clear p2
  obtain ⟨x0_1,x1_1,x6_1,x9_1,rfl,rfl,rfl,rfl,HA,HK1,⟨m1,rfl⟩⟩ := hrel
  cases gk with
  | zero => exact absurd HA.out (by simp [poly_long.l0])
  | succ k1 =>
   have H := HA.out
   clear HA
   simp only [poly_long.l0] at H
   by_cases c6 : x9_1 ≥ 0
   rotate_left
   ·rw [if_neg c6] at H
    have c6b0 : decide (0 ≤ x9_1) = false := decide_eq_false c6
    clear c6
    replace H := Option.bind_eq_some_iff.mp H
    obtain ⟨t153,A220,H⟩ := H
    try dsimp only at H
    have A22 := Aside0.mk A220
    clear A220
    have H' := Aside0.mk H
    clear H
    go_wp2_with (first | (go_at_call 79; (with_reducible refine (poly_Degree.calls x1_1 t153 _ A22.out).mono ?_); rintro e w' ⟨rfl,⟨nd,rfl⟩⟩))
    go_loopg [1,6,11] k1 (fun kq v1 v6 v11 w' => ∃ (x1_2 : Int) (x6_2 : Int) (x11_2 : Int),v1 = .int .u64 x1_2 ∧ v6 = .int .u64 x6_2 ∧ v11 = .int .i64 x11_2 ∧ Aside0 (poly_long.l1 kq x1_2 a2 x6_2 t151 x11_2 = some (r1,r2)) ∧ Aside0 (kq ≤ k1) ∧ Drawn0 w w')
    case atStart => exact ⟨(x1_1),(x6_1),(t153),(by first | rfl | (simp; done) | (simp [*]; done) | (simp [wrap64]; done)),(by first | rfl | (simp; done) | (simp [*]; done) | (simp [wrap64]; done)),(by first | rfl | (simp; done) | (simp [*]; done) | (simp [wrap64]; done)),H',⟨Nat.le_refl _⟩,by repeat (first | exact Drawn0.refl _ | apply Drawn0.step)⟩
    case round =>
     clear H'
     (try clear c1); (try clear c2); (try clear p2); (try clear c6); (try clear c6b0); (try clear p6); (try clear c7); (try clear c7b0); (try clear c7b1); (try clear c8); (try clear c9); (try clear c9b0); (try clear c9b1); (try clear c10); (try clear c10b0); (try clear c12); (try clear c12b0); (try clear c12b1)
     (try clear c15); (try clear c15b0); (try clear c15b1); (try clear c18); (try clear c18b0); (try clear c18b1); (try clear c20); (try clear c20b0); (try clear p2)
     obtain ⟨x1_2,x6_2,x11_2,rfl,rfl,rfl,HA,HK2,⟨m2,rfl⟩⟩ := hrel
     cases gk with
     | zero => exact absurd HA.out (by simp [poly_long.l1])
     | succ k2 =>
      have H := HA.out
      clear HA
      simp only [poly_long.l1] at H
      by_cases c23 : x11_2 ≥ t151
      rotate_left
      ·rw [if_neg c23] at H
       have c23b0 : decide (t151 ≤ x11_2) = false := decide_eq_false c23
       clear c23
       simp only [Option.some.injEq,Prod.mk.injEq] at H
       obtain ⟨rfl,rfl⟩ := H
       go_wp2
       go_ret2
       exact ⟨by first | rfl | (simp; done) | (simp [*]; done) | (simp [wrap64]; done),by repeat (first | exact Drawn0.refl _ | apply Drawn0.step)⟩


      rw [if_pos c23] at H
      have c23b0 : decide (t151 ≤ x11_2) = true := decide_eq_true c23
      clear c23
      by_cases c24 : 0 ≤ x11_2
      rotate_left
      ·rw [if_neg c24] at H
       exact absurd H (by simp)
      rw [if_pos c24] at H
      have c24b0 := eq_true c24
      have c24b1 : decide (0 ≤ x11_2) = true := decide_eq_true c24
      clear c24
      obtain ⟨ji25,hji25⟩ : ∃ j_ : Int,(shr .u64 x1_2 x11_2) = j_ := ⟨_,rfl⟩
      first | rw [hji25] at H | simp only [hji25] at H
      have hji25_ : (x1_2 / 2 ^ min x11_2.toNat 64) = ji25 := hji25
      have hji25z : x11_2 ≤ 64 → (x1_2 / 2 ^ x11_2.toNat) = ji25 := shr_small hji25
      by_cases c26 : (Go.bits .and .u64 (ji25) 1) = 0
      ·rw [if_pos c26] at H
       have c26b0 : ((Go.bits .and .u64 (ji25) 1) == 0) = true := beq_iff_eq.mpr c26
       have c26b1 : ((Go.bits .and .u64 (ji25) 1) != 0) = false := bne_eq_false_iff_eq.mpr c26
       clear c26
       have H' := Aside0.mk H
       clear H
       go_wp2
       go_roundg k2
       case measure => have := HK1.out; have := HK2.out; omega
       case rel => exact ⟨(x1_2),(x6_2),(wrap64 (x11_2 - 1)),(by first | rfl | (simp; done) | (simp [*]; done) | (simp [wrap64]; done)),(by first | rfl | (simp; done) | (simp [*]; done) | (simp [wrap64]; done)),(by first | rfl | (simp; done) | (simp [*]; done) | (simp [wrap64]; done)),H',⟨by have := HK1.out; have := HK2.out; omega⟩,by repeat (first | exact Drawn0.refl _ | apply Drawn0.step)⟩
      ·rw [if_neg c26] at H
       have c26b0 : ((Go.bits .and .u64 (ji25) 1) == 0) = false := beq_eq_false_iff_ne.mpr c26
       have c26b1 : ((Go.bits .and .u64 (ji25) 1) != 0) = true := bne_iff_ne.mpr c26
       obtain ⟨ji27,hji27⟩ : ∃ j_ : Int,(wrap64 (x11_2 - t151)) = j_ := ⟨_,rfl⟩
       first | rw [hji27] at H | simp only [hji27] at H
       have hji27w : (IntKind.i64.wrap (x11_2 - t151)) = ji27 := (i64_w _).trans hji27
       by_cases c28 : 0 ≤ (ji27)
       rotate_left
       ·rw [if_neg c28] at H
        exact absurd H (by simp)
       rw [if_pos c28] at H
       have c28b0 := eq_true c28
       have c28b1 : decide (0 ≤ (ji27)) = true := decide_eq_true c28
       clear c28
       obtain ⟨ji29,hji29⟩ : ∃ j_ : Int,(shl .u64 1 (ji27)) = j_ := ⟨_,rfl⟩
       first | rw [hji29] at H | simp only [hji29] at H
       have hji29_ : (IntKind.u64.wrap (1 * 2 ^ min (ji27).toNat 64)) = ji29 := hji29
       have hji29z : (ji27) ≤ 64 → (IntKind.u64.wrap (1 * 2 ^ (ji27).toNat)) = ji29 := shl_small hji29
       have hji29u : (IntKind.u64.wrap (2 ^ min (ji27).toNat 64)) = ji29 := by have h_ := hji29_; rw [Int.one_mul] at h_; exact h_
       have hji29v : (ji27) ≤ 64 → (IntKind.u64.wrap (2 ^ (ji27).toNat)) = ji29 := fun hle_ => by have h_ := hji29z hle_; rw [Int.one_mul] at h_; exact h_
       have c30b0 := eq_true (oD : 0 ≤ (ji27))
       obtain ⟨ji31,hji31⟩ : ∃ j_ : Int,(shl .u64 a2 (ji27)) = j_ := ⟨_,rfl⟩
       first | rw [hji31] at H | simp only [hji31] at H
       have hji31_ : (IntKind.u64.wrap (a2 * 2 ^ min (ji27).toNat 64)) = ji31 := hji31
       have hji31z : (ji27) ≤ 64 → (IntKind.u64.wrap (a2 * 2 ^ (ji27).toNat)) = ji31 := shl_small hji31
       have H' := Aside0.mk H
       clear H
       go_wp2
       go_roundg k2
       case measure => have := HK1.out; have := HK2.out; omega
       case rel => exact ⟨(Go.bits .xor .u64 x1_2 (ji31)),(Go.bits .or .u64 x6_2 (ji29)),(wrap64 (x11_2 - 1)),(by first | rfl | (simp; done) | (simp only [← hji31] <;> (first | rfl | simp)) | (simp [*]; done) | (simp [wrap64]; done)),(by first | rfl | (simp; done) | (simp only [← hji29] <;> (first | rfl | simp)) | (simp [*]; done) | (simp [wrap64]; done)),(by first | rfl | (simp; done) | (simp [*]; done) | (simp [wrap64]; done)),H',⟨by have := HK1.out; have := HK2.out; omega⟩,by repeat (first | exact Drawn0.refl _ | apply Drawn0.step)⟩
   rw [if_pos c6] at H
   have c6b0 : decide (0 ≤ x9_1) = true := decide_eq_true c6
   clear c6
   by_cases c7 : 0 ≤ x9_1
   rotate_left
   ·rw [if_neg c7] at H
    exact absurd H (by simp)
   rw [if_pos c7] at H
   have c7b0 := eq_true c7
   have c7b1 : decide (0 ≤ x9_1) = true := decide_eq_true c7
   clear c7
   obtain ⟨ji8,hji8⟩ : ∃ j_ : Int,(shr .u64 x0_1 x9_1) = j_ := ⟨_,rfl⟩
   first | rw [hji8] at H | simp only [hji8] at H
   have hji8_ : (x0_1 / 2 ^ min x9_1.toNat 64) = ji8 := hji8
   have hji8z : x9_1 ≤ 64 → (x0_1 / 2 ^ x9_1.toNat) = ji8 := shr_small hji8
   by_cases c9 : (Go.bits .and .u64 (ji8) 1) = 0
   ·rw [if_pos c9] at H
    have c9b0 : ((Go.bits .and .u64 (ji8) 1) == 0) = true := beq_iff_eq.mpr c9
    have c9b1 : ((Go.bits .and .u64 (ji8) 1) != 0) = false := bne_eq_false_iff_eq.mpr c9
    clear c9
    have H' := Aside0.mk H
    clear H
    go_wp2
    go_roundg k1
    case measure => have := HK1.out; omega
    case rel => exact ⟨(x0_1),(x1_1),(x6_1),(wrap64 (x9_1 - 1)),(by first | rfl | (simp; done) | (simp [*]; done) | (simp [wrap64]; done)),(by first | rfl | (simp; done) | (simp [*]; done) | (simp [wrap64]; done)),(by first | rfl | (simp; done) | (simp [*]; done) | (simp [wrap64]; done)),(by first | rfl | (simp; done) | (simp [*]; done) | (simp [wrap64]; done)),H',⟨by have := HK1.out; omega⟩,by repeat (first | exact Drawn0.refl _ | apply Drawn0.step)⟩
   ·rw [if_neg c9] at H
    have c9b0 : ((Go.bits .and .u64 (ji8) 1) == 0) = false := beq_eq_false_iff_ne.mpr c9
    have c9b1 : ((Go.bits .and .u64 (ji8) 1) != 0) = true := bne_iff_ne.mpr c9
    by_cases c10 : (wrap64 ((wrap64 (64 + x9_1)) - t151)) ≥ 64
    ·rw [if_pos c10] at H
     have c10b0 : decide (64 ≤ (wrap64 ((wrap64 (64 + x9_1)) - t151))) = true := decide_eq_true c10
     clear c10
     obtain ⟨ji11,hji11⟩ : ∃ j_ : Int,(wrap64 ((wrap64 ((wrap64 (64 + x9_1)) - t151)) - 64)) = j_ := ⟨_,rfl⟩
     first | rw [hji11] at H | simp only [hji11] at H
     have hji11w : (IntKind.i64.wrap ((wrap64 ((wrap64 (64 + x9_1)) - t151)) - 64)) = ji11 := (i64_w _).trans hji11
     by_cases c12 : 0 ≤ (ji11)
     rotate_left
     ·rw [if_neg c12] at H
      exact absurd H (by simp)
     rw [if_pos c12] at H
     have c12b0 := eq_true c12
     have c12b1 : decide (0 ≤ (ji11)) = true := decide_eq_true c12
     clear c12
     obtain ⟨ji13,hji13⟩ : ∃ j_ : Int,(shl .u64 a2 (ji11)) = j_ := ⟨_,rfl⟩
     first | rw [hji13] at H | simp only [hji13] at H
     have hji13_ : (IntKind.u64.wrap (a2 * 2 ^ min (ji11).toNat 64)) = ji13 := hji13
     have hji13z : (ji11) ≤ 64 → (IntKind.u64.wrap (a2 * 2 ^ (ji11).toNat)) = ji13 := shl_small hji13
     have H' := Aside0.mk H
     clear H
     go_wp2
     go_roundg k1
     case measure => have := HK1.out; omega
     case rel => exact ⟨(Go.bits .xor .u64 x0_1 (ji13)),(x1_1),(x6_1),(wrap64 (x9_1 - 1)),(by first | rfl | (simp; done) | (simp only [← hji13] <;> (first | rfl | simp)) | (simp [*]; done) | (simp [wrap64]; done)),(by first | rfl | (simp; done) | (simp [*]; done) | (simp [wrap64]; done)),(by first | rfl | (simp; done) | (simp [*]; done) | (simp [wrap64]; done)),(by first | rfl | (simp; done) | (simp [*]; done) | (simp [wrap64]; done)),H',⟨by have := HK1.out; omega⟩,by repeat (first | exact Drawn0.refl _ | apply Drawn0.step)⟩
    ·rw [if_neg c10] at H
     have c10b0 : decide (64 ≤ (wrap64 ((wrap64 (64 + x9_1)) - t151))) = false := decide_eq_false c10
     clear c10
     obtain ⟨ji14,hji14⟩ : ∃ j_ : Int,(wrap64 ((wrap64 (64 + x9_1)) - t151)) = j_ := ⟨_,rfl⟩
     first | rw [hji14] at H | simp only [hji14] at H
     (try rw [hji14] at c10b0)
     have hji14w : (IntKind.i64.wrap ((wrap64 (64 + x9_1)) - t151)) = ji14 := (i64_w _).trans hji14
     by_cases c15 : 0 ≤ (ji14)
     rotate_left
     ·rw [if_neg c15] at H
      exact absurd H (by simp)
     rw [if_pos c15] at H
     have c15b0 := eq_true c15
     have c15b1 : decide (0 ≤ (ji14)) = true := decide_eq_true c15
     clear c15
     obtain ⟨ji16,hji16⟩ : ∃ j_ : Int,(shl .u64 1 (ji14)) = j_ := ⟨_,rfl⟩
     first | rw [hji16] at H | simp only [hji16] at H
     have hji16_ : (IntKind.u64.wrap (1 * 2 ^ min (ji14).toNat 64)) = ji16 := hji16
     have hji16z : (ji14) ≤ 64 → (IntKind.u64.wrap (1 * 2 ^ (ji14).toNat)) = ji16 := shl_small hji16
     have hji16u : (IntKind.u64.wrap (2 ^ min (ji14).toNat 64)) = ji16 := by have h_ := hji16_; rw [Int.one_mul] at h_; exact h_
     have hji16v : (ji14) ≤ 64 → (IntKind.u64.wrap (2 ^ (ji14).toNat)) = ji16 := fun hle_ => by have h_ := hji16z hle_; rw [Int.one_mul] at h_; exact h_
     obtain ⟨ji17,hji17⟩ : ∃ j_ : Int,(wrap64 (64 - (ji14))) = j_ := ⟨_,rfl⟩
     first | rw [hji17] at H | simp only [hji17] at H
     have hji17w : (IntKind.i64.wrap (64 - (ji14))) = ji17 := (i64_w _).trans hji17
     by_cases c18 : 0 ≤ (ji17)
     rotate_left
     ·rw [if_neg c18] at H
      exact absurd H (by simp)
     rw [if_pos c18] at H
     have c18b0 := eq_true c18
     have c18b1 : decide (0 ≤ (ji17)) = true := decide_eq_true c18
     clear c18
     obtain ⟨ji19,hji19⟩ : ∃ j_ : Int,(shr .u64 a2 (ji17)) = j_ := ⟨_,rfl⟩
     first | rw [hji19] at H | simp only [hji19] at H
     have hji19_ : (a2 / 2 ^ min (ji17).toNat 64) = ji19 := hji19
     have hji19z : (ji17) ≤ 64 → (a2 / 2 ^ (ji17).toNat) = ji19 := shr_small hji19
     have c20b0 := eq_true (oD : 0 ≤ (ji14))
     obtain ⟨ji21,hji21⟩ : ∃ j_ : Int,(shl .u64 a2 (ji14)) = j_ := ⟨_,rfl⟩
     first | rw [hji21] at H | simp only [hji21] at H
     have hji21_ : (IntKind.u64.wrap (a2 * 2 ^ min (ji14).toNat 64)) = ji21 := hji21
     have hji21z : (ji14) ≤ 64 → (IntKind.u64.wrap (a2 * 2 ^ (ji14).toNat)) = ji21 := shl_small hji21
     have H' := Aside0.mk H
     clear H
     go_wp2
     go_roundg k1
     case measure => have := HK1.out; omega
     case rel => exact ⟨(Go.bits .xor .u64 x0_1 (ji19)),(Go.bits .xor .u64 x1_1 (ji21)),(Go.bits .or .u64 x6_1 (ji16)),(wrap64 (x9_1 - 1)),(by first | rfl | (simp; done) | (simp only [← hji19] <;> (first | rfl | simp)) | (simp [*]; done) | (simp [wrap64]; done)),(by first | rfl | (simp; done) | (simp only [← hji21] <;> (first | rfl | simp)) | (simp [*]; done) | (simp [wrap64]; done)),(by first | rfl | (simp; done) | (simp only [← hji16] <;> (first | rfl | simp)) | (simp [*]; done) | (simp [wrap64]; done)),(by first | rfl | (simp; done) | (simp [*]; done) | (simp [wrap64]; done)),H',⟨by have := HK1.out; omega⟩,by repeat (first | exact Drawn0.refl _ | apply Drawn0.step)⟩
def poly_rest.f (k : Nat) (a0 : Int) (a1 : Int) : Option (Int) := (poly_long.f k 0 a0 a1).bind fun bt154 => (some bt154.2)
theorem poly_rest.mono : ∀ a0 a1 k,LeO (poly_rest.f k a0 a1) (poly_rest.f (k + 1) a0 a1) := by
 intro a0 a1 k
 unfold poly_rest.f
 repeat' with_reducible first
   | exact poly_long.mono _ _ _ _
   | exact LeO.refl _
   | exact LeO.none _
   | refine LeO.ite ?_ ?_
   | refine LeO.bind ?_ (fun _ => ?_)
set_option maxHeartbeats 8000000 in
set_option maxRecDepth 100000 in
theorem poly_rest.calls (k : Nat) (a0 : Int) (a1 : Int) (r : Int) (w : World) (h : poly_rest.f k a0 a1 = some r) :
  Calls Try.prog 85 #[.int .u64 a0,.int .u64 a1] w fun e w' => e = .returned (.int .u64 r) ∧ Drawn0 w w' := by
 have H : ((poly_long.f k 0 a0 a1).bind fun bt154 => (some bt154.2)) = some r := h
 clear h
 replace H := Option.bind_eq_some_iff.mp H
 obtain ⟨⟨t154,t155⟩,A30,H⟩ := H
 replace H : (some t155) = some r := H
 have A3 := Aside0.mk A30
 clear A30
 obtain rfl := Option.some.inj H
 go_enter Try.func85,Try.ntmps85
 go_wp2_with (first | (go_at_call 88; (with_reducible refine (poly_long.calls k 0 a0 a1 t154 t155 _ A3.out).mono ?_); rintro e w' ⟨rfl,⟨nd,rfl⟩⟩))
 go_ret
 exact ⟨by first | rfl | (simp; done) | (simp [*]; done) | (simp [wrap64]; done),by repeat (first | exact Drawn0.refl _ | apply Drawn0.step)⟩

def poly_Mul.l0 : Nat → Int → Int → Int → Int → Int → Option (Int × Int)
 | 0,_,_,_,_,_ => none
 | k + 1,x0,x1,x4,x5,x7 => if x7 < 64 then (if 0 ≤ x7 then (if (Go.bits .and .u64 (shr .u64 x0 x7) 1) = 0 then (poly_Mul.l0 k x0 x1 x4 x5 (wrap64 (x7 + 1))) else (if 0 ≤ (wrap64 (64 - x7)) then (poly_Mul.l0 k x0 x1 (Go.bits .xor .u64 x4 (shr .u64 x1 (wrap64 (64 - x7)))) (Go.bits .xor .u64 x5 (shl .u64 x1 x7)) (wrap64 (x7 + 1))) else (none))) else (none)) else (some (x4,x5))
def poly_Mul.f (k : Nat) (a0 : Int) (a1 : Int) : Option (Int × Int) := poly_Mul.l0 k a0 a1 0 0 0
theorem poly_Mul.mono_l : ∀ k,(∀ y0 y1 y2 y3 y4,LeO (poly_Mul.l0 k y0 y1 y2 y3 y4) (poly_Mul.l0 (k + 1) y0 y1 y2 y3 y4))
 | 0 => fun _ _ _ _ _ r h => by simp [poly_Mul.l0] at h
 | k + 1 => by
  have ih0 := poly_Mul.mono_l k
  ·intro y0 y1 y2 y3 y4
   unfold poly_Mul.l0
   repeat' with_reducible first
   | exact ih0 _ _ _ _ _
   | exact LeO.refl _
   | exact LeO.none _
   | refine LeO.ite ?_ ?_
   | refine LeO.bind ?_ (fun _ => ?_)
theorem poly_Mul.mono : ∀ a0 a1 k,LeO (poly_Mul.f k a0 a1) (poly_Mul.f (k + 1) a0 a1) := by
 intro a0 a1 k
 have ih0 := poly_Mul.mono_l k
 unfold poly_Mul.f
 repeat' with_reducible first
   | exact ih0 _ _ _ _ _
   | exact LeO.refl _
   | exact LeO.none _
   | refine LeO.ite ?_ ?_
   | refine LeO.bind ?_ (fun _ => ?_)
set_option maxHeartbeats 8000000 in
set_option maxRecDepth 100000 in
theorem poly_Mul.calls (k : Nat) (a0 : Int) (a1 : Int) (r1 : Int) (r2 : Int) (w : World) (h : poly_Mul.f k a0 a1 = some (r1,r2)) :
  Calls Try.prog 89 #[.int .u64 a0,.int .u64 a1] w fun e w' => e = .returned (.tuple #[.int .u64 r1,.int .u64 r2]) ∧ Drawn0 w w' := by
 have H : (poly_Mul.l0 k a0 a1 0 0 0) = some (r1,r2) := h
 clear h
 have H' := Aside0.mk H
 clear H
 go_enter Try.func89,Try.ntmps89
 go_wp2
 go_loopg [4,5,7] k (fun kq v4 v5 v7 w' => ∃ (x4_1 : Int) (x5_1 : Int) (x7_1 : Int),v4 = .int .u64 x4_1 ∧ v5 = .int .u64 x5_1 ∧ v7 = .int .i64 x7_1 ∧ Aside0 (poly_Mul.l0 kq a0 a1 x4_1 x5_1 x7_1 = some (r1,r2)) ∧ Aside0 (kq ≤ k) ∧ Drawn0 w w')
 case atStart => exact ⟨(0),(0),(0),(by first | rfl | (simp; done) | (simp [*]; done) | (simp [wrap64]; done)),(by first | rfl | (simp; done) | (simp [*]; done) | (simp [wrap64]; done)),(by first | rfl | (simp; done) | (simp [*]; done) | (simp [wrap64]; done)),H',⟨Nat.le_refl _⟩,by repeat (first | exact Drawn0.refl _ | apply Drawn0.step)⟩
 case round =>
  clear H'
  try clear p2
  obtain ⟨x4_1,x5_1,x7_1,rfl,rfl,rfl,HA,HK1,⟨m1,rfl⟩⟩ := hrel
  cases gk with
  | zero => exact absurd HA.out (by simp [poly_Mul.l0])
  | succ k1 =>
   have H := HA.out
   clear HA
   simp only [poly_Mul.l0] at H
   by_cases c3 : x7_1 < 64
   rotate_left
   ·rw [if_neg c3] at H
    have c3b0 : decide (x7_1 < 64) = false := decide_eq_false c3
    clear c3
    simp only [Option.some.injEq,Prod.mk.injEq] at H
    obtain ⟨rfl,rfl⟩ := H
    go_wp2
    go_ret2
    exact ⟨by first | rfl | (simp; done) | (simp [*]; done) | (simp [wrap64]; done),by repeat (first | exact Drawn0.refl _ | apply Drawn0.step)⟩


   rw [if_pos c3] at H
   have c3b0 : decide (x7_1 < 64) = true := decide_eq_true c3
   clear c3
   by_cases c4 : 0 ≤ x7_1
   rotate_left
   ·rw [if_neg c4] at H
    exact absurd H (by simp)
   rw [if_pos c4] at H
   have c4b0 := eq_true c4
   have c4b1 : decide (0 ≤ x7_1) = true := decide_eq_true c4
   clear c4
   obtain ⟨ji5,hji5⟩ : ∃ j_ : Int,(shr .u64 a0 x7_1) = j_ := ⟨_,rfl⟩
   first | rw [hji5] at H | simp only [hji5] at H
   have hji5_ : (a0 / 2 ^ min x7_1.toNat 64) = ji5 := hji5
   have hji5z : x7_1 ≤ 64 → (a0 / 2 ^ x7_1.toNat) = ji5 := shr_small hji5
   by_cases c6 : (Go.bits .and .u64 (ji5) 1) = 0
   ·rw [if_pos c6] at H
    have c6b0 : ((Go.bits .and .u64 (ji5) 1) == 0) = true := beq_iff_eq.mpr c6
    have c6b1 : ((Go.bits .and .u64 (ji5) 1) != 0) = false := bne_eq_false_iff_eq.mpr c6
    clear c6
    have H' := Aside0.mk H
    clear H
    go_wp2
    go_roundg k1
    case measure => have := HK1.out; omega
    case rel => exact ⟨(x4_1),(x5_1),(wrap64 (x7_1 + 1)),(by first | rfl | (simp; done) | (simp [*]; done) | (simp [wrap64]; done)),(by first | rfl | (simp; done) | (simp [*]; done) | (simp [wrap64]; done)),(by first | rfl | (simp; done) | (simp [*]; done) | (simp [wrap64]; done)),H',⟨by have := HK1.out; omega⟩,by repeat (first | exact Drawn0.refl _ | apply Drawn0.step)⟩
   ·rw [if_neg c6] at H
    have c6b0 : ((Go.bits .and .u64 (ji5) 1) == 0) = false := beq_eq_false_iff_ne.mpr c6
    have c6b1 : ((Go.bits .and .u64 (ji5) 1) != 0) = true := bne_iff_ne.mpr c6
    have c7b0 := eq_true (oD : 0 ≤ x7_1)
    obtain ⟨ji8,hji8⟩ : ∃ j_ : Int,(shl .u64 a1 x7_1) = j_ := ⟨_,rfl⟩
    first | rw [hji8] at H | simp only [hji8] at H
    have hji8_ : (IntKind.u64.wrap (a1 * 2 ^ min x7_1.toNat 64)) = ji8 := hji8
    have hji8z : x7_1 ≤ 64 → (IntKind.u64.wrap (a1 * 2 ^ x7_1.toNat)) = ji8 := shl_small hji8
    obtain ⟨ji9,hji9⟩ : ∃ j_ : Int,(wrap64 (64 - x7_1)) = j_ := ⟨_,rfl⟩
    first | rw [hji9] at H | simp only [hji9] at H
    have hji9w : (IntKind.i64.wrap (64 - x7_1)) = ji9 := (i64_w _).trans hji9
    by_cases c10 : 0 ≤ (ji9)
    rotate_left
    ·rw [if_neg c10] at H
     exact absurd H (by simp)
    rw [if_pos c10] at H
    have c10b0 := eq_true c10
    have c10b1 : decide (0 ≤ (ji9)) = true := decide_eq_true c10
    clear c10
    obtain ⟨ji11,hji11⟩ : ∃ j_ : Int,(shr .u64 a1 (ji9)) = j_ := ⟨_,rfl⟩
    first | rw [hji11] at H | simp only [hji11] at H
    have hji11_ : (a1 / 2 ^ min (ji9).toNat 64) = ji11 := hji11
    have hji11z : (ji9) ≤ 64 → (a1 / 2 ^ (ji9).toNat) = ji11 := shr_small hji11
    have H' := Aside0.mk H
    clear H
    go_wp2
    go_roundg k1
    case measure => have := HK1.out; omega
    case rel => exact ⟨(Go.bits .xor .u64 x4_1 (ji11)),(Go.bits .xor .u64 x5_1 (ji8)),(wrap64 (x7_1 + 1)),(by first | rfl | (simp; done) | (simp only [← hji11] <;> (first | rfl | simp)) | (simp [*]; done) | (simp [wrap64]; done)),(by first | rfl | (simp; done) | (simp only [← hji8] <;> (first | rfl | simp)) | (simp [*]; done) | (simp [wrap64]; done)),(by first | rfl | (simp; done) | (simp [*]; done) | (simp [wrap64]; done)),H',⟨by have := HK1.out; omega⟩,by repeat (first | exact Drawn0.refl _ | apply Drawn0.step)⟩
def poly_MulMod.f (k : Nat) (a0 : Int) (a1 : Int) (a2 : Int) : Option (Int × Int) := if a2 = 0 then (some (0,20)) else ((poly_Mul.f k a0 a1).bind fun bt156 => ((poly_long.f k bt156.1 bt156.2 a2).bind fun bt158 => (some (bt158.2,0))))
theorem poly_MulMod.mono : ∀ a0 a1 a2 k,LeO (poly_MulMod.f k a0 a1 a2) (poly_MulMod.f (k + 1) a0 a1 a2) := by
 intro a0 a1 a2 k
 unfold poly_MulMod.f
 repeat' with_reducible first
   | exact poly_Mul.mono _ _ _
   | exact poly_long.mono _ _ _ _
   | exact LeO.refl _
   | exact LeO.none _
   | refine LeO.ite ?_ ?_
   | refine LeO.bind ?_ (fun _ => ?_)
set_option maxHeartbeats 8000000 in
set_option maxRecDepth 100000 in
theorem poly_MulMod.calls (k : Nat) (a0 : Int) (a1 : Int) (a2 : Int) (r1 : Int) (r2 : Int) (w : World) (h : poly_MulMod.f k a0 a1 a2 = some (r1,r2)) :
  Calls Try.prog 86 #[.int .u64 a0,.int .u64 a1,.int .u64 a2] w fun e w' => e = .returned (.tuple #[.int .u64 r1,.int .i64 r2]) ∧ Drawn0 w w' := by
 have H : (if a2 = 0 then (some (0,20)) else ((poly_Mul.f k a0 a1).bind fun bt156 => ((poly_long.f k bt156.1 bt156.2 a2).bind fun bt158 => (some (bt158.2,0))))) = some (r1,r2) := h
 clear h
 by_cases c4 : a2 = 0
 ·rw [if_pos c4] at H
  have c4b0 : (a2 == 0) = true := beq_iff_eq.mpr c4
  have c4b1 : (a2 != 0) = false := bne_eq_false_iff_eq.mpr c4
  clear c4
  simp only [Option.some.injEq,Prod.mk.injEq] at H
  obtain ⟨rfl,rfl⟩ := H
  go_enter Try.func86,Try.ntmps86
  go_wp2
  go_ret2
  exact ⟨by first | rfl | (simp; done) | (simp [*]; done) | (simp [wrap64]; done),by repeat (first | exact Drawn0.refl _ | apply Drawn0.step)⟩
 ·rw [if_neg c4] at H
  have c4b0 : (a2 == 0) = false := beq_eq_false_iff_ne.mpr c4
  have c4b1 : (a2 != 0) = true := bne_iff_ne.mpr c4
  replace H := Option.bind_eq_some_iff.mp H
  obtain ⟨⟨t156,t157⟩,A50,H⟩ := H
  try dsimp only at H
  have A5 := Aside0.mk A50
  clear A50
  replace H := Option.bind_eq_some_iff.mp H
  obtain ⟨⟨t158,t159⟩,A60,H⟩ := H
  replace H : (some (t159,0)) = some (r1,r2) := H
  have A6 := Aside0.mk A60
  clear A60
  simp only [Option.some.injEq,Prod.mk.injEq] at H
  obtain ⟨rfl,rfl⟩ := H
  go_enter Try.func86,Try.ntmps86
  go_wp2_with (first | (go_at_call 89; (with_reducible refine (poly_Mul.calls k a0 a1 t156 t157 _ A5.out).mono ?_); rintro e w' ⟨rfl,⟨nd,rfl⟩⟩) | (go_at_call 88; (with_reducible refine (poly_long.calls k t156 t157 a2 t158 t159 _ A6.out).mono ?_); rintro e w' ⟨rfl,⟨nd,rfl⟩⟩))
  go_ret2
  exact ⟨by first | rfl | (simp; done) | (simp [*]; done) | (simp [wrap64]; done),by repeat (first | exact Drawn0.refl _ | apply Drawn0.step)⟩

def poly_Gcd.l0 : Nat → Int → Int → Option (Int)
 | 0,_,_ => none
 | k + 1,x0,x1 => if x1 = 0 then (some x0) else ((poly_rest.f k x0 x1).bind fun t160 => (poly_Gcd.l0 k x1 t160))
def poly_Gcd.f (k : Nat) (a0 : Int) (a1 : Int) : Option (Int) := poly_Gcd.l0 k a0 a1
theorem poly_Gcd.mono_l : ∀ k,(∀ y0 y1,LeO (poly_Gcd.l0 k y0 y1) (poly_Gcd.l0 (k + 1) y0 y1))
 | 0 => fun _ _ r h => by simp [poly_Gcd.l0] at h
 | k + 1 => by
  have ih0 := poly_Gcd.mono_l k
  ·intro y0 y1
   unfold poly_Gcd.l0
   repeat' with_reducible first
   | exact ih0 _ _
   | exact poly_rest.mono _ _ _
   | exact LeO.refl _
   | exact LeO.none _
   | refine LeO.ite ?_ ?_
   | refine LeO.bind ?_ (fun _ => ?_)
theorem poly_Gcd.mono : ∀ a0 a1 k,LeO (poly_Gcd.f k a0 a1) (poly_Gcd.f (k + 1) a0 a1) := by
 intro a0 a1 k
 have ih0 := poly_Gcd.mono_l k
 unfold poly_Gcd.f
 repeat' with_reducible first
   | exact ih0 _ _
   | exact poly_rest.mono _ _ _
   | exact LeO.refl _
   | exact LeO.none _
   | refine LeO.ite ?_ ?_
   | refine LeO.bind ?_ (fun _ => ?_)
set_option maxHeartbeats 8000000 in
set_option maxRecDepth 100000 in
theorem poly_Gcd.calls (k : Nat) (a0 : Int) (a1 : Int) (r : Int) (w : World) (h : poly_Gcd.f k a0 a1 = some r) :
  Calls Try.prog 87 #[.int .u64 a0,.int .u64 a1] w fun e w' => e = .returned (.int .u64 r) ∧ Drawn0 w w' := by
 have H : (poly_Gcd.l0 k a0 a1) = some r := h
 clear h
 have H' := Aside0.mk H
 clear H
 go_enter Try.func87,Try.ntmps87
 go_wp2
 go_loopg [0,1] k (fun kq v0 v1 w' => ∃ (x0_1 : Int) (x1_1 : Int),v0 = .int .u64 x0_1 ∧ v1 = .int .u64 x1_1 ∧ Aside0 (poly_Gcd.l0 kq x0_1 x1_1 = some r) ∧ Aside0 (kq ≤ k) ∧ Drawn0 w w')
 case atStart => exact ⟨(a0),(a1),(by first | rfl | (simp; done) | (simp [*]; done) | (simp [wrap64]; done)),(by first | rfl | (simp; done) | (simp [*]; done) | (simp [wrap64]; done)),H',⟨Nat.le_refl _⟩,by repeat (first | exact Drawn0.refl _ | apply Drawn0.step)⟩
 case round =>
  clear H'
  try clear p2
  obtain ⟨x0_1,x1_1,rfl,rfl,HA,HK1,⟨m1,rfl⟩⟩ := hrel
  cases gk with
  | zero => exact absurd HA.out (by simp [poly_Gcd.l0])
  | succ k1 =>
   have H := HA.out
   clear HA
   simp only [poly_Gcd.l0] at H
   by_cases c3 : x1_1 = 0
   ·rw [if_pos c3] at H
    have c3b0 : (x1_1 == 0) = true := beq_iff_eq.mpr c3
    have c3b1 : (x1_1 != 0) = false := bne_eq_false_iff_eq.mpr c3
    clear c3
    obtain rfl := Option.some.inj H
    go_wp2
    go_ret
    exact ⟨by first | rfl | (simp; done) | (simp [*]; done) | (simp [wrap64]; done),by repeat (first | exact Drawn0.refl _ | apply Drawn0.step)⟩
   ·rw [if_neg c3] at H
    have c3b0 : (x1_1 == 0) = false := beq_eq_false_iff_ne.mpr c3
    have c3b1 : (x1_1 != 0) = true := bne_iff_ne.mpr c3
    replace H := Option.bind_eq_some_iff.mp H
    obtain ⟨t160,A40,H⟩ := H
    replace H : (poly_Gcd.l0 k1 x1_1 t160) = some r := H
    have A4 := Aside0.mk A40
    clear A40
    have H' := Aside0.mk H
    clear H
    go_wp2_with (first | (go_at_call 85; (with_reducible refine (poly_rest.calls k1 x0_1 x1_1 t160 _ A4.out).mono ?_); rintro e w' ⟨rfl,⟨nd,rfl⟩⟩))
    go_roundg k1
    case measure => have := HK1.out; omega
    case rel => exact ⟨(x1_1),(t160),(by first | rfl | (simp; done) | (simp [*]; done) | (simp [wrap64]; done)),(by first | rfl | (simp; done) | (simp [*]; done) | (simp [wrap64]; done)),H',⟨by have := HK1.out; omega⟩,by repeat (first | exact Drawn0.refl _ | apply Drawn0.step)⟩

end Go.Proofs.Ytpgecdidddoglaa.P

