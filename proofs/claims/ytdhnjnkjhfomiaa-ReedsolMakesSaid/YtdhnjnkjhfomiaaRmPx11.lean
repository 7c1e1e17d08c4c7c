-- written by mk.sh, a program of this session, over the kit's print
import Derived.Test.YtdhnjnkjhfomiaaRmPx0
import Derived.Test.YtdhnjnkjhfomiaaRmPx10
namespace Go.Proofs.Ytdhnjnkjhfomiaa.P
open Go.RowKit Go.Proofs.YtdhnjnkjhfomiaaW.PrintWords Go.Proofs.YtdhnjnkjhfomiaaW.PrintLast Go.Proofs.YtdhnjnkjhfomiaaW.PrintMore
attribute [local go_sem] max2_int min2_int max_two min_two max_three min_three max_four min_four   -- for this text's walks alone
set_option linter.unusedVariables false
set_option linter.unusedSimpArgs false

def l4_num.f (a0 : Int) : Option (Int) := some a0
set_option maxHeartbeats 8000000 in
set_option maxRecDepth 100000 in
theorem l4_num.calls (a0 : Int) (r : Int) (w : World) (h : l4_num.f a0 = some r) :
  Calls Try.prog 14 #[.int .i64 a0] w fun e w' => e = .returned (.int .i64 r) ∧ Drawn0 w w' := by
 have H : (some a0) = some r := h
 clear h
 obtain rfl := Option.some.inj H
 go_enter Try.func14,Try.ntmps14
 go_wp2
 go_ret
 exact ⟨by first | rfl | (simp; done) | (simp [*]; done) | (simp [wrap64]; done),by repeat (first | exact Drawn0.refl _ | apply Drawn0.step)⟩

def l1_Stays.f (l0 l1 : List Int) : Option Bool := if l0 = l1 then some true else none
set_option maxHeartbeats 8000000 in
set_option maxRecDepth 100000 in
theorem l1_Stays.calls (A0 : Option Addr) (c0 : Nat) (l0 : List Int) (A1 : Option Addr) (c1 : Nat) (l1 : List Int) (r : Bool) (w : World) (hl0 : ∃ base ok,Kd.L (Kd.int .u8) 5 w base ok (.slice A0 l0.length c0) l0) (hc0 : l0.length ≤ c0) (hr1 : Kd.C (Kd.int .u8) w A1 l1.length l1) (hc1 : l1.length ≤ c1) (h : l1_Stays.f l0 l1 = some r) :
  Calls Try.prog 15 #[.slice A0 l0.length c0,.slice A1 l1.length c1] w fun e w' => e = .returned (.bool r) ∧ Drawn0 w w' := by
 unfold l1_Stays.f at h
 by_cases e : l0 = l1
 rotate_left
 ·rw [if_neg e] at h
  exact absurd h (by simp)

 rw [if_pos e] at h
 obtain rfl := Option.some.inj h
 subst e
 clear h
 obtain ⟨base,ok,g,cap,hv,hR⟩ := hl0
 obtain ⟨hA,hcc⟩ : A0 = some ⟨g,0,none⟩ ∧ c0 = cap := by
  injection hv with h1 _ h3
  exact ⟨h1,h3⟩
 subst hA hcc
 have HF := aK (Kd.R_reads' hR).2.2
 have hm := Kd.C_max HF.out
 have hcap : (l0 ++ Kd.marks).length ≤ c0 := (Kd.R_reads' hR).2.1
 have hlen : (l0 ++ Kd.marks).length = l0.length + 8 := by simp [Kd.marks]
 rw [hlen] at hm hcap
 have HCELL := aK (fun (j : Nat) (hj : j < 8) => by
  obtain ⟨ad,he,hx⟩ := Kd.at_int HF.out ((l0.length + j : Nat) : Int) (by omega) (by rw [hlen]; omega)
  cases he
  rw [Int.toNat_natCast,add_plain] at hx
  have hv : rd (l0 ++ Kd.marks) ((l0.length + j : Nat) : Int) = 200 + (j : Int) := by
   unfold rd
   rw [Int.toNat_natCast,List.getD_eq_getElem?_getD,List.getElem?_append_right (by omega),Nat.add_sub_cancel_left]
   match j,hj with
   | 0,_ => rfl
   | 1,_ => rfl
   | 2,_ => rfl
   | 3,_ => rfl
   | 4,_ => rfl
   | 5,_ => rfl
   | 6,_ => rfl
   | 7,_ => rfl
  rw [hv] at hx
  exact hx)
 have HR1 := Aside0.mk hr1
 have HR0 := aK (Kd.R_reads' (Kd.L_R ⟨g,c0,rfl,hR⟩)).2.2
 clear hR hv hlen HF hr1 hc1
 obtain ⟨i06,hi06,_,hsz6,_⟩ := info_parts info5
 have hel : Try.prog.elem 27 = 5 := by simp [Program.elem,Try.underlying27]
 have hcutA : ∀ (n j : Nat) (W : World),j ≤ c0 → (Instr.slice 27 (.slice (some ⟨g,0,none⟩) n c0) none (some (.int .i64 (j : Int))) none).run Try.prog W = .ok (.slice (some ⟨g,0,none⟩) j c0) W := by
  intro n j W hj
  have hu : Try.prog.underlying 27 = some (.slice (Try.prog.elem 27)) := by rw [hel]; exact Try.underlying27
  rw [run_slice_h W _ _ _ _ hu .i64 (j : Int) (by omega) (by omega),hel]
  simp [sizeOf,typeInfo,hi06,sliced,Result.andThen,Addr.add]
 have HC0 := Aside0.mk hc0
 have hl8 : l0.length + 8 ≤ 9223372036854775807 := hm
 have hcut1 := fun W => hcutA l0.length (l0.length + 8) W hcap
 have hcut2 := fun W => hcutA (l0.length + 8) l0.length W hc0
 have e8 : ((l0.length + 8 : Nat) : Int) = (l0.length : Int) + 8 := by omega
 rw [e8] at hcut1
 clear hcutA hel hi06 hsz6 hm hcap hc0 e8
 go_enter Try.func15,Try.ntmps15
 go_wp2
 go_loopg [6] (8 : Nat) (fun kq v6 w' => ∃ (j : Nat),v6 = .int .i64 (j : Int) ∧ Aside0 (j + kq = 8) ∧ Drawn0 w w')
 case atStart => exact ⟨0,rfl,⟨rfl⟩,Drawn0.refl _⟩
 case round =>
  obtain ⟨j,rfl,HJ,⟨m1,rfl⟩⟩ := hrel
  cases gk with
  | zero =>
   have hj8 : decide ((j : Int) < 8) = false := decide_eq_false (by have := HJ.out; omega)
   have hcv15 := fun n => Kd.C_string (P := Try.prog) (A := some ⟨g,0,none⟩) (c := c0) Try.underlying27 Try.underlying5 Try.underlying9 (Kd.C_drewN HR0.out n)
   have hcv16 := fun n => Kd.C_string (P := Try.prog) (A := A1) (c := c1) Try.underlying27 Try.underlying5 Try.underlying9 (Kd.C_drewN HR1.out n)
   go_wp2
   go_quiet (fail)
   go_wp2
   go_ret
   exact ⟨by first | rfl | (simp; done),by repeat (first | exact Drawn0.refl _ | apply Drawn0.step)⟩
  | succ k1 =>
   have hj8 : decide ((j : Int) < 8) = true := decide_eq_true (by have := HJ.out; omega)
   have hjb : j ≤ 7 := by have := HJ.out; omega
   have hc := HCELL.out j (by omega)
   go_wp2
   go_roundg k1
   case measure => omega
   case rel => exact ⟨j + 1,by go_num,⟨by have := HJ.out; omega⟩,Drawn0.step ⟨⟨m1,rfl⟩⟩ 0⟩
end Go.Proofs.Ytdhnjnkjhfomiaa.P

