-- written by mk.sh, a program of this session, over the kit's print
import Derived.Test.YtjdkamhnbheofaaGtPx0
import Derived.Test.YtjdkamhnbheofaaGtPx1
import Derived.Test.YtjdkamhnbheofaaGtPx2
import Derived.Test.YtjdkamhnbheofaaGtPx5
import Derived.Test.YtjdkamhnbheofaaGtPx7
import Derived.Test.YtjdkamhnbheofaaGtPx9
import Derived.Test.YtjdkamhnbheofaaGtPx14
import Derived.Test.YtjdkamhnbheofaaGtQApart3
namespace Go.Proofs.Ytjdkamhnbheofaa.P
open Go.RowKit Go.Proofs.YtjdkamhnbheofaaW.PrintWords Go.Proofs.YtjdkamhnbheofaaW.PrintLast Go.Proofs.YtjdkamhnbheofaaW.PrintMore
attribute [local go_sem] max2_int min2_int max_two min_two max_three min_three max_four min_four   -- for this text's walks alone
set_option linter.unusedVariables false
set_option linter.unusedSimpArgs false

/-! ### outpostlaw01_Stays: function 14, given -/
def outpostlaw01_Stays.f (l0 l1 : List Int) : Option Bool := if l0 = l1 then some true else none
set_option maxHeartbeats 8000000 in
set_option maxRecDepth 100000 in
theorem outpostlaw01_Stays.calls (A0 : Option Addr) (c0 : Nat) (l0 : List Int) (A1 : Option Addr) (c1 : Nat) (l1 : List Int) (r : Bool) (w : World) (hl0 : ∃ base ok, Kd.L (Kd.int .u8) 5 w base ok (.slice A0 l0.length c0) l0) (hc0 : l0.length ≤ c0) (hr1 : Kd.C (Kd.int .u8) w A1 l1.length l1) (hc1 : l1.length ≤ c1) (h : outpostlaw01_Stays.f l0 l1 = some r) :
  Calls Try.prog 14 #[.slice A0 l0.length c0, .slice A1 l1.length c1] w fun e w' => e = .returned (.bool r) ∧ Drawn0 w w' := by
 unfold outpostlaw01_Stays.f at h
 by_cases e : l0 = l1
 ·rw [if_pos e] at h
  obtain rfl := Option.some.inj h
  subst e
  clear h
  obtain ⟨base, ok, g, cap, hv, hR⟩ := hl0
  obtain ⟨hA, hcc⟩ : A0 = some ⟨g, 0, none⟩ ∧ c0 = cap := by
   injection hv with h1 _ h3
   exact ⟨h1, h3⟩
  subst hA hcc
  have HF := aK (Kd.R_reads' hR).2.2
  have hm := Kd.C_max HF.out
  have hcap : (l0 ++ Kd.marks).length ≤ c0 := (Kd.R_reads' hR).2.1
  have hlen : (l0 ++ Kd.marks).length = l0.length + 8 := by simp [Kd.marks]
  rw [hlen] at hm hcap
  have HCELL := aK (fun (j : Nat) (hj : j < 8) => by
   obtain ⟨ad, he, hx⟩ := Kd.at_int HF.out ((l0.length + j : Nat) : Int) (by omega) (by rw [hlen]; omega)
   cases he
   rw [Int.toNat_natCast, add_plain] at hx
   have hv : rd (l0 ++ Kd.marks) ((l0.length + j : Nat) : Int) = 200 + (j : Int) := by
    unfold rd
    rw [Int.toNat_natCast, List.getD_eq_getElem?_getD, List.getElem?_append_right (by omega), Nat.add_sub_cancel_left]
    match j, hj with
    | 0, _ => rfl
    | 1, _ => rfl
    | 2, _ => rfl
    | 3, _ => rfl
    | 4, _ => rfl
    | 5, _ => rfl
    | 6, _ => rfl
    | 7, _ => rfl
   rw [hv] at hx
   exact hx)
  have HR1 := Aside0.mk hr1
  have HR0 := aK (Kd.R_reads' (Kd.L_R ⟨g, c0, rfl, hR⟩)).2.2
  clear hR hv hlen HF hr1 hc1
  obtain ⟨i06, hi06, _, hsz6, _⟩ := info_parts info5
  have hel : Try.prog.elem 25 = 5 := by simp [Program.elem, Try.underlying25]
  have hcutA : ∀ (n j : Nat) (W : World), j ≤ c0 → (Instr.slice 25 (.slice (some ⟨g, 0, none⟩) n c0) none (some (.int .i64 (j : Int))) none).run Try.prog W = .ok (.slice (some ⟨g, 0, none⟩) j c0) W := by
   intro n j W hj
   have hu : Try.prog.underlying 25 = some (.slice (Try.prog.elem 25)) := by rw [hel]; exact Try.underlying25
   rw [run_slice_h W _ _ _ _ hu .i64 (j : Int) (by omega) (by omega), hel]
   simp [sizeOf, typeInfo, hi06, sliced, Result.andThen, Addr.add]
  have HC0 := Aside0.mk hc0
  have hl8 : l0.length + 8 ≤ 9223372036854775807 := hm
  have hcut1 := fun W => hcutA l0.length (l0.length + 8) W hcap
  have hcut2 := fun W => hcutA (l0.length + 8) l0.length W hc0
  have e8 : ((l0.length + 8 : Nat) : Int) = (l0.length : Int) + 8 := by omega
  rw [e8] at hcut1
  clear hcutA hel hi06 hsz6 hm hcap hc0 e8
  go_enter Try.func14, Try.ntmps14
  go_wp2
  go_loopg [6] (8 : Nat) (fun kq v6 w' => ∃ (j : Nat), v6 = .int .i64 (j : Int) ∧ Aside0 (j + kq = 8) ∧ Drawn0 w w')
  case atStart => exact ⟨0, rfl, ⟨rfl⟩, Drawn0.refl _⟩
  case round =>
   obtain ⟨j, rfl, HJ, ⟨m1, rfl⟩⟩ := hrel
   cases gk with
   | zero =>
    have hj8 : decide ((j : Int) < 8) = false := decide_eq_false (by have := HJ.out; omega)
    have hcv15 := fun n => Kd.C_string (P := Try.prog) (A := some ⟨g, 0, none⟩) (c := c0) Try.underlying25 Try.underlying5 Try.underlying9 (Kd.C_drewN HR0.out n)
    have hcv16 := fun n => Kd.C_string (P := Try.prog) (A := A1) (c := c1) Try.underlying25 Try.underlying5 Try.underlying9 (Kd.C_drewN HR1.out n)
    go_wp2
    go_quiet (fail)
    go_wp2
    go_ret
    exact ⟨by first | rfl | (simp; done), by repeat (first | exact Drawn0.refl _ | apply Drawn0.step)⟩
   | succ k1 =>
    have hj8 : decide ((j : Int) < 8) = true := decide_eq_true (by have := HJ.out; omega)
    have hjb : j ≤ 7 := by have := HJ.out; omega
    have hc := HCELL.out j (by omega)
    go_wp2
    go_roundg k1
    case measure => omega
    case rel => exact ⟨j + 1, by go_num, ⟨by have := HJ.out; omega⟩, Drawn0.step ⟨⟨m1, rfl⟩⟩ 0⟩
 ·rw [if_neg e] at h
  exact absurd h (by simp)

/-! ### outpostlaw01_mark: function 51 -/
def outpostlaw01_mark.f (a0 : Int) (a1 : Int) : Option (Int) := some ((wrap64 ((wrap64 ((wrap64 (31 * a0)) + (wrap64 (7 * a1)))) + 1)) % 256)
set_option maxHeartbeats 8000000 in
set_option maxRecDepth 100000 in
theorem outpostlaw01_mark.calls (a0 : Int) (a1 : Int) (r : Int) (w : World) (h : outpostlaw01_mark.f a0 a1 = some r) :
  Calls Try.prog 51 #[.int .i64 a0, .int .i64 a1] w fun e w' => e = .returned (.int .u8 r) ∧ Drawn0 w w' := by
 have H : (some ((wrap64 ((wrap64 ((wrap64 (31 * a0)) + (wrap64 (7 * a1)))) + 1)) % 256)) = some r := h
 clear h
 obtain rfl := Option.some.inj H
 go_enter Try.func51, Try.ntmps51
 go_wp2
 go_ret
 exact ⟨by first | rfl | (simp; done) | (simp [*]; done) | (simp [wrap64]; done), by repeat (first | exact Drawn0.refl _ | apply Drawn0.step)⟩

/-! ### outpostlaw01_ApartBytes: function 15, given -/
def outpostlaw01_ApartBytes.f (l0 : List (List Int)) : Option Bool := if ∀ x ∈ l0, x.length ≤ 140737488355000 then some true else none
theorem outpostlaw01_ApartBytes.says {l0 : List (List Int)} {r : Bool} (h : outpostlaw01_ApartBytes.f l0 = some r) : r = true ∧ ∀ x ∈ l0, x.length ≤ 140737488355000 := by
 unfold outpostlaw01_ApartBytes.f at h
 split at h
 ·next hx => exact ⟨(Option.some.inj h).symm, hx⟩
 ·simp at h
section
open Go.Proofs.YtjdkamhnbheofaaW
def ap_mk (i j : Nat) : Int := (wrap64 ((wrap64 ((wrap64 (31 * (i : Int))) + (wrap64 (7 * (j : Int))))) + 1)) % 256
theorem ap_mk_f (i j : Nat) : outpostlaw01_mark.f (i : Int) (j : Int) = some (ap_mk i j) := rfl
def ap_mrk (X : Nat → List Int) (i j : Nat) : Prop := ∀ r x, x < (X r).length → (r < i ∨ (r = i ∧ x < j)) → (X r).getD x 0 = ap_mk r x
theorem ap_mrk_put {X : Nat → List Int} {i j : Nat} (h : ap_mrk X i j) (hj : j < (X i).length) : ap_mrk (Ap.put X i j (ap_mk i j)) i (j + 1) := by
 intro r x hx hr
 rw [Ap.put_length] at hx
 unfold Ap.put
 by_cases e : r = i
 ·subst e
  rw [if_pos rfl]
  by_cases e2 : j = x
  ·subst e2
   rw [List.getD_eq_getElem?_getD, List.getElem?_set_self hj, Option.getD_some]
  ·rw [List.getD_eq_getElem?_getD, List.getElem?_set_ne e2, ← List.getD_eq_getElem?_getD]
   exact h r x hx (by omega)
 ·rw [if_neg e]
  exact h r x hx (by omega)
theorem ap_mrk_next {X : Nat → List Int} {i j : Nat} (h : ap_mrk X i j) (hj : (X i).length ≤ j) : ap_mrk X (i + 1) 0 := by
 intro r x hx hr
 by_cases e : r = i
 ·subst e
  exact h r x hx (by omega)
 ·exact h r x hx (by omega)
theorem ap_w64s (i : Nat) (h : i ≤ 4611686018427387904) : wrap64 ((i : Int) + 1) = ((i + 1 : Nat) : Int) := by
 unfold wrap64
 omega
@[reducible] def ap_S (go i g j : Nat) (v y : Value) (w' : World) : Prop := w'.cell? ⟨go, i, none⟩ = some v ∧ w'.cell? ⟨g, j, none⟩ = some y ∧ True
theorem ap_at {w : World} {B e go : Nat} {V : List Value} {X : Nat → List Int} (h : Ap.St w B e go 0 V X) {i n cv : Nat} {Av : Option Addr} (hv : V[i]? = some (.slice Av n cv)) (hn : (X i).length = n) {j : Nat} (hj : j < n) : ∃ g, Av = some ⟨g, 0, none⟩ ∧ B ≤ g := by
 rcases h.form hv with ⟨h1, h2⟩ | ⟨g, c, h1, h2, _⟩
 ·omega
 ·injection h1 with h1 _ _
  exact ⟨g, h1, h2⟩
set_option maxHeartbeats 8000000 in
set_option maxRecDepth 100000 in
theorem outpostlaw01_ApartBytes.calls (w : World) (B go c : Nat) (V : List Value) (X : Nat → List Int) (h : Ap.St w B 5 go 0 V X) (hgo : go < w.heap.size) (hB : B ≤ w.heap.size) (hV : V.length ≤ 4611686018427387000) (hX : ∀ i, (X i).length ≤ 140737488355000) :
  Calls Try.prog 15 #[.slice (some ⟨go, 0, none⟩) V.length c] w fun e w' => e = .returned (.bool true) ∧ Below B w w' := by
 have HS := Aside0.mk h
 have HGO := Aside0.mk hgo
 have HB := aK (Below.refl B w)
 have HX := Aside0.mk hX
 have HVL := Aside0.mk hV
 have HBW := Aside0.mk hB
 clear h hgo hX hB hV
 go_enter Try.func15, Try.ntmps15
 go_wp2
 go_loopg [3] V.length (fun kq v3 w' => ∃ (i : Nat) (X' : Nat → List Int), v3 = .int .i64 (i : Int) ∧ Aside0 (i + kq = V.length) ∧ Aside0 (Ap.St w' B 5 go 0 V X') ∧ Aside0 (∀ r, (X' r).length = (X r).length) ∧ Aside0 (ap_mrk X' i 0) ∧ Aside0 (Below B w w') ∧ Aside0 (go < w'.heap.size))
 case atStart => exact ⟨0, X, rfl, ⟨by omega⟩, HS, ⟨fun _ => rfl⟩, ⟨fun r x _ hr => by omega⟩, HB, HGO⟩
 case round =>
  clear HS HB HGO
  obtain ⟨i, X', rfl, HI, HS, HXL, HM, HB, HGO⟩ := hrel
  cases gk with
  | zero =>
   have hif : decide (i < V.length) = false := decide_eq_false (by have := HI.out; omega)
   have HM1 : Aside0 (ap_mrk X' V.length 0) := ⟨by have := HI.out; rw [← this]; exact HM.out⟩
   clear HM
   go_wp2
   go_loopg [5] V.length (fun kq v5 w' => ∃ (i : Nat), v5 = .int .i64 (i : Int) ∧ Aside0 (i + kq = V.length) ∧ Aside0 (Ap.St w' B 5 go 0 V X') ∧ Aside0 (Below B w w') ∧ Aside0 (go < w'.heap.size))
   case atStart => exact ⟨0, rfl, ⟨by omega⟩, HS, HB, HGO⟩
   case round =>
    clear HS HB HGO HI
    obtain ⟨i, rfl, HI, HS, HB, HGO⟩ := hrel
    cases gk with
    | zero =>
     have hif : decide (i < V.length) = false := decide_eq_false (by have := HI.out; omega)
     go_wp2
     go_loopg [8] V.length (fun kq v8 w' => ∃ (i : Nat), v8 = .int .i64 (i : Int) ∧ Aside0 (i + kq = V.length) ∧ Aside0 (Ap.St w' B 5 go 0 V X') ∧ Aside0 (Below B w w'))
     case atStart => exact ⟨0, rfl, ⟨by omega⟩, HS, HB⟩
     case round =>
      clear HS HB HGO HI
      obtain ⟨i, rfl, HI, HS, HB⟩ := hrel
      cases gk with
      | zero =>
       have hif : decide (i < V.length) = false := decide_eq_false (by have := HI.out; omega)
       go_wp2
       go_ret
       exact ⟨rfl, HB.out⟩
      | succ k1 =>
       have hin : i < V.length := by have := HI.out; omega
       have hit : decide (i < V.length) = true := decide_eq_true hin
       have ti : (i < V.length) = True := eq_true hin
       obtain ⟨v, hv⟩ : ∃ v, V[i]? = some v := ⟨_, List.getElem?_eq_getElem hin⟩
       obtain ⟨Av, cv, hvf⟩ : ∃ Av cv, v = .slice Av (X' i).length cv := by
        rcases HS.out.form hv with ⟨h1, h2⟩ | ⟨g, c', h1, _, _⟩
        ·exact ⟨none, 0, by rw [h2]; exact h1⟩
        ·exact ⟨_, _, h1⟩
       obtain ⟨n, hn⟩ : ∃ n, (X' i).length = n := ⟨_, rfl⟩
       rw [hn] at hvf
       subst hvf
       have HV := Aside0.mk hv
       have HN := Aside0.mk hn
       have HIN := Aside0.mk hin
       clear hv hn hin
       have hco0 : wr.cell? ⟨go, i, none⟩ = some (.slice Av n cv) := by have := HS.out.outer i _ HV.out; rwa [Nat.zero_add] at this
       clear hco0
       go_wp2
       go_loopg [9] n (fun kq v9 w' => ∃ (j : Nat), v9 = .int .i64 (j : Int) ∧ Aside0 (j + kq = n) ∧ Aside0 (Ap.St w' B 5 go 0 V X') ∧ Aside0 (Below B w w'))
       case atStart => exact ⟨0, rfl, ⟨by omega⟩, HS, HB⟩
       case round =>
        clear HS HB
        obtain ⟨j, rfl, HJ, HS, HB⟩ := hrel
        have hco : wr.cell? ⟨go, i, none⟩ = some (.slice Av n cv) := by have := HS.out.outer i _ HV.out; rwa [Nat.zero_add] at this
        cases gk with
        | zero =>
         have hjf : decide (j < n) = false := decide_eq_false (by have := HJ.out; omega)
         go_wp2
         go_roundg k1
         case measure => omega
         case rel => exact ⟨i + 1, congrArg (Value.int .i64) (ap_w64s i (by have := HIN.out; have := HVL.out; omega)), ⟨by have := HI.out; omega⟩, HS, HB⟩
        | succ k2 =>
         have hjn : j < n := by have := HJ.out; omega
         have hjt : decide (j < n) = true := decide_eq_true hjn
         have tj : (j < n) = True := eq_true hjn
         obtain ⟨g, hg, hgB⟩ := ap_at HS.out HV.out HN.out hjn
         subst hg
         have hVi : V[i]? = some (.slice (some ⟨g, 0, none⟩) (X' i).length cv) := by rw [HN.out]; exact HV.out
         obtain ⟨m, hm⟩ : ∃ m, m = ap_mk i j := ⟨_, rfl⟩
         have hcg : wr.cell? ⟨g, j, none⟩ = some (.int .u8 m) := by
          have h1 := HS.out.cell hVi (j := j) (by have := HN.out; omega)
          have h2 := HM1.out i j (by have := HN.out; omega) (.inl HIN.out)
          rw [h2, ← hm] at h1
          exact h1
         have HJN := Aside0.mk hjn
         have HMM := Aside0.mk hm
         clear hVi hgB hjn hm
         go_wp2
         refine start_ (n := 11) (S := ap_S go i g j (.slice (some ⟨g, 0, none⟩) n cv) (.int .u8 m)) (ds := []) #[false, false, false, false, false, false, false, false, false, false, false] (by kernel_rfl) rfl rfl ⟨hco, hcg, trivial⟩ (fun hHeld => ?_)
         refine pure_ (i := 0) (N := some 66) (v := ?_) (a' := ?_) #[true, false, false, false, false, false, false, false, false, false, false] rfl rfl (by kernel_rfl) (fun _ _ _ h => h) (Or.inl ⟨by rfl, ?_⟩) ?_ ?_
         rotate_left
         ·intro w'
          go_simp
          with_reducible rfl
         rotate_left
         ·simp only [Act.put, List.setIfInBounds_toArray, List.set_cons_zero, List.set_cons_succ, i64_w, i32_w]
          rfl
         refine pure_ (i := 1) (N := some 67) (v := ?_) (a' := ?_) #[true, true, false, false, false, false, false, false, false, false, false] rfl rfl (by kernel_rfl) (fun _ _ _ h => h) (Or.inl ⟨by rfl, ?_⟩) ?_ ?_
         rotate_left
         ·intro w'
          go_simp
          with_reducible rfl
         rotate_left
         ·simp only [Act.put, List.setIfInBounds_toArray, List.set_cons_zero, List.set_cons_succ, i64_w, i32_w]
          rfl
         refine pure_ (i := 2) (N := some 68) (v := ?_) (a' := ?_) #[true, true, true, false, false, false, false, false, false, false, false] rfl rfl (by kernel_rfl) (fun _ _ _ h => h) (Or.inl ⟨by rfl, ?_⟩) ?_ ?_
         rotate_left
         ·intro w'
          go_simp
          with_reducible rfl
         rotate_left
         ·simp only [Act.put, List.setIfInBounds_toArray, List.set_cons_zero, List.set_cons_succ, i64_w, i32_w]
          rfl
         refine take_ (i := 3) (N := some 69) (v := ?_) (a' := ?_) #[true, true, true, true, false, false, false, false, false, false, false] rfl rfl (by kernel_rfl) (fun _ _ _ h => h) (Or.inl ⟨by rfl, ?_⟩) hHeld ?_ ?_
         rotate_left
         ·rintro w' ⟨hq0, hq1, _⟩
          go_simp
          with_reducible rfl
         rotate_left
         ·simp only [Act.put, List.setIfInBounds_toArray, List.set_cons_zero, List.set_cons_succ, i64_w, i32_w]
          rfl
         refine pure_ (i := 4) (N := some 70) (v := ?_) (a' := ?_) #[true, true, true, true, true, false, false, false, false, false, false] rfl rfl (by kernel_rfl) (fun _ _ _ h => h) (Or.inl ⟨by rfl, ?_⟩) ?_ ?_
         rotate_left
         ·intro w'
          go_simp
          with_reducible rfl
         rotate_left
         ·simp only [Act.put, List.setIfInBounds_toArray, List.set_cons_zero, List.set_cons_succ, i64_w, i32_w]
          rfl
         refine pure_ (i := 5) (N := some 71) (v := ?_) (a' := ?_) #[true, true, true, true, true, true, false, false, false, false, false] rfl rfl (by kernel_rfl) (fun _ _ _ h => h) (Or.inl ⟨by rfl, ?_⟩) ?_ ?_
         rotate_left
         ·intro w'
          go_simp
          with_reducible rfl
         rotate_left
         ·simp only [Act.put, List.setIfInBounds_toArray, List.set_cons_zero, List.set_cons_succ, i64_w, i32_w]
          rfl
         refine take_ (i := 6) (N := some 72) (v := ?_) (a' := ?_) #[true, true, true, true, true, true, true, false, false, false, false] rfl rfl (by kernel_rfl) (fun _ _ _ h => h) (Or.inl ⟨by rfl, ?_⟩) hHeld ?_ ?_
         rotate_left
         ·rintro w' ⟨hq0, hq1, _⟩
          go_simp
          with_reducible rfl
         rotate_left
         ·simp only [Act.put, List.setIfInBounds_toArray, List.set_cons_zero, List.set_cons_succ, i64_w, i32_w]
          rfl
         refine pure_ (i := 7) (N := some 73) (v := ?_) (a' := ?_) #[true, true, true, true, true, true, true, true, false, false, false] rfl rfl (by kernel_rfl) (fun _ _ _ h => h) (Or.inl ⟨by rfl, ?_⟩) ?_ ?_
         rotate_left
         ·intro w'
          go_simp
          with_reducible rfl
         rotate_left
         ·simp only [Act.put, List.setIfInBounds_toArray, List.set_cons_zero, List.set_cons_succ, i64_w, i32_w]
          rfl
         refine pure_ (i := 8) (N := some 74) (v := ?_) (a' := ?_) #[true, true, true, true, true, true, true, true, true, false, false] rfl rfl (by kernel_rfl) (fun _ _ _ h => h) (Or.inl ⟨by rfl, ?_⟩) ?_ ?_
         rotate_left
         ·intro w'
          go_simp
          with_reducible rfl
         rotate_left
         ·simp only [Act.put, List.setIfInBounds_toArray, List.set_cons_zero, List.set_cons_succ, i64_w, i32_w]
          rfl
         refine one_ (i := 9) (N := some 75) #[true, true, true, true, true, true, true, true, true, true, false] rfl rfl (by kernel_rfl) (by decide) (fun K hK => ?_)
         have hcall := outpostlaw01_mark.calls (i : Int) (j : Int) m (wr.drew) (by rw [HMM.out]; exact ap_mk_f i j)
         refine goes_ Try.func51 (by kernel_rfl) rfl #[.int .i64 (i : Int), .int .i64 (j : Int)] (by rfl) rfl rfl (by (try simp only [List.map_toArray, List.map_cons, List.map_nil]); first | done | rfl | (simp [Act.eval]; done)) ?_
         refine hcall.mono ?_
         clear hcall
         rintro e w2 ⟨rfl, ⟨nd, rfl⟩⟩
         refine ⟨_, rfl, ?_⟩
         refine hK.out _ _ ⟨hco, hcg, trivial⟩ (fun hHeld2 => ?_)
         clear hK K
         refine norm_ (a' := ?_) ?_ ?_
         rotate_left
         ·show Act.put _ (some 75) _ = _
          simp only [Act.put, List.setIfInBounds_toArray, List.set_cons_zero, List.set_cons_succ, i64_w, i32_w]
          rfl
         refine pure_ (i := 10) (N := some 76) (v := ?_) (a' := ?_) #[true, true, true, true, true, true, true, true, true, true, true] rfl rfl (by kernel_rfl) (fun _ _ _ h => h) (Or.inl ⟨by rfl, ?_⟩) ?_ ?_
         rotate_left
         ·intro w'
          go_simp
          with_reducible rfl
         rotate_left
         ·simp only [Act.put, List.setIfInBounds_toArray, List.set_cons_zero, List.set_cons_succ, i64_w, i32_w]
          rfl
         refine done_ (by kernel_rfl) ?_
         try go_wp2
         go_roundg k2
         case measure => omega
         case rel => exact ⟨j + 1, congrArg (Value.int .i64) (ap_w64s j (by have := HJN.out; have := HX.out i; have := HXL.out i; have := HN.out; omega)), ⟨by have := HJ.out; omega⟩, ⟨Ap.St.below HS.out (pw_below_drewN (Below.refl _ _) _)⟩, ⟨pw_below_drewN HB.out _⟩⟩
    | succ k1 =>
     have hin : i < V.length := by have := HI.out; omega
     have hit : decide (i < V.length) = true := decide_eq_true hin
     have ti : (i < V.length) = True := eq_true hin
     obtain ⟨v, hv⟩ : ∃ v, V[i]? = some v := ⟨_, List.getElem?_eq_getElem hin⟩
     obtain ⟨Av, cv, hvf⟩ : ∃ Av cv, v = .slice Av (X' i).length cv := by
      rcases HS.out.form hv with ⟨h1, h2⟩ | ⟨g, c', h1, _, _⟩
      ·exact ⟨none, 0, by rw [h2]; exact h1⟩
      ·exact ⟨_, _, h1⟩
     obtain ⟨n, hn⟩ : ∃ n, (X' i).length = n := ⟨_, rfl⟩
     rw [hn] at hvf
     subst hvf
     have HV := Aside0.mk hv
     have HN := Aside0.mk hn
     have HIN := Aside0.mk hin
     clear hv hn hin
     have hco : wr.cell? ⟨go, i, none⟩ = some (.slice Av n cv) := by have := HS.out.outer i _ HV.out; rwa [Nat.zero_add] at this
     obtain ⟨H, hH⟩ : ∃ H, H = wr.heap.size := ⟨_, rfl⟩
     have HVH : Aside0 (∀ (r : Nat) (v : Value), V[r]? = some v → ∀ k, v.ownBlock = some k → k < H) := ⟨fun r v hv k hk => by rw [hH]; exact ((HS.out.own r v hv).lt k hk).2⟩
     have HgH : Aside0 (go < H) := ⟨by rw [hH]; exact HGO.out⟩
     have HBH : Aside0 (B ≤ H) := ⟨by have h1 := HBW.out; have h2 := HB.out.size; omega⟩
     have HHS : Aside0 (H ≤ wr.heap.size) := ⟨by omega⟩
     have HMo := aK (Ap.More.start HS.out HV.out H)
     clear hH
     go_wp2
     go_loopg [6, 7] (40 : Nat) (fun kq v6 v7 w' => ∃ (k : Nat), v7 = .int .i64 (k : Int) ∧ Aside0 (k + kq = 40) ∧ Aside0 (Ap.More w' H 5 (.slice Av n cv) (X' i).length (Ap.bv (X' i)) v6 k) ∧ Aside0 (Ap.St w' B 5 go 0 V X') ∧ Aside0 (Below B w w') ∧ Aside0 (go < w'.heap.size) ∧ Aside0 (H ≤ w'.heap.size))
     case atStart => exact ⟨0, rfl, ⟨rfl⟩, HMo, HS, HB, HGO, HHS⟩
     case round =>
      (try clear hHeld)
      clear HS HB HGO HHS HMo hco
      obtain ⟨k, rfl, HK, HMo, HS, HB, HGO, HHS⟩ := hrel
      cases gk with
      | zero =>
       have hkf : decide ((k : Int) < 40) = false := decide_eq_false (by have := HK.out; omega)
       go_wp2
       go_roundg k1
       case measure => omega
       case rel => exact ⟨i + 1, congrArg (Value.int .i64) (ap_w64s i (by have := HIN.out; have := HVL.out; omega)), ⟨by have := HI.out; omega⟩, HS, HB, HGO⟩
      | succ k2 =>
       have hkt : decide ((k : Int) < 40) = true := decide_eq_true (by have := HK.out; omega)
       have hkb : k ≤ 39 := by have := HK.out; omega
       go_wp2_with (first | ((with_reducible refine gate_builtin (b := .append) (xs := #[.tmp 48, .tmp 49]) rfl ?_); at_builtin; refine Ap.more_append rfl (.tmp 48) (.tmp 49) 25 rfl Try.underlying25 info5 254 u6 rfl rfl HS.out HGO.out HV.out H HBH.out HVH.out HgH.out HHS.out HMo.out ?aL ?_; (case aL => have h1 := HX.out i; have h2 := HXL.out i; have h3 := HK.out; omega); intro u9 w9 hs9 hm9 hb9; have n0_ := Aside0.mk hs9; have n1_ := Aside0.mk hm9; have n2_ := aK (HB.out.trans hb9); have n3_ : Aside0 (go < w9.heap.size) := ⟨Nat.lt_of_lt_of_le HGO.out hb9.size⟩; have n4_ : Aside0 (H ≤ w9.heap.size) := ⟨Nat.le_trans HHS.out hb9.size⟩; clear hs9 hm9 hb9 HS HMo HB HGO HHS; have HS := n0_; have HMo := n1_; have HB := n2_; have HGO := n3_; have HHS := n4_; clear n0_ n1_ n2_ n3_ n4_))
       go_roundg k2
       case measure => omega
       case rel => exact ⟨k + 1, (by first | go_num | exact congrArg (Value.int .i64) (ap_w64s k (by omega))), ⟨by have := HK.out; omega⟩, HMo, HS, HB, HGO, HHS⟩
  | succ k1 =>
   have hin : i < V.length := by have := HI.out; omega
   have hit : decide (i < V.length) = true := decide_eq_true hin
   have ti : (i < V.length) = True := eq_true hin
   obtain ⟨v, hv⟩ : ∃ v, V[i]? = some v := ⟨_, List.getElem?_eq_getElem hin⟩
   obtain ⟨Av, cv, hvf⟩ : ∃ Av cv, v = .slice Av (X' i).length cv := by
    rcases HS.out.form hv with ⟨h1, h2⟩ | ⟨g, c', h1, _, _⟩
    ·exact ⟨none, 0, by rw [h2]; exact h1⟩
    ·exact ⟨_, _, h1⟩
   obtain ⟨n, hn⟩ : ∃ n, (X' i).length = n := ⟨_, rfl⟩
   rw [hn] at hvf
   subst hvf
   have HV := Aside0.mk hv
   have HN := Aside0.mk hn
   have HIN := Aside0.mk hin
   clear hv hn hin
   go_wp2
   go_loopg [4] n (fun kq v4 w' => ∃ (j : Nat) (X'' : Nat → List Int), v4 = .int .i64 (j : Int) ∧ Aside0 (j + kq = n) ∧ Aside0 (Ap.St w' B 5 go 0 V X'') ∧ Aside0 (∀ r, (X'' r).length = (X r).length) ∧ Aside0 (ap_mrk X'' i j) ∧ Aside0 (Below B w w') ∧ Aside0 (go < w'.heap.size))
   case atStart => exact ⟨0, X', rfl, ⟨by omega⟩, HS, HXL, HM, HB, HGO⟩
   case round =>
    (try clear hHeld)
    have HN1 : Aside0 ((X i).length = n) := ⟨by rw [← HXL.out i]; exact HN.out⟩
    clear HS HB HGO HM HXL HN
    obtain ⟨j, X'', rfl, HJ, HS, HXL, HM, HB, HGO⟩ := hrel
    have hco : wr.cell? ⟨go, i, none⟩ = some (.slice Av n cv) := by have := HS.out.outer i _ HV.out; rwa [Nat.zero_add] at this
    cases gk with
    | zero =>
     have hjf : decide (j < n) = false := decide_eq_false (by have := HJ.out; omega)
     go_wp2
     go_roundg k1
     case measure => omega
     case rel =>
      refine ⟨i + 1, X'', congrArg (Value.int .i64) (ap_w64s i (by have := HIN.out; have := HVL.out; omega)), ⟨by have := HI.out; omega⟩, HS, HXL, ⟨ap_mrk_next HM.out (by have h1 := HXL.out i; have h2 := HN1.out; have h3 := HJ.out; omega)⟩, HB, HGO⟩
    | succ k2 =>
     have hjn : j < n := by have := HJ.out; omega
     have hjt : decide (j < n) = true := decide_eq_true hjn
     have tj : (j < n) = True := eq_true hjn
     have hn2 : (X'' i).length = n := (HXL.out i).trans HN1.out
     obtain ⟨g, hg, hgB⟩ := ap_at HS.out HV.out hn2 hjn
     subst hg
     have hVi : V[i]? = some (.slice (some ⟨g, 0, none⟩) (X'' i).length cv) := by rw [hn2]; exact HV.out
     have hcg := HS.out.cell hVi (j := j) (by omega)
     have hfg := HS.out.frozen hVi j
     have HVI := Aside0.mk hVi
     have HGB := Aside0.mk hgB
     have HJN := Aside0.mk hjn
     have HN2 := Aside0.mk hn2
     obtain ⟨m, hm⟩ : ∃ m, m = ap_mk i j := ⟨_, rfl⟩
     have HMM := Aside0.mk hm
     clear hVi hgB hjn hn2 hm
     go_wp2
     refine start_ (n := 10) (S := ap_S go i g j (.slice (some ⟨g, 0, none⟩) n cv) (.int .u8 ((X'' i).getD j 0))) (ds := [9]) #[false, false, false, false, false, false, false, false, false, false] (by kernel_rfl) rfl rfl ⟨hco, hcg, trivial⟩ (fun hHeld => ?_)
     refine pure_ (i := 0) (N := some 25) (v := ?_) (a' := ?_) #[true, false, false, false, false, false, false, false, false, false] rfl rfl (by kernel_rfl) (fun _ _ _ h => h) (Or.inl ⟨by rfl, ?_⟩) ?_ ?_
     rotate_left
     ·intro w'
      go_simp
      with_reducible rfl
     rotate_left
     ·simp only [Act.put, List.setIfInBounds_toArray, List.set_cons_zero, List.set_cons_succ, i64_w, i32_w]
      rfl
     refine pure_ (i := 1) (N := some 26) (v := ?_) (a' := ?_) #[true, true, false, false, false, false, false, false, false, false] rfl rfl (by kernel_rfl) (fun _ _ _ h => h) (Or.inl ⟨by rfl, ?_⟩) ?_ ?_
     rotate_left
     ·intro w'
      go_simp
      with_reducible rfl
     rotate_left
     ·simp only [Act.put, List.setIfInBounds_toArray, List.set_cons_zero, List.set_cons_succ, i64_w, i32_w]
      rfl
     refine pure_ (i := 2) (N := some 27) (v := ?_) (a' := ?_) #[true, true, true, false, false, false, false, false, false, false] rfl rfl (by kernel_rfl) (fun _ _ _ h => h) (Or.inl ⟨by rfl, ?_⟩) ?_ ?_
     rotate_left
     ·intro w'
      go_simp
      with_reducible rfl
     rotate_left
     ·simp only [Act.put, List.setIfInBounds_toArray, List.set_cons_zero, List.set_cons_succ, i64_w, i32_w]
      rfl
     refine take_ (i := 3) (N := some 28) (v := ?_) (a' := ?_) #[true, true, true, true, false, false, false, false, false, false] rfl rfl (by kernel_rfl) (fun _ _ _ h => h) (Or.inl ⟨by rfl, ?_⟩) hHeld ?_ ?_
     rotate_left
     ·rintro w' ⟨hq0, hq1, _⟩
      go_simp
      with_reducible rfl
     rotate_left
     ·simp only [Act.put, List.setIfInBounds_toArray, List.set_cons_zero, List.set_cons_succ, i64_w, i32_w]
      rfl
     refine pure_ (i := 4) (N := some 29) (v := ?_) (a' := ?_) #[true, true, true, true, true, false, false, false, false, false] rfl rfl (by kernel_rfl) (fun _ _ _ h => h) (Or.inl ⟨by rfl, ?_⟩) ?_ ?_
     rotate_left
     ·intro w'
      go_simp
      with_reducible rfl
     rotate_left
     ·simp only [Act.put, List.setIfInBounds_toArray, List.set_cons_zero, List.set_cons_succ, i64_w, i32_w]
      rfl
     refine pure_ (i := 5) (N := some 30) (v := ?_) (a' := ?_) #[true, true, true, true, true, true, false, false, false, false] rfl rfl (by kernel_rfl) (fun _ _ _ h => h) (Or.inl ⟨by rfl, ?_⟩) ?_ ?_
     rotate_left
     ·intro w'
      go_simp
      with_reducible rfl
     rotate_left
     ·simp only [Act.put, List.setIfInBounds_toArray, List.set_cons_zero, List.set_cons_succ, i64_w, i32_w]
      rfl
     refine pure_ (i := 6) (N := some 31) (v := ?_) (a' := ?_) #[true, true, true, true, true, true, true, false, false, false] rfl rfl (by kernel_rfl) (fun _ _ _ h => h) (Or.inl ⟨by rfl, ?_⟩) ?_ ?_
     rotate_left
     ·intro w'
      go_simp
      with_reducible rfl
     rotate_left
     ·simp only [Act.put, List.setIfInBounds_toArray, List.set_cons_zero, List.set_cons_succ, i64_w, i32_w]
      rfl
     refine one_ (i := 7) (N := some 32) #[true, true, true, true, true, true, true, true, false, false] rfl rfl (by kernel_rfl) (by decide) (fun K hK => ?_)
     have hcall := outpostlaw01_mark.calls (i : Int) (j : Int) m (wr.drew) (by rw [HMM.out]; exact ap_mk_f i j)
     refine goes_ Try.func51 (by kernel_rfl) rfl #[.int .i64 (i : Int), .int .i64 (j : Int)] (by rfl) rfl rfl (by (try simp only [List.map_toArray, List.map_cons, List.map_nil]); first | done | rfl | (simp [Act.eval]; done)) ?_
     refine hcall.mono ?_
     clear hcall
     rintro e w2 ⟨rfl, ⟨nd, rfl⟩⟩
     refine ⟨_, rfl, ?_⟩
     refine hK.out _ _ ⟨hco, hcg, trivial⟩ (fun hHeld2 => ?_)
     clear hK K
     refine norm_ (a' := ?_) ?_ ?_
     rotate_left
     ·show Act.put _ (some 32) _ = _
      simp only [Act.put, List.setIfInBounds_toArray, List.set_cons_zero, List.set_cons_succ, i64_w, i32_w]
      rfl
     refine pure_ (i := 8) (N := some 33) (v := ?_) (a' := ?_) #[true, true, true, true, true, true, true, true, true, false] rfl rfl (by kernel_rfl) (fun _ _ _ h => h) (Or.inl ⟨by rfl, ?_⟩) ?_ ?_
     rotate_left
     ·intro w'
      go_simp
      with_reducible rfl
     rotate_left
     ·simp only [Act.put, List.setIfInBounds_toArray, List.set_cons_zero, List.set_cons_succ, i64_w, i32_w]
      rfl
     refine last_ (i := 9) (N := none) #[true, true, true, true, true, true, true, true, true, true] rfl rfl (by kernel_rfl) (by decide) (fun K hK => ?_)
     refine skip_ (w1 := ?_) (by rfl) rfl ?_ ?_
     rotate_left
     ·go_simp
      rfl
     refine hK.out _ _ ?_
     clear hK K
     refine done_ (by kernel_rfl) ?_
     try go_wp2
     go_roundg k2
     case measure => omega
     case rel =>
      refine ⟨j + 1, Ap.put X'' i j m, congrArg (Value.int .i64) (ap_w64s j (by have := HJN.out; have := HX.out i; have := HN1.out; omega)), ⟨by have := HJ.out; omega⟩, ⟨Ap.St.put (Ap.St.below HS.out (pw_below_drewN (Below.refl _ _) _)) HVI.out j m⟩, ⟨fun r => by rw [Ap.put_length]; exact HXL.out r⟩, ⟨by rw [HMM.out]; exact ap_mrk_put HM.out (by have := HN2.out; have := HJN.out; omega)⟩, ⟨Below.setCell (pw_below_drewN HB.out _) (show B ≤ (⟨g, j, none⟩ : Addr).block from HGB.out) _⟩, ⟨by have := HGO.out; simpa using this⟩⟩
end

/-! ### outpostlaw32_GaloisThrough: function 3 -/
def outpostlaw32_GaloisThrough.j0 : Nat → List Int → List Int → GTab → Bool → Bool → Int → Int → Option (Bool)
 | 0, _, _, _, _, _, _, _ => none
 | k + 1, x1, x2, x7, x9, x27, x414000, x414001 => if x27 = true then (some x9) else ((outpostlaw01_Lent.f x1).bind fun t419 => ((outpostlaw01_Lent.f x2).bind fun t422 => ((galois_Tables_Through.f k x7 t419 t422).bind fun bt425 => ((outpostref32_Through.f k x414000 x414001 x1 x2).bind fun bt429 => ((outpostlaw32_same.f bt425.1 bt429.1).bind fun t433 => (if t433 = true then ((outpostlaw32_num.f bt425.2).bind fun t434 => (if t434 = bt429.2 then ((outpostlaw01_Stays.f t419 x1).bind fun t435 => (if t435 = true then ((outpostlaw01_Stays.f t422 x2).bind fun t436 => (if t436 = true then ((outpostlaw01_ApartBytes.f (([bt425.1, t419, t422] : List (List Int)))).bind fun t440 => (some t440)) else (some false))) else (some false))) else (some false))) else (some false)))))))
def outpostlaw32_GaloisThrough.f (k : Nat) (a0_0 : Int) (a0_1 : Int) (l1 : List Int) (l2 : List Int) : Option (Bool) := (outpostlaw32_made.f k a0_0 a0_1).bind fun bt414 => (if bt414.2.1 = true then (outpostlaw32_GaloisThrough.j0 k l1 l2 bt414.1 bt414.2.2 (!bt414.2.2) a0_0 a0_1) else (outpostlaw32_GaloisThrough.j0 k l1 l2 bt414.1 bt414.2.2 true a0_0 a0_1))
theorem outpostlaw32_GaloisThrough.mono_l : ∀ k, (∀ y0 y1 y2 y3 y4 y5 y6, LeO (outpostlaw32_GaloisThrough.j0 k y0 y1 y2 y3 y4 y5 y6) (outpostlaw32_GaloisThrough.j0 (k + 1) y0 y1 y2 y3 y4 y5 y6))
 | 0 => fun _ _ _ _ _ _ _ r h => by simp [outpostlaw32_GaloisThrough.j0] at h
 | k + 1 => by
  have ih0 := outpostlaw32_GaloisThrough.mono_l k
  ·intro y0 y1 y2 y3 y4 y5 y6
   unfold outpostlaw32_GaloisThrough.j0
   repeat' first
   | (with_reducible exact ih0 _ _ _ _ _ _ _)
   | (with_reducible exact galois_Tables_Through.mono _ _ _ _)
   | (with_reducible exact outpostlaw32_made.mono _ _ _)
   | (with_reducible exact outpostref32_Through.mono _ _ _ _ _)
   | (with_reducible exact LeO.refl _)
   | (with_reducible exact LeO.none _)
   | (with_reducible refine LeO.ite ?_ ?_)
   | (with_reducible refine LeO.bind ?_ (fun _ => ?_))
   | exact ih0 _ _ _ _ _ _ _
   | exact galois_Tables_Through.mono _ _ _ _
   | exact outpostlaw32_made.mono _ _ _
   | exact outpostref32_Through.mono _ _ _ _ _
   | exact LeO.none _
   | refine LeO.ite ?_ ?_
   | refine LeO.bind ?_ (fun _ => ?_)
theorem outpostlaw32_GaloisThrough.mono : ∀ a0 a1 a2 a3 k, LeO (outpostlaw32_GaloisThrough.f k a0 a1 a2 a3) (outpostlaw32_GaloisThrough.f (k + 1) a0 a1 a2 a3) := by
 intro a0 a1 a2 a3 k
 have ih0 := outpostlaw32_GaloisThrough.mono_l k
 unfold outpostlaw32_GaloisThrough.f
 repeat' first
   | (with_reducible exact ih0 _ _ _ _ _ _ _)
   | (with_reducible exact galois_Tables_Through.mono _ _ _ _)
   | (with_reducible exact outpostlaw32_made.mono _ _ _)
   | (with_reducible exact outpostref32_Through.mono _ _ _ _ _)
   | (with_reducible exact LeO.refl _)
   | (with_reducible exact LeO.none _)
   | (with_reducible refine LeO.ite ?_ ?_)
   | (with_reducible refine LeO.bind ?_ (fun _ => ?_))
   | exact ih0 _ _ _ _ _ _ _
   | exact galois_Tables_Through.mono _ _ _ _
   | exact outpostlaw32_made.mono _ _ _
   | exact outpostref32_Through.mono _ _ _ _ _
   | exact LeO.none _
   | refine LeO.ite ?_ ?_
   | refine LeO.bind ?_ (fun _ => ?_)
set_option maxHeartbeats 8000000 in
set_option maxRecDepth 100000 in
theorem outpostlaw32_GaloisThrough.calls (k : Nat) (a0_0 : Int) (a0_1 : Int) (A1 : Option Addr) (c1 : Nat) (l1 : List Int) (A2 : Option Addr) (c2 : Nat) (l2 : List Int) (r : Bool) (w : World) (hr1 : Kd.C (Kd.int .u8) w A1 l1.length l1) (hc1 : l1.length ≤ c1) (hr2 : Kd.C (Kd.int .u8) w A2 l2.length l2) (hc2 : l2.length ≤ c2) (h : outpostlaw32_GaloisThrough.f k a0_0 a0_1 l1 l2 = some r) :
  Calls Try.prog 3 #[.agg #[.int .i64 a0_0, .int .u64 a0_1], .slice A1 l1.length c1, .slice A2 l2.length c2] w fun e w' => e = .returned (.bool r) ∧ Below w.heap.size w w' := by
 have hu24 := Try.underlying24
 have HR1 := Aside0.mk hr1
 have HC1 := Aside0.mk hc1
 clear hr1 hc1
 have HR2 := Aside0.mk hr2
 have HC2 := Aside0.mk hc2
 clear hr2 hc2
 have HB := aK (Below.refl w.heap.size w)
 have H : ((outpostlaw32_made.f k a0_0 a0_1).bind fun bt414 => (if bt414.2.1 = true then (outpostlaw32_GaloisThrough.j0 k l1 l2 bt414.1 bt414.2.2 (!bt414.2.2) a0_0 a0_1) else (outpostlaw32_GaloisThrough.j0 k l1 l2 bt414.1 bt414.2.2 true a0_0 a0_1))) = some r := h
 clear h
 replace H := Option.bind_eq_some_iff.mp H
 obtain ⟨⟨t414, t417, t418⟩, A40, H⟩ := H
 replace H : (if t417 = true then (outpostlaw32_GaloisThrough.j0 k l1 l2 t414 t418 (!t418) a0_0 a0_1) else (outpostlaw32_GaloisThrough.j0 k l1 l2 t414 t418 true a0_0 a0_1)) = some r := H
 have A4 := Aside0.mk A40
 clear A40
 have HC5 := Aside0.mk H
 clear H
 go_enter Try.func3, Try.ntmps3
 go_upto_region 2 with (first | ((with_reducible refine gate_dst (N := 3) rfl ?_); (try (refine gate_guard (by rfl) ?_; dsimp only)); refine box_event ?hg (N := 3) ?hd (cs := #[.int .i64 a0_0, .int .u64 a0_1]) (t := 24) ?hr ?_; (case hd => rfl); (case hg => rfl); (case hr => first | (go_simp; done) | (go_simp; rfl)); intro gb413 hg w6 hbox hb; have n0_ := aK (below_step (mvh HB.out) hb); have n1_ := aK (hbox); have n2_ := aK ((by rw [hg]; exact (below_size (mvh HB.out)) : w.heap.size ≤ gb413)); have n3_ := aK ((by rw [hg]; exact (below_size (mvh HB.out)) : w.heap.size ≤ gb413)); clear HB; have HB := n0_; have BK413 := n1_; have GW413 := n2_; have GE413 := n3_; clear n0_ n1_ n2_ n3_; clear hb hbox hg; obtain ⟨hcz7_0, hcz7_1, hfz7_0, hfz7_1⟩ := cf2 BK413.out) | ((with_reducible refine gate_callee (f := 8) rfl ?_); refine goesL_ (some 18) rfl rfl Try.func8 (by kernel_rfl) rfl #[.agg #[.int .i64 a0_0, .int .u64 a0_1]] rfl (by (try simp only [List.map_toArray, List.map_cons, List.map_nil]) <;> rfl) ?_; (with_reducible refine (outpostlaw32_made.calls k a0_0 a0_1 t414 t417 t418 _ A4.out).mono ?_); rintro e w ⟨Ap415, rfl, hT_, hb⟩; refine ⟨_, rfl, ?_⟩; have n0_ := aK (kb BK413.out hb); have n1_ := aK (Kd.C_below HR1.out (below_step (by repeat (first | (with_reducible first | exact HB.out | apply hA | apply hN | apply hD | refine below_set ?_ GE413.out) | exact HB.out)) hb)); have n2_ := aK (Kd.C_below HR2.out (below_step (by repeat (first | (with_reducible first | exact HB.out | apply hA | apply hN | apply hD | refine below_set ?_ GE413.out) | exact HB.out)) hb)); have n3_ := aK (Below.refl w.heap.size w); have n4_ := aK (below_step (by repeat (first | (with_reducible first | exact HB.out | apply hA | apply hN | apply hD | refine below_set ?_ GE413.out) | exact HB.out)) hb); clear BK413 HR1 HR2 HB; have BK413 := n0_; have HR1 := n1_; have HR2 := n2_; have HB := n3_; have HB00 := n4_; clear n0_ n1_ n2_ n3_ n4_; have HT416 := Aside0.mk hT_; clear hb hT_))
 (try simp only [Act.put, List.setIfInBounds_toArray, List.set_cons_zero, List.set_cons_succ])
 go_cut [27] (fun v27 wc => ∃ (kq : Nat) (x27_4 : Bool), v27 = .bool x27_4 ∧ Aside0 (outpostlaw32_GaloisThrough.j0 kq l1 l2 t414 t418 x27_4 a0_0 a0_1 = some r) ∧ Aside0 (kq ≤ k) ∧ Aside0 (wc.heap[gb413]? = some (.cells #[.int .i64 a0_0, .int .u64 a0_1] 24 (0, 0))) ∧ Aside0 (Below w.heap.size w wc))
 case first =>
  have H := HC5.out
  clear HC5
  by_cases c9 : t417 = true
  ·subst c9
   have H1 : (outpostlaw32_GaloisThrough.j0 k l1 l2 t414 t418 (!t418) a0_0 a0_1) = some r := by rw [if_pos rfl] at H; exact H
   clear H
   have H := H1
   clear H1
   have H' := Aside0.mk H
   clear H
   go_wp2
   go_meet
   case rel => exact ⟨_, (!t418), (by first | rfl | (simp; done) | (simp [*]; done) | (simp [wrap64]; done)), H', ⟨by first | omega | exact Nat.le_refl _⟩, ⟨mvb BK413.out⟩, ⟨by repeat (first | (with_reducible first | exact HB.out | apply hA | apply hN | apply hD | refine below_set ?_ GE413.out) | exact HB.out)⟩⟩
  ·replace c9 := Bool.eq_false_iff.mpr c9
   subst c9
   have H1 : (outpostlaw32_GaloisThrough.j0 k l1 l2 t414 t418 true a0_0 a0_1) = some r := by rw [if_neg (show ¬ (false = true) by decide)] at H; exact H
   clear H
   have H := H1
   clear H1
   have H' := Aside0.mk H
   clear H
   go_wp2
   go_meet
   case rel => exact ⟨_, (true), (by first | rfl | (simp; done) | (simp [*]; done) | (simp [wrap64]; done)), H', ⟨by first | omega | exact Nat.le_refl _⟩, ⟨mvb BK413.out⟩, ⟨by repeat (first | (with_reducible first | exact HB.out | apply hA | apply hN | apply hD | refine below_set ?_ GE413.out) | exact HB.out)⟩⟩
 case rest =>
  clear HC5
  (try clear c1); (try clear c2); (try clear p2); (try clear c3); (try clear p4); (try clear p6); (try clear c8); (try clear c9); (try clear hcz7_0); (try clear hcz7_1); (try clear hfz7_0); (try clear hfz7_1)
  obtain ⟨kq, x27_4, rfl, HA, HJ4, BK413, HB⟩ := hcut
  cases kq with
  | zero => exact absurd HA.out (by simp [outpostlaw32_GaloisThrough.j0])
  | succ kj4 =>
   have H := HA.out
   clear HA
   simp only [outpostlaw32_GaloisThrough.j0] at H
   by_cases c10 : x27_4 = true
   ·subst c10
    have H1 : (some t418) = some r := by rw [if_pos rfl] at H; exact H
    clear H
    have H := H1
    clear H1
    obtain rfl := Option.some.inj H
    go_wp2
    go_ret
    exact ⟨by first | rfl | (simp [errW_none, errW_some] <;> rfl) | (simp [*, errW_none, errW_some] <;> rfl), below_step HB00.out (by repeat (first | (with_reducible first | exact HB.out | apply hA | apply hN | apply hD | refine below_set ?_ GE413.out) | exact HB.out))⟩
   ·replace c10 := Bool.eq_false_iff.mpr c10
    subst c10
    have H1 : ((outpostlaw01_Lent.f l1).bind fun t419 => ((outpostlaw01_Lent.f l2).bind fun t422 => ((galois_Tables_Through.f kj4 t414 t419 t422).bind fun bt425 => ((outpostref32_Through.f kj4 a0_0 a0_1 l1 l2).bind fun bt429 => ((outpostlaw32_same.f bt425.1 bt429.1).bind fun t433 => (if t433 = true then ((outpostlaw32_num.f bt425.2).bind fun t434 => (if t434 = bt429.2 then ((outpostlaw01_Stays.f t419 l1).bind fun t435 => (if t435 = true then ((outpostlaw01_Stays.f t422 l2).bind fun t436 => (if t436 = true then ((outpostlaw01_ApartBytes.f (([bt425.1, t419, t422] : List (List Int)))).bind fun t440 => (some t440)) else (some false))) else (some false))) else (some false))) else (some false))))))) = some r := by rw [if_neg (show ¬ (false = true) by decide)] at H; exact H
    clear H
    have H := H1
    clear H1
    replace H := Option.bind_eq_some_iff.mp H
    obtain ⟨t419, A110, H⟩ := H
    replace H : ((outpostlaw01_Lent.f l2).bind fun t422 => ((galois_Tables_Through.f kj4 t414 t419 t422).bind fun bt425 => ((outpostref32_Through.f kj4 a0_0 a0_1 l1 l2).bind fun bt429 => ((outpostlaw32_same.f bt425.1 bt429.1).bind fun t433 => (if t433 = true then ((outpostlaw32_num.f bt425.2).bind fun t434 => (if t434 = bt429.2 then ((outpostlaw01_Stays.f t419 l1).bind fun t435 => (if t435 = true then ((outpostlaw01_Stays.f t422 l2).bind fun t436 => (if t436 = true then ((outpostlaw01_ApartBytes.f (([bt425.1, t419, t422] : List (List Int)))).bind fun t440 => (some t440)) else (some false))) else (some false))) else (some false))) else (some false)))))) = some r := H
    have A11 := Aside0.mk A110
    clear A110
    replace H := Option.bind_eq_some_iff.mp H
    obtain ⟨t422, A120, H⟩ := H
    replace H : ((galois_Tables_Through.f kj4 t414 t419 t422).bind fun bt425 => ((outpostref32_Through.f kj4 a0_0 a0_1 l1 l2).bind fun bt429 => ((outpostlaw32_same.f bt425.1 bt429.1).bind fun t433 => (if t433 = true then ((outpostlaw32_num.f bt425.2).bind fun t434 => (if t434 = bt429.2 then ((outpostlaw01_Stays.f t419 l1).bind fun t435 => (if t435 = true then ((outpostlaw01_Stays.f t422 l2).bind fun t436 => (if t436 = true then ((outpostlaw01_ApartBytes.f (([bt425.1, t419, t422] : List (List Int)))).bind fun t440 => (some t440)) else (some false))) else (some false))) else (some false))) else (some false))))) = some r := H
    have A12 := Aside0.mk A120
    clear A120
    replace H := Option.bind_eq_some_iff.mp H
    obtain ⟨⟨t425, t428⟩, A130, H⟩ := H
    replace H : ((outpostref32_Through.f kj4 a0_0 a0_1 l1 l2).bind fun bt429 => ((outpostlaw32_same.f t425 bt429.1).bind fun t433 => (if t433 = true then ((outpostlaw32_num.f t428).bind fun t434 => (if t434 = bt429.2 then ((outpostlaw01_Stays.f t419 l1).bind fun t435 => (if t435 = true then ((outpostlaw01_Stays.f t422 l2).bind fun t436 => (if t436 = true then ((outpostlaw01_ApartBytes.f (([t425, t419, t422] : List (List Int)))).bind fun t440 => (some t440)) else (some false))) else (some false))) else (some false))) else (some false)))) = some r := H
    have A13 := Aside0.mk A130
    clear A130
    replace H := Option.bind_eq_some_iff.mp H
    obtain ⟨⟨t429, t432⟩, A140, H⟩ := H
    replace H : ((outpostlaw32_same.f t425 t429).bind fun t433 => (if t433 = true then ((outpostlaw32_num.f t428).bind fun t434 => (if t434 = t432 then ((outpostlaw01_Stays.f t419 l1).bind fun t435 => (if t435 = true then ((outpostlaw01_Stays.f t422 l2).bind fun t436 => (if t436 = true then ((outpostlaw01_ApartBytes.f (([t425, t419, t422] : List (List Int)))).bind fun t440 => (some t440)) else (some false))) else (some false))) else (some false))) else (some false))) = some r := H
    have A14 := Aside0.mk A140
    clear A140
    replace H := Option.bind_eq_some_iff.mp H
    obtain ⟨t433, A150, H⟩ := H
    replace H : (if t433 = true then ((outpostlaw32_num.f t428).bind fun t434 => (if t434 = t432 then ((outpostlaw01_Stays.f t419 l1).bind fun t435 => (if t435 = true then ((outpostlaw01_Stays.f t422 l2).bind fun t436 => (if t436 = true then ((outpostlaw01_ApartBytes.f (([t425, t419, t422] : List (List Int)))).bind fun t440 => (some t440)) else (some false))) else (some false))) else (some false))) else (some false)) = some r := H
    have A15 := Aside0.mk A150
    clear A150
    by_cases c16 : t433 = true
    ·subst c16
     have H1 : ((outpostlaw32_num.f t428).bind fun t434 => (if t434 = t432 then ((outpostlaw01_Stays.f t419 l1).bind fun t435 => (if t435 = true then ((outpostlaw01_Stays.f t422 l2).bind fun t436 => (if t436 = true then ((outpostlaw01_ApartBytes.f (([t425, t419, t422] : List (List Int)))).bind fun t440 => (some t440)) else (some false))) else (some false))) else (some false))) = some r := by rw [if_pos rfl] at H; exact H
     clear H
     have H := H1
     clear H1
     replace H := Option.bind_eq_some_iff.mp H
     obtain ⟨t434, A170, H⟩ := H
     replace H : (if t434 = t432 then ((outpostlaw01_Stays.f t419 l1).bind fun t435 => (if t435 = true then ((outpostlaw01_Stays.f t422 l2).bind fun t436 => (if t436 = true then ((outpostlaw01_ApartBytes.f (([t425, t419, t422] : List (List Int)))).bind fun t440 => (some t440)) else (some false))) else (some false))) else (some false)) = some r := H
     have A17 := Aside0.mk A170
     clear A170
     by_cases c18 : t434 = t432
     ·rw [if_pos c18] at H
      have c18b0 : (t434 == t432) = true := beq_iff_eq.mpr c18
      have c18b1 : (t434 != t432) = false := bne_eq_false_iff_eq.mpr c18
      clear c18
      replace H := Option.bind_eq_some_iff.mp H
      obtain ⟨t435, A190, H⟩ := H
      replace H : (if t435 = true then ((outpostlaw01_Stays.f t422 l2).bind fun t436 => (if t436 = true then ((outpostlaw01_ApartBytes.f (([t425, t419, t422] : List (List Int)))).bind fun t440 => (some t440)) else (some false))) else (some false)) = some r := H
      have A19 := Aside0.mk A190
      clear A190
      by_cases c20 : t435 = true
      ·subst c20
       have H1 : ((outpostlaw01_Stays.f t422 l2).bind fun t436 => (if t436 = true then ((outpostlaw01_ApartBytes.f (([t425, t419, t422] : List (List Int)))).bind fun t440 => (some t440)) else (some false))) = some r := by rw [if_pos rfl] at H; exact H
       clear H
       have H := H1
       clear H1
       replace H := Option.bind_eq_some_iff.mp H
       obtain ⟨t436, A210, H⟩ := H
       replace H : (if t436 = true then ((outpostlaw01_ApartBytes.f (([t425, t419, t422] : List (List Int)))).bind fun t440 => (some t440)) else (some false)) = some r := H
       have A21 := Aside0.mk A210
       clear A210
       by_cases c22 : t436 = true
       ·subst c22
        have H1 : ((outpostlaw01_ApartBytes.f (([t425, t419, t422] : List (List Int)))).bind fun t440 => (some t440)) = some r := by rw [if_pos rfl] at H; exact H
        clear H
        have H := H1
        clear H1
        obtain ⟨y437, hy437⟩ : ∃ y_ : List (List Int), y_ = (([t425, t419, t422] : List (List Int))) := ⟨_, rfl⟩
        replace H : ((outpostlaw01_ApartBytes.f y437).bind fun t440 => (some t440)) = some r := by first | (rw [hy437]; with_reducible exact H) | (have H2_ := (Option.bind_some _ _).symm.trans H; rw [hy437]; with_reducible exact H2_) | (have H2_ := (Option.bind_some _ _).symm.trans H; with_reducible exact H2_) | with_reducible exact H | (rw [hy437]; exact H) | exact H
        have Ny437 := Aside0.mk hy437
        clear hy437
        replace H := Option.bind_eq_some_iff.mp H
        obtain ⟨t440, A230, H⟩ := H
        replace H : (some t440) = some r := H
        have A23 := Aside0.mk A230
        clear A230
        obtain rfl := Option.some.inj H
        go_wp2_with (first | ((with_reducible refine gate_callee (f := 9) rfl ?_); refine goesL_ (some 30) rfl rfl Try.func9 (by kernel_rfl) rfl #[.slice A1 l1.length c1] rfl (by (try simp only [List.map_toArray, List.map_cons, List.map_nil]) <;> rfl) ?_; (with_reducible refine (outpostlaw01_Lent.calls _ _ l1 t419 _ ?side1 ?side2 A11.out).mono ?_); (case side1 => repeat (first | exact (Kd.C_below HR1.out HB.out) | (with_reducible refine Kd.C_alloc ?_ _) | (with_reducible refine Kd.C_drewN ?_ _) | (with_reducible refine Kd.C_drew ?_))); (case side2 => exact HC1.out); rintro e w24 ⟨v420, rfl, ho0, hb⟩; refine ⟨_, rfl, ?_⟩; have n0_ := aK (Kd.L_lower ho0 (below_size (by repeat (first | (with_reducible first | exact HB.out | apply hA | apply hN | apply hD | refine below_set ?_ GE413.out) | exact HB.out)))); have n1_ := aK (kb BK413.out hb); have n2_ := aK (below_step (by repeat (first | (with_reducible first | exact HB.out | apply hA | apply hN | apply hD | refine below_set ?_ GE413.out) | exact HB.out)) hb); clear BK413 HB; have HO421 := n0_; have BK413 := n1_; have HB := n2_; clear n0_ n1_ n2_; (try clear hb); (try clear ho0)) | ((with_reducible refine gate_callee (f := 9) rfl ?_); refine goesL_ (some 32) rfl rfl Try.func9 (by kernel_rfl) rfl #[.slice A2 l2.length c2] rfl (by (try simp only [List.map_toArray, List.map_cons, List.map_nil]) <;> rfl) ?_; (with_reducible refine (outpostlaw01_Lent.calls _ _ l2 t422 _ ?side1 ?side2 A12.out).mono ?_); (case side1 => repeat (first | exact (Kd.C_below HR2.out HB.out) | (with_reducible refine Kd.C_alloc ?_ _) | (with_reducible refine Kd.C_drewN ?_ _) | (with_reducible refine Kd.C_drew ?_))); (case side2 => exact HC2.out); rintro e w25 ⟨v423, rfl, ho0, hb⟩; refine ⟨_, rfl, ?_⟩; have n0_ := aK (Kd.L_elder' (mvL HO421.out) (Kd.L_base ho0) hb); have n1_ := aK (Kd.L_lower (Kd.L_new' ho0 (Kd.L_lt (mvL HO421.out))) (below_size (by repeat (first | (with_reducible first | exact HB.out | apply hA | apply hN | apply hD | refine below_set ?_ GE413.out) | exact HB.out)))); have n2_ := aK (kb BK413.out hb); have n3_ := aK (below_step (by repeat (first | (with_reducible first | exact HB.out | apply hA | apply hN | apply hD | refine below_set ?_ GE413.out) | exact HB.out)) hb); clear HO421 BK413 HB; have HO421 := n0_; have HO424 := n1_; have BK413 := n2_; have HB := n3_; clear n0_ n1_ n2_ n3_; (try clear hb); (try clear ho0); obtain ⟨Ao26, co26, eo26⟩ := Kd.L_slice HO421.out; subst eo26; obtain ⟨Ao27, co27, eo27⟩ := Kd.L_slice HO424.out; subst eo27) | ((with_reducible refine gate_callee (f := 10) rfl ?_); refine goesL_ (some 37) rfl rfl Try.func10 (by kernel_rfl) rfl #[.pointer Ap415, .slice Ao26 t419.length co26, .slice Ao27 t422.length co27] rfl (by (try simp only [List.map_toArray, List.map_cons, List.map_nil]) <;> rfl) ?_; (with_reducible refine (galois_Tables_Through.calls kj4 _ t414 (fun k_ => some k_ = (.slice Ao26 t419.length co26 : Value).ownBlock) _ _ t419 (fun k_ => some k_ = (.slice Ao27 t422.length co27 : Value).ownBlock) _ _ t422 t425 t428 _ ?side1 ?side2 ?side3 A13.out).mono ?_); (case side1 => exact (gal_OK_below HT416.out HB.out)); (case side2 => exact Kd.L_V (Kd.L_tight rfl (Kd.L_types (HO421.out) BK413.out (by decide)))); (case side3 => exact Kd.L_V (Kd.L_tight rfl (Kd.L_types (HO424.out) BK413.out (by decide)))); rintro e w28 ⟨v426, rfl, ho0, hb⟩; refine ⟨_, rfl, ?_⟩; have n0_ := aK (Kd.L_elder' (mvL HO421.out) (Kd.R_base ho0) hb); have n1_ := aK (Kd.L_elder' (mvL HO424.out) (Kd.R_base ho0) hb); have n2_ := aK (Kd.R_lower (Kd.R_new' (Kd.R_new' (Kd.R_mono (ok' := fun k_ => True) ho0 (fun _ hk_ => trivial)) (Kd.L_lt (mvL HO421.out))) (Kd.L_lt (mvL HO424.out))) (below_size (by repeat (first | (with_reducible first | exact HB.out | apply hA | apply hN | apply hD | refine below_set ?_ GE413.out) | exact HB.out)))); have n3_ := aK (kb BK413.out hb); have n4_ := aK (below_step (by repeat (first | (with_reducible first | exact HB.out | apply hA | apply hN | apply hD | refine below_set ?_ GE413.out) | exact HB.out)) hb); clear HO421 HO424 BK413 HB; have HO421 := n0_; have HO424 := n1_; have HO427 := n2_; have BK413 := n3_; have HB := n4_; clear n0_ n1_ n2_ n3_ n4_; (try clear hb); (try clear ho0); obtain ⟨hcz29_0, hcz29_1, hfz29_0, hfz29_1⟩ := cf2 BK413.out) | ((with_reducible refine gate_callee (f := 11) rfl ?_); refine goesL_ (some 44) rfl rfl Try.func11 (by kernel_rfl) rfl #[.agg #[.int .i64 a0_0, .int .u64 a0_1], .slice A1 l1.length c1, .slice A2 l2.length c2] rfl (by (try simp only [List.map_toArray, List.map_cons, List.map_nil]) <;> rfl) ?_; (with_reducible refine (outpostref32_Through.calls kj4 a0_0 a0_1 _ _ l1 _ _ l2 t429 t432 _ ?side1 ?side2 ?side3 ?side4 A14.out).mono ?_); (case side1 => repeat (first | exact (Kd.C_below HR1.out HB.out) | (with_reducible refine Kd.C_alloc ?_ _) | (with_reducible refine Kd.C_drewN ?_ _) | (with_reducible refine Kd.C_drew ?_))); (case side2 => exact HC1.out); (case side3 => repeat (first | exact (Kd.C_below HR2.out HB.out) | (with_reducible refine Kd.C_alloc ?_ _) | (with_reducible refine Kd.C_drewN ?_ _) | (with_reducible refine Kd.C_drew ?_))); (case side4 => exact HC2.out); rintro e w30 ⟨v430, rfl, ho0, hb⟩; refine ⟨_, rfl, ?_⟩; have n0_ := aK (Kd.L_elder' (mvL HO421.out) (Kd.R_base ho0) hb); have n1_ := aK (Kd.L_elder' (mvL HO424.out) (Kd.R_base ho0) hb); have n2_ := aK (Kd.R_elder' (mvR HO427.out) (Kd.R_base ho0) hb); have n3_ := aK (Kd.R_lower (Kd.R_new' (Kd.R_new' (Kd.R_new' ho0 (Kd.L_lt (mvL HO421.out))) (Kd.L_lt (mvL HO424.out))) (Kd.R_lt (mvR HO427.out))) (below_size (by repeat (first | (with_reducible first | exact HB.out | apply hA | apply hN | apply hD | refine below_set ?_ GE413.out) | exact HB.out)))); have n4_ := aK (kb BK413.out hb); have n5_ := aK (below_step (by repeat (first | (with_reducible first | exact HB.out | apply hA | apply hN | apply hD | refine below_set ?_ GE413.out) | exact HB.out)) hb); clear HO421 HO424 HO427 BK413 HB; have HO421 := n0_; have HO424 := n1_; have HO427 := n2_; have HO431 := n3_; have BK413 := n4_; have HB := n5_; clear n0_ n1_ n2_ n3_ n4_ n5_; (try clear hb); (try clear ho0); obtain ⟨Ao31, co31, eo31⟩ := Kd.R_slice HO427.out; subst eo31; obtain ⟨Ao32, co32, eo32⟩ := Kd.R_slice HO431.out; subst eo32) | ((with_reducible refine gate_callee (f := 12) rfl ?_); refine goesL_ (some 49) rfl rfl Try.func12 (by kernel_rfl) rfl #[.slice Ao31 t425.length co31, .slice Ao32 t429.length co32] rfl (by (try simp only [List.map_toArray, List.map_cons, List.map_nil]) <;> rfl) ?_; (with_reducible refine (outpostlaw32_same.calls _ _ t425 _ _ t429 true _ ?side1 ?side2 ?side3 ?side4 A15.out).mono ?_); (case side1 => repeat (first | exact (Kd.R_reads' HO427.out).2.2 | (with_reducible refine Kd.C_alloc ?_ _) | (with_reducible refine Kd.C_drewN ?_ _) | (with_reducible refine Kd.C_drew ?_))); (case side2 => exact (Kd.R_reads' HO427.out).2.1); (case side3 => repeat (first | exact (Kd.R_reads' HO431.out).2.2 | (with_reducible refine Kd.C_alloc ?_ _) | (with_reducible refine Kd.C_drewN ?_ _) | (with_reducible refine Kd.C_drew ?_))); (case side4 => exact (Kd.R_reads' HO431.out).2.1); rintro e w' ⟨rfl, ⟨nd, rfl⟩⟩; refine ⟨_, rfl, ?_⟩) | (go_at_call 13; (with_reducible refine (outpostlaw32_num.calls t428 t434 _ A17.out).mono ?_); rintro e w' ⟨rfl, ⟨nd, rfl⟩⟩) | (go_at_call 14; (with_reducible refine (outpostlaw01_Stays.calls _ _ t419 _ _ l1 true _ ?side1 ?side2 ?side3 ?side4 A19.out).mono ?_); (case side1 => exact Kd.L_any (d := Kd.int .u8) (mvL HO421.out)); (case side2 => exact (Kd.L_reads' HO421.out).2.1); (case side3 => repeat (first | exact (Kd.C_below HR1.out (by repeat (first | (with_reducible first | exact HB.out | apply hA | apply hN | apply hD | refine below_set ?_ GE413.out) | exact HB.out))) | (with_reducible refine Kd.C_alloc ?_ _) | (with_reducible refine Kd.C_drewN ?_ _) | (with_reducible refine Kd.C_drew ?_))); (case side4 => exact HC1.out); rintro e w' ⟨rfl, ⟨nd, rfl⟩⟩) | (go_at_call 14; (with_reducible refine (outpostlaw01_Stays.calls _ _ t422 _ _ l2 true _ ?side1 ?side2 ?side3 ?side4 A21.out).mono ?_); (case side1 => exact Kd.L_any (d := Kd.int .u8) (mvL HO424.out)); (case side2 => exact (Kd.L_reads' HO424.out).2.1); (case side3 => repeat (first | exact (Kd.C_below HR2.out (by repeat (first | (with_reducible first | exact HB.out | apply hA | apply hN | apply hD | refine below_set ?_ GE413.out) | exact HB.out))) | (with_reducible refine Kd.C_alloc ?_ _) | (with_reducible refine Kd.C_drewN ?_ _) | (with_reducible refine Kd.C_drew ?_))); (case side4 => exact HC2.out); rintro e w' ⟨rfl, ⟨nd, rfl⟩⟩) | (go_at_call 15; obtain ⟨rfl, hz_⟩ := outpostlaw01_ApartBytes.says A23.out; have ra0_ : Go.Proofs.YtjdkamhnbheofaaW.Ap.Rw w30 w.heap.size 5 [] (fun _ => []) := Go.Proofs.YtjdkamhnbheofaaW.Ap.Rw.nil _ _ _ _; have ra1_ := Go.Proofs.YtjdkamhnbheofaaW.Ap.Rw.cons ra0_ (Kd.own_of_R HO427.out) (fun v hv => by simp at hv); have rp0_1 : (.slice Ao31 t425.length co31 : Value).ownBlock = none ∨ (.slice Ao31 t425.length co31 : Value).ownBlock ≠ (.slice Ao26 t419.length co26 : Value).ownBlock := (by first | exact Go.Proofs.YtjdkamhnbheofaaW.Ap.apart_of (HO427.out.1) (fun k hk => by with_reducible first | exact hk.2 | exact hk.1.2 | exact hk.1.1.2 | exact hk.1.1.1.2 | exact hk.1.1.1.1.2 | exact hk.1.1.1.1.1.2 | exact hk.1.1.1.1.1.1.2 | exact hk.1.1.1.1.1.1.1.2 | exact hk.1.1.1.1.1.1.1.1.2 | exact hk.1.1.1.1.1.1.1.1.1.2) | exact Go.Proofs.YtjdkamhnbheofaaW.Ap.apart_symm (Go.Proofs.YtjdkamhnbheofaaW.Ap.apart_of ((Kd.L_R HO421.out).1) (fun k hk => by with_reducible first | exact hk.2 | exact hk.1.2 | exact hk.1.1.2 | exact hk.1.1.1.2 | exact hk.1.1.1.1.2 | exact hk.1.1.1.1.1.2 | exact hk.1.1.1.1.1.1.2 | exact hk.1.1.1.1.1.1.1.2 | exact hk.1.1.1.1.1.1.1.1.2 | exact hk.1.1.1.1.1.1.1.1.1.2))); have ra2_ := Go.Proofs.YtjdkamhnbheofaaW.Ap.Rw.cons ra1_ (Kd.own_of_R (Kd.L_R HO421.out)) (fun v hv => by simp only [List.nil_append, List.cons_append, List.mem_cons, List.not_mem_nil, or_false] at hv; subst hv; exact rp0_1); have rp0_2 : (.slice Ao31 t425.length co31 : Value).ownBlock = none ∨ (.slice Ao31 t425.length co31 : Value).ownBlock ≠ (.slice Ao27 t422.length co27 : Value).ownBlock := (by first | exact Go.Proofs.YtjdkamhnbheofaaW.Ap.apart_of (HO427.out.1) (fun k hk => by with_reducible first | exact hk.2 | exact hk.1.2 | exact hk.1.1.2 | exact hk.1.1.1.2 | exact hk.1.1.1.1.2 | exact hk.1.1.1.1.1.2 | exact hk.1.1.1.1.1.1.2 | exact hk.1.1.1.1.1.1.1.2 | exact hk.1.1.1.1.1.1.1.1.2 | exact hk.1.1.1.1.1.1.1.1.1.2) | exact Go.Proofs.YtjdkamhnbheofaaW.Ap.apart_symm (Go.Proofs.YtjdkamhnbheofaaW.Ap.apart_of ((Kd.L_R HO424.out).1) (fun k hk => by with_reducible first | exact hk.2 | exact hk.1.2 | exact hk.1.1.2 | exact hk.1.1.1.2 | exact hk.1.1.1.1.2 | exact hk.1.1.1.1.1.2 | exact hk.1.1.1.1.1.1.2 | exact hk.1.1.1.1.1.1.1.2 | exact hk.1.1.1.1.1.1.1.1.2 | exact hk.1.1.1.1.1.1.1.1.1.2))); have rp1_2 : (.slice Ao26 t419.length co26 : Value).ownBlock = none ∨ (.slice Ao26 t419.length co26 : Value).ownBlock ≠ (.slice Ao27 t422.length co27 : Value).ownBlock := (by first | exact Go.Proofs.YtjdkamhnbheofaaW.Ap.apart_of ((Kd.L_R HO421.out).1) (fun k hk => by with_reducible first | exact hk.2 | exact hk.1.2 | exact hk.1.1.2 | exact hk.1.1.1.2 | exact hk.1.1.1.1.2 | exact hk.1.1.1.1.1.2 | exact hk.1.1.1.1.1.1.2 | exact hk.1.1.1.1.1.1.1.2 | exact hk.1.1.1.1.1.1.1.1.2 | exact hk.1.1.1.1.1.1.1.1.1.2) | exact Go.Proofs.YtjdkamhnbheofaaW.Ap.apart_symm (Go.Proofs.YtjdkamhnbheofaaW.Ap.apart_of ((Kd.L_R HO424.out).1) (fun k hk => by with_reducible first | exact hk.2 | exact hk.1.2 | exact hk.1.1.2 | exact hk.1.1.1.2 | exact hk.1.1.1.1.2 | exact hk.1.1.1.1.1.2 | exact hk.1.1.1.1.1.1.2 | exact hk.1.1.1.1.1.1.1.2 | exact hk.1.1.1.1.1.1.1.1.2 | exact hk.1.1.1.1.1.1.1.1.1.2))); have ra3_ := Go.Proofs.YtjdkamhnbheofaaW.Ap.Rw.cons ra2_ (Kd.own_of_R (Kd.L_R HO424.out)) (fun v hv => by simp only [List.nil_append, List.cons_append, List.mem_cons, List.not_mem_nil, or_false] at hv; rcases hv with rfl | rfl <;> first | exact rp0_2 | exact rp1_2); have RA : Aside0 (Go.Proofs.YtjdkamhnbheofaaW.Ap.Rw w30 w.heap.size 5 [.slice Ao31 t425.length co31, .slice Ao26 t419.length co26, .slice Ao27 t422.length co27] (Go.Proofs.YtjdkamhnbheofaaW.Ap.push (Go.Proofs.YtjdkamhnbheofaaW.Ap.push (Go.Proofs.YtjdkamhnbheofaaW.Ap.push (fun _ => []) 0 t425) 1 t419) 2 t422)) := ⟨ra3_⟩; clear ra0_ ra1_ ra2_ ra3_ rp0_1 rp0_2 rp1_2; refine (outpostlaw01_ApartBytes.calls _ w.heap.size _ _ [.slice Ao31 t425.length co31, .slice Ao26 t419.length co26, .slice Ao27 t422.length co27] (Go.Proofs.YtjdkamhnbheofaaW.Ap.push (Go.Proofs.YtjdkamhnbheofaaW.Ap.push (Go.Proofs.YtjdkamhnbheofaaW.Ap.push (fun _ => []) 0 t425) 1 t419) 2 t422) ?side1 ?side2 ?side3 ?side4 ?side5).mono ?_; (case side1 => exact Go.Proofs.YtjdkamhnbheofaaW.Ap.lit_st (Go.Proofs.YtjdkamhnbheofaaW.Ap.Rw.below RA.out (by repeat (first | exact Below.refl _ _ | apply pw_below_drewN | apply below_drew1))) (below_size (mvh HB.out)) (show (3 : Nat) ≤ maxLen by decide) (by decide)); (case side2 => simp); (case side3 => exact below_size (mvh HB.out)); (case side4 => exact (show (3 : Nat) ≤ 4611686018427387000 by decide)); (case side5 => exact (Go.Proofs.YtjdkamhnbheofaaW.Ap.push_le (Go.Proofs.YtjdkamhnbheofaaW.Ap.push_le (Go.Proofs.YtjdkamhnbheofaaW.Ap.push_le (fun _ => Nat.zero_le _) (hz_ t425 (by rw [Ny437.out]; simp))) (hz_ t419 (by rw [Ny437.out]; simp))) (hz_ t422 (by rw [Ny437.out]; simp)))); rintro e w36 ⟨rfl, hb⟩; have n0_ := aK (((mvh HB.out) : Below w.heap.size w _).trans hb); clear HB hb; have HB := n0_; clear n0_))
        go_ret
        exact ⟨by first | rfl | (simp [errW_none, errW_some] <;> rfl) | (simp [*, errW_none, errW_some] <;> rfl), below_step HB00.out (by repeat (first | (with_reducible first | exact HB.out | apply hA | apply hN | apply hD | refine below_set ?_ GE413.out) | exact HB.out))⟩
       ·replace c22 := Bool.eq_false_iff.mpr c22
        subst c22
        have H1 : (some false) = some r := by rw [if_neg (show ¬ (false = true) by decide)] at H; exact H
        clear H
        have H := H1
        clear H1
        obtain rfl := Option.some.inj H
        go_wp2_with (first | ((with_reducible refine gate_callee (f := 9) rfl ?_); refine goesL_ (some 30) rfl rfl Try.func9 (by kernel_rfl) rfl #[.slice A1 l1.length c1] rfl (by (try simp only [List.map_toArray, List.map_cons, List.map_nil]) <;> rfl) ?_; (with_reducible refine (outpostlaw01_Lent.calls _ _ l1 t419 _ ?side1 ?side2 A11.out).mono ?_); (case side1 => repeat (first | exact (Kd.C_below HR1.out HB.out) | (with_reducible refine Kd.C_alloc ?_ _) | (with_reducible refine Kd.C_drewN ?_ _) | (with_reducible refine Kd.C_drew ?_))); (case side2 => exact HC1.out); rintro e w37 ⟨v420, rfl, ho0, hb⟩; refine ⟨_, rfl, ?_⟩; have n0_ := aK (Kd.L_lower ho0 (below_size (by repeat (first | (with_reducible first | exact HB.out | apply hA | apply hN | apply hD | refine below_set ?_ GE413.out) | exact HB.out)))); have n1_ := aK (kb BK413.out hb); have n2_ := aK (below_step (by repeat (first | (with_reducible first | exact HB.out | apply hA | apply hN | apply hD | refine below_set ?_ GE413.out) | exact HB.out)) hb); clear BK413 HB; have HO421 := n0_; have BK413 := n1_; have HB := n2_; clear n0_ n1_ n2_; (try clear hb); (try clear ho0)) | ((with_reducible refine gate_callee (f := 9) rfl ?_); refine goesL_ (some 32) rfl rfl Try.func9 (by kernel_rfl) rfl #[.slice A2 l2.length c2] rfl (by (try simp only [List.map_toArray, List.map_cons, List.map_nil]) <;> rfl) ?_; (with_reducible refine (outpostlaw01_Lent.calls _ _ l2 t422 _ ?side1 ?side2 A12.out).mono ?_); (case side1 => repeat (first | exact (Kd.C_below HR2.out HB.out) | (with_reducible refine Kd.C_alloc ?_ _) | (with_reducible refine Kd.C_drewN ?_ _) | (with_reducible refine Kd.C_drew ?_))); (case side2 => exact HC2.out); rintro e w38 ⟨v423, rfl, ho0, hb⟩; refine ⟨_, rfl, ?_⟩; have n0_ := aK (Kd.L_elder' (mvL HO421.out) (Kd.L_base ho0) hb); have n1_ := aK (Kd.L_lower (Kd.L_new' ho0 (Kd.L_lt (mvL HO421.out))) (below_size (by repeat (first | (with_reducible first | exact HB.out | apply hA | apply hN | apply hD | refine below_set ?_ GE413.out) | exact HB.out)))); have n2_ := aK (kb BK413.out hb); have n3_ := aK (below_step (by repeat (first | (with_reducible first | exact HB.out | apply hA | apply hN | apply hD | refine below_set ?_ GE413.out) | exact HB.out)) hb); clear HO421 BK413 HB; have HO421 := n0_; have HO424 := n1_; have BK413 := n2_; have HB := n3_; clear n0_ n1_ n2_ n3_; (try clear hb); (try clear ho0); obtain ⟨Ao39, co39, eo39⟩ := Kd.L_slice HO421.out; subst eo39; obtain ⟨Ao40, co40, eo40⟩ := Kd.L_slice HO424.out; subst eo40) | ((with_reducible refine gate_callee (f := 10) rfl ?_); refine goesL_ (some 37) rfl rfl Try.func10 (by kernel_rfl) rfl #[.pointer Ap415, .slice Ao39 t419.length co39, .slice Ao40 t422.length co40] rfl (by (try simp only [List.map_toArray, List.map_cons, List.map_nil]) <;> rfl) ?_; (with_reducible refine (galois_Tables_Through.calls kj4 _ t414 (fun k_ => some k_ = (.slice Ao39 t419.length co39 : Value).ownBlock) _ _ t419 (fun k_ => some k_ = (.slice Ao40 t422.length co40 : Value).ownBlock) _ _ t422 t425 t428 _ ?side1 ?side2 ?side3 A13.out).mono ?_); (case side1 => exact (gal_OK_below HT416.out HB.out)); (case side2 => exact Kd.L_V (Kd.L_tight rfl (Kd.L_types (HO421.out) BK413.out (by decide)))); (case side3 => exact Kd.L_V (Kd.L_tight rfl (Kd.L_types (HO424.out) BK413.out (by decide)))); rintro e w41 ⟨v426, rfl, ho0, hb⟩; refine ⟨_, rfl, ?_⟩; have n0_ := aK (Kd.L_elder' (mvL HO421.out) (Kd.R_base ho0) hb); have n1_ := aK (Kd.L_elder' (mvL HO424.out) (Kd.R_base ho0) hb); have n2_ := aK (Kd.R_lower (Kd.R_new' (Kd.R_new' (Kd.R_mono (ok' := fun k_ => True) ho0 (fun _ hk_ => trivial)) (Kd.L_lt (mvL HO421.out))) (Kd.L_lt (mvL HO424.out))) (below_size (by repeat (first | (with_reducible first | exact HB.out | apply hA | apply hN | apply hD | refine below_set ?_ GE413.out) | exact HB.out)))); have n3_ := aK (kb BK413.out hb); have n4_ := aK (below_step (by repeat (first | (with_reducible first | exact HB.out | apply hA | apply hN | apply hD | refine below_set ?_ GE413.out) | exact HB.out)) hb); clear HO421 HO424 BK413 HB; have HO421 := n0_; have HO424 := n1_; have HO427 := n2_; have BK413 := n3_; have HB := n4_; clear n0_ n1_ n2_ n3_ n4_; (try clear hb); (try clear ho0); obtain ⟨hcz42_0, hcz42_1, hfz42_0, hfz42_1⟩ := cf2 BK413.out) | ((with_reducible refine gate_callee (f := 11) rfl ?_); refine goesL_ (some 44) rfl rfl Try.func11 (by kernel_rfl) rfl #[.agg #[.int .i64 a0_0, .int .u64 a0_1], .slice A1 l1.length c1, .slice A2 l2.length c2] rfl (by (try simp only [List.map_toArray, List.map_cons, List.map_nil]) <;> rfl) ?_; (with_reducible refine (outpostref32_Through.calls kj4 a0_0 a0_1 _ _ l1 _ _ l2 t429 t432 _ ?side1 ?side2 ?side3 ?side4 A14.out).mono ?_); (case side1 => repeat (first | exact (Kd.C_below HR1.out HB.out) | (with_reducible refine Kd.C_alloc ?_ _) | (with_reducible refine Kd.C_drewN ?_ _) | (with_reducible refine Kd.C_drew ?_))); (case side2 => exact HC1.out); (case side3 => repeat (first | exact (Kd.C_below HR2.out HB.out) | (with_reducible refine Kd.C_alloc ?_ _) | (with_reducible refine Kd.C_drewN ?_ _) | (with_reducible refine Kd.C_drew ?_))); (case side4 => exact HC2.out); rintro e w43 ⟨v430, rfl, ho0, hb⟩; refine ⟨_, rfl, ?_⟩; have n0_ := aK (Kd.L_elder' (mvL HO421.out) (Kd.R_base ho0) hb); have n1_ := aK (Kd.L_elder' (mvL HO424.out) (Kd.R_base ho0) hb); have n2_ := aK (Kd.R_elder' (mvR HO427.out) (Kd.R_base ho0) hb); have n3_ := aK (Kd.R_lower (Kd.R_new' (Kd.R_new' (Kd.R_new' ho0 (Kd.L_lt (mvL HO421.out))) (Kd.L_lt (mvL HO424.out))) (Kd.R_lt (mvR HO427.out))) (below_size (by repeat (first | (with_reducible first | exact HB.out | apply hA | apply hN | apply hD | refine below_set ?_ GE413.out) | exact HB.out)))); have n4_ := aK (kb BK413.out hb); have n5_ := aK (below_step (by repeat (first | (with_reducible first | exact HB.out | apply hA | apply hN | apply hD | refine below_set ?_ GE413.out) | exact HB.out)) hb); clear HO421 HO424 HO427 BK413 HB; have HO421 := n0_; have HO424 := n1_; have HO427 := n2_; have HO431 := n3_; have BK413 := n4_; have HB := n5_; clear n0_ n1_ n2_ n3_ n4_ n5_; (try clear hb); (try clear ho0); obtain ⟨Ao44, co44, eo44⟩ := Kd.R_slice HO427.out; subst eo44; obtain ⟨Ao45, co45, eo45⟩ := Kd.R_slice HO431.out; subst eo45) | ((with_reducible refine gate_callee (f := 12) rfl ?_); refine goesL_ (some 49) rfl rfl Try.func12 (by kernel_rfl) rfl #[.slice Ao44 t425.length co44, .slice Ao45 t429.length co45] rfl (by (try simp only [List.map_toArray, List.map_cons, List.map_nil]) <;> rfl) ?_; (with_reducible refine (outpostlaw32_same.calls _ _ t425 _ _ t429 true _ ?side1 ?side2 ?side3 ?side4 A15.out).mono ?_); (case side1 => repeat (first | exact (Kd.R_reads' HO427.out).2.2 | (with_reducible refine Kd.C_alloc ?_ _) | (with_reducible refine Kd.C_drewN ?_ _) | (with_reducible refine Kd.C_drew ?_))); (case side2 => exact (Kd.R_reads' HO427.out).2.1); (case side3 => repeat (first | exact (Kd.R_reads' HO431.out).2.2 | (with_reducible refine Kd.C_alloc ?_ _) | (with_reducible refine Kd.C_drewN ?_ _) | (with_reducible refine Kd.C_drew ?_))); (case side4 => exact (Kd.R_reads' HO431.out).2.1); rintro e w' ⟨rfl, ⟨nd, rfl⟩⟩; refine ⟨_, rfl, ?_⟩) | (go_at_call 13; (with_reducible refine (outpostlaw32_num.calls t428 t434 _ A17.out).mono ?_); rintro e w' ⟨rfl, ⟨nd, rfl⟩⟩) | (go_at_call 14; (with_reducible refine (outpostlaw01_Stays.calls _ _ t419 _ _ l1 true _ ?side1 ?side2 ?side3 ?side4 A19.out).mono ?_); (case side1 => exact Kd.L_any (d := Kd.int .u8) (mvL HO421.out)); (case side2 => exact (Kd.L_reads' HO421.out).2.1); (case side3 => repeat (first | exact (Kd.C_below HR1.out (by repeat (first | (with_reducible first | exact HB.out | apply hA | apply hN | apply hD | refine below_set ?_ GE413.out) | exact HB.out))) | (with_reducible refine Kd.C_alloc ?_ _) | (with_reducible refine Kd.C_drewN ?_ _) | (with_reducible refine Kd.C_drew ?_))); (case side4 => exact HC1.out); rintro e w' ⟨rfl, ⟨nd, rfl⟩⟩) | (go_at_call 14; (with_reducible refine (outpostlaw01_Stays.calls _ _ t422 _ _ l2 false _ ?side1 ?side2 ?side3 ?side4 A21.out).mono ?_); (case side1 => exact Kd.L_any (d := Kd.int .u8) (mvL HO424.out)); (case side2 => exact (Kd.L_reads' HO424.out).2.1); (case side3 => repeat (first | exact (Kd.C_below HR2.out (by repeat (first | (with_reducible first | exact HB.out | apply hA | apply hN | apply hD | refine below_set ?_ GE413.out) | exact HB.out))) | (with_reducible refine Kd.C_alloc ?_ _) | (with_reducible refine Kd.C_drewN ?_ _) | (with_reducible refine Kd.C_drew ?_))); (case side4 => exact HC2.out); rintro e w' ⟨rfl, ⟨nd, rfl⟩⟩))
        go_ret
        exact ⟨by first | rfl | (simp [errW_none, errW_some] <;> rfl) | (simp [*, errW_none, errW_some] <;> rfl), below_step HB00.out (by repeat (first | (with_reducible first | exact HB.out | apply hA | apply hN | apply hD | refine below_set ?_ GE413.out) | exact HB.out))⟩
      ·replace c20 := Bool.eq_false_iff.mpr c20
       subst c20
       have H1 : (some false) = some r := by rw [if_neg (show ¬ (false = true) by decide)] at H; exact H
       clear H
       have H := H1
       clear H1
       obtain rfl := Option.some.inj H
       go_wp2_with (first | ((with_reducible refine gate_callee (f := 9) rfl ?_); refine goesL_ (some 30) rfl rfl Try.func9 (by kernel_rfl) rfl #[.slice A1 l1.length c1] rfl (by (try simp only [List.map_toArray, List.map_cons, List.map_nil]) <;> rfl) ?_; (with_reducible refine (outpostlaw01_Lent.calls _ _ l1 t419 _ ?side1 ?side2 A11.out).mono ?_); (case side1 => repeat (first | exact (Kd.C_below HR1.out HB.out) | (with_reducible refine Kd.C_alloc ?_ _) | (with_reducible refine Kd.C_drewN ?_ _) | (with_reducible refine Kd.C_drew ?_))); (case side2 => exact HC1.out); rintro e w46 ⟨v420, rfl, ho0, hb⟩; refine ⟨_, rfl, ?_⟩; have n0_ := aK (Kd.L_lower ho0 (below_size (by repeat (first | (with_reducible first | exact HB.out | apply hA | apply hN | apply hD | refine below_set ?_ GE413.out) | exact HB.out)))); have n1_ := aK (kb BK413.out hb); have n2_ := aK (below_step (by repeat (first | (with_reducible first | exact HB.out | apply hA | apply hN | apply hD | refine below_set ?_ GE413.out) | exact HB.out)) hb); clear BK413 HB; have HO421 := n0_; have BK413 := n1_; have HB := n2_; clear n0_ n1_ n2_; (try clear hb); (try clear ho0)) | ((with_reducible refine gate_callee (f := 9) rfl ?_); refine goesL_ (some 32) rfl rfl Try.func9 (by kernel_rfl) rfl #[.slice A2 l2.length c2] rfl (by (try simp only [List.map_toArray, List.map_cons, List.map_nil]) <;> rfl) ?_; (with_reducible refine (outpostlaw01_Lent.calls _ _ l2 t422 _ ?side1 ?side2 A12.out).mono ?_); (case side1 => repeat (first | exact (Kd.C_below HR2.out HB.out) | (with_reducible refine Kd.C_alloc ?_ _) | (with_reducible refine Kd.C_drewN ?_ _) | (with_reducible refine Kd.C_drew ?_))); (case side2 => exact HC2.out); rintro e w47 ⟨v423, rfl, ho0, hb⟩; refine ⟨_, rfl, ?_⟩; have n0_ := aK (Kd.L_elder' (mvL HO421.out) (Kd.L_base ho0) hb); have n1_ := aK (Kd.L_lower (Kd.L_new' ho0 (Kd.L_lt (mvL HO421.out))) (below_size (by repeat (first | (with_reducible first | exact HB.out | apply hA | apply hN | apply hD | refine below_set ?_ GE413.out) | exact HB.out)))); have n2_ := aK (kb BK413.out hb); have n3_ := aK (below_step (by repeat (first | (with_reducible first | exact HB.out | apply hA | apply hN | apply hD | refine below_set ?_ GE413.out) | exact HB.out)) hb); clear HO421 BK413 HB; have HO421 := n0_; have HO424 := n1_; have BK413 := n2_; have HB := n3_; clear n0_ n1_ n2_ n3_; (try clear hb); (try clear ho0); obtain ⟨Ao48, co48, eo48⟩ := Kd.L_slice HO421.out; subst eo48; obtain ⟨Ao49, co49, eo49⟩ := Kd.L_slice HO424.out; subst eo49) | ((with_reducible refine gate_callee (f := 10) rfl ?_); refine goesL_ (some 37) rfl rfl Try.func10 (by kernel_rfl) rfl #[.pointer Ap415, .slice Ao48 t419.length co48, .slice Ao49 t422.length co49] rfl (by (try simp only [List.map_toArray, List.map_cons, List.map_nil]) <;> rfl) ?_; (with_reducible refine (galois_Tables_Through.calls kj4 _ t414 (fun k_ => some k_ = (.slice Ao48 t419.length co48 : Value).ownBlock) _ _ t419 (fun k_ => some k_ = (.slice Ao49 t422.length co49 : Value).ownBlock) _ _ t422 t425 t428 _ ?side1 ?side2 ?side3 A13.out).mono ?_); (case side1 => exact (gal_OK_below HT416.out HB.out)); (case side2 => exact Kd.L_V (Kd.L_tight rfl (Kd.L_types (HO421.out) BK413.out (by decide)))); (case side3 => exact Kd.L_V (Kd.L_tight rfl (Kd.L_types (HO424.out) BK413.out (by decide)))); rintro e w50 ⟨v426, rfl, ho0, hb⟩; refine ⟨_, rfl, ?_⟩; have n0_ := aK (Kd.L_elder' (mvL HO421.out) (Kd.R_base ho0) hb); have n1_ := aK (Kd.L_elder' (mvL HO424.out) (Kd.R_base ho0) hb); have n2_ := aK (Kd.R_lower (Kd.R_new' (Kd.R_new' (Kd.R_mono (ok' := fun k_ => True) ho0 (fun _ hk_ => trivial)) (Kd.L_lt (mvL HO421.out))) (Kd.L_lt (mvL HO424.out))) (below_size (by repeat (first | (with_reducible first | exact HB.out | apply hA | apply hN | apply hD | refine below_set ?_ GE413.out) | exact HB.out)))); have n3_ := aK (kb BK413.out hb); have n4_ := aK (below_step (by repeat (first | (with_reducible first | exact HB.out | apply hA | apply hN | apply hD | refine below_set ?_ GE413.out) | exact HB.out)) hb); clear HO421 HO424 BK413 HB; have HO421 := n0_; have HO424 := n1_; have HO427 := n2_; have BK413 := n3_; have HB := n4_; clear n0_ n1_ n2_ n3_ n4_; (try clear hb); (try clear ho0); obtain ⟨hcz51_0, hcz51_1, hfz51_0, hfz51_1⟩ := cf2 BK413.out) | ((with_reducible refine gate_callee (f := 11) rfl ?_); refine goesL_ (some 44) rfl rfl Try.func11 (by kernel_rfl) rfl #[.agg #[.int .i64 a0_0, .int .u64 a0_1], .slice A1 l1.length c1, .slice A2 l2.length c2] rfl (by (try simp only [List.map_toArray, List.map_cons, List.map_nil]) <;> rfl) ?_; (with_reducible refine (outpostref32_Through.calls kj4 a0_0 a0_1 _ _ l1 _ _ l2 t429 t432 _ ?side1 ?side2 ?side3 ?side4 A14.out).mono ?_); (case side1 => repeat (first | exact (Kd.C_below HR1.out HB.out) | (with_reducible refine Kd.C_alloc ?_ _) | (with_reducible refine Kd.C_drewN ?_ _) | (with_reducible refine Kd.C_drew ?_))); (case side2 => exact HC1.out); (case side3 => repeat (first | exact (Kd.C_below HR2.out HB.out) | (with_reducible refine Kd.C_alloc ?_ _) | (with_reducible refine Kd.C_drewN ?_ _) | (with_reducible refine Kd.C_drew ?_))); (case side4 => exact HC2.out); rintro e w52 ⟨v430, rfl, ho0, hb⟩; refine ⟨_, rfl, ?_⟩; have n0_ := aK (Kd.L_elder' (mvL HO421.out) (Kd.R_base ho0) hb); have n1_ := aK (Kd.L_elder' (mvL HO424.out) (Kd.R_base ho0) hb); have n2_ := aK (Kd.R_elder' (mvR HO427.out) (Kd.R_base ho0) hb); have n3_ := aK (Kd.R_lower (Kd.R_new' (Kd.R_new' (Kd.R_new' ho0 (Kd.L_lt (mvL HO421.out))) (Kd.L_lt (mvL HO424.out))) (Kd.R_lt (mvR HO427.out))) (below_size (by repeat (first | (with_reducible first | exact HB.out | apply hA | apply hN | apply hD | refine below_set ?_ GE413.out) | exact HB.out)))); have n4_ := aK (kb BK413.out hb); have n5_ := aK (below_step (by repeat (first | (with_reducible first | exact HB.out | apply hA | apply hN | apply hD | refine below_set ?_ GE413.out) | exact HB.out)) hb); clear HO421 HO424 HO427 BK413 HB; have HO421 := n0_; have HO424 := n1_; have HO427 := n2_; have HO431 := n3_; have BK413 := n4_; have HB := n5_; clear n0_ n1_ n2_ n3_ n4_ n5_; (try clear hb); (try clear ho0); obtain ⟨Ao53, co53, eo53⟩ := Kd.R_slice HO427.out; subst eo53; obtain ⟨Ao54, co54, eo54⟩ := Kd.R_slice HO431.out; subst eo54) | ((with_reducible refine gate_callee (f := 12) rfl ?_); refine goesL_ (some 49) rfl rfl Try.func12 (by kernel_rfl) rfl #[.slice Ao53 t425.length co53, .slice Ao54 t429.length co54] rfl (by (try simp only [List.map_toArray, List.map_cons, List.map_nil]) <;> rfl) ?_; (with_reducible refine (outpostlaw32_same.calls _ _ t425 _ _ t429 true _ ?side1 ?side2 ?side3 ?side4 A15.out).mono ?_); (case side1 => repeat (first | exact (Kd.R_reads' HO427.out).2.2 | (with_reducible refine Kd.C_alloc ?_ _) | (with_reducible refine Kd.C_drewN ?_ _) | (with_reducible refine Kd.C_drew ?_))); (case side2 => exact (Kd.R_reads' HO427.out).2.1); (case side3 => repeat (first | exact (Kd.R_reads' HO431.out).2.2 | (with_reducible refine Kd.C_alloc ?_ _) | (with_reducible refine Kd.C_drewN ?_ _) | (with_reducible refine Kd.C_drew ?_))); (case side4 => exact (Kd.R_reads' HO431.out).2.1); rintro e w' ⟨rfl, ⟨nd, rfl⟩⟩; refine ⟨_, rfl, ?_⟩) | (go_at_call 13; (with_reducible refine (outpostlaw32_num.calls t428 t434 _ A17.out).mono ?_); rintro e w' ⟨rfl, ⟨nd, rfl⟩⟩) | (go_at_call 14; (with_reducible refine (outpostlaw01_Stays.calls _ _ t419 _ _ l1 false _ ?side1 ?side2 ?side3 ?side4 A19.out).mono ?_); (case side1 => exact Kd.L_any (d := Kd.int .u8) (mvL HO421.out)); (case side2 => exact (Kd.L_reads' HO421.out).2.1); (case side3 => repeat (first | exact (Kd.C_below HR1.out (by repeat (first | (with_reducible first | exact HB.out | apply hA | apply hN | apply hD | refine below_set ?_ GE413.out) | exact HB.out))) | (with_reducible refine Kd.C_alloc ?_ _) | (with_reducible refine Kd.C_drewN ?_ _) | (with_reducible refine Kd.C_drew ?_))); (case side4 => exact HC1.out); rintro e w' ⟨rfl, ⟨nd, rfl⟩⟩))
       go_ret
       exact ⟨by first | rfl | (simp [errW_none, errW_some] <;> rfl) | (simp [*, errW_none, errW_some] <;> rfl), below_step HB00.out (by repeat (first | (with_reducible first | exact HB.out | apply hA | apply hN | apply hD | refine below_set ?_ GE413.out) | exact HB.out))⟩
     ·rw [if_neg c18] at H
      have c18b0 : (t434 == t432) = false := beq_eq_false_iff_ne.mpr c18
      have c18b1 : (t434 != t432) = true := bne_iff_ne.mpr c18
      obtain rfl := Option.some.inj H
      go_wp2_with (first | ((with_reducible refine gate_callee (f := 9) rfl ?_); refine goesL_ (some 30) rfl rfl Try.func9 (by kernel_rfl) rfl #[.slice A1 l1.length c1] rfl (by (try simp only [List.map_toArray, List.map_cons, List.map_nil]) <;> rfl) ?_; (with_reducible refine (outpostlaw01_Lent.calls _ _ l1 t419 _ ?side1 ?side2 A11.out).mono ?_); (case side1 => repeat (first | exact (Kd.C_below HR1.out HB.out) | (with_reducible refine Kd.C_alloc ?_ _) | (with_reducible refine Kd.C_drewN ?_ _) | (with_reducible refine Kd.C_drew ?_))); (case side2 => exact HC1.out); rintro e w55 ⟨v420, rfl, ho0, hb⟩; refine ⟨_, rfl, ?_⟩; have n0_ := aK (Kd.L_lower ho0 (below_size (by repeat (first | (with_reducible first | exact HB.out | apply hA | apply hN | apply hD | refine below_set ?_ GE413.out) | exact HB.out)))); have n1_ := aK (kb BK413.out hb); have n2_ := aK (below_step (by repeat (first | (with_reducible first | exact HB.out | apply hA | apply hN | apply hD | refine below_set ?_ GE413.out) | exact HB.out)) hb); clear BK413 HB; have HO421 := n0_; have BK413 := n1_; have HB := n2_; clear n0_ n1_ n2_; (try clear hb); (try clear ho0)) | ((with_reducible refine gate_callee (f := 9) rfl ?_); refine goesL_ (some 32) rfl rfl Try.func9 (by kernel_rfl) rfl #[.slice A2 l2.length c2] rfl (by (try simp only [List.map_toArray, List.map_cons, List.map_nil]) <;> rfl) ?_; (with_reducible refine (outpostlaw01_Lent.calls _ _ l2 t422 _ ?side1 ?side2 A12.out).mono ?_); (case side1 => repeat (first | exact (Kd.C_below HR2.out HB.out) | (with_reducible refine Kd.C_alloc ?_ _) | (with_reducible refine Kd.C_drewN ?_ _) | (with_reducible refine Kd.C_drew ?_))); (case side2 => exact HC2.out); rintro e w56 ⟨v423, rfl, ho0, hb⟩; refine ⟨_, rfl, ?_⟩; have n0_ := aK (Kd.L_elder' (mvL HO421.out) (Kd.L_base ho0) hb); have n1_ := aK (Kd.L_lower (Kd.L_new' ho0 (Kd.L_lt (mvL HO421.out))) (below_size (by repeat (first | (with_reducible first | exact HB.out | apply hA | apply hN | apply hD | refine below_set ?_ GE413.out) | exact HB.out)))); have n2_ := aK (kb BK413.out hb); have n3_ := aK (below_step (by repeat (first | (with_reducible first | exact HB.out | apply hA | apply hN | apply hD | refine below_set ?_ GE413.out) | exact HB.out)) hb); clear HO421 BK413 HB; have HO421 := n0_; have HO424 := n1_; have BK413 := n2_; have HB := n3_; clear n0_ n1_ n2_ n3_; (try clear hb); (try clear ho0); obtain ⟨Ao57, co57, eo57⟩ := Kd.L_slice HO421.out; subst eo57; obtain ⟨Ao58, co58, eo58⟩ := Kd.L_slice HO424.out; subst eo58) | ((with_reducible refine gate_callee (f := 10) rfl ?_); refine goesL_ (some 37) rfl rfl Try.func10 (by kernel_rfl) rfl #[.pointer Ap415, .slice Ao57 t419.length co57, .slice Ao58 t422.length co58] rfl (by (try simp only [List.map_toArray, List.map_cons, List.map_nil]) <;> rfl) ?_; (with_reducible refine (galois_Tables_Through.calls kj4 _ t414 (fun k_ => some k_ = (.slice Ao57 t419.length co57 : Value).ownBlock) _ _ t419 (fun k_ => some k_ = (.slice Ao58 t422.length co58 : Value).ownBlock) _ _ t422 t425 t428 _ ?side1 ?side2 ?side3 A13.out).mono ?_); (case side1 => exact (gal_OK_below HT416.out HB.out)); (case side2 => exact Kd.L_V (Kd.L_tight rfl (Kd.L_types (HO421.out) BK413.out (by decide)))); (case side3 => exact Kd.L_V (Kd.L_tight rfl (Kd.L_types (HO424.out) BK413.out (by decide)))); rintro e w59 ⟨v426, rfl, ho0, hb⟩; refine ⟨_, rfl, ?_⟩; have n0_ := aK (Kd.L_elder' (mvL HO421.out) (Kd.R_base ho0) hb); have n1_ := aK (Kd.L_elder' (mvL HO424.out) (Kd.R_base ho0) hb); have n2_ := aK (Kd.R_lower (Kd.R_new' (Kd.R_new' (Kd.R_mono (ok' := fun k_ => True) ho0 (fun _ hk_ => trivial)) (Kd.L_lt (mvL HO421.out))) (Kd.L_lt (mvL HO424.out))) (below_size (by repeat (first | (with_reducible first | exact HB.out | apply hA | apply hN | apply hD | refine below_set ?_ GE413.out) | exact HB.out)))); have n3_ := aK (kb BK413.out hb); have n4_ := aK (below_step (by repeat (first | (with_reducible first | exact HB.out | apply hA | apply hN | apply hD | refine below_set ?_ GE413.out) | exact HB.out)) hb); clear HO421 HO424 BK413 HB; have HO421 := n0_; have HO424 := n1_; have HO427 := n2_; have BK413 := n3_; have HB := n4_; clear n0_ n1_ n2_ n3_ n4_; (try clear hb); (try clear ho0); obtain ⟨hcz60_0, hcz60_1, hfz60_0, hfz60_1⟩ := cf2 BK413.out) | ((with_reducible refine gate_callee (f := 11) rfl ?_); refine goesL_ (some 44) rfl rfl Try.func11 (by kernel_rfl) rfl #[.agg #[.int .i64 a0_0, .int .u64 a0_1], .slice A1 l1.length c1, .slice A2 l2.length c2] rfl (by (try simp only [List.map_toArray, List.map_cons, List.map_nil]) <;> rfl) ?_; (with_reducible refine (outpostref32_Through.calls kj4 a0_0 a0_1 _ _ l1 _ _ l2 t429 t432 _ ?side1 ?side2 ?side3 ?side4 A14.out).mono ?_); (case side1 => repeat (first | exact (Kd.C_below HR1.out HB.out) | (with_reducible refine Kd.C_alloc ?_ _) | (with_reducible refine Kd.C_drewN ?_ _) | (with_reducible refine Kd.C_drew ?_))); (case side2 => exact HC1.out); (case side3 => repeat (first | exact (Kd.C_below HR2.out HB.out) | (with_reducible refine Kd.C_alloc ?_ _) | (with_reducible refine Kd.C_drewN ?_ _) | (with_reducible refine Kd.C_drew ?_))); (case side4 => exact HC2.out); rintro e w61 ⟨v430, rfl, ho0, hb⟩; refine ⟨_, rfl, ?_⟩; have n0_ := aK (Kd.L_elder' (mvL HO421.out) (Kd.R_base ho0) hb); have n1_ := aK (Kd.L_elder' (mvL HO424.out) (Kd.R_base ho0) hb); have n2_ := aK (Kd.R_elder' (mvR HO427.out) (Kd.R_base ho0) hb); have n3_ := aK (Kd.R_lower (Kd.R_new' (Kd.R_new' (Kd.R_new' ho0 (Kd.L_lt (mvL HO421.out))) (Kd.L_lt (mvL HO424.out))) (Kd.R_lt (mvR HO427.out))) (below_size (by repeat (first | (with_reducible first | exact HB.out | apply hA | apply hN | apply hD | refine below_set ?_ GE413.out) | exact HB.out)))); have n4_ := aK (kb BK413.out hb); have n5_ := aK (below_step (by repeat (first | (with_reducible first | exact HB.out | apply hA | apply hN | apply hD | refine below_set ?_ GE413.out) | exact HB.out)) hb); clear HO421 HO424 HO427 BK413 HB; have HO421 := n0_; have HO424 := n1_; have HO427 := n2_; have HO431 := n3_; have BK413 := n4_; have HB := n5_; clear n0_ n1_ n2_ n3_ n4_ n5_; (try clear hb); (try clear ho0); obtain ⟨Ao62, co62, eo62⟩ := Kd.R_slice HO427.out; subst eo62; obtain ⟨Ao63, co63, eo63⟩ := Kd.R_slice HO431.out; subst eo63) | ((with_reducible refine gate_callee (f := 12) rfl ?_); refine goesL_ (some 49) rfl rfl Try.func12 (by kernel_rfl) rfl #[.slice Ao62 t425.length co62, .slice Ao63 t429.length co63] rfl (by (try simp only [List.map_toArray, List.map_cons, List.map_nil]) <;> rfl) ?_; (with_reducible refine (outpostlaw32_same.calls _ _ t425 _ _ t429 true _ ?side1 ?side2 ?side3 ?side4 A15.out).mono ?_); (case side1 => repeat (first | exact (Kd.R_reads' HO427.out).2.2 | (with_reducible refine Kd.C_alloc ?_ _) | (with_reducible refine Kd.C_drewN ?_ _) | (with_reducible refine Kd.C_drew ?_))); (case side2 => exact (Kd.R_reads' HO427.out).2.1); (case side3 => repeat (first | exact (Kd.R_reads' HO431.out).2.2 | (with_reducible refine Kd.C_alloc ?_ _) | (with_reducible refine Kd.C_drewN ?_ _) | (with_reducible refine Kd.C_drew ?_))); (case side4 => exact (Kd.R_reads' HO431.out).2.1); rintro e w' ⟨rfl, ⟨nd, rfl⟩⟩; refine ⟨_, rfl, ?_⟩) | (go_at_call 13; (with_reducible refine (outpostlaw32_num.calls t428 t434 _ A17.out).mono ?_); rintro e w' ⟨rfl, ⟨nd, rfl⟩⟩))
      go_ret
      exact ⟨by first | rfl | (simp [errW_none, errW_some] <;> rfl) | (simp [*, errW_none, errW_some] <;> rfl), below_step HB00.out (by repeat (first | (with_reducible first | exact HB.out | apply hA | apply hN | apply hD | refine below_set ?_ GE413.out) | exact HB.out))⟩
    ·replace c16 := Bool.eq_false_iff.mpr c16
     subst c16
     have H1 : (some false) = some r := by rw [if_neg (show ¬ (false = true) by decide)] at H; exact H
     clear H
     have H := H1
     clear H1
     obtain rfl := Option.some.inj H
     go_wp2_with (first | ((with_reducible refine gate_callee (f := 9) rfl ?_); refine goesL_ (some 30) rfl rfl Try.func9 (by kernel_rfl) rfl #[.slice A1 l1.length c1] rfl (by (try simp only [List.map_toArray, List.map_cons, List.map_nil]) <;> rfl) ?_; (with_reducible refine (outpostlaw01_Lent.calls _ _ l1 t419 _ ?side1 ?side2 A11.out).mono ?_); (case side1 => repeat (first | exact (Kd.C_below HR1.out HB.out) | (with_reducible refine Kd.C_alloc ?_ _) | (with_reducible refine Kd.C_drewN ?_ _) | (with_reducible refine Kd.C_drew ?_))); (case side2 => exact HC1.out); rintro e w64 ⟨v420, rfl, ho0, hb⟩; refine ⟨_, rfl, ?_⟩; have n0_ := aK (Kd.L_lower ho0 (below_size (by repeat (first | (with_reducible first | exact HB.out | apply hA | apply hN | apply hD | refine below_set ?_ GE413.out) | exact HB.out)))); have n1_ := aK (kb BK413.out hb); have n2_ := aK (below_step (by repeat (first | (with_reducible first | exact HB.out | apply hA | apply hN | apply hD | refine below_set ?_ GE413.out) | exact HB.out)) hb); clear BK413 HB; have HO421 := n0_; have BK413 := n1_; have HB := n2_; clear n0_ n1_ n2_; (try clear hb); (try clear ho0)) | ((with_reducible refine gate_callee (f := 9) rfl ?_); refine goesL_ (some 32) rfl rfl Try.func9 (by kernel_rfl) rfl #[.slice A2 l2.length c2] rfl (by (try simp only [List.map_toArray, List.map_cons, List.map_nil]) <;> rfl) ?_; (with_reducible refine (outpostlaw01_Lent.calls _ _ l2 t422 _ ?side1 ?side2 A12.out).mono ?_); (case side1 => repeat (first | exact (Kd.C_below HR2.out HB.out) | (with_reducible refine Kd.C_alloc ?_ _) | (with_reducible refine Kd.C_drewN ?_ _) | (with_reducible refine Kd.C_drew ?_))); (case side2 => exact HC2.out); rintro e w65 ⟨v423, rfl, ho0, hb⟩; refine ⟨_, rfl, ?_⟩; have n0_ := aK (Kd.L_elder' (mvL HO421.out) (Kd.L_base ho0) hb); have n1_ := aK (Kd.L_lower (Kd.L_new' ho0 (Kd.L_lt (mvL HO421.out))) (below_size (by repeat (first | (with_reducible first | exact HB.out | apply hA | apply hN | apply hD | refine below_set ?_ GE413.out) | exact HB.out)))); have n2_ := aK (kb BK413.out hb); have n3_ := aK (below_step (by repeat (first | (with_reducible first | exact HB.out | apply hA | apply hN | apply hD | refine below_set ?_ GE413.out) | exact HB.out)) hb); clear HO421 BK413 HB; have HO421 := n0_; have HO424 := n1_; have BK413 := n2_; have HB := n3_; clear n0_ n1_ n2_ n3_; (try clear hb); (try clear ho0); obtain ⟨Ao66, co66, eo66⟩ := Kd.L_slice HO421.out; subst eo66; obtain ⟨Ao67, co67, eo67⟩ := Kd.L_slice HO424.out; subst eo67) | ((with_reducible refine gate_callee (f := 10) rfl ?_); refine goesL_ (some 37) rfl rfl Try.func10 (by kernel_rfl) rfl #[.pointer Ap415, .slice Ao66 t419.length co66, .slice Ao67 t422.length co67] rfl (by (try simp only [List.map_toArray, List.map_cons, List.map_nil]) <;> rfl) ?_; (with_reducible refine (galois_Tables_Through.calls kj4 _ t414 (fun k_ => some k_ = (.slice Ao66 t419.length co66 : Value).ownBlock) _ _ t419 (fun k_ => some k_ = (.slice Ao67 t422.length co67 : Value).ownBlock) _ _ t422 t425 t428 _ ?side1 ?side2 ?side3 A13.out).mono ?_); (case side1 => exact (gal_OK_below HT416.out HB.out)); (case side2 => exact Kd.L_V (Kd.L_tight rfl (Kd.L_types (HO421.out) BK413.out (by decide)))); (case side3 => exact Kd.L_V (Kd.L_tight rfl (Kd.L_types (HO424.out) BK413.out (by decide)))); rintro e w68 ⟨v426, rfl, ho0, hb⟩; refine ⟨_, rfl, ?_⟩; have n0_ := aK (Kd.L_elder' (mvL HO421.out) (Kd.R_base ho0) hb); have n1_ := aK (Kd.L_elder' (mvL HO424.out) (Kd.R_base ho0) hb); have n2_ := aK (Kd.R_lower (Kd.R_new' (Kd.R_new' (Kd.R_mono (ok' := fun k_ => True) ho0 (fun _ hk_ => trivial)) (Kd.L_lt (mvL HO421.out))) (Kd.L_lt (mvL HO424.out))) (below_size (by repeat (first | (with_reducible first | exact HB.out | apply hA | apply hN | apply hD | refine below_set ?_ GE413.out) | exact HB.out)))); have n3_ := aK (kb BK413.out hb); have n4_ := aK (below_step (by repeat (first | (with_reducible first | exact HB.out | apply hA | apply hN | apply hD | refine below_set ?_ GE413.out) | exact HB.out)) hb); clear HO421 HO424 BK413 HB; have HO421 := n0_; have HO424 := n1_; have HO427 := n2_; have BK413 := n3_; have HB := n4_; clear n0_ n1_ n2_ n3_ n4_; (try clear hb); (try clear ho0); obtain ⟨hcz69_0, hcz69_1, hfz69_0, hfz69_1⟩ := cf2 BK413.out) | ((with_reducible refine gate_callee (f := 11) rfl ?_); refine goesL_ (some 44) rfl rfl Try.func11 (by kernel_rfl) rfl #[.agg #[.int .i64 a0_0, .int .u64 a0_1], .slice A1 l1.length c1, .slice A2 l2.length c2] rfl (by (try simp only [List.map_toArray, List.map_cons, List.map_nil]) <;> rfl) ?_; (with_reducible refine (outpostref32_Through.calls kj4 a0_0 a0_1 _ _ l1 _ _ l2 t429 t432 _ ?side1 ?side2 ?side3 ?side4 A14.out).mono ?_); (case side1 => repeat (first | exact (Kd.C_below HR1.out HB.out) | (with_reducible refine Kd.C_alloc ?_ _) | (with_reducible refine Kd.C_drewN ?_ _) | (with_reducible refine Kd.C_drew ?_))); (case side2 => exact HC1.out); (case side3 => repeat (first | exact (Kd.C_below HR2.out HB.out) | (with_reducible refine Kd.C_alloc ?_ _) | (with_reducible refine Kd.C_drewN ?_ _) | (with_reducible refine Kd.C_drew ?_))); (case side4 => exact HC2.out); rintro e w70 ⟨v430, rfl, ho0, hb⟩; refine ⟨_, rfl, ?_⟩; have n0_ := aK (Kd.L_elder' (mvL HO421.out) (Kd.R_base ho0) hb); have n1_ := aK (Kd.L_elder' (mvL HO424.out) (Kd.R_base ho0) hb); have n2_ := aK (Kd.R_elder' (mvR HO427.out) (Kd.R_base ho0) hb); have n3_ := aK (Kd.R_lower (Kd.R_new' (Kd.R_new' (Kd.R_new' ho0 (Kd.L_lt (mvL HO421.out))) (Kd.L_lt (mvL HO424.out))) (Kd.R_lt (mvR HO427.out))) (below_size (by repeat (first | (with_reducible first | exact HB.out | apply hA | apply hN | apply hD | refine below_set ?_ GE413.out) | exact HB.out)))); have n4_ := aK (kb BK413.out hb); have n5_ := aK (below_step (by repeat (first | (with_reducible first | exact HB.out | apply hA | apply hN | apply hD | refine below_set ?_ GE413.out) | exact HB.out)) hb); clear HO421 HO424 HO427 BK413 HB; have HO421 := n0_; have HO424 := n1_; have HO427 := n2_; have HO431 := n3_; have BK413 := n4_; have HB := n5_; clear n0_ n1_ n2_ n3_ n4_ n5_; (try clear hb); (try clear ho0); obtain ⟨Ao71, co71, eo71⟩ := Kd.R_slice HO427.out; subst eo71; obtain ⟨Ao72, co72, eo72⟩ := Kd.R_slice HO431.out; subst eo72) | ((with_reducible refine gate_callee (f := 12) rfl ?_); refine goesL_ (some 49) rfl rfl Try.func12 (by kernel_rfl) rfl #[.slice Ao71 t425.length co71, .slice Ao72 t429.length co72] rfl (by (try simp only [List.map_toArray, List.map_cons, List.map_nil]) <;> rfl) ?_; (with_reducible refine (outpostlaw32_same.calls _ _ t425 _ _ t429 false _ ?side1 ?side2 ?side3 ?side4 A15.out).mono ?_); (case side1 => repeat (first | exact (Kd.R_reads' HO427.out).2.2 | (with_reducible refine Kd.C_alloc ?_ _) | (with_reducible refine Kd.C_drewN ?_ _) | (with_reducible refine Kd.C_drew ?_))); (case side2 => exact (Kd.R_reads' HO427.out).2.1); (case side3 => repeat (first | exact (Kd.R_reads' HO431.out).2.2 | (with_reducible refine Kd.C_alloc ?_ _) | (with_reducible refine Kd.C_drewN ?_ _) | (with_reducible refine Kd.C_drew ?_))); (case side4 => exact (Kd.R_reads' HO431.out).2.1); rintro e w' ⟨rfl, ⟨nd, rfl⟩⟩; refine ⟨_, rfl, ?_⟩))
     go_ret
     exact ⟨by first | rfl | (simp [errW_none, errW_some] <;> rfl) | (simp [*, errW_none, errW_some] <;> rfl), below_step HB00.out (by repeat (first | (with_reducible first | exact HB.out | apply hA | apply hN | apply hD | refine below_set ?_ GE413.out) | exact HB.out))⟩

/-- THE ONE PURE STATEMENT of outpostlaw32_GaloisThrough: yours. -/
def outpostlaw32_GaloisThrough.Pure : Prop := ∀ (a0_0 : Int) (a0_1 : Int) (l1 : List Int) (l2 : List Int), (Lit.int .i64 a0_0).wf = true → (Lit.int .u64 a0_1).wf = true → l1.length ≤ maxLen → l1.length * 1 ≤ 140737488351232 → (∀ x ∈ l1, (Lit.int .u8 x).wf = true) → l2.length ≤ maxLen → l2.length * 1 ≤ 140737488351232 → (∀ x ∈ l2, (Lit.int .u8 x).wf = true) → ∃ k, outpostlaw32_GaloisThrough.f k a0_0 a0_1 l1 l2 = some true
theorem outpostlaw32_GaloisThrough.walk (P : outpostlaw32_GaloisThrough.Pure) (a0_0 : Int) (a0_1 : Int) (a1 : Option Addr) (len1 cap1 : Nat) (z1 : List Int) (a2 : Option Addr) (len2 cap2 : Nat) (z2 : List Int) (w : World) (w0_0 : (Lit.int .i64 a0_0).wf = true) (w0_1 : (Lit.int .u64 a0_1).wf = true) (w1 : (a1 = none ∧ len1 = 0 ∧ cap1 = 0 ∧ z1 = []) ∨ ∃ x, a1 = some x ∧ len1 ≤ cap1 ∧ cap1 ≤ maxLen ∧ z1.length = cap1 ∧ (∀ i, i < z1.length → w.cell? (x.add i) = some (.int .u8 (z1.getD i 0))) ∧ ∀ n ∈ z1, (Lit.int .u8 n).wf = true) (y1 : len1 * 1 ≤ 140737488351232) (w2 : (a2 = none ∧ len2 = 0 ∧ cap2 = 0 ∧ z2 = []) ∨ ∃ x, a2 = some x ∧ len2 ≤ cap2 ∧ cap2 ≤ maxLen ∧ z2.length = cap2 ∧ (∀ i, i < z2.length → w.cell? (x.add i) = some (.int .u8 (z2.getD i 0))) ∧ ∀ n ∈ z2, (Lit.int .u8 n).wf = true) (y2 : len2 * 1 ≤ 140737488351232) :
  Calls Try.prog 3 #[.agg #[.int .i64 a0_0, .int .u64 a0_1], .slice a1 len1 cap1, .slice a2 len2 cap2] w fun e w' => e = .returned (.bool true) ∧ Below w.heap.size w w' := by
 obtain ⟨l1, rfl, hr1, hm1, hw1, hc1⟩ := ReadsInt.ofRowC w1
 obtain ⟨l2, rfl, hr2, hm2, hw2, hc2⟩ := ReadsInt.ofRowC w2
 obtain ⟨k, h⟩ := P a0_0 a0_1 l1 l2 w0_0 w0_1 hm1 y1 hw1 hm2 y2 hw2
 refine (outpostlaw32_GaloisThrough.calls k a0_0 a0_1 _ _ l1 _ _ l2 true w (Kd.C_of_reads (d := (0 : Int)) (h1 := fun _ => rfl) hr1) hc1 (Kd.C_of_reads (d := (0 : Int)) (h1 := fun _ => rfl) hr2) hc2 h).mono ?_
 rintro e w' ⟨rfl, hd⟩
 exact ⟨rfl, hd⟩

end Go.Proofs.Ytjdkamhnbheofaa.P

-- squeezed
