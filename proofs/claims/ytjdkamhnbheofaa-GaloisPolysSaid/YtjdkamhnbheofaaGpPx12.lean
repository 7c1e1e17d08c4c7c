-- written by mk.sh, a program of this session, over the kit's print
import Derived.Test.YtjdkamhnbheofaaGpQApart3
import Derived.Test.YtjdkamhnbheofaaGpPx0
import Derived.Test.YtjdkamhnbheofaaGpPx2
import Derived.Test.YtjdkamhnbheofaaGpPx5
namespace Go.Proofs.Ytjdkamhnbheofaa.P
open Go.RowKit Go.Proofs.YtjdkamhnbheofaaW.PrintWords Go.Proofs.YtjdkamhnbheofaaW.PrintLast Go.Proofs.YtjdkamhnbheofaaW.PrintMore
attribute [local go_sem] max2_int min2_int max_two min_two max_three min_three max_four min_four   -- for this text's walks alone
set_option linter.unusedVariables false
set_option linter.unusedSimpArgs false

def l1_Stays.f (l0 l1 : List Int) : Option Bool := if l0 = l1 then some true else none
set_option maxHeartbeats 8000000 in
set_option maxRecDepth 100000 in
theorem l1_Stays.calls (A0 : Option Addr) (c0 : Nat) (l0 : List Int) (A1 : Option Addr) (c1 : Nat) (l1 : List Int) (r : Bool) (w : World) (hl0 : ∃ base ok, Kd.L (Kd.int .u8) 5 w base ok (.slice A0 l0.length c0) l0) (hc0 : l0.length ≤ c0) (hr1 : Kd.C (Kd.int .u8) w A1 l1.length l1) (hc1 : l1.length ≤ c1) (h : l1_Stays.f l0 l1 = some r) :
  Calls Try.prog 14 #[.slice A0 l0.length c0, .slice A1 l1.length c1] w fun e w' => e = .returned (.bool r) ∧ Drawn0 w w' := by
 unfold l1_Stays.f at h
 by_cases e : l0 = l1
 rotate_left
 ·rw [if_neg e] at h
  exact absurd h (by simp)

 rw [if_pos e] at h
 obtain rfl := Option.some.inj h
 subst e
 clear h
 obtain ⟨base, ok, g, cap, hv, hR⟩ := hl0
 obtain ⟨hA, hcc⟩ : A0 = some ⟨g, 0, none⟩ ∧ c0 = cap := by
  injection hv with h1 _ h3
  exact ⟨h1, h3⟩
 subst hA hcc
 have HF := aK (Kd.R_reads' hR).2.2
 have hm := Kd.C_max HF.out
 have hcap : (l0 ++ Kd.marks).length ≤ c0 := (Kd.R_reads' hR).2.1
 have hlen : (l0 ++ Kd.marks).length = l0.length + 8 := by simp [Kd.marks]
 rw [hlen] at hm hcap
 have HCELL := aK (fun (j : Nat) (hj : j < 8) => by
  obtain ⟨ad, he, hx⟩ := Kd.at_int HF.out ((l0.length + j : Nat) : Int) (by omega) (by rw [hlen]; omega)
  cases he
  rw [Int.toNat_natCast, add_plain] at hx
  have hv : rd (l0 ++ Kd.marks) ((l0.length + j : Nat) : Int) = 200 + (j : Int) := by
   unfold rd
   rw [Int.toNat_natCast, List.getD_eq_getElem?_getD, List.getElem?_append_right (by omega), Nat.add_sub_cancel_left]
   match j, hj with
   | 0, _ => rfl
   | 1, _ => rfl
   | 2, _ => rfl
   | 3, _ => rfl
   | 4, _ => rfl
   | 5, _ => rfl
   | 6, _ => rfl
   | 7, _ => rfl
  rw [hv] at hx
  exact hx)
 have HR1 := Aside0.mk hr1
 have HR0 := aK (Kd.R_reads' (Kd.L_R ⟨g, c0, rfl, hR⟩)).2.2
 clear hR hv hlen HF hr1 hc1
 obtain ⟨i06, hi06, _, hsz6, _⟩ := info_parts info5
 have hel : Try.prog.elem 25 = 5 := by simp [Program.elem, Try.underlying25]
 have hcutA : ∀ (n j : Nat) (W : World), j ≤ c0 → (Instr.slice 25 (.slice (some ⟨g, 0, none⟩) n c0) none (some (.int .i64 (j : Int))) none).run Try.prog W = .ok (.slice (some ⟨g, 0, none⟩) j c0) W := by
  intro n j W hj
  have hu : Try.prog.underlying 25 = some (.slice (Try.prog.elem 25)) := by rw [hel]; exact Try.underlying25
  rw [run_slice_h W _ _ _ _ hu .i64 (j : Int) (by omega) (by omega), hel]
  simp [sizeOf, typeInfo, hi06, sliced, Result.andThen, Addr.add]
 have HC0 := Aside0.mk hc0
 have hl8 : l0.length + 8 ≤ 9223372036854775807 := hm
 have hcut1 := fun W => hcutA l0.length (l0.length + 8) W hcap
 have hcut2 := fun W => hcutA (l0.length + 8) l0.length W hc0
 have e8 : ((l0.length + 8 : Nat) : Int) = (l0.length : Int) + 8 := by omega
 rw [e8] at hcut1
 clear hcutA hel hi06 hsz6 hm hcap hc0 e8
 go_enter Try.func14, Try.ntmps14
 go_wp2
 go_loopg [6] (8 : Nat) (fun kq v6 w' => ∃ (j : Nat), v6 = .int .i64 (j : Int) ∧ Aside0 (j + kq = 8) ∧ Drawn0 w w')
 case atStart => exact ⟨0, rfl, ⟨rfl⟩, Drawn0.refl _⟩
 case round =>
  obtain ⟨j, rfl, HJ, ⟨m1, rfl⟩⟩ := hrel
  cases gk with
  | zero =>
   have hj8 : decide ((j : Int) < 8) = false := decide_eq_false (by have := HJ.out; omega)
   have hcv15 := fun n => Kd.C_string (P := Try.prog) (A := some ⟨g, 0, none⟩) (c := c0) Try.underlying25 Try.underlying5 Try.underlying9 (Kd.C_drewN HR0.out n)
   have hcv16 := fun n => Kd.C_string (P := Try.prog) (A := A1) (c := c1) Try.underlying25 Try.underlying5 Try.underlying9 (Kd.C_drewN HR1.out n)
   go_wp2
   go_quiet (fail)
   go_wp2
   go_ret
   exact ⟨by first | rfl | (simp; done), by repeat (first | exact Drawn0.refl _ | apply Drawn0.step)⟩
  | succ k1 =>
   have hj8 : decide ((j : Int) < 8) = true := decide_eq_true (by have := HJ.out; omega)
   have hjb : j ≤ 7 := by have := HJ.out; omega
   have hc := HCELL.out j (by omega)
   go_wp2
   go_roundg k1
   case measure => omega
   case rel => exact ⟨j + 1, by go_num, ⟨by have := HJ.out; omega⟩, Drawn0.step ⟨⟨m1, rfl⟩⟩ 0⟩
def l1_mark.f (a0 : Int) (a1 : Int) : Option (Int) := some ((wrap64 ((wrap64 ((wrap64 (31 * a0)) + (wrap64 (7 * a1)))) + 1)) % 256)
set_option maxHeartbeats 8000000 in
set_option maxRecDepth 100000 in
theorem l1_mark.calls (a0 : Int) (a1 : Int) (r : Int) (w : World) (h : l1_mark.f a0 a1 = some r) :
  Calls Try.prog 51 #[.int .i64 a0, .int .i64 a1] w fun e w' => e = .returned (.int .u8 r) ∧ Drawn0 w w' := by
 have H : (some ((wrap64 ((wrap64 ((wrap64 (31 * a0)) + (wrap64 (7 * a1)))) + 1)) % 256)) = some r := h
 clear h
 obtain rfl := Option.some.inj H
 go_enter Try.func51, Try.ntmps51
 go_wp2
 go_ret
 exact ⟨by first | rfl | (simp; done) | (simp [*]; done) | (simp [wrap64]; done), by repeat (first | exact Drawn0.refl _ | apply Drawn0.step)⟩

def l1_ApartBytes.f (l0 : List (List Int)) : Option Bool := if ∀ x ∈ l0, x.length ≤ 140737488355000 then some true else none
theorem l1_ApartBytes.says {l0 : List (List Int)} {r : Bool} (h : l1_ApartBytes.f l0 = some r) : r = true ∧ ∀ x ∈ l0, x.length ≤ 140737488355000 := by
 unfold l1_ApartBytes.f at h
 split at h
 ·next hx => exact ⟨(Option.some.inj h).symm, hx⟩
 ·simp at h
section
open Go.Proofs.YtjdkamhnbheofaaW
def ap_mk (i j : Nat) : Int := (wrap64 ((wrap64 ((wrap64 (31 * (i : Int))) + (wrap64 (7 * (j : Int))))) + 1)) % 256
theorem ap_mk_f (i j : Nat) : l1_mark.f (i : Int) (j : Int) = some (ap_mk i j) := rfl
def ap_mrk (X : Nat → List Int) (i j : Nat) : Prop := ∀ r x, x < (X r).length → (r < i ∨ (r = i ∧ x < j)) → (X r).getD x 0 = ap_mk r x
theorem ap_mrk_put {X : Nat → List Int} {i j : Nat} (h : ap_mrk X i j) (hj : j < (X i).length) : ap_mrk (Ap.put X i j (ap_mk i j)) i (j + 1) := by
 intro r x hx hr
 rw [Ap.put_length] at hx
 unfold Ap.put
 by_cases e : r = i
 ·subst e
  rw [if_pos rfl]
  by_cases e2 : j = x
  ·subst e2
   rw [List.getD_eq_getElem?_getD, List.getElem?_set_self hj, Option.getD_some]
  ·rw [List.getD_eq_getElem?_getD, List.getElem?_set_ne e2, ← List.getD_eq_getElem?_getD]
   exact h r x hx (by omega)
 ·rw [if_neg e]
  exact h r x hx (by omega)
theorem ap_mrk_next {X : Nat → List Int} {i j : Nat} (h : ap_mrk X i j) (hj : (X i).length ≤ j) : ap_mrk X (i + 1) 0 := by
 intro r x hx hr
 by_cases e : r = i
 ·subst e
  exact h r x hx (by omega)
 ·exact h r x hx (by omega)
theorem ap_w64s (i : Nat) (h : i ≤ 4611686018427387904) : wrap64 ((i : Int) + 1) = ((i + 1 : Nat) : Int) := by
 unfold wrap64
 omega
@[reducible] def ap_S (go i g j : Nat) (v y : Value) (w' : World) : Prop := w'.cell? ⟨go, i, none⟩ = some v ∧ w'.cell? ⟨g, j, none⟩ = some y ∧ True
theorem ap_at {w : World} {B e go : Nat} {V : List Value} {X : Nat → List Int} (h : Ap.St w B e go 0 V X) {i n cv : Nat} {Av : Option Addr} (hv : V[i]? = some (.slice Av n cv)) (hn : (X i).length = n) {j : Nat} (hj : j < n) : ∃ g, Av = some ⟨g, 0, none⟩ ∧ B ≤ g := by
 rcases h.form hv with ⟨h1, h2⟩ | ⟨g, c, h1, h2, _⟩
 ·omega
 ·injection h1 with h1 _ _
  exact ⟨g, h1, h2⟩
set_option maxHeartbeats 8000000 in
set_option maxRecDepth 100000 in
theorem l1_ApartBytes.calls (w : World) (B go c : Nat) (V : List Value) (X : Nat → List Int) (h : Ap.St w B 5 go 0 V X) (hgo : go < w.heap.size) (hB : B ≤ w.heap.size) (hV : V.length ≤ 4611686018427387000) (hX : ∀ i, (X i).length ≤ 140737488355000) :
  Calls Try.prog 15 #[.slice (some ⟨go, 0, none⟩) V.length c] w fun e w' => e = .returned (.bool true) ∧ Below B w w' := by
 have HS := Aside0.mk h
 have HGO := Aside0.mk hgo
 have HB := aK (Below.refl B w)
 have HX := Aside0.mk hX
 have HVL := Aside0.mk hV
 have HBW := Aside0.mk hB
 clear h hgo hX hB hV
 go_enter Try.func15, Try.ntmps15
 go_wp2
 go_loopg [3] V.length (fun kq v3 w' => ∃ (i : Nat) (X' : Nat → List Int), v3 = .int .i64 (i : Int) ∧ Aside0 (i + kq = V.length) ∧ Aside0 (Ap.St w' B 5 go 0 V X') ∧ Aside0 (∀ r, (X' r).length = (X r).length) ∧ Aside0 (ap_mrk X' i 0) ∧ Aside0 (Below B w w') ∧ Aside0 (go < w'.heap.size))
 case atStart => exact ⟨0, X, rfl, ⟨by omega⟩, HS, ⟨fun _ => rfl⟩, ⟨fun r x _ hr => by omega⟩, HB, HGO⟩
 case round =>
  clear HS HB HGO
  obtain ⟨i, X', rfl, HI, HS, HXL, HM, HB, HGO⟩ := hrel
  cases gk with
  | zero =>
   have hif : decide (i < V.length) = false := decide_eq_false (by have := HI.out; omega)
   have HM1 : Aside0 (ap_mrk X' V.length 0) := ⟨by have := HI.out; rw [← this]; exact HM.out⟩
   clear HM
   go_wp2
   go_loopg [5] V.length (fun kq v5 w' => ∃ (i : Nat), v5 = .int .i64 (i : Int) ∧ Aside0 (i + kq = V.length) ∧ Aside0 (Ap.St w' B 5 go 0 V X') ∧ Aside0 (Below B w w') ∧ Aside0 (go < w'.heap.size))
   case atStart => exact ⟨0, rfl, ⟨by omega⟩, HS, HB, HGO⟩
   case round =>
    clear HS HB HGO HI
    obtain ⟨i, rfl, HI, HS, HB, HGO⟩ := hrel
    cases gk with
    | zero =>
     have hif : decide (i < V.length) = false := decide_eq_false (by have := HI.out; omega)
     go_wp2
     go_loopg [8] V.length (fun kq v8 w' => ∃ (i : Nat), v8 = .int .i64 (i : Int) ∧ Aside0 (i + kq = V.length) ∧ Aside0 (Ap.St w' B 5 go 0 V X') ∧ Aside0 (Below B w w'))
     case atStart => exact ⟨0, rfl, ⟨by omega⟩, HS, HB⟩
     case round =>
      clear HS HB HGO HI
      obtain ⟨i, rfl, HI, HS, HB⟩ := hrel
      cases gk with
      | zero =>
       have hif : decide (i < V.length) = false := decide_eq_false (by have := HI.out; omega)
       go_wp2
       go_ret
       exact ⟨rfl, HB.out⟩
      | succ k1 =>
       have hin : i < V.length := by have := HI.out; omega
       have hit : decide (i < V.length) = true := decide_eq_true hin
       have ti : (i < V.length) = True := eq_true hin
       obtain ⟨v, hv⟩ : ∃ v, V[i]? = some v := ⟨_, List.getElem?_eq_getElem hin⟩
       obtain ⟨Av, cv, hvf⟩ : ∃ Av cv, v = .slice Av (X' i).length cv := by
        rcases HS.out.form hv with ⟨h1, h2⟩ | ⟨g, c', h1, _, _⟩
        ·exact ⟨none, 0, by rw [h2]; exact h1⟩
        ·exact ⟨_, _, h1⟩
       obtain ⟨n, hn⟩ : ∃ n, (X' i).length = n := ⟨_, rfl⟩
       rw [hn] at hvf
       subst hvf
       have HV := Aside0.mk hv
       have HN := Aside0.mk hn
       have HIN := Aside0.mk hin
       clear hv hn hin
       have hco0 : wr.cell? ⟨go, i, none⟩ = some (.slice Av n cv) := by have := HS.out.outer i _ HV.out; rwa [Nat.zero_add] at this
       clear hco0
       go_wp2
       go_loopg [9] n (fun kq v9 w' => ∃ (j : Nat), v9 = .int .i64 (j : Int) ∧ Aside0 (j + kq = n) ∧ Aside0 (Ap.St w' B 5 go 0 V X') ∧ Aside0 (Below B w w'))
       case atStart => exact ⟨0, rfl, ⟨by omega⟩, HS, HB⟩
       case round =>
        clear HS HB
        obtain ⟨j, rfl, HJ, HS, HB⟩ := hrel
        have hco : wr.cell? ⟨go, i, none⟩ = some (.slice Av n cv) := by have := HS.out.outer i _ HV.out; rwa [Nat.zero_add] at this
        cases gk with
        | zero =>
         have hjf : decide (j < n) = false := decide_eq_false (by have := HJ.out; omega)
         go_wp2
         go_roundg k1
         case measure => omega
         case rel => exact ⟨i + 1, congrArg (Value.int .i64) (ap_w64s i (by have := HIN.out; have := HVL.out; omega)), ⟨by have := HI.out; omega⟩, HS, HB⟩
        | succ k2 =>
         have hjn : j < n := by have := HJ.out; omega
         have hjt : decide (j < n) = true := decide_eq_true hjn
         have tj : (j < n) = True := eq_true hjn
         obtain ⟨g, hg, hgB⟩ := ap_at HS.out HV.out HN.out hjn
         subst hg
         have hVi : V[i]? = some (.slice (some ⟨g, 0, none⟩) (X' i).length cv) := by rw [HN.out]; exact HV.out
         obtain ⟨m, hm⟩ : ∃ m, m = ap_mk i j := ⟨_, rfl⟩
         have hcg : wr.cell? ⟨g, j, none⟩ = some (.int .u8 m) := by
          have h1 := HS.out.cell hVi (j := j) (by have := HN.out; omega)
          have h2 := HM1.out i j (by have := HN.out; omega) (.inl HIN.out)
          rw [h2, ← hm] at h1
          exact h1
         have HJN := Aside0.mk hjn
         have HMM := Aside0.mk hm
         clear hVi hgB hjn hm
         go_wp2
         refine start_ (n := 11) (S := ap_S go i g j (.slice (some ⟨g, 0, none⟩) n cv) (.int .u8 m)) (ds := []) #[false, false, false, false, false, false, false, false, false, false, false] (by kernel_rfl) rfl rfl ⟨hco, hcg, trivial⟩ (fun hHeld => ?_)
         refine pure_ (i := 0) (N := some 66) (v := ?_) (a' := ?_) #[true, false, false, false, false, false, false, false, false, false, false] rfl rfl (by kernel_rfl) (fun _ _ _ h => h) (Or.inl ⟨by rfl, ?_⟩) ?_ ?_
         rotate_left
         ·intro w'
          go_simp
          with_reducible rfl
         rotate_left
         ·simp only [Act.put, List.setIfInBounds_toArray, List.set_cons_zero, List.set_cons_succ, i64_w, i32_w]
          rfl
         refine pure_ (i := 1) (N := some 67) (v := ?_) (a' := ?_) #[true, true, false, false, false, false, false, false, false, false, false] rfl rfl (by kernel_rfl) (fun _ _ _ h => h) (Or.inl ⟨by rfl, ?_⟩) ?_ ?_
         rotate_left
         ·intro w'
          go_simp
          with_reducible rfl
         rotate_left
         ·simp only [Act.put, List.setIfInBounds_toArray, List.set_cons_zero, List.set_cons_succ, i64_w, i32_w]
          rfl
         refine pure_ (i := 2) (N := some 68) (v := ?_) (a' := ?_) #[true, true, true, false, false, false, false, false, false, false, false] rfl rfl (by kernel_rfl) (fun _ _ _ h => h) (Or.inl ⟨by rfl, ?_⟩) ?_ ?_
         rotate_left
         ·intro w'
          go_simp
          with_reducible rfl
         rotate_left
         ·simp only [Act.put, List.setIfInBounds_toArray, List.set_cons_zero, List.set_cons_succ, i64_w, i32_w]
          rfl
         refine take_ (i := 3) (N := some 69) (v := ?_) (a' := ?_) #[true, true, true, true, false, false, false, false, false, false, false] rfl rfl (by kernel_rfl) (fun _ _ _ h => h) (Or.inl ⟨by rfl, ?_⟩) hHeld ?_ ?_
         rotate_left
         ·rintro w' ⟨hq0, hq1, _⟩
          go_simp
          with_reducible rfl
         rotate_left
         ·simp only [Act.put, List.setIfInBounds_toArray, List.set_cons_zero, List.set_cons_succ, i64_w, i32_w]
          rfl
         refine pure_ (i := 4) (N := some 70) (v := ?_) (a' := ?_) #[true, true, true, true, true, false, false, false, false, false, false] rfl rfl (by kernel_rfl) (fun _ _ _ h => h) (Or.inl ⟨by rfl, ?_⟩) ?_ ?_
         rotate_left
         ·intro w'
          go_simp
          with_reducible rfl
         rotate_left
         ·simp only [Act.put, List.setIfInBounds_toArray, List.set_cons_zero, List.set_cons_succ, i64_w, i32_w]
          rfl
         refine pure_ (i := 5) (N := some 71) (v := ?_) (a' := ?_) #[true, true, true, true, true, true, false, false, false, false, false] rfl rfl (by kernel_rfl) (fun _ _ _ h => h) (Or.inl ⟨by rfl, ?_⟩) ?_ ?_
         rotate_left
         ·intro w'
          go_simp
          with_reducible rfl
         rotate_left
         ·simp only [Act.put, List.setIfInBounds_toArray, List.set_cons_zero, List.set_cons_succ, i64_w, i32_w]
          rfl
         refine take_ (i := 6) (N := some 72) (v := ?_) (a' := ?_) #[true, true, true, true, true, true, true, false, false, false, false] rfl rfl (by kernel_rfl) (fun _ _ _ h => h) (Or.inl ⟨by rfl, ?_⟩) hHeld ?_ ?_
         rotate_left
         ·rintro w' ⟨hq0, hq1, _⟩
          go_simp
          with_reducible rfl
         rotate_left
         ·simp only [Act.put, List.setIfInBounds_toArray, List.set_cons_zero, List.set_cons_succ, i64_w, i32_w]
          rfl
         refine pure_ (i := 7) (N := some 73) (v := ?_) (a' := ?_) #[true, true, true, true, true, true, true, true, false, false, false] rfl rfl (by kernel_rfl) (fun _ _ _ h => h) (Or.inl ⟨by rfl, ?_⟩) ?_ ?_
         rotate_left
         ·intro w'
          go_simp
          with_reducible rfl
         rotate_left
         ·simp only [Act.put, List.setIfInBounds_toArray, List.set_cons_zero, List.set_cons_succ, i64_w, i32_w]
          rfl
         refine pure_ (i := 8) (N := some 74) (v := ?_) (a' := ?_) #[true, true, true, true, true, true, true, true, true, false, false] rfl rfl (by kernel_rfl) (fun _ _ _ h => h) (Or.inl ⟨by rfl, ?_⟩) ?_ ?_
         rotate_left
         ·intro w'
          go_simp
          with_reducible rfl
         rotate_left
         ·simp only [Act.put, List.setIfInBounds_toArray, List.set_cons_zero, List.set_cons_succ, i64_w, i32_w]
          rfl
         refine one_ (i := 9) (N := some 75) #[true, true, true, true, true, true, true, true, true, true, false] rfl rfl (by kernel_rfl) (by decide) (fun K hK => ?_)
         have hcall := l1_mark.calls (i : Int) (j : Int) m (wr.drew) (by rw [HMM.out]; exact ap_mk_f i j)
         refine goes_ Try.func51 (by kernel_rfl) rfl #[.int .i64 (i : Int), .int .i64 (j : Int)] (by rfl) rfl rfl (by (try simp only [List.map_toArray, List.map_cons, List.map_nil]); first | done | rfl | (simp [Act.eval]; done)) ?_
         refine hcall.mono ?_
         clear hcall
         rintro e w2 ⟨rfl, ⟨nd, rfl⟩⟩
         refine ⟨_, rfl, ?_⟩
         refine hK.out _ _ ⟨hco, hcg, trivial⟩ (fun hHeld2 => ?_)
         clear hK K
         refine norm_ (a' := ?_) ?_ ?_
         rotate_left
         ·show Act.put _ (some 75) _ = _
          simp only [Act.put, List.setIfInBounds_toArray, List.set_cons_zero, List.set_cons_succ, i64_w, i32_w]
          rfl
         refine pure_ (i := 10) (N := some 76) (v := ?_) (a' := ?_) #[true, true, true, true, true, true, true, true, true, true, true] rfl rfl (by kernel_rfl) (fun _ _ _ h => h) (Or.inl ⟨by rfl, ?_⟩) ?_ ?_
         rotate_left
         ·intro w'
          go_simp
          with_reducible rfl
         rotate_left
         ·simp only [Act.put, List.setIfInBounds_toArray, List.set_cons_zero, List.set_cons_succ, i64_w, i32_w]
          rfl
         refine done_ (by kernel_rfl) ?_
         try go_wp2
         go_roundg k2
         case measure => omega
         case rel => exact ⟨j + 1, congrArg (Value.int .i64) (ap_w64s j (by have := HJN.out; have := HX.out i; have := HXL.out i; have := HN.out; omega)), ⟨by have := HJ.out; omega⟩, ⟨Ap.St.below HS.out (pw_below_drewN (Below.refl _ _) _)⟩, ⟨pw_below_drewN HB.out _⟩⟩
    | succ k1 =>
     have hin : i < V.length := by have := HI.out; omega
     have hit : decide (i < V.length) = true := decide_eq_true hin
     have ti : (i < V.length) = True := eq_true hin
     obtain ⟨v, hv⟩ : ∃ v, V[i]? = some v := ⟨_, List.getElem?_eq_getElem hin⟩
     obtain ⟨Av, cv, hvf⟩ : ∃ Av cv, v = .slice Av (X' i).length cv := by
      rcases HS.out.form hv with ⟨h1, h2⟩ | ⟨g, c', h1, _, _⟩
      ·exact ⟨none, 0, by rw [h2]; exact h1⟩
      ·exact ⟨_, _, h1⟩
     obtain ⟨n, hn⟩ : ∃ n, (X' i).length = n := ⟨_, rfl⟩
     rw [hn] at hvf
     subst hvf
     have HV := Aside0.mk hv
     have HN := Aside0.mk hn
     have HIN := Aside0.mk hin
     clear hv hn hin
     have hco : wr.cell? ⟨go, i, none⟩ = some (.slice Av n cv) := by have := HS.out.outer i _ HV.out; rwa [Nat.zero_add] at this
     obtain ⟨H, hH⟩ : ∃ H, H = wr.heap.size := ⟨_, rfl⟩
     have HVH : Aside0 (∀ (r : Nat) (v : Value), V[r]? = some v → ∀ k, v.ownBlock = some k → k < H) := ⟨fun r v hv k hk => by rw [hH]; exact ((HS.out.own r v hv).lt k hk).2⟩
     have HgH : Aside0 (go < H) := ⟨by rw [hH]; exact HGO.out⟩
     have HBH : Aside0 (B ≤ H) := ⟨by have h1 := HBW.out; have h2 := HB.out.size; omega⟩
     have HHS : Aside0 (H ≤ wr.heap.size) := ⟨by omega⟩
     have HMo := aK (Ap.More.start HS.out HV.out H)
     clear hH
     go_wp2
     go_loopg [6, 7] (40 : Nat) (fun kq v6 v7 w' => ∃ (k : Nat), v7 = .int .i64 (k : Int) ∧ Aside0 (k + kq = 40) ∧ Aside0 (Ap.More w' H 5 (.slice Av n cv) (X' i).length (Ap.bv (X' i)) v6 k) ∧ Aside0 (Ap.St w' B 5 go 0 V X') ∧ Aside0 (Below B w w') ∧ Aside0 (go < w'.heap.size) ∧ Aside0 (H ≤ w'.heap.size))
     case atStart => exact ⟨0, rfl, ⟨rfl⟩, HMo, HS, HB, HGO, HHS⟩
     case round =>
      (try clear hHeld)
      clear HS HB HGO HHS HMo hco
      obtain ⟨k, rfl, HK, HMo, HS, HB, HGO, HHS⟩ := hrel
      cases gk with
      | zero =>
       have hkf : decide ((k : Int) < 40) = false := decide_eq_false (by have := HK.out; omega)
       go_wp2
       go_roundg k1
       case measure => omega
       case rel => exact ⟨i + 1, congrArg (Value.int .i64) (ap_w64s i (by have := HIN.out; have := HVL.out; omega)), ⟨by have := HI.out; omega⟩, HS, HB, HGO⟩
      | succ k2 =>
       have hkt : decide ((k : Int) < 40) = true := decide_eq_true (by have := HK.out; omega)
       have hkb : k ≤ 39 := by have := HK.out; omega
       go_wp2_with (first | ((with_reducible refine gate_builtin (b := .append) (xs := #[.tmp 48, .tmp 49]) rfl ?_); at_builtin; refine Ap.more_append rfl (.tmp 48) (.tmp 49) 25 rfl Try.underlying25 info5 254 u6 rfl rfl HS.out HGO.out HV.out H HBH.out HVH.out HgH.out HHS.out HMo.out ?aL ?_; (case aL => have h1 := HX.out i; have h2 := HXL.out i; have h3 := HK.out; omega); intro u9 w9 hs9 hm9 hb9; have n0_ := Aside0.mk hs9; have n1_ := Aside0.mk hm9; have n2_ := aK (HB.out.trans hb9); have n3_ : Aside0 (go < w9.heap.size) := ⟨Nat.lt_of_lt_of_le HGO.out hb9.size⟩; have n4_ : Aside0 (H ≤ w9.heap.size) := ⟨Nat.le_trans HHS.out hb9.size⟩; clear hs9 hm9 hb9 HS HMo HB HGO HHS; have HS := n0_; have HMo := n1_; have HB := n2_; have HGO := n3_; have HHS := n4_; clear n0_ n1_ n2_ n3_ n4_))
       go_roundg k2
       case measure => omega
       case rel => exact ⟨k + 1, (by first | go_num | exact congrArg (Value.int .i64) (ap_w64s k (by omega))), ⟨by have := HK.out; omega⟩, HMo, HS, HB, HGO, HHS⟩
  | succ k1 =>
   have hin : i < V.length := by have := HI.out; omega
   have hit : decide (i < V.length) = true := decide_eq_true hin
   have ti : (i < V.length) = True := eq_true hin
   obtain ⟨v, hv⟩ : ∃ v, V[i]? = some v := ⟨_, List.getElem?_eq_getElem hin⟩
   obtain ⟨Av, cv, hvf⟩ : ∃ Av cv, v = .slice Av (X' i).length cv := by
    rcases HS.out.form hv with ⟨h1, h2⟩ | ⟨g, c', h1, _, _⟩
    ·exact ⟨none, 0, by rw [h2]; exact h1⟩
    ·exact ⟨_, _, h1⟩
   obtain ⟨n, hn⟩ : ∃ n, (X' i).length = n := ⟨_, rfl⟩
   rw [hn] at hvf
   subst hvf
   have HV := Aside0.mk hv
   have HN := Aside0.mk hn
   have HIN := Aside0.mk hin
   clear hv hn hin
   go_wp2
   go_loopg [4] n (fun kq v4 w' => ∃ (j : Nat) (X'' : Nat → List Int), v4 = .int .i64 (j : Int) ∧ Aside0 (j + kq = n) ∧ Aside0 (Ap.St w' B 5 go 0 V X'') ∧ Aside0 (∀ r, (X'' r).length = (X r).length) ∧ Aside0 (ap_mrk X'' i j) ∧ Aside0 (Below B w w') ∧ Aside0 (go < w'.heap.size))
   case atStart => exact ⟨0, X', rfl, ⟨by omega⟩, HS, HXL, HM, HB, HGO⟩
   case round =>
    (try clear hHeld)
    have HN1 : Aside0 ((X i).length = n) := ⟨by rw [← HXL.out i]; exact HN.out⟩
    clear HS HB HGO HM HXL HN
    obtain ⟨j, X'', rfl, HJ, HS, HXL, HM, HB, HGO⟩ := hrel
    have hco : wr.cell? ⟨go, i, none⟩ = some (.slice Av n cv) := by have := HS.out.outer i _ HV.out; rwa [Nat.zero_add] at this
    cases gk with
    | zero =>
     have hjf : decide (j < n) = false := decide_eq_false (by have := HJ.out; omega)
     go_wp2
     go_roundg k1
     case measure => omega
     case rel =>
      refine ⟨i + 1, X'', congrArg (Value.int .i64) (ap_w64s i (by have := HIN.out; have := HVL.out; omega)), ⟨by have := HI.out; omega⟩, HS, HXL, ⟨ap_mrk_next HM.out (by have h1 := HXL.out i; have h2 := HN1.out; have h3 := HJ.out; omega)⟩, HB, HGO⟩
    | succ k2 =>
     have hjn : j < n := by have := HJ.out; omega
     have hjt : decide (j < n) = true := decide_eq_true hjn
     have tj : (j < n) = True := eq_true hjn
     have hn2 : (X'' i).length = n := (HXL.out i).trans HN1.out
     obtain ⟨g, hg, hgB⟩ := ap_at HS.out HV.out hn2 hjn
     subst hg
     have hVi : V[i]? = some (.slice (some ⟨g, 0, none⟩) (X'' i).length cv) := by rw [hn2]; exact HV.out
     have hcg := HS.out.cell hVi (j := j) (by omega)
     have hfg := HS.out.frozen hVi j
     have HVI := Aside0.mk hVi
     have HGB := Aside0.mk hgB
     have HJN := Aside0.mk hjn
     have HN2 := Aside0.mk hn2
     obtain ⟨m, hm⟩ : ∃ m, m = ap_mk i j := ⟨_, rfl⟩
     have HMM := Aside0.mk hm
     clear hVi hgB hjn hn2 hm
     go_wp2
     refine start_ (n := 10) (S := ap_S go i g j (.slice (some ⟨g, 0, none⟩) n cv) (.int .u8 ((X'' i).getD j 0))) (ds := [9]) #[false, false, false, false, false, false, false, false, false, false] (by kernel_rfl) rfl rfl ⟨hco, hcg, trivial⟩ (fun hHeld => ?_)
     refine pure_ (i := 0) (N := some 25) (v := ?_) (a' := ?_) #[true, false, false, false, false, false, false, false, false, false] rfl rfl (by kernel_rfl) (fun _ _ _ h => h) (Or.inl ⟨by rfl, ?_⟩) ?_ ?_
     rotate_left
     ·intro w'
      go_simp
      with_reducible rfl
     rotate_left
     ·simp only [Act.put, List.setIfInBounds_toArray, List.set_cons_zero, List.set_cons_succ, i64_w, i32_w]
      rfl
     refine pure_ (i := 1) (N := some 26) (v := ?_) (a' := ?_) #[true, true, false, false, false, false, false, false, false, false] rfl rfl (by kernel_rfl) (fun _ _ _ h => h) (Or.inl ⟨by rfl, ?_⟩) ?_ ?_
     rotate_left
     ·intro w'
      go_simp
      with_reducible rfl
     rotate_left
     ·simp only [Act.put, List.setIfInBounds_toArray, List.set_cons_zero, List.set_cons_succ, i64_w, i32_w]
      rfl
     refine pure_ (i := 2) (N := some 27) (v := ?_) (a' := ?_) #[true, true, true, false, false, false, false, false, false, false] rfl rfl (by kernel_rfl) (fun _ _ _ h => h) (Or.inl ⟨by rfl, ?_⟩) ?_ ?_
     rotate_left
     ·intro w'
      go_simp
      with_reducible rfl
     rotate_left
     ·simp only [Act.put, List.setIfInBounds_toArray, List.set_cons_zero, List.set_cons_succ, i64_w, i32_w]
      rfl
     refine take_ (i := 3) (N := some 28) (v := ?_) (a' := ?_) #[true, true, true, true, false, false, false, false, false, false] rfl rfl (by kernel_rfl) (fun _ _ _ h => h) (Or.inl ⟨by rfl, ?_⟩) hHeld ?_ ?_
     rotate_left
     ·rintro w' ⟨hq0, hq1, _⟩
      go_simp
      with_reducible rfl
     rotate_left
     ·simp only [Act.put, List.setIfInBounds_toArray, List.set_cons_zero, List.set_cons_succ, i64_w, i32_w]
      rfl
     refine pure_ (i := 4) (N := some 29) (v := ?_) (a' := ?_) #[true, true, true, true, true, false, false, false, false, false] rfl rfl (by kernel_rfl) (fun _ _ _ h => h) (Or.inl ⟨by rfl, ?_⟩) ?_ ?_
     rotate_left
     ·intro w'
      go_simp
      with_reducible rfl
     rotate_left
     ·simp only [Act.put, List.setIfInBounds_toArray, List.set_cons_zero, List.set_cons_succ, i64_w, i32_w]
      rfl
     refine pure_ (i := 5) (N := some 30) (v := ?_) (a' := ?_) #[true, true, true, true, true, true, false, false, false, false] rfl rfl (by kernel_rfl) (fun _ _ _ h => h) (Or.inl ⟨by rfl, ?_⟩) ?_ ?_
     rotate_left
     ·intro w'
      go_simp
      with_reducible rfl
     rotate_left
     ·simp only [Act.put, List.setIfInBounds_toArray, List.set_cons_zero, List.set_cons_succ, i64_w, i32_w]
      rfl
     refine pure_ (i := 6) (N := some 31) (v := ?_) (a' := ?_) #[true, true, true, true, true, true, true, false, false, false] rfl rfl (by kernel_rfl) (fun _ _ _ h => h) (Or.inl ⟨by rfl, ?_⟩) ?_ ?_
     rotate_left
     ·intro w'
      go_simp
      with_reducible rfl
     rotate_left
     ·simp only [Act.put, List.setIfInBounds_toArray, List.set_cons_zero, List.set_cons_succ, i64_w, i32_w]
      rfl
     refine one_ (i := 7) (N := some 32) #[true, true, true, true, true, true, true, true, false, false] rfl rfl (by kernel_rfl) (by decide) (fun K hK => ?_)
     have hcall := l1_mark.calls (i : Int) (j : Int) m (wr.drew) (by rw [HMM.out]; exact ap_mk_f i j)
     refine goes_ Try.func51 (by kernel_rfl) rfl #[.int .i64 (i : Int), .int .i64 (j : Int)] (by rfl) rfl rfl (by (try simp only [List.map_toArray, List.map_cons, List.map_nil]); first | done | rfl | (simp [Act.eval]; done)) ?_
     refine hcall.mono ?_
     clear hcall
     rintro e w2 ⟨rfl, ⟨nd, rfl⟩⟩
     refine ⟨_, rfl, ?_⟩
     refine hK.out _ _ ⟨hco, hcg, trivial⟩ (fun hHeld2 => ?_)
     clear hK K
     refine norm_ (a' := ?_) ?_ ?_
     rotate_left
     ·show Act.put _ (some 32) _ = _
      simp only [Act.put, List.setIfInBounds_toArray, List.set_cons_zero, List.set_cons_succ, i64_w, i32_w]
      rfl
     refine pure_ (i := 8) (N := some 33) (v := ?_) (a' := ?_) #[true, true, true, true, true, true, true, true, true, false] rfl rfl (by kernel_rfl) (fun _ _ _ h => h) (Or.inl ⟨by rfl, ?_⟩) ?_ ?_
     rotate_left
     ·intro w'
      go_simp
      with_reducible rfl
     rotate_left
     ·simp only [Act.put, List.setIfInBounds_toArray, List.set_cons_zero, List.set_cons_succ, i64_w, i32_w]
      rfl
     refine last_ (i := 9) (N := none) #[true, true, true, true, true, true, true, true, true, true] rfl rfl (by kernel_rfl) (by decide) (fun K hK => ?_)
     refine skip_ (w1 := ?_) (by rfl) rfl ?_ ?_
     rotate_left
     ·go_simp
      rfl
     refine hK.out _ _ ?_
     clear hK K
     refine done_ (by kernel_rfl) ?_
     try go_wp2
     go_roundg k2
     case measure => omega
     case rel =>
      refine ⟨j + 1, Ap.put X'' i j m, congrArg (Value.int .i64) (ap_w64s j (by have := HJN.out; have := HX.out i; have := HN1.out; omega)), ⟨by have := HJ.out; omega⟩, ⟨Ap.St.put (Ap.St.below HS.out (pw_below_drewN (Below.refl _ _) _)) HVI.out j m⟩, ⟨fun r => by rw [Ap.put_length]; exact HXL.out r⟩, ⟨by rw [HMM.out]; exact ap_mrk_put HM.out (by have := HN2.out; have := HJN.out; omega)⟩, ⟨Below.setCell (pw_below_drewN HB.out _) (show B ≤ (⟨g, j, none⟩ : Addr).block from HGB.out) _⟩, ⟨by have := HGO.out; simpa using this⟩⟩
end

def gT_eval.l0 : Nat → GTab → Int → Int → List Int → Int → Int → Option (Int)
 | 0, _, _, _, _, _, _ => none
 | k + 1, x0, x2, x7, x10, x11, x12 => if x12 < x11 then (if 0 ≤ x12 then (if x12 < (x10.length : Int) then (if 0 < x0.size then ((gN1.f x0 x7 x2).bind fun t434 => (gT_eval.l0 k x0 x2 (Go.bits .xor .u8 t434 (rd x10 x12)) x10 x11 (wrap64 (x12 + 1)))) else (none)) else (none)) else (none)) else (some x7)
def gT_eval.f (k : Nat) (a0 : GTab) (l1 : List Int) (a2 : Int) : Option (Int) := gT_eval.l0 k a0 a2 0 l1 (l1.length : Int) 0
theorem gT_eval.mono_l : ∀ k, (∀ y0 y1 y2 y3 y4 y5, LeO (gT_eval.l0 k y0 y1 y2 y3 y4 y5) (gT_eval.l0 (k + 1) y0 y1 y2 y3 y4 y5))
 | 0 => fun _ _ _ _ _ _ r h => by simp [gT_eval.l0] at h
 | k + 1 => by
  have ih0 := gT_eval.mono_l k
  ·intro y0 y1 y2 y3 y4 y5
   unfold gT_eval.l0
   repeat' first
   | (with_reducible exact ih0 _ _ _ _ _ _)
   | (with_reducible exact LeO.refl _)
   | (with_reducible exact LeO.none _)
   | (with_reducible refine LeO.ite ?_ ?_)
   | (with_reducible refine LeO.bind ?_ (fun _ => ?_))
theorem gT_eval.mono : ∀ a0 a1 a2 k, LeO (gT_eval.f k a0 a1 a2) (gT_eval.f (k + 1) a0 a1 a2) := by
 intro a0 a1 a2 k
 have ih0 := gT_eval.mono_l k
 unfold gT_eval.f
 repeat' first
   | (with_reducible exact ih0 _ _ _ _ _ _)
   | (with_reducible exact LeO.refl _)
   | (with_reducible exact LeO.none _)
   | (with_reducible refine LeO.ite ?_ ?_)
   | (with_reducible refine LeO.bind ?_ (fun _ => ?_))
set_option maxHeartbeats 8000000 in
set_option maxRecDepth 100000 in
theorem gT_eval.calls (k : Nat) (A0 : Option Addr) (a0 : GTab) (A1 : Option Addr) (c1 : Nat) (l1 : List Int) (a2 : Int) (r : Int) (w : World) (hr0 : gal_OK w A0 a0) (hr1 : Kd.C (Kd.int .u8) w A1 l1.length l1) (hc1 : l1.length ≤ c1) (h : gT_eval.f k a0 l1 a2 = some r) :
  Calls Try.prog 41 #[.pointer A0, .slice A1 l1.length c1, .int .u8 a2] w fun e w' => e = .returned (.int .u8 r) ∧ Drawn0 w w' := by
 have HR0 := Aside0.mk hr0
 clear hr0
 have HR1 := Aside0.mk hr1
 have HC1 := Aside0.mk hc1
 clear hr1 hc1
 have H : (gT_eval.l0 k a0 a2 0 l1 (l1.length : Int) 0) = some r := h
 clear h
 have H' := Aside0.mk H
 clear H
 go_enter Try.func41, Try.ntmps41
 go_wp2
 go_loopg [7, 12] k (fun kq v7 v12 w' => ∃ (x7_1 : Int) (x12_1 : Int), v7 = .int .u8 x7_1 ∧ v12 = .int .i64 x12_1 ∧ Aside0 (gT_eval.l0 kq a0 a2 x7_1 l1 (l1.length : Int) x12_1 = some r) ∧ Aside0 (kq ≤ k) ∧ Drawn0 w w')
 case atStart => exact ⟨(0), (0), (by first | rfl | (simp; done) | (simp [*]; done) | (simp [wrap64]; done)), (by first | rfl | (simp; done) | (simp [*]; done) | (simp [wrap64]; done)), H', ⟨Nat.le_refl _⟩, by repeat (first | exact Drawn0.refl _ | apply Drawn0.step)⟩
 case round =>
  clear H'
  (try clear c1); (try clear p2)
  obtain ⟨x7_1, x12_1, rfl, rfl, HA, HK1, ⟨m1, rfl⟩⟩ := hrel
  cases gk with
  | zero => exact absurd HA.out (by simp [gT_eval.l0])
  | succ k1 =>
   have H := HA.out
   clear HA
   simp only [gT_eval.l0] at H
   by_cases c4 : x12_1 < (l1.length : Int)
   rotate_left
   ·rw [if_neg c4] at H
    have c4b0 : decide (x12_1 < (l1.length : Int)) = false := decide_eq_false c4
    clear c4
    obtain rfl := Option.some.inj H
    go_wp2
    go_ret
    exact ⟨by first | rfl | (simp; done) | (simp [*]; done) | (simp [wrap64]; done), by repeat (first | exact Drawn0.refl _ | apply Drawn0.step)⟩

   rw [if_pos c4] at H
   have c4b0 : decide (x12_1 < (l1.length : Int)) = true := decide_eq_true c4
   clear c4
   by_cases c5 : 0 ≤ x12_1
   rotate_left
   ·rw [if_neg c5] at H
    exact absurd H (by simp)
   rw [if_pos c5] at H
   have c5b0 : decide (0 ≤ x12_1) = true := decide_eq_true c5
   clear c5
   by_cases c6 : x12_1 < (l1.length : Int)
   rotate_left
   ·rw [if_neg c6] at H
    exact absurd H (by simp)
   rw [if_pos c6] at H
   have c6b0 : decide (x12_1 < (l1.length : Int)) = true := decide_eq_true c6
   clear c6
   by_cases c7 : 0 < a0.size
   rotate_left
   ·rw [if_neg c7] at H
    exact absurd H (by simp)
   rw [if_pos c7] at H
   obtain ⟨b_, p_, q_, rfl, hT_⟩ := gal_pos HR0.out c7
   have HT0 := Aside0.mk hT_
   clear hT_ c7
   replace H := Option.bind_eq_some_iff.mp H
   obtain ⟨t434, A90, H⟩ := H
   try dsimp only at H
   have A9 := Aside0.mk A90
   clear A90
   have H' := Aside0.mk H
   clear H
   have p433 : 0 ≤ (x12_1 : Int) := of_decide_eq_true (by first | (with_reducible assumption) | assumption)
   have q433 : x12_1 < (l1.length : Int) := of_decide_eq_true (by first | (with_reducible assumption) | assumption)
   obtain ⟨ad433, e433, hx433_0⟩ := Kd.at_int HR1.out x12_1 p433 q433
   cases e433
   replace p433 := eq_true p433
   replace q433 := eq_true q433
   have ho8 := gal_At_mul HT0.out
   have hx8 := ho8
   go_wp2_with (first | (go_at_call 56; (with_reducible refine (gN1.calls b_ p_ q_ a0 x7_1 a2 t434 _ ?side1 A9.out).mono ?_); (case side1 => exact HT0.out); rintro e w' ⟨rfl, ⟨nd, rfl⟩⟩))
   go_roundg k1
   case measure => have := HK1.out; omega
   case rel => exact ⟨(Go.bits .xor .u8 t434 (rd l1 x12_1)), (wrap64 (x12_1 + 1)), (by first | rfl | (simp; done) | (simp [*]; done) | (simp [wrap64]; done)), (by first | rfl | (simp; done) | (simp [*]; done) | (simp [wrap64]; done)), H', ⟨by have := HK1.out; omega⟩, by repeat (first | exact Drawn0.refl _ | apply Drawn0.step)⟩
def gT_Eval.f (k : Nat) (a0 : GTab) (l1 : List Int) (a2 : Int) : Option (Int × Int) := (gT_lists.f k a0 (([l1, (([a2] : List Int))] : List (List Int)))).bind fun t441 => (if t441 = 0 then ((gT_eval.f k a0 l1 a2).bind fun t442 => (some (t442, 0))) else (some (0, t441)))
theorem gT_Eval.mono : ∀ a0 a1 a2 k, LeO (gT_Eval.f k a0 a1 a2) (gT_Eval.f (k + 1) a0 a1 a2) := by
 intro a0 a1 a2 k
 unfold gT_Eval.f
 repeat' first
   | (with_reducible exact gT_eval.mono _ _ _ _)
   | (with_reducible exact gT_lists.mono _ _ _)
   | (with_reducible exact LeO.refl _)
   | (with_reducible exact LeO.none _)
   | (with_reducible refine LeO.ite ?_ ?_)
   | (with_reducible refine LeO.bind ?_ (fun _ => ?_))
set_option maxHeartbeats 8000000 in
set_option maxRecDepth 100000 in
theorem gT_Eval.calls (k : Nat) (A0 : Option Addr) (a0 : GTab) (P1_ : Nat → Prop) (A1 : Option Addr) (c1 : Nat) (l1 : List Int) (a2 : Int) (r1 : Int) (r2 : Int) (w : World) (hr0 : gal_OK w A0 a0) (hs1 : Kd.V (Kd.int .u8) 5 w w.heap.size (fun k_ => P1_ k_) (.slice A1 l1.length c1) l1) (h : gT_Eval.f k a0 l1 a2 = some (r1, r2)) :
  Calls Try.prog 23 #[.pointer A0, .slice A1 l1.length c1, .int .u8 a2] w fun e w' => e = .returned (.tuple #[.int .u8 r1, .int .i64 r2]) ∧ Below w.heap.size w w' := by
 have HR0 := Aside0.mk hr0
 clear hr0
 have HO1 := aK (show Kd.V (Kd.int .u8) 5 w w.heap.size (fun k_ => (P1_ k_ ∨ w.heap.size ≤ k_)) (.slice A1 l1.length c1) l1 from Kd.V_mono hs1 (fun k_ hk => .inl hk))
 have HB := aK (Below.refl w.heap.size w)
 have H : ((gT_lists.f k a0 (([l1, (([a2] : List Int))] : List (List Int)))).bind fun t441 => (if t441 = 0 then ((gT_eval.f k a0 l1 a2).bind fun t442 => (some (t442, 0))) else (some (0, t441)))) = some (r1, r2) := h
 clear h
 obtain ⟨y435, hy435⟩ : ∃ y_ : List Int, y_ = (([a2] : List Int)) := ⟨_, rfl⟩
 replace H : ((gT_lists.f k a0 (([l1, y435] : List (List Int)))).bind fun t441 => (if t441 = 0 then ((gT_eval.f k a0 l1 a2).bind fun t442 => (some (t442, 0))) else (some (0, t441)))) = some (r1, r2) := by rw [hy435]; exact H
 have Ny435 := Aside0.mk hy435
 clear hy435
 obtain ⟨y438, hy438⟩ : ∃ y_ : List (List Int), y_ = (([l1, y435] : List (List Int))) := ⟨_, rfl⟩
 replace H : ((gT_lists.f k a0 y438).bind fun t441 => (if t441 = 0 then ((gT_eval.f k a0 l1 a2).bind fun t442 => (some (t442, 0))) else (some (0, t441)))) = some (r1, r2) := by rw [hy438]; exact H
 have Ny438 := Aside0.mk hy438
 clear hy438
 replace H := Option.bind_eq_some_iff.mp H
 obtain ⟨t441, A40, H⟩ := H
 try dsimp only at H
 have A4 := Aside0.mk A40
 clear A40
 by_cases c5 : t441 = 0
 rotate_left
 ·rw [if_neg c5] at H
  have c5b0 : (t441 == 0) = false := beq_eq_false_iff_ne.mpr c5
  have c5b1 : (t441 != 0) = true := bne_iff_ne.mpr c5
  simp only [Option.some.injEq, Prod.mk.injEq] at H
  obtain ⟨rfl, rfl⟩ := H
  go_enter Try.func23, Try.ntmps23
  go_wp2_with (first | ((with_reducible refine gate_dst (N := 12) rfl ?_); refine Kd.R_lit (Kd.int .u8) _ 5 ?hg (N := 12) ?hd (xs := ([a2] : List Int)) (inner := [.int .u8 a2]) (ok := fun _ => True) (okp := fun _ => True) ?hr ?hp (fun _ hk => hk) trivial (Below.refl _ _) (Nat.le_refl _) (by simp) ?_; (case hd => rfl); (case hg => rfl); (case hr => first | (go_simp; done) | (go_simp; rfl)); (case hp => exact (Reps.one (show Kd.M (Kd.int .u8) _ _ _ a2 [.int .u8 a2] from rfl) (Reps.none _ _))); intro v436 w13 ho14 hb hg_ hnew_; clear hg_ hnew_; (first | rw [← Ny435.out] at ho14 | (simp only [Int.reduceToNat] at ho14; rw [← Ny435.out] at ho14)); have n0_ := aK (Kd.V_elder' (by (with_reducible repeat (first | apply Kd.V_alloc | apply Kd.V_drewN | apply Kd.V_drew)); exact HO1.out) (Kd.R_base ho14) hb); have n1_ := aK (Kd.R_lower (Kd.R_newM (M := fun k_ => (w.heap.size ≤ k_)) ho14 (below_size (mvh HB.out)) (fun k_ h_ => h_)) (below_size (mvh HB.out))); have n2_ := aK (below_step (mvh HB.out) hb); clear HO1 HB; have HO1 := n0_; have HO437 := n1_; have HB := n2_; clear n0_ n1_ n2_; clear hb ho14; obtain ⟨Ao15, co15, eo15⟩ := Kd.R_slice HO437.out; subst eo15) | ((with_reducible refine gate_dst (N := 13) rfl ?_); refine Kd.N_lit (Kd.slice 5 (Kd.int .u8)) _ 25 ?hg (N' := 13) ?hd (xs := ([l1, y435] : List (List Int))) (inner := [.slice A1 l1.length c1, .slice Ao15 y435.length co15]) (ok := (fun k_ => (P1_ k_ ∨ w.heap.size ≤ k_))) (okp := (fun k_ => (P1_ k_ ∨ w.heap.size ≤ k_))) ?hr ?hp (fun _ hk => hk) ((show ∀ k_, w13.heap.size ≤ k_ → (fun k_ => (P1_ k_ ∨ w.heap.size ≤ k_)) k_ from fun k_ hk => (.inr (Nat.le_trans (below_size (mvh HB.out)) hk))) _ (Nat.le_refl _)) (Below.refl _ _) (Nat.le_refl _) (by simp) ?_; (case hd => rfl); (case hg => rfl); (case hr => first | (go_simp; done) | (go_simp; rfl)); (case hp => exact (Reps.one (show Kd.FK (Kd.slice 5 (Kd.int .u8)) _ _ l1 [.slice A1 l1.length c1] from (Kd.FK_slice_mk (Kd.V_reads' (Kd.V_mono (ok' := (fun k_ => (P1_ k_ ∨ w.heap.size ≤ k_))) (HO1.out) (fun k_ hk => hk.1))).2.1 (Kd.V_F (Kd.V_mono (ok' := (fun k_ => (P1_ k_ ∨ w.heap.size ≤ k_))) (HO1.out) (fun k_ hk => hk.1))))) (Reps.one (show Kd.FK (Kd.slice 5 (Kd.int .u8)) _ _ y435 [.slice Ao15 y435.length co15] from (Kd.FK_slice_mk (Kd.R_reads' (Kd.R_mono (ok' := (fun k_ => (P1_ k_ ∨ w.heap.size ≤ k_))) (HO437.out) (fun k_ hk => (.inr (hk.1))))).2.1 (Kd.R_F (Kd.R_mono (ok' := (fun k_ => (P1_ k_ ∨ w.heap.size ≤ k_))) (HO437.out) (fun k_ hk => (.inr (hk.1))))))) (Reps.none _ _)))); intro v439 w16 ho17 hb hg_ hnew_; clear hg_ hnew_; (first | rw [← Ny438.out] at ho17 | (simp only [Int.reduceToNat] at ho17; rw [← Ny438.out] at ho17)); have n0_ := aK (Kd.V_elder' (by (with_reducible repeat (first | apply Kd.V_alloc | apply Kd.V_drewN | apply Kd.V_drew)); exact HO1.out) (Kd.N_base ho17) hb); have n1_ := aK (Kd.N_lower ho17 (below_size (mvh HB.out))); have n2_ := aK (below_step (mvh HB.out) hb); clear HO1 HB HO437; have HO1 := n0_; have HO440 := n1_; have HB := n2_; clear n0_ n1_ n2_; clear hb ho17; obtain ⟨Ao18, co18, eo18⟩ := Kd.N_slice HO440.out; subst eo18) | (go_at_call 39; (with_reducible refine (gT_lists.calls k _ a0 _ _ y438 t441 _ ?side1 ?side2 ?side3 A4.out).mono ?_); (case side1 => exact (gal_OK_below HR0.out HB.out)); (case side2 => exact mvC (Kd.N_reads' HO440.out).2.2); (case side3 => exact (Kd.N_reads' HO440.out).2.1); rintro e w' ⟨rfl, ⟨nd, rfl⟩⟩))
  go_ret2
  exact ⟨by first | rfl | (simp [errW_none, errW_some] <;> rfl) | (simp [*, errW_none, errW_some] <;> rfl), mvh HB.out⟩

 rw [if_pos c5] at H
 have c5b0 : (t441 == 0) = true := beq_iff_eq.mpr c5
 have c5b1 : (t441 != 0) = false := bne_eq_false_iff_eq.mpr c5
 clear c5
 replace H := Option.bind_eq_some_iff.mp H
 obtain ⟨t442, A60, H⟩ := H
 replace H : (some (t442, 0)) = some (r1, r2) := H
 have A6 := Aside0.mk A60
 clear A60
 simp only [Option.some.injEq, Prod.mk.injEq] at H
 obtain ⟨rfl, rfl⟩ := H
 go_enter Try.func23, Try.ntmps23
 go_wp2_with (first | ((with_reducible refine gate_dst (N := 12) rfl ?_); refine Kd.R_lit (Kd.int .u8) _ 5 ?hg (N := 12) ?hd (xs := ([a2] : List Int)) (inner := [.int .u8 a2]) (ok := fun _ => True) (okp := fun _ => True) ?hr ?hp (fun _ hk => hk) trivial (Below.refl _ _) (Nat.le_refl _) (by simp) ?_; (case hd => rfl); (case hg => rfl); (case hr => first | (go_simp; done) | (go_simp; rfl)); (case hp => exact (Reps.one (show Kd.M (Kd.int .u8) _ _ _ a2 [.int .u8 a2] from rfl) (Reps.none _ _))); intro v436 w7 ho8 hb hg_ hnew_; clear hg_ hnew_; (first | rw [← Ny435.out] at ho8 | (simp only [Int.reduceToNat] at ho8; rw [← Ny435.out] at ho8)); have n0_ := aK (Kd.V_elder' (by (with_reducible repeat (first | apply Kd.V_alloc | apply Kd.V_drewN | apply Kd.V_drew)); exact HO1.out) (Kd.R_base ho8) hb); have n1_ := aK (Kd.R_lower (Kd.R_newM (M := fun k_ => (w.heap.size ≤ k_)) ho8 (below_size (mvh HB.out)) (fun k_ h_ => h_)) (below_size (mvh HB.out))); have n2_ := aK (below_step (mvh HB.out) hb); clear HO1 HB; have HO1 := n0_; have HO437 := n1_; have HB := n2_; clear n0_ n1_ n2_; clear hb ho8; obtain ⟨Ao9, co9, eo9⟩ := Kd.R_slice HO437.out; subst eo9) | ((with_reducible refine gate_dst (N := 13) rfl ?_); refine Kd.N_lit (Kd.slice 5 (Kd.int .u8)) _ 25 ?hg (N' := 13) ?hd (xs := ([l1, y435] : List (List Int))) (inner := [.slice A1 l1.length c1, .slice Ao9 y435.length co9]) (ok := (fun k_ => (P1_ k_ ∨ w.heap.size ≤ k_))) (okp := (fun k_ => (P1_ k_ ∨ w.heap.size ≤ k_))) ?hr ?hp (fun _ hk => hk) ((show ∀ k_, w7.heap.size ≤ k_ → (fun k_ => (P1_ k_ ∨ w.heap.size ≤ k_)) k_ from fun k_ hk => (.inr (Nat.le_trans (below_size (mvh HB.out)) hk))) _ (Nat.le_refl _)) (Below.refl _ _) (Nat.le_refl _) (by simp) ?_; (case hd => rfl); (case hg => rfl); (case hr => first | (go_simp; done) | (go_simp; rfl)); (case hp => exact (Reps.one (show Kd.FK (Kd.slice 5 (Kd.int .u8)) _ _ l1 [.slice A1 l1.length c1] from (Kd.FK_slice_mk (Kd.V_reads' (Kd.V_mono (ok' := (fun k_ => (P1_ k_ ∨ w.heap.size ≤ k_))) (HO1.out) (fun k_ hk => hk.1))).2.1 (Kd.V_F (Kd.V_mono (ok' := (fun k_ => (P1_ k_ ∨ w.heap.size ≤ k_))) (HO1.out) (fun k_ hk => hk.1))))) (Reps.one (show Kd.FK (Kd.slice 5 (Kd.int .u8)) _ _ y435 [.slice Ao9 y435.length co9] from (Kd.FK_slice_mk (Kd.R_reads' (Kd.R_mono (ok' := (fun k_ => (P1_ k_ ∨ w.heap.size ≤ k_))) (HO437.out) (fun k_ hk => (.inr (hk.1))))).2.1 (Kd.R_F (Kd.R_mono (ok' := (fun k_ => (P1_ k_ ∨ w.heap.size ≤ k_))) (HO437.out) (fun k_ hk => (.inr (hk.1))))))) (Reps.none _ _)))); intro v439 w10 ho11 hb hg_ hnew_; clear hg_ hnew_; (first | rw [← Ny438.out] at ho11 | (simp only [Int.reduceToNat] at ho11; rw [← Ny438.out] at ho11)); have n0_ := aK (Kd.V_elder' (by (with_reducible repeat (first | apply Kd.V_alloc | apply Kd.V_drewN | apply Kd.V_drew)); exact HO1.out) (Kd.N_base ho11) hb); have n1_ := aK (Kd.N_lower ho11 (below_size (mvh HB.out))); have n2_ := aK (below_step (mvh HB.out) hb); clear HO1 HB HO437; have HO1 := n0_; have HO440 := n1_; have HB := n2_; clear n0_ n1_ n2_; clear hb ho11; obtain ⟨Ao12, co12, eo12⟩ := Kd.N_slice HO440.out; subst eo12) | (go_at_call 39; (with_reducible refine (gT_lists.calls k _ a0 _ _ y438 t441 _ ?side1 ?side2 ?side3 A4.out).mono ?_); (case side1 => exact (gal_OK_below HR0.out HB.out)); (case side2 => exact mvC (Kd.N_reads' HO440.out).2.2); (case side3 => exact (Kd.N_reads' HO440.out).2.1); rintro e w' ⟨rfl, ⟨nd, rfl⟩⟩) | (go_at_call 41; (with_reducible refine (gT_eval.calls k _ a0 _ _ l1 a2 t442 _ ?side1 ?side2 ?side3 A6.out).mono ?_); (case side1 => exact (gal_OK_below HR0.out (mvh HB.out))); (case side2 => exact mvC (Kd.V_reads' HO1.out).2.2); (case side3 => exact (Kd.V_reads' HO1.out).2.1); rintro e w' ⟨rfl, ⟨nd, rfl⟩⟩))
 go_ret2
 exact ⟨by first | rfl | (simp [errW_none, errW_some] <;> rfl) | (simp [*, errW_none, errW_some] <;> rfl), mvh HB.out⟩
end Go.Proofs.Ytjdkamhnbheofaa.P

-- squeezed
