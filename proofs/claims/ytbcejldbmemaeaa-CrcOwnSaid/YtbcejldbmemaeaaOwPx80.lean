/- ApartBytes and CrcOwn, walked. -/
import Derived.Test.YtbcejldbmemaeaaOwPx3
import Derived.Test.YtbcejldbmemaeaaOwQApart
import Derived.Test.YtbcejldbmemaeaaOwQApart2
namespace Go.Proofs.Ytbcejldbmemaeaa.P
open Go.RowKit Go.Proofs.YtbcejldbmemaeaaW.PrintWords Go.Proofs.YtbcejldbmemaeaaW.PrintLast Go.Proofs.YtbcejldbmemaeaaW.PrintMore
attribute [local go_sem] max2_int min2_int max_two min_two max_three min_three max_four min_four
set_option linter.unusedVariables false
set_option linter.unusedSimpArgs false

/-! ### outpostlaw01_ApartBytes: function 10, given -/
section
open Go.Proofs.YtbcejldbmemaeaaW
def ap_mk (i j : Nat) : Int := (wrap64 ((wrap64 ((wrap64 (31 * (i : Int))) + (wrap64 (7 * (j : Int))))) + 1)) % 256
theorem ap_mk_f (i j : Nat) : outpostlaw01_mark.f (i : Int) (j : Int) = some (ap_mk i j) := rfl
def ap_mrk (X : Nat → List Int) (i j : Nat) : Prop := ∀ r x, x < (X r).length → (r < i ∨ (r = i ∧ x < j)) → (X r).getD x 0 = ap_mk r x
theorem ap_mrk_put {X : Nat → List Int} {i j : Nat} (h : ap_mrk X i j) (hj : j < (X i).length) : ap_mrk (Ap.put X i j (ap_mk i j)) i (j + 1) := by
 intro r x hx hr
 rw [Ap.put_length] at hx
 unfold Ap.put
 by_cases e : r = i
 ·subst e
  rw [if_pos rfl]
  by_cases e2 : j = x
  ·subst e2
   rw [List.getD_eq_getElem?_getD, List.getElem?_set_self hj, Option.getD_some]
  ·rw [List.getD_eq_getElem?_getD, List.getElem?_set_ne e2, ← List.getD_eq_getElem?_getD]
   exact h r x hx (by omega)
 ·rw [if_neg e]
  exact h r x hx (by omega)
theorem ap_mrk_next {X : Nat → List Int} {i j : Nat} (h : ap_mrk X i j) (hj : (X i).length ≤ j) : ap_mrk X (i + 1) 0 := by
 intro r x hx hr
 by_cases e : r = i
 ·subst e
  exact h r x hx (by omega)
 ·exact h r x hx (by omega)
theorem ap_w64s (i : Nat) (h : i ≤ 4611686018427387904) : wrap64 ((i : Int) + 1) = ((i + 1 : Nat) : Int) := by
 unfold wrap64
 omega
@[reducible] def ap_S (go i g j : Nat) (v y : Value) (w' : World) : Prop := w'.cell? ⟨go, i, none⟩ = some v ∧ w'.cell? ⟨g, j, none⟩ = some y ∧ True
theorem ap_at {w : World} {B e go : Nat} {V : List Value} {X : Nat → List Int} (h : Ap.St w B e go 0 V X) {i n cv : Nat} {Av : Option Addr} (hv : V[i]? = some (.slice Av n cv)) (hn : (X i).length = n) {j : Nat} (hj : j < n) : ∃ g, Av = some ⟨g, 0, none⟩ ∧ B ≤ g := by
 rcases h.form hv with ⟨h1, h2⟩ | ⟨g, c, h1, h2, _⟩
 ·omega
 ·injection h1 with h1 _ _
  exact ⟨g, h1, h2⟩
set_option maxHeartbeats 8000000 in
set_option maxRecDepth 100000 in
theorem outpostlaw01_ApartBytes.calls (w : World) (B go c : Nat) (V : List Value) (X : Nat → List Int) (h : Ap.St w B 5 go 0 V X) (hgo : go < w.heap.size) (hB : B ≤ w.heap.size) (hV : V.length ≤ 4611686018427387000) (hX : ∀ i, (X i).length ≤ 140737488355000) :
  Calls Try.prog 10 #[.slice (some ⟨go, 0, none⟩) V.length c] w fun e w' => e = .returned (.bool true) ∧ Below B w w' := by
 have HS := Aside0.mk h
 have HGO := Aside0.mk hgo
 have HB := Aside0.mk (Below.refl B w)
 have HX := Aside0.mk hX
 have HVL := Aside0.mk hV
 have HBW := Aside0.mk hB
 clear h hgo hX hB hV
 go_enter Try.func10, Try.ntmps10
 go_wp2
 go_loopg [3] V.length (fun kq v3 w' => ∃ (i : Nat) (X' : Nat → List Int), v3 = .int .i64 (i : Int) ∧ Aside0 (i + kq = V.length) ∧ Aside0 (Ap.St w' B 5 go 0 V X') ∧ Aside0 (∀ r, (X' r).length = (X r).length) ∧ Aside0 (ap_mrk X' i 0) ∧ Aside0 (Below B w w') ∧ Aside0 (go < w'.heap.size))
 case atStart => exact ⟨0, X, rfl, ⟨by omega⟩, HS, ⟨fun _ => rfl⟩, ⟨fun r x _ hr => by omega⟩, HB, HGO⟩
 case round =>
  clear HS HB HGO
  obtain ⟨i, X', rfl, HI, HS, HXL, HM, HB, HGO⟩ := hrel
  cases gk with
  | zero =>
   have hif : decide (i < V.length) = false := decide_eq_false (by have := HI.out; omega)
   have HM1 : Aside0 (ap_mrk X' V.length 0) := ⟨by have := HI.out; rw [← this]; exact HM.out⟩
   clear HM
   go_wp2
   go_loopg [5] V.length (fun kq v5 w' => ∃ (i : Nat), v5 = .int .i64 (i : Int) ∧ Aside0 (i + kq = V.length) ∧ Aside0 (Ap.St w' B 5 go 0 V X') ∧ Aside0 (Below B w w') ∧ Aside0 (go < w'.heap.size))
   case atStart => exact ⟨0, rfl, ⟨by omega⟩, HS, HB, HGO⟩
   case round =>
    clear HS HB HGO HI
    obtain ⟨i, rfl, HI, HS, HB, HGO⟩ := hrel
    cases gk with
    | zero =>
     have hif : decide (i < V.length) = false := decide_eq_false (by have := HI.out; omega)
     go_wp2
     go_loopg [8] V.length (fun kq v8 w' => ∃ (i : Nat), v8 = .int .i64 (i : Int) ∧ Aside0 (i + kq = V.length) ∧ Aside0 (Ap.St w' B 5 go 0 V X') ∧ Aside0 (Below B w w'))
     case atStart => exact ⟨0, rfl, ⟨by omega⟩, HS, HB⟩
     case round =>
      clear HS HB HGO HI
      obtain ⟨i, rfl, HI, HS, HB⟩ := hrel
      cases gk with
      | zero =>
       have hif : decide (i < V.length) = false := decide_eq_false (by have := HI.out; omega)
       go_wp2
       go_ret
       exact ⟨rfl, HB.out⟩
      | succ k1 =>
       have hin : i < V.length := by have := HI.out; omega
       have hit : decide (i < V.length) = true := decide_eq_true hin
       have ti : (i < V.length) = True := eq_true hin
       obtain ⟨v, hv⟩ : ∃ v, V[i]? = some v := ⟨_, List.getElem?_eq_getElem hin⟩
       obtain ⟨Av, cv, hvf⟩ : ∃ Av cv, v = .slice Av (X' i).length cv := by
        rcases HS.out.form hv with ⟨h1, h2⟩ | ⟨g, c', h1, _, _⟩
        ·exact ⟨none, 0, by rw [h2]; exact h1⟩
        ·exact ⟨_, _, h1⟩
       obtain ⟨n, hn⟩ : ∃ n, (X' i).length = n := ⟨_, rfl⟩
       rw [hn] at hvf
       subst hvf
       have HV := Aside0.mk hv
       have HN := Aside0.mk hn
       have HIN := Aside0.mk hin
       clear hv hn hin
       have hco0 : wr.cell? ⟨go, i, none⟩ = some (.slice Av n cv) := by have := HS.out.outer i _ HV.out; rwa [Nat.zero_add] at this
       clear hco0
       go_wp2
       go_loopg [9] n (fun kq v9 w' => ∃ (j : Nat), v9 = .int .i64 (j : Int) ∧ Aside0 (j + kq = n) ∧ Aside0 (Ap.St w' B 5 go 0 V X') ∧ Aside0 (Below B w w'))
       case atStart => exact ⟨0, rfl, ⟨by omega⟩, HS, HB⟩
       case round =>
        clear HS HB
        obtain ⟨j, rfl, HJ, HS, HB⟩ := hrel
        have hco : wr.cell? ⟨go, i, none⟩ = some (.slice Av n cv) := by have := HS.out.outer i _ HV.out; rwa [Nat.zero_add] at this
        cases gk with
        | zero =>
         have hjf : decide (j < n) = false := decide_eq_false (by have := HJ.out; omega)
         go_wp2
         go_roundg k1
         case measure => omega
         case rel => exact ⟨i + 1, congrArg (Value.int .i64) (ap_w64s i (by have := HIN.out; have := HVL.out; omega)), ⟨by have := HI.out; omega⟩, HS, HB⟩
        | succ k2 =>
         have hjn : j < n := by have := HJ.out; omega
         have hjt : decide (j < n) = true := decide_eq_true hjn
         have tj : (j < n) = True := eq_true hjn
         obtain ⟨g, hg, hgB⟩ := ap_at HS.out HV.out HN.out hjn
         subst hg
         have hVi : V[i]? = some (.slice (some ⟨g, 0, none⟩) (X' i).length cv) := by rw [HN.out]; exact HV.out
         obtain ⟨m, hm⟩ : ∃ m, m = ap_mk i j := ⟨_, rfl⟩
         have hcg : wr.cell? ⟨g, j, none⟩ = some (.int .u8 m) := by
          have h1 := HS.out.cell hVi (j := j) (by have := HN.out; omega)
          have h2 := HM1.out i j (by have := HN.out; omega) (.inl HIN.out)
          rw [h2, ← hm] at h1
          exact h1
         have HJN := Aside0.mk hjn
         have HMM := Aside0.mk hm
         clear hVi hgB hjn hm
         go_wp2
         refine start_ (n := 11) (S := ap_S go i g j (.slice (some ⟨g, 0, none⟩) n cv) (.int .u8 m)) (ds := []) #[false, false, false, false, false, false, false, false, false, false, false] (by kernel_rfl) rfl rfl ⟨hco, hcg, trivial⟩ (fun hHeld => ?_)
         refine pure_ (i := 0) (N := some 66) (v := ?_) (a' := ?_) #[true, false, false, false, false, false, false, false, false, false, false] rfl rfl (by kernel_rfl) (fun _ _ _ h => h) (Or.inl ⟨by rfl, ?_⟩) ?_ ?_
         rotate_left
         ·intro w'
          go_simp
          with_reducible rfl
         rotate_left
         ·simp only [Act.put, List.setIfInBounds_toArray, List.set_cons_zero, List.set_cons_succ, i64_w, i32_w]
          rfl
         refine pure_ (i := 1) (N := some 67) (v := ?_) (a' := ?_) #[true, true, false, false, false, false, false, false, false, false, false] rfl rfl (by kernel_rfl) (fun _ _ _ h => h) (Or.inl ⟨by rfl, ?_⟩) ?_ ?_
         rotate_left
         ·intro w'
          go_simp
          with_reducible rfl
         rotate_left
         ·simp only [Act.put, List.setIfInBounds_toArray, List.set_cons_zero, List.set_cons_succ, i64_w, i32_w]
          rfl
         refine pure_ (i := 2) (N := some 68) (v := ?_) (a' := ?_) #[true, true, true, false, false, false, false, false, false, false, false] rfl rfl (by kernel_rfl) (fun _ _ _ h => h) (Or.inl ⟨by rfl, ?_⟩) ?_ ?_
         rotate_left
         ·intro w'
          go_simp
          with_reducible rfl
         rotate_left
         ·simp only [Act.put, List.setIfInBounds_toArray, List.set_cons_zero, List.set_cons_succ, i64_w, i32_w]
          rfl
         refine take_ (i := 3) (N := some 69) (v := ?_) (a' := ?_) #[true, true, true, true, false, false, false, false, false, false, false] rfl rfl (by kernel_rfl) (fun _ _ _ h => h) (Or.inl ⟨by rfl, ?_⟩) hHeld ?_ ?_
         rotate_left
         ·rintro w' ⟨hq0, hq1, _⟩
          go_simp
          with_reducible rfl
         rotate_left
         ·simp only [Act.put, List.setIfInBounds_toArray, List.set_cons_zero, List.set_cons_succ, i64_w, i32_w]
          rfl
         refine pure_ (i := 4) (N := some 70) (v := ?_) (a' := ?_) #[true, true, true, true, true, false, false, false, false, false, false] rfl rfl (by kernel_rfl) (fun _ _ _ h => h) (Or.inl ⟨by rfl, ?_⟩) ?_ ?_
         rotate_left
         ·intro w'
          go_simp
          with_reducible rfl
         rotate_left
         ·simp only [Act.put, List.setIfInBounds_toArray, List.set_cons_zero, List.set_cons_succ, i64_w, i32_w]
          rfl
         refine pure_ (i := 5) (N := some 71) (v := ?_) (a' := ?_) #[true, true, true, true, true, true, false, false, false, false, false] rfl rfl (by kernel_rfl) (fun _ _ _ h => h) (Or.inl ⟨by rfl, ?_⟩) ?_ ?_
         rotate_left
         ·intro w'
          go_simp
          with_reducible rfl
         rotate_left
         ·simp only [Act.put, List.setIfInBounds_toArray, List.set_cons_zero, List.set_cons_succ, i64_w, i32_w]
          rfl
         refine take_ (i := 6) (N := some 72) (v := ?_) (a' := ?_) #[true, true, true, true, true, true, true, false, false, false, false] rfl rfl (by kernel_rfl) (fun _ _ _ h => h) (Or.inl ⟨by rfl, ?_⟩) hHeld ?_ ?_
         rotate_left
         ·rintro w' ⟨hq0, hq1, _⟩
          go_simp
          with_reducible rfl
         rotate_left
         ·simp only [Act.put, List.setIfInBounds_toArray, List.set_cons_zero, List.set_cons_succ, i64_w, i32_w]
          rfl
         refine pure_ (i := 7) (N := some 73) (v := ?_) (a' := ?_) #[true, true, true, true, true, true, true, true, false, false, false] rfl rfl (by kernel_rfl) (fun _ _ _ h => h) (Or.inl ⟨by rfl, ?_⟩) ?_ ?_
         rotate_left
         ·intro w'
          go_simp
          with_reducible rfl
         rotate_left
         ·simp only [Act.put, List.setIfInBounds_toArray, List.set_cons_zero, List.set_cons_succ, i64_w, i32_w]
          rfl
         refine pure_ (i := 8) (N := some 74) (v := ?_) (a' := ?_) #[true, true, true, true, true, true, true, true, true, false, false] rfl rfl (by kernel_rfl) (fun _ _ _ h => h) (Or.inl ⟨by rfl, ?_⟩) ?_ ?_
         rotate_left
         ·intro w'
          go_simp
          with_reducible rfl
         rotate_left
         ·simp only [Act.put, List.setIfInBounds_toArray, List.set_cons_zero, List.set_cons_succ, i64_w, i32_w]
          rfl
         refine one_ (i := 9) (N := some 75) #[true, true, true, true, true, true, true, true, true, true, false] rfl rfl (by kernel_rfl) (by decide) (fun K hK => ?_)
         have hcall := outpostlaw01_mark.calls (i : Int) (j : Int) m (wr.drew) (by rw [HMM.out]; exact ap_mk_f i j)
         refine goes_ Try.func28 (by kernel_rfl) rfl #[.int .i64 (i : Int), .int .i64 (j : Int)] (by rfl) rfl rfl (by (try simp only [List.map_toArray, List.map_cons, List.map_nil]); first | done | rfl | (simp [Act.eval]; done)) ?_
         refine hcall.mono ?_
         clear hcall
         rintro e w2 ⟨rfl, ⟨nd, rfl⟩⟩
         refine ⟨_, rfl, ?_⟩
         refine hK.out _ _ ⟨hco, hcg, trivial⟩ (fun hHeld2 => ?_)
         clear hK K
         refine norm_ (a' := ?_) ?_ ?_
         rotate_left
         ·show Act.put _ (some 75) _ = _
          simp only [Act.put, List.setIfInBounds_toArray, List.set_cons_zero, List.set_cons_succ, i64_w, i32_w]
          rfl
         refine pure_ (i := 10) (N := some 76) (v := ?_) (a' := ?_) #[true, true, true, true, true, true, true, true, true, true, true] rfl rfl (by kernel_rfl) (fun _ _ _ h => h) (Or.inl ⟨by rfl, ?_⟩) ?_ ?_
         rotate_left
         ·intro w'
          go_simp
          with_reducible rfl
         rotate_left
         ·simp only [Act.put, List.setIfInBounds_toArray, List.set_cons_zero, List.set_cons_succ, i64_w, i32_w]
          rfl
         refine done_ (by kernel_rfl) ?_
         try go_wp2
         go_roundg k2
         case measure => omega
         case rel => exact ⟨j + 1, congrArg (Value.int .i64) (ap_w64s j (by have := HJN.out; have := HX.out i; have := HXL.out i; have := HN.out; omega)), ⟨by have := HJ.out; omega⟩, ⟨Ap.St.below HS.out (pw_below_drewN (Below.refl _ _) _)⟩, ⟨pw_below_drewN HB.out _⟩⟩
    | succ k1 =>
     have hin : i < V.length := by have := HI.out; omega
     have hit : decide (i < V.length) = true := decide_eq_true hin
     have ti : (i < V.length) = True := eq_true hin
     obtain ⟨v, hv⟩ : ∃ v, V[i]? = some v := ⟨_, List.getElem?_eq_getElem hin⟩
     obtain ⟨Av, cv, hvf⟩ : ∃ Av cv, v = .slice Av (X' i).length cv := by
      rcases HS.out.form hv with ⟨h1, h2⟩ | ⟨g, c', h1, _, _⟩
      ·exact ⟨none, 0, by rw [h2]; exact h1⟩
      ·exact ⟨_, _, h1⟩
     obtain ⟨n, hn⟩ : ∃ n, (X' i).length = n := ⟨_, rfl⟩
     rw [hn] at hvf
     subst hvf
     have HV := Aside0.mk hv
     have HN := Aside0.mk hn
     have HIN := Aside0.mk hin
     clear hv hn hin
     have hco : wr.cell? ⟨go, i, none⟩ = some (.slice Av n cv) := by have := HS.out.outer i _ HV.out; rwa [Nat.zero_add] at this
     obtain ⟨H, hH⟩ : ∃ H, H = wr.heap.size := ⟨_, rfl⟩
     have HVH : Aside0 (∀ (r : Nat) (v : Value), V[r]? = some v → ∀ k, v.ownBlock = some k → k < H) := ⟨fun r v hv k hk => by rw [hH]; exact ((HS.out.own r v hv).lt k hk).2⟩
     have HgH : Aside0 (go < H) := ⟨by rw [hH]; exact HGO.out⟩
     have HBH : Aside0 (B ≤ H) := ⟨by have h1 := HBW.out; have h2 := HB.out.size; omega⟩
     have HHS : Aside0 (H ≤ wr.heap.size) := ⟨by omega⟩
     have HMo := Aside0.mk (Ap.More.start HS.out HV.out H)
     clear hH
     go_wp2
     go_loopg [6, 7] (40 : Nat) (fun kq v6 v7 w' => ∃ (k : Nat), v7 = .int .i64 (k : Int) ∧ Aside0 (k + kq = 40) ∧ Aside0 (Ap.More w' H 5 (.slice Av n cv) (X' i).length (Ap.bv (X' i)) v6 k) ∧ Aside0 (Ap.St w' B 5 go 0 V X') ∧ Aside0 (Below B w w') ∧ Aside0 (go < w'.heap.size) ∧ Aside0 (H ≤ w'.heap.size))
     case atStart => exact ⟨0, rfl, ⟨rfl⟩, HMo, HS, HB, HGO, HHS⟩
     case round =>
      clear HS HB HGO HHS HMo hco
      obtain ⟨k, rfl, HK, HMo, HS, HB, HGO, HHS⟩ := hrel
      cases gk with
      | zero =>
       have hkf : decide ((k : Int) < 40) = false := decide_eq_false (by have := HK.out; omega)
       go_wp2
       go_roundg k1
       case measure => omega
       case rel => exact ⟨i + 1, congrArg (Value.int .i64) (ap_w64s i (by have := HIN.out; have := HVL.out; omega)), ⟨by have := HI.out; omega⟩, HS, HB, HGO⟩
      | succ k2 =>
       have hkt : decide ((k : Int) < 40) = true := decide_eq_true (by have := HK.out; omega)
       have hkb : k ≤ 39 := by have := HK.out; omega
       go_wp2_with (first | ((with_reducible refine gate_builtin (b := .append) (xs := #[.tmp 48, .tmp 49]) rfl ?_); at_builtin; refine Ap.more_append rfl (.tmp 48) (.tmp 49) 25 rfl Try.underlying25 info5 254 u6 rfl rfl HS.out HGO.out HV.out H HBH.out HVH.out HgH.out HHS.out HMo.out ?aL ?_; (case aL => have h1 := HX.out i; have h2 := HXL.out i; have h3 := HK.out; omega); intro u9 w9 hs9 hm9 hb9; have n0_ := Aside0.mk hs9; have n1_ := Aside0.mk hm9; have n2_ := Aside0.mk (HB.out.trans hb9); have n3_ : Aside0 (go < w9.heap.size) := ⟨Nat.lt_of_lt_of_le HGO.out hb9.size⟩; have n4_ : Aside0 (H ≤ w9.heap.size) := ⟨Nat.le_trans HHS.out hb9.size⟩; clear hs9 hm9 hb9 HS HMo HB HGO HHS; have HS := n0_; have HMo := n1_; have HB := n2_; have HGO := n3_; have HHS := n4_; clear n0_ n1_ n2_ n3_ n4_))
       go_roundg k2
       case measure => omega
       case rel => exact ⟨k + 1, (by first | go_num | exact congrArg (Value.int .i64) (ap_w64s k (by omega))), ⟨by have := HK.out; omega⟩, HMo, HS, HB, HGO, HHS⟩
  | succ k1 =>
   have hin : i < V.length := by have := HI.out; omega
   have hit : decide (i < V.length) = true := decide_eq_true hin
   have ti : (i < V.length) = True := eq_true hin
   obtain ⟨v, hv⟩ : ∃ v, V[i]? = some v := ⟨_, List.getElem?_eq_getElem hin⟩
   obtain ⟨Av, cv, hvf⟩ : ∃ Av cv, v = .slice Av (X' i).length cv := by
    rcases HS.out.form hv with ⟨h1, h2⟩ | ⟨g, c', h1, _, _⟩
    ·exact ⟨none, 0, by rw [h2]; exact h1⟩
    ·exact ⟨_, _, h1⟩
   obtain ⟨n, hn⟩ : ∃ n, (X' i).length = n := ⟨_, rfl⟩
   rw [hn] at hvf
   subst hvf
   have HV := Aside0.mk hv
   have HN := Aside0.mk hn
   have HIN := Aside0.mk hin
   clear hv hn hin
   go_wp2
   go_loopg [4] n (fun kq v4 w' => ∃ (j : Nat) (X'' : Nat → List Int), v4 = .int .i64 (j : Int) ∧ Aside0 (j + kq = n) ∧ Aside0 (Ap.St w' B 5 go 0 V X'') ∧ Aside0 (∀ r, (X'' r).length = (X r).length) ∧ Aside0 (ap_mrk X'' i j) ∧ Aside0 (Below B w w') ∧ Aside0 (go < w'.heap.size))
   case atStart => exact ⟨0, X', rfl, ⟨by omega⟩, HS, HXL, HM, HB, HGO⟩
   case round =>
    have HN1 : Aside0 ((X i).length = n) := ⟨by rw [← HXL.out i]; exact HN.out⟩
    clear HS HB HGO HM HXL HN
    obtain ⟨j, X'', rfl, HJ, HS, HXL, HM, HB, HGO⟩ := hrel
    have hco : wr.cell? ⟨go, i, none⟩ = some (.slice Av n cv) := by have := HS.out.outer i _ HV.out; rwa [Nat.zero_add] at this
    cases gk with
    | zero =>
     have hjf : decide (j < n) = false := decide_eq_false (by have := HJ.out; omega)
     go_wp2
     go_roundg k1
     case measure => omega
     case rel =>
      refine ⟨i + 1, X'', congrArg (Value.int .i64) (ap_w64s i (by have := HIN.out; have := HVL.out; omega)), ⟨by have := HI.out; omega⟩, HS, HXL, ⟨ap_mrk_next HM.out (by have h1 := HXL.out i; have h2 := HN1.out; have h3 := HJ.out; omega)⟩, HB, HGO⟩
    | succ k2 =>
     have hjn : j < n := by have := HJ.out; omega
     have hjt : decide (j < n) = true := decide_eq_true hjn
     have tj : (j < n) = True := eq_true hjn
     have hn2 : (X'' i).length = n := (HXL.out i).trans HN1.out
     obtain ⟨g, hg, hgB⟩ := ap_at HS.out HV.out hn2 hjn
     subst hg
     have hVi : V[i]? = some (.slice (some ⟨g, 0, none⟩) (X'' i).length cv) := by rw [hn2]; exact HV.out
     have hcg := HS.out.cell hVi (j := j) (by omega)
     have hfg := HS.out.frozen hVi j
     have HVI := Aside0.mk hVi
     have HGB := Aside0.mk hgB
     have HJN := Aside0.mk hjn
     have HN2 := Aside0.mk hn2
     obtain ⟨m, hm⟩ : ∃ m, m = ap_mk i j := ⟨_, rfl⟩
     have HMM := Aside0.mk hm
     clear hVi hgB hjn hn2 hm
     go_wp2
     refine start_ (n := 10) (S := ap_S go i g j (.slice (some ⟨g, 0, none⟩) n cv) (.int .u8 ((X'' i).getD j 0))) (ds := [9]) #[false, false, false, false, false, false, false, false, false, false] (by kernel_rfl) rfl rfl ⟨hco, hcg, trivial⟩ (fun hHeld => ?_)
     refine pure_ (i := 0) (N := some 25) (v := ?_) (a' := ?_) #[true, false, false, false, false, false, false, false, false, false] rfl rfl (by kernel_rfl) (fun _ _ _ h => h) (Or.inl ⟨by rfl, ?_⟩) ?_ ?_
     rotate_left
     ·intro w'
      go_simp
      with_reducible rfl
     rotate_left
     ·simp only [Act.put, List.setIfInBounds_toArray, List.set_cons_zero, List.set_cons_succ, i64_w, i32_w]
      rfl
     refine pure_ (i := 1) (N := some 26) (v := ?_) (a' := ?_) #[true, true, false, false, false, false, false, false, false, false] rfl rfl (by kernel_rfl) (fun _ _ _ h => h) (Or.inl ⟨by rfl, ?_⟩) ?_ ?_
     rotate_left
     ·intro w'
      go_simp
      with_reducible rfl
     rotate_left
     ·simp only [Act.put, List.setIfInBounds_toArray, List.set_cons_zero, List.set_cons_succ, i64_w, i32_w]
      rfl
     refine pure_ (i := 2) (N := some 27) (v := ?_) (a' := ?_) #[true, true, true, false, false, false, false, false, false, false] rfl rfl (by kernel_rfl) (fun _ _ _ h => h) (Or.inl ⟨by rfl, ?_⟩) ?_ ?_
     rotate_left
     ·intro w'
      go_simp
      with_reducible rfl
     rotate_left
     ·simp only [Act.put, List.setIfInBounds_toArray, List.set_cons_zero, List.set_cons_succ, i64_w, i32_w]
      rfl
     refine take_ (i := 3) (N := some 28) (v := ?_) (a' := ?_) #[true, true, true, true, false, false, false, false, false, false] rfl rfl (by kernel_rfl) (fun _ _ _ h => h) (Or.inl ⟨by rfl, ?_⟩) hHeld ?_ ?_
     rotate_left
     ·rintro w' ⟨hq0, hq1, _⟩
      go_simp
      with_reducible rfl
     rotate_left
     ·simp only [Act.put, List.setIfInBounds_toArray, List.set_cons_zero, List.set_cons_succ, i64_w, i32_w]
      rfl
     refine pure_ (i := 4) (N := some 29) (v := ?_) (a' := ?_) #[true, true, true, true, true, false, false, false, false, false] rfl rfl (by kernel_rfl) (fun _ _ _ h => h) (Or.inl ⟨by rfl, ?_⟩) ?_ ?_
     rotate_left
     ·intro w'
      go_simp
      with_reducible rfl
     rotate_left
     ·simp only [Act.put, List.setIfInBounds_toArray, List.set_cons_zero, List.set_cons_succ, i64_w, i32_w]
      rfl
     refine pure_ (i := 5) (N := some 30) (v := ?_) (a' := ?_) #[true, true, true, true, true, true, false, false, false, false] rfl rfl (by kernel_rfl) (fun _ _ _ h => h) (Or.inl ⟨by rfl, ?_⟩) ?_ ?_
     rotate_left
     ·intro w'
      go_simp
      with_reducible rfl
     rotate_left
     ·simp only [Act.put, List.setIfInBounds_toArray, List.set_cons_zero, List.set_cons_succ, i64_w, i32_w]
      rfl
     refine pure_ (i := 6) (N := some 31) (v := ?_) (a' := ?_) #[true, true, true, true, true, true, true, false, false, false] rfl rfl (by kernel_rfl) (fun _ _ _ h => h) (Or.inl ⟨by rfl, ?_⟩) ?_ ?_
     rotate_left
     ·intro w'
      go_simp
      with_reducible rfl
     rotate_left
     ·simp only [Act.put, List.setIfInBounds_toArray, List.set_cons_zero, List.set_cons_succ, i64_w, i32_w]
      rfl
     refine one_ (i := 7) (N := some 32) #[true, true, true, true, true, true, true, true, false, false] rfl rfl (by kernel_rfl) (by decide) (fun K hK => ?_)
     have hcall := outpostlaw01_mark.calls (i : Int) (j : Int) m (wr.drew) (by rw [HMM.out]; exact ap_mk_f i j)
     refine goes_ Try.func28 (by kernel_rfl) rfl #[.int .i64 (i : Int), .int .i64 (j : Int)] (by rfl) rfl rfl (by (try simp only [List.map_toArray, List.map_cons, List.map_nil]); first | done | rfl | (simp [Act.eval]; done)) ?_
     refine hcall.mono ?_
     clear hcall
     rintro e w2 ⟨rfl, ⟨nd, rfl⟩⟩
     refine ⟨_, rfl, ?_⟩
     refine hK.out _ _ ⟨hco, hcg, trivial⟩ (fun hHeld2 => ?_)
     clear hK K
     refine norm_ (a' := ?_) ?_ ?_
     rotate_left
     ·show Act.put _ (some 32) _ = _
      simp only [Act.put, List.setIfInBounds_toArray, List.set_cons_zero, List.set_cons_succ, i64_w, i32_w]
      rfl
     refine pure_ (i := 8) (N := some 33) (v := ?_) (a' := ?_) #[true, true, true, true, true, true, true, true, true, false] rfl rfl (by kernel_rfl) (fun _ _ _ h => h) (Or.inl ⟨by rfl, ?_⟩) ?_ ?_
     rotate_left
     ·intro w'
      go_simp
      with_reducible rfl
     rotate_left
     ·simp only [Act.put, List.setIfInBounds_toArray, List.set_cons_zero, List.set_cons_succ, i64_w, i32_w]
      rfl
     refine last_ (i := 9) (N := none) #[true, true, true, true, true, true, true, true, true, true] rfl rfl (by kernel_rfl) (by decide) (fun K hK => ?_)
     refine skip_ (w1 := ?_) (by rfl) rfl ?_ ?_
     rotate_left
     ·go_simp
      rfl
     refine hK.out _ _ ?_
     clear hK K
     refine done_ (by kernel_rfl) ?_
     try go_wp2
     go_roundg k2
     case measure => omega
     case rel =>
      refine ⟨j + 1, Ap.put X'' i j m, congrArg (Value.int .i64) (ap_w64s j (by have := HJN.out; have := HX.out i; have := HN1.out; omega)), ⟨by have := HJ.out; omega⟩, ⟨Ap.St.put (Ap.St.below HS.out (pw_below_drewN (Below.refl _ _) _)) HVI.out j m⟩, ⟨fun r => by rw [Ap.put_length]; exact HXL.out r⟩, ⟨by rw [HMM.out]; exact ap_mrk_put HM.out (by have := HN2.out; have := HJN.out; omega)⟩, ⟨Below.setCell (pw_below_drewN HB.out _) (show B ≤ (⟨g, j, none⟩ : Addr).block from HGB.out) _⟩, ⟨by have := HGO.out; simpa using this⟩⟩
end


/-! ### outpostlaw03_CrcOwn: function 3, given -/
section
open Go.Proofs.YtbcejldbmemaeaaW
theorem own_info25 : (Try.prog.info? 25).map (fun i => (i.zero, i.size, i.bytes)) = some (some (.slice none 0 0), 1, 24) := by kernel_rfl
set_option maxHeartbeats 8000000 in
set_option maxRecDepth 100000 in
theorem crcOwn_go (a0_0 a0_1 a0_2 a0_3 : Int) (a0_4 : Bool) (A1 : Option Addr) (c1 : Nat) (l1 xs : List Int) (t106 t107 t108 t109 : Int) (t110 : Bool) (w : World) (hr1 : Kd.C (Kd.int .u8) w A1 l1.length l1) (hc1 : l1.length ≤ c1) (hG : outpostlaw03_Good.f a0_0 a0_1 a0_2 a0_3 a0_4 = some (t106, t107, t108, t109, t110)) (hS : crc_Seal.f t106 t107 t108 t109 t110 l1 = some (xs, 0)) (hU : crc_Unseal.f t106 t107 t108 t109 t110 xs = some (l1, 0)) (hxl : xs.length ≤ 140737488355000) (hll : l1.length ≤ 140737488355000) :
  Calls Try.prog 3 #[.agg #[.int .i64 a0_0, .int .u32 a0_1, .int .u32 a0_2, .int .u32 a0_3, .bool a0_4], .slice A1 l1.length c1] w fun e w' => e = .returned (.bool true) ∧ Below w.heap.size w w' := by
 have hu24 := Try.underlying24
 have HR1 := Aside0.mk hr1
 have HC1 := Aside0.mk hc1
 have HG := Aside0.mk hG
 have HSE := Aside0.mk hS
 have HUN := Aside0.mk hU
 have HXS := Aside0.mk hxl
 have HLL := Aside0.mk hll
 have HB := Aside0.mk (Below.refl w.heap.size w)
 clear hr1 hc1 hG hS hU hxl hll
 go_enter Try.func3, Try.ntmps3
 go_wp2_with (first | ((with_reducible refine gate_dst (N := 2) rfl ?_); refine box_event ?hg (N := 2) ?hd (cs := #[.int .i64 a0_0, .int .u32 a0_1, .int .u32 a0_2, .int .u32 a0_3, .bool a0_4]) (t := 24) ?hr ?_; (case hd => rfl); (case hg => rfl); (case hr => first | (go_simp; done) | (go_simp; rfl)); intro gb105 hg w4 hbox hb; have n0_ := Aside0.mk (below_step (by repeat (first | (with_reducible first | exact HB.out | apply below_alloc | apply pw_below_drewN | apply below_drew1) | exact HB.out)) hb); have n1_ := Aside0.mk (hbox); have n2_ := Aside0.mk ((by rw [hg]; exact (below_size (by repeat (first | (with_reducible first | exact HB.out | apply below_alloc | apply pw_below_drewN | apply below_drew1) | exact HB.out))) : w.heap.size ≤ gb105)); have n3_ := Aside0.mk ((by rw [hg]; exact (below_size (by repeat (first | (with_reducible first | exact HB.out | apply below_alloc | apply pw_below_drewN | apply below_drew1) | exact HB.out))) : w.heap.size ≤ gb105)); clear HB; have HB := n0_; have BK105 := n1_; have GW105 := n2_; have GE105 := n3_; clear n0_ n1_ n2_ n3_; clear hb hbox hg; have hcz5_0 : w4.cell? ⟨gb105, 0, none⟩ = some (.int .i64 a0_0) := (blk_cell BK105.out 0).trans rfl; have hcz5_1 : w4.cell? ⟨gb105, 1, none⟩ = some (.int .u32 a0_1) := (blk_cell BK105.out 1).trans rfl; have hcz5_2 : w4.cell? ⟨gb105, 2, none⟩ = some (.int .u32 a0_2) := (blk_cell BK105.out 2).trans rfl; have hcz5_3 : w4.cell? ⟨gb105, 3, none⟩ = some (.int .u32 a0_3) := (blk_cell BK105.out 3).trans rfl; have hcz5_4 : w4.cell? ⟨gb105, 4, none⟩ = some (.bool a0_4) := (blk_cell BK105.out 4).trans rfl; have hfz5_0 := blk_frozen BK105.out 0; have hfz5_1 := blk_frozen BK105.out 1; have hfz5_2 := blk_frozen BK105.out 2; have hfz5_3 := blk_frozen BK105.out 3; have hfz5_4 := blk_frozen BK105.out 4) | ((with_reducible refine gate_callee (f := 6) rfl ?_); refine goesL_ (some 13) rfl rfl Try.func6 (by kernel_rfl) rfl #[.agg #[.int .i64 a0_0, .int .u32 a0_1, .int .u32 a0_2, .int .u32 a0_3, .bool a0_4]] rfl (by (try simp only [List.map_toArray, List.map_cons, List.map_nil]); first | done | rfl | (simp only [List.length_drop, List.length_take]; rfl) | (simp [Act.eval, IntKind.wrap_u8, IntKind.wrap_u32]; done)) ?_; (with_reducible refine (outpostlaw03_Good.calls a0_0 a0_1 a0_2 a0_3 a0_4 t106 t107 t108 t109 t110 _ HG.out).mono ?_); rintro e w6 ⟨rfl, hb⟩; refine ⟨_, rfl, ?_⟩; have n0_ := Aside0.mk (blk_below (g := gb105) (o := .cells #[.int .i64 a0_0, .int .u32 a0_1, .int .u32 a0_2, .int .u32 a0_3, .bool a0_4] 24 (0, 0)) (by (with_reducible repeat (first | refine blk_drewN ?_ _ | refine blk_drew ?_ | refine blk_alloc ?_ _)); exact BK105.out) hb); have n1_ := Aside0.mk (below_step (by repeat (first | (with_reducible first | exact HB.out | apply below_alloc | apply pw_below_drewN | apply below_drew1 | refine below_set ?_ GE105.out) | exact HB.out)) hb); clear BK105; clear HB; have BK105 := n0_; have HB := n1_; clear n0_ n1_; (try clear hb); (try clear hb2); (try clear hk); (try clear hi); have hcz7_0 : w6.cell? ⟨gb105, 0, none⟩ = some (.int .i64 a0_0) := (blk_cell BK105.out 0).trans rfl; have hcz7_1 : w6.cell? ⟨gb105, 1, none⟩ = some (.int .u32 a0_1) := (blk_cell BK105.out 1).trans rfl; have hcz7_2 : w6.cell? ⟨gb105, 2, none⟩ = some (.int .u32 a0_2) := (blk_cell BK105.out 2).trans rfl; have hcz7_3 : w6.cell? ⟨gb105, 3, none⟩ = some (.int .u32 a0_3) := (blk_cell BK105.out 3).trans rfl; have hcz7_4 : w6.cell? ⟨gb105, 4, none⟩ = some (.bool a0_4) := (blk_cell BK105.out 4).trans rfl; have hfz7_0 := blk_frozen BK105.out 0; have hfz7_1 := blk_frozen BK105.out 1; have hfz7_2 := blk_frozen BK105.out 2; have hfz7_3 := blk_frozen BK105.out 3; have hfz7_4 := blk_frozen BK105.out 4))
 go_loopg [5, 6] (3 : Nat) (fun kq v5 v6 w' => ∃ (i : Nat) (V : List Value) (X : Nat → List Int), v6 = .int .i64 (i : Int) ∧ Aside0 (i + kq = 3) ∧ Aside0 (V.length = 2 * i) ∧ Aside0 (w'.ownsRow w.heap.size 25 1 v5 V.length V) ∧ Aside0 (Ap.Rw w' w.heap.size 5 V X) ∧ Aside0 (∀ r, (X r).length ≤ 140737488355000) ∧ Aside0 (w'.heap[gb105]? = some (.cells #[.int .i64 t106, .int .u32 t107, .int .u32 t108, .int .u32 t109, .bool t110] 24 (0, 0))) ∧ Aside0 (Below w.heap.size w w'))
 case atStart => exact ⟨0, [], fun _ => [], rfl, ⟨rfl⟩, ⟨rfl⟩, ⟨World.ownsRow_nil _ _ _ _⟩, ⟨Ap.Rw.nil _ _ _ _⟩, ⟨fun _ => Nat.zero_le _⟩, ⟨by (with_reducible repeat (first | refine blk_drewN ?_ _ | refine blk_drew ?_ | refine blk_alloc ?_ _)); refine blk_put (cs := #[.int .i64 t106, .int .u32 t107, .int .u32 t108, .int .u32 t109, .bool a0_4]) ?_ 4 _ rfl; (with_reducible repeat (first | refine blk_drewN ?_ _ | refine blk_drew ?_ | refine blk_alloc ?_ _)); refine blk_put (cs := #[.int .i64 t106, .int .u32 t107, .int .u32 t108, .int .u32 a0_3, .bool a0_4]) ?_ 3 _ rfl; (with_reducible repeat (first | refine blk_drewN ?_ _ | refine blk_drew ?_ | refine blk_alloc ?_ _)); refine blk_put (cs := #[.int .i64 t106, .int .u32 t107, .int .u32 a0_2, .int .u32 a0_3, .bool a0_4]) ?_ 2 _ rfl; (with_reducible repeat (first | refine blk_drewN ?_ _ | refine blk_drew ?_ | refine blk_alloc ?_ _)); refine blk_put (cs := #[.int .i64 t106, .int .u32 a0_1, .int .u32 a0_2, .int .u32 a0_3, .bool a0_4]) ?_ 1 _ rfl; (with_reducible repeat (first | refine blk_drewN ?_ _ | refine blk_drew ?_ | refine blk_alloc ?_ _)); refine blk_put (cs := #[.int .i64 a0_0, .int .u32 a0_1, .int .u32 a0_2, .int .u32 a0_3, .bool a0_4]) ?_ 0 _ rfl; (with_reducible repeat (first | refine blk_drewN ?_ _ | refine blk_drew ?_ | refine blk_alloc ?_ _)); exact BK105.out⟩, ⟨by repeat (first | (with_reducible first | exact HB.out | apply below_alloc | apply pw_below_drewN | apply below_drew1 | refine below_set ?_ GE105.out) | exact HB.out)⟩⟩
 case round =>
  (try clear hcz5_0 hcz5_1 hcz5_2 hcz5_3 hcz5_4 hfz5_0 hfz5_1 hfz5_2 hfz5_3 hfz5_4)
  (try clear hcz7_0 hcz7_1 hcz7_2 hcz7_3 hcz7_4 hfz7_0 hfz7_1 hfz7_2 hfz7_3 hfz7_4)
  clear BK105 HB
  obtain ⟨i, V, X, rfl, HI, HVL, HOU, HRW, HXB, BK105, HB⟩ := hrel
  cases gk with
  | zero =>
   have hif : decide ((i : Int) < 3) = false := decide_eq_false (by have := HI.out; omega)
   obtain ⟨go, cap, hu5⟩ : ∃ go cap, u5 = .slice (some ⟨go, 0, none⟩) V.length cap := by
    rcases HOU.out.2 with ⟨_, h0⟩ | ⟨g, c, cur, h1, _⟩
    ·have := HVL.out
     have := HI.out
     omega
    ·exact ⟨g, c, h1⟩
   subst hu5
   have HST := Aside0.mk (Ap.Rw.to HRW.out HOU.out (by decide))
   have HGO : Aside0 (go < wr.heap.size) := ⟨(HOU.out.lt go rfl).2⟩
   have hcv31 := Kd.C_string (P := Try.prog) (A := A1) (c := c1) Try.underlying25 Try.underlying5 Try.underlying9 (Kd.C_below HR1.out HB.out)
   go_wp2_with (first | ((with_reducible refine gate_callee (f := 10) rfl ?_); refine goesL_ (some 51) rfl rfl Try.func10 (by kernel_rfl) rfl #[.slice (some ⟨go, 0, none⟩) V.length cap] rfl (by (try simp only [List.map_toArray, List.map_cons, List.map_nil]); first | done | rfl | (simp [Act.eval]; done)) ?_; refine (outpostlaw01_ApartBytes.calls _ w.heap.size go cap V X HST.out HGO.out HB.out.size (by have := HVL.out; have := HI.out; omega) HXB.out).mono ?_; rintro e w60 ⟨rfl, hb⟩; refine ⟨_, rfl, ?_⟩; have n0_ := Aside0.mk (HB.out.trans hb); clear HB hb; have HB := n0_; clear n0_; have hcv33 := Kd.C_string (P := Try.prog) (A := A1) (c := c1) Try.underlying25 Try.underlying5 Try.underlying9 (Kd.C_below HR1.out HB.out)) | (go_at_call 11; (with_reducible refine (outpostlaw03_knows.calls true _ rfl).mono ?_); rintro e w61 ⟨rfl, hb⟩; have n0_ := Aside0.mk (below_step HB.out hb); clear HB hb; have HB := n0_; clear n0_))
   go_ret
   exact ⟨rfl, HB.out⟩
  | succ k1 =>
   have hit : decide ((i : Int) < 3) = true := decide_eq_true (by have := HI.out; omega)
   have hib : i ≤ 2 := by have := HI.out; omega
   have hcz16_0 : wr.cell? ⟨gb105, 0, none⟩ = some (.int .i64 t106) := (blk_cell BK105.out 0).trans rfl
   have hcz16_1 : wr.cell? ⟨gb105, 1, none⟩ = some (.int .u32 t107) := (blk_cell BK105.out 1).trans rfl
   have hcz16_2 : wr.cell? ⟨gb105, 2, none⟩ = some (.int .u32 t108) := (blk_cell BK105.out 2).trans rfl
   have hcz16_3 : wr.cell? ⟨gb105, 3, none⟩ = some (.int .u32 t109) := (blk_cell BK105.out 3).trans rfl
   have hcz16_4 : wr.cell? ⟨gb105, 4, none⟩ = some (.bool t110) := (blk_cell BK105.out 4).trans rfl
   have hfz16_0 := blk_frozen BK105.out 0
   have hfz16_1 := blk_frozen BK105.out 1
   have hfz16_2 := blk_frozen BK105.out 2
   have hfz16_3 := blk_frozen BK105.out 3
   have hfz16_4 := blk_frozen BK105.out 4
   go_wp2_with (first | ((with_reducible refine gate_callee (f := 7) rfl ?_); refine goesL_ (some 21) rfl rfl Try.func7 (by kernel_rfl) rfl #[.agg #[.int .i64 t106, .int .u32 t107, .int .u32 t108, .int .u32 t109, .bool t110], .slice A1 l1.length c1] rfl (by (try simp only [List.map_toArray, List.map_cons, List.map_nil]); first | done | rfl | (simp [Act.eval]; done)) ?_; (with_reducible refine (crc_Seal.calls t106 t107 t108 t109 t110 _ _ l1 xs 0 _ ?side1 ?side2 HSE.out).mono ?_); (case side1 => exact (Kd.C_below HR1.out HB.out)); (case side2 => exact HC1.out); rintro e w17 ⟨v114, rfl, ho0, hb⟩; refine ⟨_, rfl, ?_⟩; have n0_ := Aside0.mk (Ap.Rw.push HRW.out hb HB.out.size (Kd.own_of_R ho0)); have n1_ := Aside0.mk (World.ownsRow.kept HOU.out (grown_of_below hb none) (by cases (Value.ownBlock _) <;> simp)); have n2_ := Aside0.mk (Kd.R_lower ho0 HB.out.size); have n3_ := Aside0.mk (blk_below BK105.out hb); have n4_ := Aside0.mk (below_step HB.out hb); clear HRW HOU BK105 HB; have HRW := n0_; have HOU := n1_; have HO115 := n2_; have BK105 := n3_; have HB := n4_; clear n0_ n1_ n2_ n3_ n4_ hb ho0; have hcz18_0 : w17.cell? ⟨gb105, 0, none⟩ = some (.int .i64 t106) := (blk_cell BK105.out 0).trans rfl; have hcz18_1 : w17.cell? ⟨gb105, 1, none⟩ = some (.int .u32 t107) := (blk_cell BK105.out 1).trans rfl; have hcz18_2 : w17.cell? ⟨gb105, 2, none⟩ = some (.int .u32 t108) := (blk_cell BK105.out 2).trans rfl; have hcz18_3 : w17.cell? ⟨gb105, 3, none⟩ = some (.int .u32 t109) := (blk_cell BK105.out 3).trans rfl; have hcz18_4 : w17.cell? ⟨gb105, 4, none⟩ = some (.bool t110) := (blk_cell BK105.out 4).trans rfl; have hfz18_0 := blk_frozen BK105.out 0; have hfz18_1 := blk_frozen BK105.out 1; have hfz18_2 := blk_frozen BK105.out 2; have hfz18_3 := blk_frozen BK105.out 3; have hfz18_4 := blk_frozen BK105.out 4; obtain ⟨Ao19, co19, eo19⟩ := Kd.R_slice HO115.out; subst eo19) | ((with_reducible refine gate_callee (f := 8) rfl ?_); refine goesL_ (some 27) rfl rfl Try.func8 (by kernel_rfl) rfl #[.agg #[.int .i64 t106, .int .u32 t107, .int .u32 t108, .int .u32 t109, .bool t110], .slice Ao19 xs.length co19] rfl (by (try simp only [List.map_toArray, List.map_cons, List.map_nil]); first | done | rfl | (simp [Act.eval]; done)) ?_; (with_reducible refine (crc_Unseal.calls t106 t107 t108 t109 t110 _ _ xs l1 0 _ ?side1 ?side2 HUN.out).mono ?_); (case side1 => exact (Kd.R_reads' HO115.out).2.2); (case side2 => exact (Kd.R_reads' HO115.out).2.1); rintro e w20 ⟨v118, rfl, ho0, hb⟩; refine ⟨_, rfl, ?_⟩; have n0_ := Aside0.mk (Ap.Rw.push HRW.out hb HB.out.size (Kd.own_of_R ho0)); have n1_ := Aside0.mk (World.ownsRow.kept HOU.out (grown_of_below hb none) (by cases (Value.ownBlock _) <;> simp)); have n2_ := Aside0.mk (Kd.R_lower ho0 HB.out.size); have n3_ := Aside0.mk (blk_below BK105.out hb); have n4_ := Aside0.mk (below_step HB.out hb); clear HRW HOU BK105 HB; have HRW := n0_; have HOU := n1_; have HO119 := n2_; have BK105 := n3_; have HB := n4_; clear n0_ n1_ n2_ n3_ n4_ hb ho0; obtain ⟨Ao25, co25, eo25⟩ := Kd.R_slice HO119.out; subst eo25; have hcv21 := fun n_ => own_string (P := Try.prog) Try.underlying25 Try.underlying5 Try.underlying9 (Kd.own_of_R (Kd.R_drewN HO119.out n_)); have hcv23 := fun n_ => Kd.C_string (P := Try.prog) (A := A1) (c := c1) Try.underlying25 Try.underlying5 Try.underlying9 (Kd.C_drewN (Kd.C_below HR1.out HB.out) n_)) | ((with_reducible refine gate_callee (f := 9) rfl ?_); refine goesL_ (some 31) rfl rfl Try.func9 (by kernel_rfl) rfl #[.int .i64 0] rfl (by (try simp only [List.map_toArray, List.map_cons, List.map_nil]); first | done | rfl | (simp [Act.eval]; done)) ?_; (with_reducible refine (outpostlaw03_num.calls 0 0 _ rfl).mono ?_); rintro e w' ⟨rfl, ⟨nd, rfl⟩⟩; refine ⟨_, rfl, ?_⟩) | ((with_reducible refine gate_callee (f := 9) rfl ?_); refine goesL_ (some 33) rfl rfl Try.func9 (by kernel_rfl) rfl #[.int .i64 0] rfl (by (try simp only [List.map_toArray, List.map_cons, List.map_nil]); first | done | rfl | (simp [Act.eval]; done)) ?_; (with_reducible refine (outpostlaw03_num.calls 0 0 _ rfl).mono ?_); rintro e w' ⟨rfl, ⟨nd, rfl⟩⟩; refine ⟨_, rfl, ?_⟩) | ((with_reducible refine gate_builtin (b := .append) (xs := #[.tmp 43, .tmp 46]) rfl ?_); at_builtin; refine Ap.rows_append (V := V) rfl (.tmp 43) (.tmp 46) 27 rfl Try.underlying27 own_info25 u5 (.slice Ao19 xs.length co19) (.slice Ao25 l1.length co25) rfl rfl rfl rfl (Ap.Rw.below HRW.out (by repeat (first | exact Below.refl _ _ | apply pw_below_drewN | apply below_drew1))) (World.ownsRow.kept HOU.out (grown_of_below (by repeat (first | exact Below.refl _ _ | apply pw_below_drewN | apply below_drew1)) none) (by cases (Value.ownBlock _) <;> simp)) ?aB (by decide) ?aL ?_; (case aB => exact HB.out.size); (case aL => have := HVL.out; have := HI.out; omega); intro u9 w28 hr9 hu9 hb9 hk9; have n0_ := Aside0.mk hr9; have n1_ := Aside0.mk hu9; have n2_ := Aside0.mk (hk9 gb105 _ _ BK105.out (by decide)); have n3_ : Aside0 (Below w.heap.size w w28) := ⟨(by repeat (first | exact HB.out | apply pw_below_drewN | apply below_drew1) : Below w.heap.size w _).trans hb9⟩; clear HRW HOU BK105 HB hr9 hu9 hb9 hk9; have HRW := n0_; have HOU := n1_; have BK105 := n2_; have HB := n3_; clear n0_ n1_ n2_ n3_))
   go_roundg k1
   case measure => omega
   case rel =>
    refine ⟨i + 1, (V ++ [.slice Ao19 xs.length co19]) ++ [.slice Ao25 l1.length co25], _, (by first | go_num | exact congrArg (Value.int .i64) (ap_w64s i (by omega))), ⟨by have := HI.out; omega⟩, ⟨by have := HVL.out; simp; omega⟩, ⟨?_⟩, HRW, ⟨fun r => ?_⟩, BK105, HB⟩
    ·have e1 : (V ++ [.slice Ao19 xs.length co19]) ++ [.slice Ao25 l1.length co25] = V ++ [.slice Ao19 xs.length co19, .slice Ao25 l1.length co25] := by simp
     rw [e1, show (V ++ [Value.slice Ao19 xs.length co19, Value.slice Ao25 l1.length co25]).length = V.length + 2 by simp]
     exact HOU.out
    ·unfold Ap.push
     split
     ·exact HLL.out
     ·split
      ·exact HXS.out
      ·exact HXB.out r
end

def outpostlaw03_CrcOwn.Pure : Prop := ∀ (a0_0 : Int) (a0_1 : Int) (a0_2 : Int) (a0_3 : Int) (a0_4 : Bool) (l1 : List Int), (Lit.int .i64 a0_0).wf = true → (Lit.int .u32 a0_1).wf = true → (Lit.int .u32 a0_2).wf = true → (Lit.int .u32 a0_3).wf = true → l1.length ≤ maxLen → l1.length * 1 ≤ 140737488351232 → (∀ x ∈ l1, (Lit.int .u8 x).wf = true) → ∃ (xs : List Int) (t106 t107 t108 t109 : Int) (t110 : Bool), outpostlaw03_Good.f a0_0 a0_1 a0_2 a0_3 a0_4 = some (t106, t107, t108, t109, t110) ∧ crc_Seal.f t106 t107 t108 t109 t110 l1 = some (xs, 0) ∧ crc_Unseal.f t106 t107 t108 t109 t110 xs = some (l1, 0) ∧ xs.length ≤ 140737488355000
theorem outpostlaw03_CrcOwn.walk (P : outpostlaw03_CrcOwn.Pure) (a0_0 : Int) (a0_1 : Int) (a0_2 : Int) (a0_3 : Int) (a0_4 : Bool) (a1 : Option Addr) (len1 cap1 : Nat) (z1 : List Int) (w : World) (w0_0 : (Lit.int .i64 a0_0).wf = true) (w0_1 : (Lit.int .u32 a0_1).wf = true) (w0_2 : (Lit.int .u32 a0_2).wf = true) (w0_3 : (Lit.int .u32 a0_3).wf = true) (w1 : (a1 = none ∧ len1 = 0 ∧ cap1 = 0 ∧ z1 = []) ∨ ∃ x, a1 = some x ∧ len1 ≤ cap1 ∧ cap1 ≤ maxLen ∧ z1.length = cap1 ∧ (∀ i, i < z1.length → w.cell? (x.add i) = some (.int .u8 (z1.getD i 0))) ∧ ∀ n ∈ z1, (Lit.int .u8 n).wf = true) (y1 : len1 * 1 ≤ 140737488351232) :
  Calls Try.prog 3 #[.agg #[.int .i64 a0_0, .int .u32 a0_1, .int .u32 a0_2, .int .u32 a0_3, .bool a0_4], .slice a1 len1 cap1] w fun e w' => e = .returned (.bool true) ∧ Below w.heap.size w w' := by
 obtain ⟨l1, rfl, hr1, hm1, hw1, hc1⟩ := ReadsInt.ofRowC w1
 obtain ⟨xs, t106, t107, t108, t109, t110, hG, hS, hU, hx⟩ := P a0_0 a0_1 a0_2 a0_3 a0_4 l1 w0_0 w0_1 w0_2 w0_3 hm1 y1 hw1
 exact crcOwn_go a0_0 a0_1 a0_2 a0_3 a0_4 _ _ l1 xs t106 t107 t108 t109 t110 w (Kd.C_of_reads (d := (0 : Int)) (h1 := fun _ => rfl) hr1) hc1 hG hS hU hx (by omega)

end Go.Proofs.Ytbcejldbmemaeaa.P

-- squeezed
