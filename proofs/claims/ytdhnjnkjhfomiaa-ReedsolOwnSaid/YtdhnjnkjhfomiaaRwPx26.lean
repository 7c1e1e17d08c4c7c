-- written by mk.sh, a program of this session, over the kit's print
import Derived.Test.YtdhnjnkjhfomiaaRwQReg
import Derived.Test.YtdhnjnkjhfomiaaRwQApart
import Derived.Test.YtdhnjnkjhfomiaaRwPx0
namespace Go.Proofs.Ytdhnjnkjhfomiaa.P
open Go.RowKit Go.Proofs.YtdhnjnkjhfomiaaW.PrintWords Go.Proofs.YtdhnjnkjhfomiaaW.PrintLast Go.Proofs.YtdhnjnkjhfomiaaW.PrintMore
attribute [local go_sem] max2_int min2_int max_two min_two max_three min_three max_four min_four   -- for this text's walks alone
set_option linter.unusedVariables false
set_option linter.unusedSimpArgs false

def l1_mark.f (a0 : Int) (a1 : Int) : Option (Int) := some ((wrap64 ((wrap64 ((wrap64 (31 * a0)) + (wrap64 (7 * a1)))) + 1)) % 256)
set_option maxHeartbeats 8000000 in
set_option maxRecDepth 100000 in
theorem l1_mark.calls (a0 : Int) (a1 : Int) (r : Int) (w : World) (h : l1_mark.f a0 a1 = some r) :
  Calls Try.prog 45 #[.int .i64 a0,.int .i64 a1] w fun e w' => e = .returned (.int .u8 r) ∧ Drawn0 w w' := by
 have H : (some ((wrap64 ((wrap64 ((wrap64 (31 * a0)) + (wrap64 (7 * a1)))) + 1)) % 256)) = some r := h
 clear h
 obtain rfl := Option.some.inj H
 go_enter Try.func45,Try.ntmps45
 go_wp2
 go_ret
 exact ⟨by first | rfl | (simp; done) | (simp [*]; done) | (simp [wrap64]; done),by repeat (first | exact Drawn0.refl _ | apply Drawn0.step)⟩

def l1_ApartBytes.f (l0 : List (List Int)) : Option Bool := if ∀ x ∈ l0,x.length ≤ 140737488355000 then some true else none
theorem l1_ApartBytes.says {l0 : List (List Int)} {r : Bool} (h : l1_ApartBytes.f l0 = some r) : r = true ∧ ∀ x ∈ l0,x.length ≤ 140737488355000 := by
 unfold l1_ApartBytes.f at h
 split at h
 ·next hx => exact ⟨(Option.some.inj h).symm,hx⟩
 ·simp at h
section
open Go.Proofs.YtdhnjnkjhfomiaaW
def ap_mk (i j : Nat) : Int := (wrap64 ((wrap64 ((wrap64 (31 * (i : Int))) + (wrap64 (7 * (j : Int))))) + 1)) % 256
theorem ap_mk_f (i j : Nat) : l1_mark.f (i : Int) (j : Int) = some (ap_mk i j) := rfl
def ap_mrk (X : Nat → List Int) (i j : Nat) : Prop := ∀ r x,x < (X r).length → (r < i ∨ (r = i ∧ x < j)) → (X r).getD x 0 = ap_mk r x
theorem ap_mrk_put {X : Nat → List Int} {i j : Nat} (h : ap_mrk X i j) (hj : j < (X i).length) : ap_mrk (Ap.put X i j (ap_mk i j)) i (j + 1) := by
 intro r x hx hr
 rw [Ap.put_length] at hx
 unfold Ap.put
 by_cases e : r = i
 ·subst e
  rw [if_pos rfl]
  by_cases e2 : j = x
  ·subst e2
   rw [List.getD_eq_getElem?_getD,List.getElem?_set_self hj,Option.getD_some]
  ·rw [List.getD_eq_getElem?_getD,List.getElem?_set_ne e2,← List.getD_eq_getElem?_getD]
   exact h r x hx (by omega)
 ·rw [if_neg e]
  exact h r x hx (by omega)
theorem ap_mrk_next {X : Nat → List Int} {i j : Nat} (h : ap_mrk X i j) (hj : (X i).length ≤ j) : ap_mrk X (i + 1) 0 := by
 intro r x hx hr
 by_cases e : r = i
 ·subst e
  exact h r x hx (by omega)
 ·exact h r x hx (by omega)
theorem ap_w64s (i : Nat) (h : i ≤ 4611686018427387904) : wrap64 ((i : Int) + 1) = ((i + 1 : Nat) : Int) := by
 unfold wrap64
 omega
@[reducible] def ap_S (go i g j : Nat) (v y : Value) (w' : World) : Prop := w'.cell? ⟨go,i,none⟩ = some v ∧ w'.cell? ⟨g,j,none⟩ = some y ∧ True
theorem ap_at {K : Nat → Obj → Prop} {w : World} {B e go : Nat} {V : List Value} {X : Nat → List Int} (h : Ap.St K w B e go 0 V X) {i n cv : Nat} {Av : Option Addr} (hv : V[i]? = some (.slice Av n cv)) (hn : (X i).length = n) {j : Nat} (hj : j < n) : ∃ g o,Av = some ⟨g,o,none⟩ ∧ B ≤ g := by
 rcases h.form hv with ⟨h1,h2⟩ | ⟨g,o,c,h1,h2,_⟩
 ·omega
 ·injection h1 with h1 _ _
  exact ⟨g,o,h1,h2⟩
set_option maxHeartbeats 8000000 in
set_option maxRecDepth 100000 in
theorem l1_ApartBytes.callsK (K : Nat → Obj → Prop) (w : World) (B go c : Nat) (V : List Value) (X : Nat → List Int) (h : Ap.St K w B 5 go 0 V X) (hgo : go < w.heap.size) (hB : B ≤ w.heap.size) (hV : V.length ≤ 4611686018427387000) (hX : ∀ i,(X i).length ≤ 140737488355000) :
  Calls Try.prog 26 #[.slice (some ⟨go,0,none⟩) V.length c] w fun e w' => e = .returned (.bool true) ∧ Below B w w' ∧ ∀ (b : Nat) (o : Obj),K b o → w'.heap[b]? = some o := by
 have HS := Aside0.mk h
 have HGO := Aside0.mk hgo
 have HB := aK (Below.refl B w)
 have HX := Aside0.mk hX
 have HVL := Aside0.mk hV
 have HBW := Aside0.mk hB
 clear h hgo hX hB hV
 go_enter Try.func26,Try.ntmps26
 go_wp2
 go_loopg [3] V.length (fun kq v3 w' => ∃ (i : Nat) (X' : Nat → List Int),v3 = .int .i64 (i : Int) ∧ Aside0 (i + kq = V.length) ∧ Aside0 (Ap.St K w' B 5 go 0 V X') ∧ Aside0 (∀ r,(X' r).length = (X r).length) ∧ Aside0 (ap_mrk X' i 0) ∧ Aside0 (Below B w w') ∧ Aside0 (go < w'.heap.size))
 case atStart => exact ⟨0,X,rfl,⟨by omega⟩,HS,⟨fun _ => rfl⟩,⟨fun r x _ hr => by omega⟩,HB,HGO⟩
 case round =>
  clear HS HB HGO
  obtain ⟨i,X',rfl,HI,HS,HXL,HM,HB,HGO⟩ := hrel
  cases gk with
  | zero =>
   have hif : decide (i < V.length) = false := decide_eq_false (by have := HI.out; omega)
   have HM1 : Aside0 (ap_mrk X' V.length 0) := ⟨by have := HI.out; rw [← this]; exact HM.out⟩
   clear HM
   go_wp2
   go_loopg [5] V.length (fun kq v5 w' => ∃ (i : Nat),v5 = .int .i64 (i : Int) ∧ Aside0 (i + kq = V.length) ∧ Aside0 (Ap.St K w' B 5 go 0 V X') ∧ Aside0 (Below B w w') ∧ Aside0 (go < w'.heap.size))
   case atStart => exact ⟨0,rfl,⟨by omega⟩,HS,HB,HGO⟩
   case round =>
    clear HS HB HGO HI
    obtain ⟨i,rfl,HI,HS,HB,HGO⟩ := hrel
    cases gk with
    | zero =>
     have hif : decide (i < V.length) = false := decide_eq_false (by have := HI.out; omega)
     go_wp2
     go_loopg [8] V.length (fun kq v8 w' => ∃ (i : Nat),v8 = .int .i64 (i : Int) ∧ Aside0 (i + kq = V.length) ∧ Aside0 (Ap.St K w' B 5 go 0 V X') ∧ Aside0 (Below B w w'))
     case atStart => exact ⟨0,rfl,⟨by omega⟩,HS,HB⟩
     case round =>
      clear HS HB HGO HI
      obtain ⟨i,rfl,HI,HS,HB⟩ := hrel
      cases gk with
      | zero =>
       have hif : decide (i < V.length) = false := decide_eq_false (by have := HI.out; omega)
       go_wp2
       go_ret
       exact ⟨rfl,HB.out,HS.out.keep⟩
      | succ k1 =>
       have hin : i < V.length := by have := HI.out; omega
       have hit : decide (i < V.length) = true := decide_eq_true hin
       have ti : (i < V.length) = True := eq_true hin
       obtain ⟨v,hv⟩ : ∃ v,V[i]? = some v := ⟨_,List.getElem?_eq_getElem hin⟩
       obtain ⟨Av,cv,hvf⟩ : ∃ Av cv,v = .slice Av (X' i).length cv := by
        rcases HS.out.form hv with ⟨h1,h2⟩ | ⟨g,o,c',h1,_,_⟩
        ·exact ⟨none,0,by rw [h2]; exact h1⟩
        ·exact ⟨_,_,h1⟩
       obtain ⟨n,hn⟩ : ∃ n,(X' i).length = n := ⟨_,rfl⟩
       rw [hn] at hvf
       subst hvf
       have HV := Aside0.mk hv
       have HN := Aside0.mk hn
       have HIN := Aside0.mk hin
       clear hv hn hin
       have hco0 : wr.cell? ⟨go,i,none⟩ = some (.slice Av n cv) := by have := HS.out.outer i _ HV.out; rwa [Nat.zero_add] at this
       clear hco0
       go_wp2
       go_loopg [9] n (fun kq v9 w' => ∃ (j : Nat),v9 = .int .i64 (j : Int) ∧ Aside0 (j + kq = n) ∧ Aside0 (Ap.St K w' B 5 go 0 V X') ∧ Aside0 (Below B w w'))
       case atStart => exact ⟨0,rfl,⟨by omega⟩,HS,HB⟩
       case round =>
        clear HS HB
        obtain ⟨j,rfl,HJ,HS,HB⟩ := hrel
        have hco : wr.cell? ⟨go,i,none⟩ = some (.slice Av n cv) := by have := HS.out.outer i _ HV.out; rwa [Nat.zero_add] at this
        cases gk with
        | zero =>
         have hjf : decide (j < n) = false := decide_eq_false (by have := HJ.out; omega)
         go_wp2
         go_roundg k1
         case measure => omega
         case rel => exact ⟨i + 1,congrArg (Value.int .i64) (ap_w64s i (by have := HIN.out; have := HVL.out; omega)),⟨by have := HI.out; omega⟩,HS,HB⟩
        | succ k2 =>
         have hjn : j < n := by have := HJ.out; omega
         have hjt : decide (j < n) = true := decide_eq_true hjn
         have tj : (j < n) = True := eq_true hjn
         obtain ⟨g,o,hg,hgB⟩ := ap_at HS.out HV.out HN.out hjn
         subst hg
         have hVi : V[i]? = some (.slice (some ⟨g,o,none⟩) (X' i).length cv) := by rw [HN.out]; exact HV.out
         obtain ⟨m,hm⟩ : ∃ m,m = ap_mk i j := ⟨_,rfl⟩
         have hcg : wr.cell? ⟨g,o + j,none⟩ = some (.int .u8 m) := by
          have h1 := HS.out.cell hVi (j := j) (by have := HN.out; omega)
          have h2 := HM1.out i j (by have := HN.out; omega) (.inl HIN.out)
          rw [h2,← hm] at h1
          exact h1
         have HJN := Aside0.mk hjn
         have HMM := Aside0.mk hm
         clear hVi hgB hjn hm
         go_wp2
         refine start_ (n := 11) (S := ap_S go i g (o + j) (.slice (some ⟨g,o,none⟩) n cv) (.int .u8 m)) (ds := []) #[false,false,false,false,false,false,false,false,false,false,false] (by kernel_rfl) rfl rfl ⟨hco,hcg,trivial⟩ (fun hHeld => ?_)
         refine pure_ (i := 0) (N := some 66) (v := ?_) (a' := ?_) (bl 11 1) rfl rfl (by kernel_rfl) (fun _ _ _ h => h) (Or.inl ⟨by rfl,?_⟩) ?_ ?_
         rotate_left
         ·intro w'
          go_simp
          with_reducible rfl
         rotate_left
         ·simp only [Act.put,List.setIfInBounds_toArray,List.set_cons_zero,List.set_cons_succ,i64_w,i32_w]
          rfl
         refine pure_ (i := 1) (N := some 67) (v := ?_) (a' := ?_) (bl 11 3) rfl rfl (by kernel_rfl) (fun _ _ _ h => h) (Or.inl ⟨by rfl,?_⟩) ?_ ?_
         rotate_left
         ·intro w'
          go_simp
          with_reducible rfl
         rotate_left
         ·simp only [Act.put,List.setIfInBounds_toArray,List.set_cons_zero,List.set_cons_succ,i64_w,i32_w]
          rfl
         refine pure_ (i := 2) (N := some 68) (v := ?_) (a' := ?_) (bl 11 7) rfl rfl (by kernel_rfl) (fun _ _ _ h => h) (Or.inl ⟨by rfl,?_⟩) ?_ ?_
         rotate_left
         ·intro w'
          go_simp
          with_reducible rfl
         rotate_left
         ·simp only [Act.put,List.setIfInBounds_toArray,List.set_cons_zero,List.set_cons_succ,i64_w,i32_w]
          rfl
         refine take_ (i := 3) (N := some 69) (v := ?_) (a' := ?_) (bl 11 15) rfl rfl (by kernel_rfl) (fun _ _ _ h => h) (Or.inl ⟨by rfl,?_⟩) hHeld ?_ ?_
         rotate_left
         ·rintro w' ⟨hq0,hq1,_⟩
          go_simp
          with_reducible rfl
         rotate_left
         ·simp only [Act.put,List.setIfInBounds_toArray,List.set_cons_zero,List.set_cons_succ,i64_w,i32_w]
          rfl
         refine pure_ (i := 4) (N := some 70) (v := ?_) (a' := ?_) (bl 11 31) rfl rfl (by kernel_rfl) (fun _ _ _ h => h) (Or.inl ⟨by rfl,?_⟩) ?_ ?_
         rotate_left
         ·intro w'
          go_simp
          with_reducible rfl
         rotate_left
         ·simp only [Act.put,List.setIfInBounds_toArray,List.set_cons_zero,List.set_cons_succ,i64_w,i32_w]
          rfl
         refine pure_ (i := 5) (N := some 71) (v := ?_) (a' := ?_) (bl 11 63) rfl rfl (by kernel_rfl) (fun _ _ _ h => h) (Or.inl ⟨by rfl,?_⟩) ?_ ?_
         rotate_left
         ·intro w'
          go_simp
          with_reducible rfl
         rotate_left
         ·simp only [Act.put,List.setIfInBounds_toArray,List.set_cons_zero,List.set_cons_succ,i64_w,i32_w]
          rfl
         refine take_ (i := 6) (N := some 72) (v := ?_) (a' := ?_) (bl 11 127) rfl rfl (by kernel_rfl) (fun _ _ _ h => h) (Or.inl ⟨by rfl,?_⟩) hHeld ?_ ?_
         rotate_left
         ·rintro w' ⟨hq0,hq1,_⟩
          go_simp
          with_reducible rfl
         rotate_left
         ·simp only [Act.put,List.setIfInBounds_toArray,List.set_cons_zero,List.set_cons_succ,i64_w,i32_w]
          rfl
         refine pure_ (i := 7) (N := some 73) (v := ?_) (a' := ?_) (bl 11 255) rfl rfl (by kernel_rfl) (fun _ _ _ h => h) (Or.inl ⟨by rfl,?_⟩) ?_ ?_
         rotate_left
         ·intro w'
          go_simp
          with_reducible rfl
         rotate_left
         ·simp only [Act.put,List.setIfInBounds_toArray,List.set_cons_zero,List.set_cons_succ,i64_w,i32_w]
          rfl
         refine pure_ (i := 8) (N := some 74) (v := ?_) (a' := ?_) (bl 11 511) rfl rfl (by kernel_rfl) (fun _ _ _ h => h) (Or.inl ⟨by rfl,?_⟩) ?_ ?_
         rotate_left
         ·intro w'
          go_simp
          with_reducible rfl
         rotate_left
         ·simp only [Act.put,List.setIfInBounds_toArray,List.set_cons_zero,List.set_cons_succ,i64_w,i32_w]
          rfl
         refine one_ (i := 9) (N := some 75) (bl 11 1023) rfl rfl (by kernel_rfl) (by decide) (fun K hK => ?_)
         have hcall := l1_mark.calls (i : Int) (j : Int) m (wr.drew) (by rw [HMM.out]; exact ap_mk_f i j)
         refine goes_ Try.func45 (by kernel_rfl) rfl #[.int .i64 (i : Int),.int .i64 (j : Int)] (by rfl) rfl rfl (by (try simp only [List.map_toArray,List.map_cons,List.map_nil]); first | done | rfl | (simp [Act.eval]; done)) ?_
         refine hcall.mono ?_
         clear hcall
         rintro e w2 ⟨rfl,⟨nd,rfl⟩⟩
         refine ⟨_,rfl,?_⟩
         refine hK.out _ _ ⟨hco,hcg,trivial⟩ (fun hHeld2 => ?_)
         clear hK K
         refine norm_ (a' := ?_) ?_ ?_
         rotate_left
         ·show Act.put _ (some 75) _ = _
          simp only [Act.put,List.setIfInBounds_toArray,List.set_cons_zero,List.set_cons_succ,i64_w,i32_w]
          rfl
         refine pure_ (i := 10) (N := some 76) (v := ?_) (a' := ?_) (bl 11 2047) rfl rfl (by kernel_rfl) (fun _ _ _ h => h) (Or.inl ⟨by rfl,?_⟩) ?_ ?_
         rotate_left
         ·intro w'
          go_simp
          with_reducible rfl
         rotate_left
         ·simp only [Act.put,List.setIfInBounds_toArray,List.set_cons_zero,List.set_cons_succ,i64_w,i32_w]
          rfl
         refine done_ (by kernel_rfl) ?_
         try go_wp2
         go_roundg k2
         case measure => omega
         case rel => exact ⟨j + 1,congrArg (Value.int .i64) (ap_w64s j (by have := HJN.out; have := HX.out i; have := HXL.out i; have := HN.out; omega)),⟨by have := HJ.out; omega⟩,⟨Ap.St.below HS.out (pw_below_drewN (Below.refl _ _) _)⟩,⟨pw_below_drewN HB.out _⟩⟩
    | succ k1 =>
     have hin : i < V.length := by have := HI.out; omega
     have hit : decide (i < V.length) = true := decide_eq_true hin
     have ti : (i < V.length) = True := eq_true hin
     obtain ⟨v,hv⟩ : ∃ v,V[i]? = some v := ⟨_,List.getElem?_eq_getElem hin⟩
     obtain ⟨Av,cv,hvf⟩ : ∃ Av cv,v = .slice Av (X' i).length cv := by
      rcases HS.out.form hv with ⟨h1,h2⟩ | ⟨g,o,c',h1,_,_⟩
      ·exact ⟨none,0,by rw [h2]; exact h1⟩
      ·exact ⟨_,_,h1⟩
     obtain ⟨n,hn⟩ : ∃ n,(X' i).length = n := ⟨_,rfl⟩
     rw [hn] at hvf
     subst hvf
     have HV := Aside0.mk hv
     have HN := Aside0.mk hn
     have HIN := Aside0.mk hin
     clear hv hn hin
     have hco : wr.cell? ⟨go,i,none⟩ = some (.slice Av n cv) := by have := HS.out.outer i _ HV.out; rwa [Nat.zero_add] at this
     obtain ⟨H,hH⟩ : ∃ H,H = wr.heap.size := ⟨_,rfl⟩
     have HVH : Aside0 (∀ (r : Nat) (v : Value),V[r]? = some v → ∀ k,v.ownBlock = some k → k < H) := ⟨fun r v hv k hk => by rw [hH]; exact ((HS.out.own r v hv).lt k hk).2⟩
     have HgH : Aside0 (go < H) := ⟨by rw [hH]; exact HGO.out⟩
     have HKH : Aside0 (∀ (b : Nat) (o : Obj),K b o → b < H) := ⟨fun b o hb => by rw [hH]; exact HS.out.klt hb⟩
     have HBH : Aside0 (B ≤ H) := ⟨by have h1 := HBW.out; have h2 := HB.out.size; omega⟩
     have HHS : Aside0 (H ≤ wr.heap.size) := ⟨by omega⟩
     have HMo := aK (Ap.More.start HS.out HV.out H)
     clear hH
     go_wp2
     go_loopg [6,7] (40 : Nat) (fun kq v6 v7 w' => ∃ (k : Nat),v7 = .int .i64 (k : Int) ∧ Aside0 (k + kq = 40) ∧ Aside0 (Ap.More w' H 5 (.slice Av n cv) (X' i).length (Ap.bv (X' i)) v6 k) ∧ Aside0 (Ap.St K w' B 5 go 0 V X') ∧ Aside0 (Below B w w') ∧ Aside0 (go < w'.heap.size) ∧ Aside0 (H ≤ w'.heap.size))
     case atStart => exact ⟨0,rfl,⟨rfl⟩,HMo,HS,HB,HGO,HHS⟩
     case round =>
      (try clear hHeld)
      clear HS HB HGO HHS HMo hco
      obtain ⟨k,rfl,HK,HMo,HS,HB,HGO,HHS⟩ := hrel
      cases gk with
      | zero =>
       have hkf : decide ((k : Int) < 40) = false := decide_eq_false (by have := HK.out; omega)
       go_wp2
       go_roundg k1
       case measure => omega
       case rel => exact ⟨i + 1,congrArg (Value.int .i64) (ap_w64s i (by have := HIN.out; have := HVL.out; omega)),⟨by have := HI.out; omega⟩,HS,HB,HGO⟩
      | succ k2 =>
       have hkt : decide ((k : Int) < 40) = true := decide_eq_true (by have := HK.out; omega)
       have hkb : k ≤ 39 := by have := HK.out; omega
       go_wp2_with (first | ((with_reducible refine gate_builtin (b := .append) (xs := #[.tmp 48,.tmp 49]) rfl ?_); at_builtin; refine Ap.more_append rfl (.tmp 48) (.tmp 49) 27 rfl Try.underlying27 info5 254 u6 rfl rfl HS.out HGO.out HV.out H HBH.out HVH.out HgH.out HKH.out HHS.out HMo.out ?aL ?_; (case aL => have h1 := HX.out i; have h2 := HXL.out i; have h3 := HK.out; omega); intro u9 w9 hs9 hm9 hb9; have n0_ := Aside0.mk hs9; have n1_ := Aside0.mk hm9; have n2_ := aK (HB.out.trans hb9); have n3_ : Aside0 (go < w9.heap.size) := ⟨Nat.lt_of_lt_of_le HGO.out hb9.size⟩; have n4_ : Aside0 (H ≤ w9.heap.size) := ⟨Nat.le_trans HHS.out hb9.size⟩; clear hs9 hm9 hb9 HS HMo HB HGO HHS; have HS := n0_; have HMo := n1_; have HB := n2_; have HGO := n3_; have HHS := n4_; clear n0_ n1_ n2_ n3_ n4_))
       go_roundg k2
       case measure => omega
       case rel => exact ⟨k + 1,(by first | go_num | exact congrArg (Value.int .i64) (ap_w64s k (by omega))),⟨by have := HK.out; omega⟩,HMo,HS,HB,HGO,HHS⟩
  | succ k1 =>
   have hin : i < V.length := by have := HI.out; omega
   have hit : decide (i < V.length) = true := decide_eq_true hin
   have ti : (i < V.length) = True := eq_true hin
   obtain ⟨v,hv⟩ : ∃ v,V[i]? = some v := ⟨_,List.getElem?_eq_getElem hin⟩
   obtain ⟨Av,cv,hvf⟩ : ∃ Av cv,v = .slice Av (X' i).length cv := by
    rcases HS.out.form hv with ⟨h1,h2⟩ | ⟨g,o,c',h1,_,_⟩
    ·exact ⟨none,0,by rw [h2]; exact h1⟩
    ·exact ⟨_,_,h1⟩
   obtain ⟨n,hn⟩ : ∃ n,(X' i).length = n := ⟨_,rfl⟩
   rw [hn] at hvf
   subst hvf
   have HV := Aside0.mk hv
   have HN := Aside0.mk hn
   have HIN := Aside0.mk hin
   clear hv hn hin
   go_wp2
   go_loopg [4] n (fun kq v4 w' => ∃ (j : Nat) (X'' : Nat → List Int),v4 = .int .i64 (j : Int) ∧ Aside0 (j + kq = n) ∧ Aside0 (Ap.St K w' B 5 go 0 V X'') ∧ Aside0 (∀ r,(X'' r).length = (X r).length) ∧ Aside0 (ap_mrk X'' i j) ∧ Aside0 (Below B w w') ∧ Aside0 (go < w'.heap.size))
   case atStart => exact ⟨0,X',rfl,⟨by omega⟩,HS,HXL,HM,HB,HGO⟩
   case round =>
    (try clear hHeld)
    have HN1 : Aside0 ((X i).length = n) := ⟨by rw [← HXL.out i]; exact HN.out⟩
    clear HS HB HGO HM HXL HN
    obtain ⟨j,X'',rfl,HJ,HS,HXL,HM,HB,HGO⟩ := hrel
    have hco : wr.cell? ⟨go,i,none⟩ = some (.slice Av n cv) := by have := HS.out.outer i _ HV.out; rwa [Nat.zero_add] at this
    cases gk with
    | zero =>
     have hjf : decide (j < n) = false := decide_eq_false (by have := HJ.out; omega)
     go_wp2
     go_roundg k1
     case measure => omega
     case rel =>
      refine ⟨i + 1,X'',congrArg (Value.int .i64) (ap_w64s i (by have := HIN.out; have := HVL.out; omega)),⟨by have := HI.out; omega⟩,HS,HXL,⟨ap_mrk_next HM.out (by have h1 := HXL.out i; have h2 := HN1.out; have h3 := HJ.out; omega)⟩,HB,HGO⟩
    | succ k2 =>
     have hjn : j < n := by have := HJ.out; omega
     have hjt : decide (j < n) = true := decide_eq_true hjn
     have tj : (j < n) = True := eq_true hjn
     have hn2 : (X'' i).length = n := (HXL.out i).trans HN1.out
     obtain ⟨g,o,hg,hgB⟩ := ap_at HS.out HV.out hn2 hjn
     subst hg
     have hVi : V[i]? = some (.slice (some ⟨g,o,none⟩) (X'' i).length cv) := by rw [hn2]; exact HV.out
     have hcg := HS.out.cell hVi (j := j) (by omega)
     have hfg := HS.out.frozen hVi (o + j)
     have HVI := Aside0.mk hVi
     have HGB := Aside0.mk hgB
     have HJN := Aside0.mk hjn
     have HN2 := Aside0.mk hn2
     obtain ⟨m,hm⟩ : ∃ m,m = ap_mk i j := ⟨_,rfl⟩
     have HMM := Aside0.mk hm
     clear hVi hgB hjn hn2 hm
     go_wp2
     refine start_ (n := 10) (S := ap_S go i g (o + j) (.slice (some ⟨g,o,none⟩) n cv) (.int .u8 ((X'' i).getD j 0))) (ds := [9]) #[false,false,false,false,false,false,false,false,false,false] (by kernel_rfl) rfl rfl ⟨hco,hcg,trivial⟩ (fun hHeld => ?_)
     refine pure_ (i := 0) (N := some 25) (v := ?_) (a' := ?_) (bl 10 1) rfl rfl (by kernel_rfl) (fun _ _ _ h => h) (Or.inl ⟨by rfl,?_⟩) ?_ ?_
     rotate_left
     ·intro w'
      go_simp
      with_reducible rfl
     rotate_left
     ·simp only [Act.put,List.setIfInBounds_toArray,List.set_cons_zero,List.set_cons_succ,i64_w,i32_w]
      rfl
     refine pure_ (i := 1) (N := some 26) (v := ?_) (a' := ?_) (bl 10 3) rfl rfl (by kernel_rfl) (fun _ _ _ h => h) (Or.inl ⟨by rfl,?_⟩) ?_ ?_
     rotate_left
     ·intro w'
      go_simp
      with_reducible rfl
     rotate_left
     ·simp only [Act.put,List.setIfInBounds_toArray,List.set_cons_zero,List.set_cons_succ,i64_w,i32_w]
      rfl
     refine pure_ (i := 2) (N := some 27) (v := ?_) (a' := ?_) (bl 10 7) rfl rfl (by kernel_rfl) (fun _ _ _ h => h) (Or.inl ⟨by rfl,?_⟩) ?_ ?_
     rotate_left
     ·intro w'
      go_simp
      with_reducible rfl
     rotate_left
     ·simp only [Act.put,List.setIfInBounds_toArray,List.set_cons_zero,List.set_cons_succ,i64_w,i32_w]
      rfl
     refine take_ (i := 3) (N := some 28) (v := ?_) (a' := ?_) (bl 10 15) rfl rfl (by kernel_rfl) (fun _ _ _ h => h) (Or.inl ⟨by rfl,?_⟩) hHeld ?_ ?_
     rotate_left
     ·rintro w' ⟨hq0,hq1,_⟩
      go_simp
      with_reducible rfl
     rotate_left
     ·simp only [Act.put,List.setIfInBounds_toArray,List.set_cons_zero,List.set_cons_succ,i64_w,i32_w]
      rfl
     refine pure_ (i := 4) (N := some 29) (v := ?_) (a' := ?_) (bl 10 31) rfl rfl (by kernel_rfl) (fun _ _ _ h => h) (Or.inl ⟨by rfl,?_⟩) ?_ ?_
     rotate_left
     ·intro w'
      go_simp
      with_reducible rfl
     rotate_left
     ·simp only [Act.put,List.setIfInBounds_toArray,List.set_cons_zero,List.set_cons_succ,i64_w,i32_w]
      rfl
     refine pure_ (i := 5) (N := some 30) (v := ?_) (a' := ?_) (bl 10 63) rfl rfl (by kernel_rfl) (fun _ _ _ h => h) (Or.inl ⟨by rfl,?_⟩) ?_ ?_
     rotate_left
     ·intro w'
      go_simp
      with_reducible rfl
     rotate_left
     ·simp only [Act.put,List.setIfInBounds_toArray,List.set_cons_zero,List.set_cons_succ,i64_w,i32_w]
      rfl
     refine pure_ (i := 6) (N := some 31) (v := ?_) (a' := ?_) (bl 10 127) rfl rfl (by kernel_rfl) (fun _ _ _ h => h) (Or.inl ⟨by rfl,?_⟩) ?_ ?_
     rotate_left
     ·intro w'
      go_simp
      with_reducible rfl
     rotate_left
     ·simp only [Act.put,List.setIfInBounds_toArray,List.set_cons_zero,List.set_cons_succ,i64_w,i32_w]
      rfl
     refine one_ (i := 7) (N := some 32) (bl 10 255) rfl rfl (by kernel_rfl) (by decide) (fun K hK => ?_)
     have hcall := l1_mark.calls (i : Int) (j : Int) m (wr.drew) (by rw [HMM.out]; exact ap_mk_f i j)
     refine goes_ Try.func45 (by kernel_rfl) rfl #[.int .i64 (i : Int),.int .i64 (j : Int)] (by rfl) rfl rfl (by (try simp only [List.map_toArray,List.map_cons,List.map_nil]); first | done | rfl | (simp [Act.eval]; done)) ?_
     refine hcall.mono ?_
     clear hcall
     rintro e w2 ⟨rfl,⟨nd,rfl⟩⟩
     refine ⟨_,rfl,?_⟩
     refine hK.out _ _ ⟨hco,hcg,trivial⟩ (fun hHeld2 => ?_)
     clear hK K
     refine norm_ (a' := ?_) ?_ ?_
     rotate_left
     ·show Act.put _ (some 32) _ = _
      simp only [Act.put,List.setIfInBounds_toArray,List.set_cons_zero,List.set_cons_succ,i64_w,i32_w]
      rfl
     refine pure_ (i := 8) (N := some 33) (v := ?_) (a' := ?_) (bl 10 511) rfl rfl (by kernel_rfl) (fun _ _ _ h => h) (Or.inl ⟨by rfl,?_⟩) ?_ ?_
     rotate_left
     ·intro w'
      go_simp
      with_reducible rfl
     rotate_left
     ·simp only [Act.put,List.setIfInBounds_toArray,List.set_cons_zero,List.set_cons_succ,i64_w,i32_w]
      rfl
     refine last_ (i := 9) (N := none) (bl 10 1023) rfl rfl (by kernel_rfl) (by decide) (fun K hK => ?_)
     refine skip_ (w1 := ?_) (by rfl) rfl ?_ ?_
     rotate_left
     ·go_simp
      rfl
     refine hK.out _ _ ?_
     clear hK K
     refine done_ (by kernel_rfl) ?_
     try go_wp2
     go_roundg k2
     case measure => omega
     case rel =>
      refine ⟨j + 1,Ap.put X'' i j m,congrArg (Value.int .i64) (ap_w64s j (by have := HJN.out; have := HX.out i; have := HN1.out; omega)),⟨by have := HJ.out; omega⟩,⟨Ap.St.put (Ap.St.below HS.out (pw_below_drewN (Below.refl _ _) _)) HVI.out (show j < (X'' i).length by have := HN2.out; have := HJN.out; omega) m⟩,⟨fun r => by rw [Ap.put_length]; exact HXL.out r⟩,⟨by rw [HMM.out]; exact ap_mrk_put HM.out (by have := HN2.out; have := HJN.out; omega)⟩,⟨Below.setCell (pw_below_drewN HB.out _) (show B ≤ (⟨g,o + j,none⟩ : Addr).block from HGB.out) _⟩,⟨by have := HGO.out; simpa using this⟩⟩
theorem l1_ApartBytes.calls (w : World) (B go c : Nat) (V : List Value) (X : Nat → List Int) (h : Ap.St (fun _ _ => False) w B 5 go 0 V X) (hgo : go < w.heap.size) (hB : B ≤ w.heap.size) (hV : V.length ≤ 4611686018427387000) (hX : ∀ i,(X i).length ≤ 140737488355000) :
  Calls Try.prog 26 #[.slice (some ⟨go,0,none⟩) V.length c] w fun e w' => e = .returned (.bool true) ∧ Below B w w' := by
 refine (l1_ApartBytes.callsK (fun _ _ => False) w B go c V X h hgo hB hV hX).mono ?_
 rintro e w' ⟨h1,h2,_⟩
 exact ⟨h1,h2⟩
end

end Go.Proofs.Ytdhnjnkjhfomiaa.P

