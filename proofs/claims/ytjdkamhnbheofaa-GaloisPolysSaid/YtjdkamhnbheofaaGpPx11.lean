-- written by mk.sh, a program of this session, over the kit's print
import Derived.Test.YtjdkamhnbheofaaGpPx0
import Derived.Test.YtjdkamhnbheofaaGpPx1
import Derived.Test.YtjdkamhnbheofaaGpPx2
import Derived.Test.YtjdkamhnbheofaaGpPx5
import Derived.Test.YtjdkamhnbheofaaGpPx6
import Derived.Test.YtjdkamhnbheofaaGpPx7
import Derived.Test.YtjdkamhnbheofaaGpPx8
import Derived.Test.YtjdkamhnbheofaaGpPx9
import Derived.Test.YtjdkamhnbheofaaGpPx10
namespace Go.Proofs.Ytjdkamhnbheofaa.P
open Go.RowKit Go.Proofs.YtjdkamhnbheofaaW.PrintWords Go.Proofs.YtjdkamhnbheofaaW.PrintLast Go.Proofs.YtjdkamhnbheofaaW.PrintMore
attribute [local go_sem] max2_int min2_int max_two min_two max_three min_three max_four min_four   -- for this text's walks alone
set_option linter.unusedVariables false
set_option linter.unusedSimpArgs false

def l1_Lent.f (l0 : List Int) : Option (List Int) := if l0.length + 8 < 140737488355328 then some l0 else none
set_option maxHeartbeats 8000000 in
set_option maxRecDepth 100000 in
theorem l1_Lent.calls (A0 : Option Addr) (c0 : Nat) (l0 : List Int) (r : List Int) (w : World) (hr0 : Kd.C (Kd.int .u8) w A0 l0.length l0) (hc0 : l0.length ≤ c0) (h : l1_Lent.f l0 = some r) :
  Calls Try.prog 9 #[.slice A0 l0.length c0] w fun e w' => ∃ v0_ : Value, e = .returned (v0_) ∧ Kd.L (Kd.int .u8) 5 w' w.heap.size (fun _ => True) v0_ r ∧ Below w.heap.size w w' := by
 have HR0 := Aside0.mk hr0
 have HC0 := Aside0.mk hc0
 clear hr0 hc0
 have HB := aK (Below.refl w.heap.size w)
 unfold l1_Lent.f at h
 by_cases c2 : l0.length + 8 < 140737488355328
 rotate_left
 ·rw [if_neg c2] at h
  exact absurd h (by simp)

 rw [if_pos c2] at h
 obtain rfl := Option.some.inj h
 clear h
 have LMc2 := Aside0.mk c2
 clear c2
 obtain ⟨y101, hy101⟩ : ∃ y_ : List Int, y_ = (([] : List Int)) := ⟨_, rfl⟩
 have Ny101 := Aside0.mk hy101
 clear hy101
 obtain ⟨y104, hy104⟩ : ∃ y_ : List Int, y_ = (y101 ++ l0) := ⟨_, rfl⟩
 have Ny104 := Aside0.mk hy104
 clear hy104
 have N0 : Aside0 (y104 = l0 ++ Kd.marks.take 0) := ⟨by simp [Ny104.out, Ny101.out]⟩
 have LM1 : Aside0 (y101.length + l0.length < 140737488355328) := ⟨by rw [Ny101.out]; have := LMc2.out; simp only [List.length_nil]; omega⟩
 go_enter Try.func9, Try.ntmps9
 go_wp2_with (first | ((with_reducible refine gate_dst (N := 5) rfl ?_); refine Kd.R_lit (Kd.int .u8) _ 5 ?hg (N := 5) ?hd (xs := ([] : List Int)) (inner := []) (ok := fun _ => True) (okp := fun _ => True) ?hr ?hp (fun _ hk => hk) trivial (Below.refl _ _) (Nat.le_refl _) (by simp) ?_; (case hd => rfl); (case hg => rfl); (case hr => first | (go_simp; done) | (go_simp; rfl)); (case hp => exact (Reps.none _ _)); intro v102 w3 ho4 hb hg_ hnew_; clear hg_ hnew_; (first | rw [← Ny101.out] at ho4 | (simp only [Int.reduceToNat] at ho4; rw [← Ny101.out] at ho4)); have n0_ := aK (Kd.R_lower ho4 (below_size (mvh HB.out))); have n1_ := aK (below_step (mvh HB.out) hb); clear HB; have HO103 := n0_; have HB := n1_; clear n0_ n1_; clear hb ho4) | ((with_reducible refine gate_builtin (b := .append) (xs := #[.tmp 5, .tmp 6]) rfl ?_); at_builtin; refine Kd.R_append_rows (Kd.int .u8) (w0 := w) w.heap.size rfl (.tmp 5) (.tmp 6) 25 5 (.int .u8 0) 1 rfl Try.underlying25 info5 rfl (by decide) (by omega) v102 y101 l0 _ _ _ (fun _ => True) (fun _ => False) rfl rfl ?aO ?aR (fun _ _ h => h) (fun _ h => h.elim) ?aF ?aB ?aS ?aL ?_; (case aR => repeat (first | exact (Kd.C_below HR0.out HB.out) | (with_reducible refine Kd.C_alloc ?_ _) | (with_reducible refine Kd.C_drewN ?_ _) | (with_reducible refine Kd.C_drew ?_))); (case aB => exact (mvh HB.out)); (case aF => exact (fun _ _ => trivial)); (case aO => exact (mvR HO103.out)); (case aS => exact (below_size (mvh HB.out))); (case aL => have := LM1.out; omega); intro v105 w5 ho hb hg hat; rw [← Ny104.out] at ho; have n0_ := aK (hb); have n1_ := aK (ho); clear HB HO103; have HB := n0_; have HO106 := n1_; clear n0_ n1_; clear ho hb hg hat))
 go_loopg [3, 4] (8 : Nat) (fun kq v3 v4 w' => ∃ (x3_1 : List Int) (x4_1 : Int), v4 = .int .i64 x4_1 ∧ Aside0 (x3_1 = l0 ++ Kd.marks.take (8 - kq)) ∧ Aside0 (x4_1 = ((8 - kq : Nat) : Int) ∧ kq ≤ 8) ∧ Aside0 (Kd.R (Kd.int .u8) 5 w' w.heap.size (fun _ => True) v3 x3_1) ∧ Aside0 (Below w.heap.size w w'))
 case atStart => exact ⟨(y104), (0), (by first | rfl | (simp; done) | (simp [*]; done)), N0, ⟨by simp⟩, ⟨mvR HO106.out⟩, ⟨mvh HB.out⟩⟩
 case round =>
  obtain ⟨x3_1, x4_1, rfl, NX, HK1, HO_3, HB⟩ := hrel
  have LX : Aside0 (x3_1.length = l0.length + (8 - gk)) := ⟨by rw [NX.out]; simp [Kd.marks]⟩
  cases gk with
  | zero =>
   have c6b0 : decide (x4_1 < 8) = false := decide_eq_false (by have := HK1.out.1; omega)
   have c9b1 : decide (0 ≤ (l0.length : Int)) = true := decide_eq_true (by omega)
   have c10b1 : decide ((l0.length : Int) ≤ (x3_1.length : Int)) = true := decide_eq_true (by have := LX.out; omega)
   obtain ⟨i012, hi012, _, hsz12, _⟩ := info_parts info5
   obtain ⟨Ao11, co11, eo11, _, _⟩ := Kd.R_form HO_3.out (by have := LX.out; omega)
   subst eo11
   have q12 : ((l0.length : Int) : Int) ≤ ((x3_1.length : Int) : Int) := of_decide_eq_true c10b1
   have hcut12 := cut_to (P := Try.prog) 25 5 .i64 Try.underlying25 hi012 (some ⟨Ao11, 0, none⟩) x3_1.length co11 (l0.length : Int) (by omega) q12 (Kd.R_reads' HO_3.out).2.1
   simp only [Int.toNat_natCast] at hcut12
   have NX8 : Aside0 (x3_1 = l0 ++ Kd.marks) := ⟨by rw [NX.out]; rfl⟩
   clear hi012 hsz12
   replace q12 := eq_true q12
   go_wp2
   go_ret
   refine ⟨_, rfl, ⟨Ao11, co11, rfl, ?_⟩, mvh HB.out⟩
   rw [← NX8.out]
   (with_reducible repeat (first | apply Kd.R_alloc | apply Kd.R_drewN | apply Kd.R_drew))
   exact HO_3.out
  | succ k1 =>
   have c6b0 : decide (x4_1 < 8) = true := decide_eq_true (by have := HK1.out.1; have := HK1.out.2; omega)
   obtain ⟨y107, hy107⟩ : ∃ y_ : List Int, y_ = (x3_1 ++ [(wrap64 (200 + x4_1)) % 256]) := ⟨_, rfl⟩
   have Ny107 := Aside0.mk hy107
   clear hy107
   have LM7 : Aside0 (x3_1.length < 140737488355328) := ⟨by have := LX.out; have := LMc2.out; omega⟩
   have NY : Aside0 (y107 = l0 ++ Kd.marks.take (8 - k1)) := ⟨by
    have h1 := HK1.out.1
    have h2 := HK1.out.2
    rw [Ny107.out, NX.out, List.append_assoc]
    rw [h1, Kd.marks_step k1 h2]⟩
   have NZ : Aside0 (wrap64 (x4_1 + 1) = ((8 - k1 : Nat) : Int) ∧ k1 ≤ 8) := ⟨by have h1 := HK1.out.1; have h2 := HK1.out.2; unfold wrap64; omega⟩
   clear NX LX HK1
   go_wp2_with (first | ((with_reducible refine gate_builtin (b := .append) (xs := #[.tmp 12, .tmp 16]) rfl ?_); at_builtin; refine Kd.R_append (Kd.int .u8) (w0 := w) w.heap.size rfl (.tmp 12) (.tmp 16) 25 5 (.int .u8 0) 1 rfl Try.underlying25 info5 rfl (by decide) (by omega) u3 x3_1 ((wrap64 (200 + x4_1)) % 256) [.int .u8 ((wrap64 (200 + x4_1)) % 256)] (fun _ => True) (fun _ => False) rfl rfl ?aP (fun _ hk => hk.elim) ?aF ?aO ?aB ?aS ?aL ?_; (case aP => exact rfl); (case aB => exact (mvh HB.out)); (case aF => exact (fun _ _ => trivial)); (case aO => exact (mvR HO_3.out)); (case aS => exact (below_size (mvh HB.out))); (case aL => have := LM7.out; omega); intro v108 w8 ho hb hg hat; rw [← Ny107.out] at ho; have n0_ := aK (hb); have n1_ := aK (ho); clear HB HO_3; have HB := n0_; have HO109 := n1_; clear n0_ n1_; clear ho hb hg hat))
   go_roundg k1
   case measure => omega
   case rel => exact ⟨(y107), (wrap64 (x4_1 + 1)), (by first | rfl | (simp; done) | (simp [*]; done)), NY, NZ, ⟨mvR HO109.out⟩, ⟨mvh HB.out⟩⟩
end Go.Proofs.Ytjdkamhnbheofaa.P

-- squeezed
