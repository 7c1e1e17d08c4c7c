/- Polynomials over a field: the polynomial through points has these values, and is the only one. Plain numbers; and Through of the program. -/
import Derived.Test.YtjdkamhnbheofaaGqQGalX
import Derived.Test.YtjdkamhnbheofaaGqQGalH
import Derived.Test.YtjdkamhnbheofaaGqQGalF
import Derived.Test.YtjdkamhnbheofaaGqPx0
import Derived.Test.YtjdkamhnbheofaaGqPx2
import Derived.Test.YtjdkamhnbheofaaGqPx5
import Derived.Test.YtjdkamhnbheofaaGqPx6
import Derived.Test.YtjdkamhnbheofaaGqPx7
import Derived.Test.YtjdkamhnbheofaaGqPx12
set_option linter.unusedVariables false
set_option linter.unusedSimpArgs false
namespace Go.Proofs.Ytjdkamhnbheofaa.GalP
open Go.RowKit Go.Proofs.Ytjdkamhnbheofaa.P Go.Proofs.YtjdkamhnbheofaaW.PrintWords Go.Proofs.YtjdkamhnbheofaaW.PrintLast Go.Proofs.YtjdkamhnbheofaaW.PrintMore Go.Proofs.YtjdkamhnbheofaaW.Q
open Go.Proofs.Ytjdkamhnbheofaa.Gal
theorem Pc_one {m p : Nat} (F : Fi m p) (c : Nat) (l : List Nat) : ∀ k, Pc p m [c] l k = mu p m (l.getD k 0) c := by
  induction l with
  | nil => intro k; rw [Pc, List.getD_nil, F.mu_zero_left]
  | cons x l ih =>
    intro k
    rw [Pc]
    cases k with
    | zero => rw [if_neg (by omega), Nat.xor_zero]; rfl
    | succ k => rw [if_pos (by omega), Nat.add_sub_cancel, ih, getD_over [c] _ (by simp), F.mu_zero_right, Nat.zero_xor]; rfl
theorem prod_one {m p : Nat} (F : Fi m p) (c : Nat) (l : List Nat) : prod p m l [c] = l.map (fun y => mu p m y c) := by
  refine list_ext_getD (by rw [prod_length, List.length_map, List.length_singleton]; omega) (fun k => ?_)
  rw [prod_getD F, Pc_one F]
  simp only [List.getD_eq_getElem?_getD, List.getElem?_map]
  cases l[k]? with
  | none => exact F.mu_zero_left c
  | some y => rfl
theorem hvf_scale {m p : Nat} (F : Fi m p) {c x : Nat} (hc : c < 2 ^ m) (hx : x < 2 ^ m) (l : List Nat) : ∀ v, v < 2 ^ m → (∀ y ∈ l, y < 2 ^ m) → hvf p m x (mu p m v c) (l.map (fun y => mu p m y c)) = mu p m (hvf p m x v l) c := by
  induction l with
  | nil => intro v hv hl; rfl
  | cons y l ih =>
    intro v hv hl
    have hy : y < 2 ^ m := hl y (List.mem_cons_self ..)
    have h1 := F.mu_lt (b := x) hv
    rw [List.map_cons, hvf, hvf, ← ih _ (Nat.xor_lt_two_pow h1 hy) (fun z hz => hl z (List.mem_cons_of_mem _ hz)), F.mu_add_left h1 hy, F.mu_assoc hv hc hx, F.mu_comm hc hx, ← F.mu_assoc hv hx hc]
theorem hv_one {m p : Nat} (F : Fi m p) {c x : Nat} (hc : c < 2 ^ m) (hx : x < 2 ^ m) (l : List Nat) (hl : ∀ y ∈ l, y < 2 ^ m) : hv p m (prod p m l [c]) x = mu p m (hv p m l x) c := by
  rw [prod_one F]
  have h := hvf_scale F hc hx l 0 F.zero_lt hl
  rw [F.mu_zero_left] at h
  exact h
theorem hv_out {m p : Nat} (F : Fi m p) {out way : List Nat} {x y z : Nat} (ho : ∀ y ∈ out, y < 2 ^ m) (hw : ∀ y ∈ way, y < 2 ^ m) (hx : x < 2 ^ m) (hy : y < 2 ^ m) (hz : z < 2 ^ m) : hv p m (outN p m out way x y) z = hv p m out z ^^^ mu p m (hv p m way z) (kN p m out way x y) := by
  unfold outN
  rw [hv_plus F ho (fun y hy => prod_lt F hw y (trimN_mem hy)) hz, hv_trim F, hv_one F (kN_lt F ho hx hy) hz way hw]
theorem thrN_val {m p : Nat} (F : Fi m p) {X Y : List Nat} (hX : ∀ x ∈ X, x < 2 ^ m) (hY : ∀ x ∈ Y, x < 2 ^ m) (hn : ∀ j, j < X.length → X.getD j 0 ∉ X.take j) (d : Nat) : ∀ i out way, i + d = X.length → Th m p X i out way → (∀ j, j < i → hv p m out (X.getD j 0) = Y.getD j 0) → out.length ≤ i → Tr out →
    (∀ j, j < X.length → hv p m (thrN p m X Y d i out way) (X.getD j 0) = Y.getD j 0) ∧ (thrN p m X Y d i out way).length ≤ X.length ∧ Tr (thrN p m X Y d i out way) ∧ ∀ y ∈ thrN p m X Y d i out way, y < 2 ^ m := by
  induction d with
  | zero => intro i out way hi ht hv hl tr; rw [thrN]; exact ⟨fun j hj => hv j (by omega), by omega, tr, ht.olt⟩
  | succ d ih =>
    intro i out way hi ht hval hl tr
    have hil : i < X.length := by omega
    have hx : X.getD i 0 < 2 ^ m := getD_lt' F.zero_lt hX i
    have hy : Y.getD i 0 < 2 ^ m := getD_lt' F.zero_lt hY i
    have lw := ht.len
    have hv2 := F.hv_lt hx ht.olt
    have hv1 := F.hv_lt hx ht.lt
    have hv0 : 0 < hv p m way (X.getD i 0) := Nat.pos_of_ne_zero (fun h => hn i hil ((ht.zero _ hx).1 h))
    have hyx : Y.getD i 0 ^^^ hv p m out (X.getD i 0) < 2 ^ m := Nat.xor_lt_two_pow hy hv2
    rw [thrN]
    refine ih (i + 1) _ _ (by omega) (ht.next F hX hy hil) (fun j hj => ?_) ?_ (by unfold outN plusN; exact tr_trim _)
    · rw [hv_out F ht.olt ht.lt hx hy (getD_lt' F.zero_lt hX j)]
      by_cases c : j = i
      · subst c
        unfold kN
        rw [F.mu_comm hyx (iv_lt F _), ← F.mu_assoc hv1 (iv_lt F _) hyx, mu_iv F hv0 hv1, F.mu_one hyx, Nat.xor_comm (Y.getD j 0), ← Nat.xor_assoc, Nat.xor_self, Nat.zero_xor]
      · have hjl : j < i := by omega
        have hm : X.getD j 0 ∈ X.take i := by
          rw [List.getD_eq_getElem?_getD, List.getElem?_eq_getElem (by omega)]
          exact List.mem_take_iff_getElem.2 ⟨j, by omega, rfl⟩
        rw [(ht.zero _ (getD_lt' F.zero_lt hX j)).2 hm, F.mu_zero_left, Nat.xor_zero, hval j hjl]
    · have h1 := plusN_length out (trimN (prod p m way [kN p m out way (X.getD i 0) (Y.getD i 0)]))
      have h2 := trimN_length (prod p m way [kN p m out way (X.getD i 0) (Y.getD i 0)])
      rw [prod_one_length, lw] at h2
      unfold outN
      omega
/-- Two polynomials of n terms at most, with the same values at n elements. -/
theorem only_one {m p : Nat} (F : Fi m p) {a b : List Nat} (ta : Tr a) (tb : Tr b) (ha : ∀ y ∈ a, y < 2 ^ m) (hb : ∀ y ∈ b, y < 2 ^ m) (n : Nat) (la : a.length ≤ n) (lb : b.length ≤ n) (hn : n ≤ 2 ^ m) (h : ∀ i, i < n → hv p m a i = hv p m b i) : a = b := by
  have ht : Tr (plusN a b) := by unfold plusN; exact tr_trim _
  have hl := plusN_length a b
  have hz := F.roots_zero (fun i => i) n (plusN a b) (by omega) (plusN_lt ha hb) (fun i j _ _ e => e) (fun i hi => ⟨by omega, by rw [hv_plus F ha hb (by omega), h i hi, Nat.xor_self]⟩)
  have e : plusN a b = [] := by
    cases hc : plusN a b with
    | nil => rfl
    | cons x l =>
      rw [hc] at hz ht
      exact absurd (hz x (List.mem_cons_self ..)) (tr_head ht)
  refine cf_ext ta tb (fun j => ?_)
  have hj := cf_plus a b j
  rw [e] at hj
  exact xor_eq_zero hj.symm
/-- Through of the program, at points that are all unlike. -/
theorem Through_t {m p : Nat} (F : Fi m p) (X Y : List Nat) (hX : ∀ x ∈ X, x < 2 ^ m) (hY : ∀ x ∈ Y, x < 2 ^ m) (ln : X.length ≤ 1024) (hl : Y.length = X.length) (hn : ∀ j, j < X.length → X.getD j 0 ∉ X.take j) :
    ∃ R : List Nat, Ev (fun k => galois_Tables_Through.f k (tab m p) (ints X) (ints Y)) (ints R, 0) ∧ (∀ j, j < X.length → hv p m R (X.getD j 0) = Y.getD j 0) ∧ R.length ≤ X.length ∧ Tr R ∧ ∀ y ∈ R, y < 2 ^ m := by
  have h := thrN_val F hX hY hn X.length 0 [] [1] (by omega) (Th.start F X) (fun j hj => by omega) (Nat.le_refl _) tr_nil
  refine ⟨thrN p m X Y X.length 0 [] [1], ?_, h⟩
  unfold galois_Tables_Through.f
  refine Ev.bind (lists2 F X Y hX hY ln (by omega)) (ev_pos rfl (ev_pos (by rw [ints_length, ints_length, hl]) ?_))
  have g := thr_l0 F X Y hX hY ln hl (ints (thrN p m X Y X.length 0 [] [1]), 0) (fun ⟨j, h1, h2⟩ => absurd h2 (hn j h1)) (fun _ => rfl) X.length 0 (by omega) (fun j hj => by omega)
  rw [ints_length]
  exact g
end Go.Proofs.Ytjdkamhnbheofaa.GalP
