/- Rows that share nothing: what ApartBytes asks of its lists. No program in sight. -/
import Derived.Test.YtdhnjnkjhfomiaaRwWAll
import Derived.ArgAppend
import Derived.Test.YtdhnjnkjhfomiaaRwQLent
set_option linter.unusedVariables false
set_option linter.unusedSimpArgs false
namespace Go.Proofs.YtdhnjnkjhfomiaaW.Ap
open Go.RowKit Go.Proofs.YtdhnjnkjhfomiaaW.PrintWords Go.Proofs.YtdhnjnkjhfomiaaW.PrintLast Go.Proofs.YtdhnjnkjhfomiaaW.PrintMore
def bv (xs : List Int) : List Value := xs.map (Value.int .u8)
theorem bv_length (xs : List Int) : (bv xs).length = xs.length := by simp [bv]
def Ow (w : World) (B e : Nat) (v : Value) (n : Nat) (xs : List Value) : Prop :=
  xs.length = n ∧ ((v = .slice none 0 0 ∧ n = 0) ∨
    ∃ g o cap cur,v = .slice (some ⟨g,o,none⟩) n cap ∧ B ≤ g ∧ w.heap[g]? = some (.cells cur e (0,0)) ∧ n ≤ cap ∧ cap ≤ maxLen ∧ o + cap ≤ cur.size ∧ (o = 0 ∧ cur.size = cap ∨ cap = n) ∧ (cur.toList.drop o).take n = xs)
def Un (v u : Value) : Prop := v.ownBlock = none ∨ v.ownBlock ≠ u.ownBlock ∨ ∃ g o n o' n',v = .slice (some ⟨g,o,none⟩) n n ∧ u = .slice (some ⟨g,o',none⟩) n' n' ∧ (o + n ≤ o' ∨ o' + n' ≤ o)
section
variable {w w' : World} {B e g o n cap : Nat} {v : Value} {xs : List Value}
theorem Ow.of (h : w.ownsRow B e 1 v n xs) : Ow w B e v n xs := by
  obtain ⟨hl,h'⟩ := h
  refine ⟨by omega,?_⟩
  rcases h' with hn | ⟨g,c,cur,e1,hb,hg,hc,hm,hs,ht⟩
  · exact .inl hn
  · exact .inr ⟨g,0,c,cur,e1,hb,hg,hc,hm,by omega,.inl ⟨rfl,by omega⟩,by rw [Nat.mul_one] at ht; rw [List.drop_zero]; exact ht⟩
theorem Ow.lt (h : Ow w B e v n xs) : ∀ k,v.ownBlock = some k → B ≤ k ∧ k < w.heap.size := by
  intro k hk
  rcases h.2 with ⟨rfl,_⟩ | ⟨g,o,cap,cur,rfl,hb,hg,_⟩
  · simp [Value.ownBlock] at hk
  · simp [Value.ownBlock] at hk
    subst hk
    exact ⟨hb,(Array.getElem?_eq_some_iff.1 hg).1⟩
theorem Ow.kept {row : Option Nat} (h : Ow w B e v n xs) (hg : w.grownBy w' row) (hne : v.ownBlock = none ∨ v.ownBlock ≠ row) : Ow w' B e v n xs := by
  refine ⟨h.1,?_⟩
  rcases h.2 with hn | ⟨g,o,cap,cur,rfl,hb,hgg,rest⟩
  · exact .inl hn
  · refine .inr ⟨g,o,cap,cur,rfl,hb,?_,rest⟩
    rw [hg.block g (Array.getElem?_eq_some_iff.1 hgg).1 (by simpa [Value.ownBlock] using hne)]
    exact hgg
theorem Ow.cellAt (h : Ow w B e (.slice (some ⟨g,o,none⟩) n cap) n xs) (j : Nat) (hj : j < n) : w.cell? ⟨g,o + j,none⟩ = xs[j]? := by
  rcases h.2 with ⟨h',_⟩ | ⟨g',o',cap',cur,h',_,hg,_,_,_,_,htake⟩
  · simp at h'
  · simp only [Value.slice.injEq,Option.some.injEq,Addr.mk.injEq,and_true,true_and] at h'
    obtain ⟨⟨rfl,rfl⟩,rfl⟩ := h'
    rw [cell_of_row w g (o + j) cur e (0,0) hg,← htake,List.getElem?_take,if_pos hj,List.getElem?_drop]
    simp
theorem Ow.frozenAt (h : Ow w B e (.slice (some ⟨g,o,none⟩) n cap) n xs) (j : Nat) : w.frozen? ⟨g,j,none⟩ = false := by
  rcases h.2 with ⟨h',_⟩ | ⟨g',o',cap',cur,h',_,hg,_⟩
  · simp at h'
  · simp only [Value.slice.injEq,Option.some.injEq,Addr.mk.injEq,and_true,true_and] at h'
    obtain ⟨⟨rfl,rfl⟩,rfl⟩ := h'
    exact frozen_of_row w g j cur e hg
theorem grown_set (w : World) (g j : Nat) (u : Value) : w.grownBy (w.setCell ⟨g,j,none⟩ u) (some g) := ⟨rfl,rfl,rfl,by simp,fun k _ hk => heap_setCell_other w ⟨g,j,none⟩ k u (fun e => hk (by simp [e]))⟩
theorem Ow.stored (h : Ow w B e (.slice (some ⟨g,o,none⟩) n cap) n xs) (j : Nat) (u : Value) :
    Ow (w.setCell ⟨g,o + j,none⟩ u) B e (.slice (some ⟨g,o,none⟩) n cap) n (xs.set j u) := by
  rcases h.2 with ⟨h',_⟩ | ⟨g',o',cap',cur,h',hb,hg,hnc,hcm,hcs,hct,htake⟩
  · simp at h'
  · simp only [Value.slice.injEq,Option.some.injEq,Addr.mk.injEq,and_true,true_and] at h'
    obtain ⟨⟨rfl,rfl⟩,rfl⟩ := h'
    refine ⟨by simpa using h.1,.inr ⟨g,o,cap,cur.setIfInBounds (o + j) u,rfl,hb,heap_setCell_same w g (o + j) cur e u hg,hnc,hcm,by simpa using hcs,by simpa using hct,?_⟩⟩
    rw [Array.toList_setIfInBounds,← htake,List.drop_set,if_neg (by omega),List.take_set,show o + j - o = j by omega]
theorem Ow.beside {o' n' : Nat} (h : Ow w B e (.slice (some ⟨g,o,none⟩) n cap) n xs) (j : Nat) (hj : j < o ∨ o + n ≤ j) (u : Value) : Ow (w.setCell ⟨g,j,none⟩ u) B e (.slice (some ⟨g,o,none⟩) n cap) n xs := by
  rcases h.2 with ⟨h',_⟩ | ⟨g',o',cap',cur,h',hb,hg,hnc,hcm,hcs,hct,htake⟩
  · simp at h'
  · simp only [Value.slice.injEq,Option.some.injEq,Addr.mk.injEq,and_true,true_and] at h'
    obtain ⟨⟨rfl,rfl⟩,rfl⟩ := h'
    refine ⟨h.1,.inr ⟨g,o,cap,cur.setIfInBounds j u,rfl,hb,heap_setCell_same w g j cur e u hg,hnc,hcm,by simpa using hcs,by simpa using hct,?_⟩⟩
    rw [Array.toList_setIfInBounds,List.drop_set]
    split
    · exact htake
    · rw [List.take_set_of_le (by omega)]
      exact htake
theorem Ow.roomy (h : Ow w B e (.slice (some ⟨g,o,none⟩) n cap) n xs) (hr : n < cap) : o = 0 ∧ w.ownsRow B e 1 (.slice (some ⟨g,o,none⟩) n cap) n xs := by
  obtain ⟨hl,h'⟩ := h
  rcases h' with ⟨h',_⟩ | ⟨g',o',cap',cur,h',hb,hg,hnc,hcm,hcs,hct,htake⟩
  · simp at h'
  · simp only [Value.slice.injEq,Option.some.injEq,Addr.mk.injEq,and_true,true_and] at h'
    obtain ⟨⟨rfl,rfl⟩,rfl⟩ := h'
    have h0 : o = 0 := by omega
    subst h0
    rw [List.drop_zero] at htake
    exact ⟨rfl,by omega,.inr ⟨g,cap,cur,rfl,hb,hg,hnc,hcm,by omega,by rw [Nat.mul_one]; exact htake⟩⟩
end
structure St (K : Nat → Obj → Prop) (w : World) (B e go oo : Nat) (V : List Value) (X : Nat → List Int) : Prop where
  own : ∀ (i : Nat) (v : Value),V[i]? = some v → Ow w B e v (X i).length (bv (X i))
  apart : ∀ (i j : Nat) (v u : Value),V[i]? = some v → V[j]? = some u → i ≠ j → Un v u
  outer : ∀ (i : Nat) (v : Value),V[i]? = some v → w.cell? ⟨go,oo + i,none⟩ = some v
  away : ∀ (i : Nat) (v : Value),V[i]? = some v → v.ownBlock ≠ some go
  keep : ∀ (b : Nat) (o : Obj),K b o → w.heap[b]? = some o
  far : ∀ (b : Nat) (o : Obj),K b o → ∀ (i : Nat) (v : Value),V[i]? = some v → v.ownBlock ≠ some b
section
variable {K : Nat → Obj → Prop} {w w' W : World} {B e go oo : Nat} {V : List Value} {X : Nat → List Int}
theorem St.klt (h : St K w B e go oo V X) {b : Nat} {o : Obj} (hb : K b o) : b < w.heap.size := (Array.getElem?_eq_some_iff.1 (h.keep b o hb)).1
theorem St.grown (h : St K w B e go oo V X) {row : Option Nat} (hg : w.grownBy w' row) (hr : ∀ (i : Nat) (v : Value),V[i]? = some v → v.ownBlock = none ∨ v.ownBlock ≠ row) (ho : some go ≠ row) (hk : ∀ (b : Nat) (o : Obj),K b o → some b ≠ row) : St K w' B e go oo V X :=
  ⟨fun i v hv => (h.own i v hv).kept hg (hr i v hv),h.apart,fun i v hv => hg.cell (h.outer i v hv) ho,h.away,fun b o hb => (hg.block b (h.klt hb) (hk b o hb)).trans (h.keep b o hb),h.far⟩
theorem St.below (h : St K w B e go oo V X) (hb : Below w.heap.size w w') : St K w' B e go oo V X :=
  h.grown (grown_of_below hb none) (fun i v _ => by cases hv : v.ownBlock <;> simp) (by simp) (fun _ _ _ => by simp)
theorem St.drewN (h : St K w B e go oo V X) (n : Nat) : St K (w.drewN n) B e go oo V X := h.below (pw_below_drewN (Below.refl _ _) n)
theorem St.form (h : St K w B e go oo V X) {i : Nat} {v : Value} (hv : V[i]? = some v) : (v = .slice none 0 0 ∧ (X i).length = 0) ∨ ∃ g o c,v = .slice (some ⟨g,o,none⟩) (X i).length c ∧ B ≤ g ∧ (X i).length ≤ c := by
  rcases (h.own i v hv).2 with hn | ⟨g,o,c,cur,e1,hb,_,hc,_⟩
  · exact .inl hn
  · exact .inr ⟨g,o,c,e1,hb,hc⟩
theorem St.cell (h : St K w B e go oo V X) {i g o c : Nat} (hv : V[i]? = some (.slice (some ⟨g,o,none⟩) (X i).length c)) {j : Nat} (hj : j < (X i).length) : w.cell? ⟨g,o + j,none⟩ = some (.int .u8 ((X i).getD j 0)) := by
  rw [(h.own i _ hv).cellAt j (by omega)]
  simp [bv,List.getElem?_map,List.getD_eq_getElem?_getD,List.getElem?_eq_getElem hj]
theorem St.frozen (h : St K w B e go oo V X) {i g o c : Nat} (hv : V[i]? = some (.slice (some ⟨g,o,none⟩) (X i).length c)) (j : Nat) : w.frozen? ⟨g,j,none⟩ = false := (h.own i _ hv).frozenAt j
def put (X : Nat → List Int) (i j : Nat) (x : Int) : Nat → List Int := fun r => if r = i then (X i).set j x else X r
theorem put_length (X : Nat → List Int) (i j : Nat) (x : Int) (r : Nat) : (put X i j x r).length = (X r).length := by
  unfold put
  split
  · rename_i h
    rw [h,List.length_set]
  · rfl
theorem St.put (h : St K w B e go oo V X) {i g o c : Nat} (hv : V[i]? = some (.slice (some ⟨g,o,none⟩) (X i).length c)) {j : Nat} (hj : j < (X i).length) (x : Int) : St K (w.setCell ⟨g,o + j,none⟩ (.int .u8 x)) B e go oo V (put X i j x) := by
  have h1 := (h.own i _ hv).stored j (.int .u8 x)
  have hg := grown_set w g (o + j) (.int .u8 x)
  refine ⟨fun r v hr => ?_,h.apart,fun r v hr => hg.cell (h.outer r v hr) (fun e1 => h.away i _ hv (by simpa [Value.ownBlock] using e1.symm)),h.away,fun b q hb => (hg.block b (h.klt hb) (fun e1 => h.far b q hb i _ hv (by simpa [Value.ownBlock] using e1.symm))).trans (h.keep b q hb),h.far⟩
  by_cases e1 : r = i
  · subst e1
    obtain rfl := Option.some.inj (hr.symm.trans hv)
    have e2 : Ap.put X r j x r = (X r).set j x := if_pos rfl
    rw [e2,List.length_set,bv,List.map_set]
    exact h1
  · have e2 : Ap.put X i j x r = X r := if_neg e1
    rw [e2]
    rcases h.apart r i v _ hr hv e1 with h2 | h2 | ⟨g',o1,n1,o2,n2,rfl,h3,h4⟩
    · exact (h.own r v hr).kept hg (.inl h2)
    · exact (h.own r v hr).kept hg (.inr h2)
    · simp only [Value.slice.injEq,Option.some.injEq,Addr.mk.injEq,and_true,true_and] at h3
      obtain ⟨⟨rfl,rfl⟩,h5,h6⟩ := h3
      have h7 := h.own r _ hr
      have h8 : n1 = (X r).length := by
        rcases h7.2 with ⟨h9,_⟩ | ⟨_,_,_,_,h9,_⟩
        · simp at h9
        · injection h9
      subst h8
      exact Ow.beside (o' := 0) (n' := 0) h7 (o + j) (by omega) _
def More (w : World) (H e : Nat) (v : Value) (n : Nat) (xs : List Value) (u : Value) (k : Nat) : Prop :=
  (∃ g o c ys,v = .slice (some ⟨g,o,none⟩) n c ∧ u = .slice (some ⟨g,o,none⟩) (n + k) c ∧ ys.length = k ∧ Ow w 0 e u (n + k) (xs ++ ys)) ∨ ∃ zs,w.ownsRow H e 1 u (n + k) zs
theorem own_take {b g m c : Nat} {xs ys : List Value} (h : w.ownsRow b e 1 (.slice (some ⟨g,0,none⟩) m c) m (xs ++ ys)) (hB : B ≤ g) : Ow w B e (.slice (some ⟨g,0,none⟩) xs.length c) xs.length xs := by
  obtain ⟨hl,h'⟩ := h
  rcases h' with ⟨h',_⟩ | ⟨g',c',cur,h',hb,hg,hnc,hcm,hcs,ht⟩
  · simp at h'
  · simp only [Value.slice.injEq,Option.some.injEq,Addr.mk.injEq,and_true,true_and] at h'
    obtain ⟨rfl,rfl⟩ := h'
    rw [List.length_append] at hl
    refine ⟨rfl,.inr ⟨g,0,c,cur,rfl,hB,hg,by omega,hcm,by omega,.inl ⟨rfl,by omega⟩,?_⟩⟩
    have e1 : cur.toList.take xs.length = (cur.toList.take (m * 1)).take xs.length := by rw [List.take_take,Nat.min_eq_left (by omega)]
    rw [List.drop_zero,e1,ht]
    exact List.take_left' rfl
theorem own_zero {v : Value} {n : Nat} {xs : List Value} (h : Ow w B e v n xs) : Ow w 0 e v n xs := by
  refine ⟨h.1,?_⟩
  rcases h.2 with hn | ⟨g,o,c,cur,e1,_,rest⟩
  · exact .inl hn
  · exact .inr ⟨g,o,c,cur,e1,Nat.zero_le _,rest⟩
theorem More.start (h : St K w B e go oo V X) {i : Nat} {v : Value} (hv : V[i]? = some v) (H : Nat) : More w H e v (X i).length (bv (X i)) v 0 := by
  rcases h.form hv with ⟨rfl,h0⟩ | ⟨g,o,c,rfl,hb,hc⟩
  · exact .inr ⟨[],by rw [h0]; exact World.ownsRow_nil w H e 1⟩
  · exact .inl ⟨g,o,c,[],rfl,rfl,rfl,by rw [List.append_nil]; exact own_zero (h.own i _ hv)⟩
theorem More.below {H : Nat} {v u : Value} {n k : Nat} {xs : List Value} (h : More w H e v n xs u k) (hb : Below w.heap.size w w') : More w' H e v n xs u k := by
  have hg := grown_of_below hb none
  rcases h with ⟨g,o,c,ys,h1,h2,h3,h4⟩ | ⟨zs,h4⟩
  · exact .inl ⟨g,o,c,ys,h1,h2,h3,h4.kept hg (by subst h2; simp [Value.ownBlock])⟩
  · exact .inr ⟨zs,h4.kept hg (by cases hu : u.ownBlock <;> simp)⟩
end
section
variable {K : Nat → Obj → Prop} {P : Program} {ops : Array Oper} {rest : List Oper} {o : Oper} {a : Act} {Q : Exit → Act → World → Prop} {W : World} {B e go oo : Nat} {V : List Value} {X : Nat → List Int}
theorem more_append (hgd : o.guard = none) (s x : Operand) (t : TypeId) (ho : o.op = .call { callee := .builtin .append,args := #[s,x],argTypes := #[t,t] }) (ht : P.underlying t = some (.slice e))
    (hinfo : (P.info? e).map (fun i => (i.zero,i.size,i.bytes)) = some (some (.int .u8 0),1,1)) (q : Int) (u : Value) (hs : a.eval s = u) (hx : a.eval x = .slice (some ⟨W.heap.size,0,none⟩) 1 1)
    (hst : St K W B e go oo V X) (hgo : go < W.heap.size) {i : Nat} {v : Value} (hv : V[i]? = some v) (H : Nat) (hBH : B ≤ H) (hVH : ∀ (r : Nat) (v : Value),V[r]? = some v → ∀ k,v.ownBlock = some k → k < H) (hgH : go < H) (hKH : ∀ (b : Nat) (o : Obj),K b o → b < H) (hH : H ≤ W.heap.size) {k : Nat}
    (hM : More W H e v (X i).length (bv (X i)) u k) (hl : (X i).length + k + 1 ≤ 140737488355328)
    (h : ∀ u' w',St K w' B e go oo V X → More w' H e v (X i).length (bv (X i)) u' (k + 1) → Below B W w' → wpList P ops Q rest (a.put o.dst u') w') :
    wpList P ops Q (o :: rest) a (W.alloc (.cells #[.int .u8 q] e)) := by
  obtain ⟨i0,hi,hz0,hz1,hz2⟩ := info_parts hinfo
  have hb1 : Below W.heap.size W (W.alloc (.cells #[.int .u8 q] e)) := below_alloc (Below.refl _ _) _
  have hst1 := hst.below hb1
  have hM1 := hM.below hb1
  have hsz : (W.alloc (.cells #[.int .u8 q] e)).heap.size = W.heap.size + 1 := by simp
  have hnew : (W.alloc (.cells #[.int .u8 q] e)).cell? ⟨W.heap.size,0,none⟩ = some (.int .u8 q) := by
    rw [cell_of_row _ W.heap.size 0 #[.int .u8 q] e (0,0) (heap_alloc_new W _)]
    rfl
  have hc : ∀ j z,([.int .u8 q] : List Value)[j]? = some z → (W.alloc (.cells #[.int .u8 q] e)).cell? ((⟨W.heap.size,0,none⟩ : Addr).add j) = some z := by
    intro j z hj
    match j,hj with
    | 0,hj =>
      simp at hj
      subst hj
      rw [Addr.add_lit]
      exact hnew
    | j + 1,hj => simp at hj
  have h1c : ∀ z ∈ ([.int .u8 q] : List Value),z.oneCell' = true := by
    intro z hz
    simp at hz
    subst hz
    rfl
  generalize hW1 : W.alloc (.cells #[.int .u8 q] e) = W1 at hb1 hst1 hM1 hsz hnew hc ⊢
  have hBW : B ≤ W.heap.size := by omega
  have toB : ∀ {w' : World},Below B W1 w' → Below B W w' := fun {w'} k => ⟨k.os.trans hb1.os,k.tape.trans hb1.tape,k.output.trans hb1.output,Nat.le_trans hb1.size k.size,fun b hb => (k.block b hb).trans (hb1.block b (by omega))⟩
  have grB : ∀ {w' : World} {row : Option Nat},W1.grownBy w' row → (∀ b,row = some b → B ≤ b) → Below B W1 w' := fun {w' row} k hr => ⟨k.os,k.tape,k.output,k.size,fun b hb => k.block b (by omega) (fun e1 => by have := hr b e1.symm; omega)⟩
  rcases hM1 with ⟨g,o,c,ys,hv1,hu,hy,hown⟩ | ⟨zs,hown⟩
  · subst hv1 hu
    have hgB : B ≤ g := by
      rcases hst.form hv with ⟨hn,_⟩ | ⟨g',o',c',hn,hb,_⟩
      · simp at hn
      · simp only [Value.slice.injEq,Option.some.injEq,Addr.mk.injEq,and_true,true_and] at hn
        rw [hn.1.1]
        exact hb
    have hgo1 : some go ≠ some g := fun e1 => hst.away i _ hv (by simpa [Value.ownBlock] using e1.symm)
    by_cases hr : (X i).length + k + 1 ≤ c
    · obtain ⟨ho0,hroom⟩ := hown.roomy (by omega)
      subst ho0
      refine wpList_append_fits W1 hgd s x t ho 0 e i0 1 ht hi hz1 g ((X i).length + k) c _ hs hroom ⟨W.heap.size,0,none⟩ 1 1 [.int .u8 q] hx rfl hc h1c hr ?_
      intro w' hown' hg
      refine h _ w' ⟨fun r z hz => ?_,hst.apart,fun r z hz => hg.cell (hst1.outer r z hz) hgo1,hst.away,fun b o hb => (hg.block b (hst1.klt hb) (fun e1 => hst.far b o hb i _ hv (by simpa [Value.ownBlock] using e1.symm))).trans (hst1.keep b o hb),hst.far⟩ (.inl ⟨g,0,c,ys ++ [.int .u8 q],rfl,rfl,by simp [hy],by rw [← List.append_assoc]; exact Ow.of hown'⟩) (toB (grB hg (fun b e1 => by injection e1 with e1; omega)))
      by_cases e1 : r = i
      · subst e1
        obtain rfl := Option.some.inj (hz.symm.trans hv)
        have := own_take (B := B) (ys := ys ++ [.int .u8 q]) (by rw [← List.append_assoc]; exact hown') hgB
        rw [bv_length] at this
        exact this
      · rcases hst.apart r i z _ hz hv e1 with h2 | h2 | ⟨g',o1,n1,o2,n2,_,h3,_⟩
        · exact (hst1.own r z hz).kept hg (.inl h2)
        · exact (hst1.own r z hz).kept hg (.inr h2)
        · exfalso
          simp only [Value.slice.injEq] at h3
          omega
    · refine wpList_append_grows W1 hgd s x t ho e i0 (.int .u8 0) 1 1 ht hi hz0 hz1 hz2 rfl (by decide) (some ⟨g,o,none⟩) ((X i).length + k) c (bv (X i) ++ ys) hs (fun h => by simp at h) (by simp [bv_length,hy]) ?_ ⟨W.heap.size,0,none⟩ 1 1 [.int .u8 q] hx rfl hc h1c (by omega) (by simp only [maxLen]; omega) (by omega) ?_
      · intro b hb j z hj
        injection hb with hb
        subst hb
        have hjl : j < (bv (X i) ++ ys).length := (List.getElem?_eq_some_iff.1 hj).1
        rw [List.length_append,bv_length,hy] at hjl
        rw [Addr.add_lit,hown.cellAt j (by omega)]
        exact hj
      · intro v' w' hown' hg
        refine h v' w' (hst1.grown hg (fun r z hz => by cases z.ownBlock <;> simp) (by simp) (fun _ _ _ => by simp)) (.inr ⟨_,own_less hown' (by omega)⟩) (toB (grB hg (fun b e1 => by simp at e1)))
  · refine wpList_append_own W1 hgd s x t ho H e i0 (.int .u8 0) 1 1 ht hi hz0 hz1 hz2 rfl (by decide) u ((X i).length + k) zs hs hown ⟨W.heap.size,0,none⟩ 1 1 [.int .u8 q] hx rfl hc h1c (by simp only [maxLen]; omega) (by omega) (by omega) ?_
    intro v' w' hown' hg _
    have hu := hown.lt
    refine h v' w' (hst1.grown hg (fun r z hz => ?_) (fun e1 => by have := (hu go e1.symm).1; omega) (fun b o hb e1 => by have h1 := (hu b e1.symm).1; have h2 := hKH b o hb; omega)) (.inr ⟨_,hown'⟩) (toB (grB hg (fun b e1 => by have := (hu b e1).1; omega)))
    cases hz2 : z.ownBlock with
    | none => exact .inl rfl
    | some b => exact .inr (fun e1 => by have h1 := hVH r z hz b hz2; have h2 := (hu b e1.symm).1; omega)
end
end Go.Proofs.YtdhnjnkjhfomiaaW.Ap

set_option linter.unusedVariables false
set_option linter.unusedSimpArgs false
namespace Go.Proofs.YtdhnjnkjhfomiaaW.Ap
open Go.RowKit Go.Proofs.YtdhnjnkjhfomiaaW.PrintWords Go.Proofs.YtdhnjnkjhfomiaaW.PrintLast Go.Proofs.YtdhnjnkjhfomiaaW.PrintMore
structure Rw (w : World) (B e : Nat) (V : List Value) (X : Nat → List Int) : Prop where
  own : ∀ (i : Nat) (v : Value),V[i]? = some v → Ow w B e v (X i).length (bv (X i))
  apart : ∀ (i j : Nat) (v u : Value),V[i]? = some v → V[j]? = some u → i ≠ j → Un v u
section
variable {w w' W : World} {B e e2 go : Nat} {V : List Value} {X : Nat → List Int}
theorem Rw.nil (w : World) (B e : Nat) (X : Nat → List Int) : Rw w B e [] X := ⟨fun i v h => by simp at h,fun i j v u h => by simp at h⟩
theorem Rw.grown (h : Rw w B e V X) {row : Option Nat} (hg : w.grownBy w' row) (hr : ∀ (i : Nat) (v : Value),V[i]? = some v → v.ownBlock = none ∨ v.ownBlock ≠ row) : Rw w' B e V X :=
  ⟨fun i v hv => (h.own i v hv).kept hg (hr i v hv),h.apart⟩
theorem Rw.below (h : Rw w B e V X) (hb : Below w.heap.size w w') : Rw w' B e V X := h.grown (grown_of_below hb none) (fun i v _ => by cases v.ownBlock <;> simp)
def push (X : Nat → List Int) (n : Nat) (xs : List Int) : Nat → List Int := fun r => if r = n then xs else X r
theorem Rw.push (h : Rw w B e V X) (hb : Below w.heap.size w w') (hB : B ≤ w.heap.size) {x : Value} {xs : List Int} (hx : w'.ownsRow w.heap.size e 1 x xs.length (bv xs)) : Rw w' B e (V ++ [x]) (Ap.push X V.length xs) := by
  have h' := h.below hb
  have cs : ∀ (i : Nat) (v : Value),(V ++ [x])[i]? = some v → (V[i]? = some v ∧ i < V.length) ∨ (i = V.length ∧ v = x) := by
    intro i v hv
    by_cases hi : i < V.length
    · rw [List.getElem?_append_left hi] at hv
      exact .inl ⟨hv,hi⟩
    · rw [List.getElem?_append_right (by omega)] at hv
      have h0 : i - V.length = 0 := by
        have := (List.getElem?_eq_some_iff.1 hv).1
        simp at this
        exact this
      rw [h0] at hv
      simp at hv
      exact .inr ⟨by omega,hv.symm⟩
  have old : ∀ (i : Nat) (v : Value),V[i]? = some v → ∀ k,v.ownBlock = some k → k < w.heap.size := fun i v hv k hk => ((h.own i v hv).lt k hk).2
  refine ⟨fun i v hv => ?_,fun i j v u hv hu hij => ?_⟩
  · rcases cs i v hv with ⟨h1,h2⟩ | ⟨rfl,rfl⟩
    · rw [show Ap.push X V.length xs i = X i from if_neg (by omega)]
      exact h'.own i v h1
    · rw [show Ap.push X V.length xs V.length = xs from if_pos rfl]
      exact Ow.of (own_less hx hB)
  · rcases cs i v hv with ⟨h1,h2⟩ | ⟨h1,h2⟩
    · rcases cs j u hu with ⟨g1,g2⟩ | ⟨g1,g2⟩
      · exact h.apart i j v u h1 g1 hij
      · subst g2
        cases hk : v.ownBlock with
        | none => exact .inl hk
        | some k => exact .inr (.inl (fun e1 => by have q1 := old i v h1 k hk; have q2 := (hx.lt k (e1.symm.trans hk)).1; omega))
    · rcases cs j u hu with ⟨g1,g2⟩ | ⟨g1,g2⟩
      · subst h2
        cases hk : v.ownBlock with
        | none => exact .inl hk
        | some k => exact .inr (.inl (fun e1 => by have q1 := old j u g1 k (e1.symm.trans hk); have q2 := (hx.lt k hk).1; omega))
      · omega
theorem own_typed {v : Value} {n : Nat} {xs : List Value} (h : Ow w B e v n xs) {k : Nat} (hk : v.ownBlock = some k) : ∃ cells,w.heap[k]? = some (.cells cells e (0,0)) := by
  rcases h.2 with ⟨rfl,_⟩ | ⟨g,o,c,cur,rfl,_,hg,_⟩
  · simp [Value.ownBlock] at hk
  · simp [Value.ownBlock] at hk
    subst hk
    exact ⟨cur,hg⟩
theorem own_unlike {B' : Nat} {v u : Value} {n m : Nat} {xs ys : List Value} (h : Ow w B e v n xs) (hu : w.ownsRow B' e2 1 u m ys) (hne : e ≠ e2) : v.ownBlock = none ∨ v.ownBlock ≠ u.ownBlock := by
  cases hk : v.ownBlock with
  | none => exact .inl rfl
  | some k =>
    refine .inr (fun e1 => ?_)
    obtain ⟨c1,h1⟩ := own_typed h hk
    obtain ⟨c2,h2⟩ := own_typed (Ow.of hu) e1.symm
    rw [h1] at h2
    injection h2 with h2
    injection h2 with _ h2
    exact hne h2
theorem Rw.to (h : Rw w B e V X) {c : Nat} (ho : w.ownsRow B e2 1 (.slice (some ⟨go,0,none⟩) V.length c) V.length V) (hne : e ≠ e2) : St (fun _ _ => False) w B e go 0 V X := by
  refine ⟨h.own,h.apart,fun i v hv => ?_,fun i v hv e1 => ?_,fun _ _ hb => hb.elim,fun _ _ hb => hb.elim⟩
  · have hi := (List.getElem?_eq_some_iff.1 hv).1
    rw [Nat.zero_add,ho.cellAt i (by omega)]
    exact hv
  · rcases own_unlike (h.own i v hv) ho hne with h1 | h1
    · rw [h1] at e1
      simp at e1
    · exact h1 (by rw [e1]; rfl)
end
section
variable {P : Program} {ops : Array Oper} {rest : List Oper} {o : Oper} {a : Act} {Q : Exit → Act → World → Prop} {W : World} {B e e2 : Nat} {V V2 : List Value} {X : Nat → List Int}
end
end Go.Proofs.YtdhnjnkjhfomiaaW.Ap

set_option linter.unusedVariables false
set_option linter.unusedSimpArgs false
namespace Go.Proofs.YtdhnjnkjhfomiaaW.Ap
open Go.RowKit Go.Proofs.YtdhnjnkjhfomiaaW.PrintWords Go.Proofs.YtdhnjnkjhfomiaaW.PrintLast Go.Proofs.YtdhnjnkjhfomiaaW.PrintMore
section
variable {w w' W : World} {B e e2 go : Nat} {V : List Value} {X : Nat → List Int}
theorem Rw.consU (h : Rw w B e V X) {x : Value} {xs : List Int} (hx : Ow w B e x xs.length (bv xs)) (hV : ∀ v ∈ V,Un v x ∧ Un x v) : Rw w B e (V ++ [x]) (Ap.push X V.length xs) := by
  have cs : ∀ (i : Nat) (v : Value),(V ++ [x])[i]? = some v → (V[i]? = some v ∧ i < V.length) ∨ (i = V.length ∧ v = x) := by
    intro i v hv
    by_cases hi : i < V.length
    · rw [List.getElem?_append_left hi] at hv
      exact .inl ⟨hv,hi⟩
    · rw [List.getElem?_append_right (by omega)] at hv
      have h0 : i - V.length = 0 := by
        have := (List.getElem?_eq_some_iff.1 hv).1
        simp at this
        exact this
      rw [h0] at hv
      simp at hv
      exact .inr ⟨by omega,hv.symm⟩
  refine ⟨fun i v hv => ?_,fun i j v u hv hu hij => ?_⟩
  · rcases cs i v hv with ⟨h1,h2⟩ | ⟨rfl,rfl⟩
    · rw [show Ap.push X V.length xs i = X i from if_neg (by omega)]
      exact h.own i v h1
    · rw [show Ap.push X V.length xs V.length = xs from if_pos rfl]
      exact hx
  · rcases cs i v hv with ⟨h1,h2⟩ | ⟨h1,h2⟩
    · rcases cs j u hu with ⟨g1,g2⟩ | ⟨g1,g2⟩
      · exact h.apart i j v u h1 g1 hij
      · subst g2
        exact (hV v (List.mem_of_getElem? h1)).1
    · rcases cs j u hu with ⟨g1,g2⟩ | ⟨g1,g2⟩
      · subst h2
        exact (hV u (List.mem_of_getElem? g1)).2
      · omega
theorem un_of {v x : Value} (h : v.ownBlock = none ∨ v.ownBlock ≠ x.ownBlock) : Un v x ∧ Un x v := by
  rcases h with h | h
  · refine ⟨.inl h,?_⟩
    cases e : x.ownBlock with
    | none => exact .inl e
    | some k => exact .inr (.inl (by rw [h,e]; simp))
  · exact ⟨.inr (.inl h),.inr (.inl (fun e => h e.symm))⟩
theorem Rw.cons' (h : Rw w B e V X) {x : Value} {xs : List Int} (hx : Ow w B e x xs.length (bv xs)) (hV : ∀ v ∈ V,v.ownBlock = none ∨ v.ownBlock ≠ x.ownBlock) : Rw w B e (V ++ [x]) (Ap.push X V.length xs) := h.consU hx (fun v hv => un_of (hV v hv))
theorem Rw.cons (h : Rw w B e V X) {x : Value} {xs : List Int} (hx : w.ownsRow B e 1 x xs.length (bv xs)) (hV : ∀ v ∈ V,v.ownBlock = none ∨ v.ownBlock ≠ x.ownBlock) : Rw w B e (V ++ [x]) (Ap.push X V.length xs) := h.cons' (Ow.of hx) hV
theorem lit_stK (K : Nat → Obj → Prop) (h : Rw W B e V X) (hB : B ≤ W.heap.size) (hm : V.length ≤ maxLen) (hne : e ≠ e2) (hk : ∀ (b : Nat) (o : Obj),K b o → W.heap[b]? = some o) (hf : ∀ (b : Nat) (o : Obj),K b o → ∀ (i : Nat) (v : Value),V[i]? = some v → v.ownBlock ≠ some b) : St K (W.alloc (.cells V.toArray e2)) B e W.heap.size 0 V X := by
  have hb : Below W.heap.size W (W.alloc (.cells V.toArray e2)) := below_alloc (Below.refl _ _) _
  have h' := h.below hb
  refine ⟨h'.own,h'.apart,fun i v hv => ?_,fun i v hv e1 => ?_,fun b o hb => (heap_alloc_old W _ (Array.getElem?_eq_some_iff.1 (hk b o hb)).1).trans (hk b o hb),hf⟩
  · rw [Nat.zero_add,cell_of_row _ W.heap.size i V.toArray e2 (0,0) (heap_alloc_new W _)]
    simpa using hv
  · have h1 := ((h.own i v hv).lt W.heap.size e1).2
    omega
end
theorem push_le {X : Nat → List Int} {xs : List Int} {n c : Nat} (hX : ∀ r,(X r).length ≤ c) (hx : xs.length ≤ c) : ∀ r,(Ap.push X n xs r).length ≤ c := fun r => by
  unfold Ap.push
  split
  · exact hx
  · exact hX r
theorem apart_of {v u : Value} {ok : Nat → Prop} (h : ∀ k,v.ownBlock = some k → ok k) (hk : ∀ k,ok k → some k ≠ u.ownBlock) : v.ownBlock = none ∨ v.ownBlock ≠ u.ownBlock := by
  cases e : v.ownBlock with
  | none => exact .inl rfl
  | some k => exact .inr (hk k (h k e))
theorem apart_symm {v u : Value} (h : v.ownBlock = none ∨ v.ownBlock ≠ u.ownBlock) : u.ownBlock = none ∨ u.ownBlock ≠ v.ownBlock := by
  rcases h with h | h
  · cases e : u.ownBlock with
    | none => exact .inl rfl
    | some k => exact .inr (by rw [h]; simp)
  · exact .inr (fun e => h e.symm)
end Go.Proofs.YtdhnjnkjhfomiaaW.Ap
namespace Go.Proofs.YtdhnjnkjhfomiaaW.PrintWords.Kd
open Go.RowKit Go.Proofs.YtdhnjnkjhfomiaaW.PrintWords Go.Proofs.YtdhnjnkjhfomiaaW.PrintLast Go.Proofs.YtdhnjnkjhfomiaaW.PrintMore
section
variable {d : Kd Int} {e : Nat} {w : World} {base base' : Nat} {ok : Nat → Prop} {v : Value} {xs : List Int}
end
end Go.Proofs.YtdhnjnkjhfomiaaW.PrintWords.Kd
