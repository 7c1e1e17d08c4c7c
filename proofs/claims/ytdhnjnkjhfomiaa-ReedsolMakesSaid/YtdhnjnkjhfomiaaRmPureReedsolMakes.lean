/- For every code and all data: Check, Generator and Encode are the document's; what is handed in stays, and is not kept. The plain law of ReedsolMakes; no condition. -/
import Derived.Test.YtdhnjnkjhfomiaaRmPx92
import Derived.Test.YtdhnjnkjhfomiaaRmQRsK
import Derived.Test.YtdhnjnkjhfomiaaRmQRsG
set_option linter.unusedVariables false
set_option linter.unusedSimpArgs false
namespace Go.Proofs.Ytdhnjnkjhfomiaa.Pure
open Go.RowKit P YtdhnjnkjhfomiaaW.PrintWords YtdhnjnkjhfomiaaW.PrintLast YtdhnjnkjhfomiaaW.Q GalP Gal
theorem num_id (x : Int) : l4_num.f x = some x := rfl
theorem spoil_l (d : Nat) : ∀ (i : Nat) (T : List Int),i + d = T.length → T.length < 140737488355328 → ∃ T',Ev (fun k => l1_Spoil.l0 k T (i : Int)) T' := by
  induction d with
  | zero =>
    intro i T hi hl
    refine ⟨T,Ev.step (f := fun _ => some T) (fun k => ?_) (Ev.now _)⟩
    simp only [l1_Spoil.l0]
    rw [if_neg (by omega)]
  | succ d ih =>
    intro i T hi hl
    obtain ⟨T',g⟩ := ih (i + 1) (T.set ((i : Int)).toNat (Go.bits .xor .u8 (rd T (i : Int)) 85)) (by rw [List.length_set]; omega) (by rw [List.length_set]; omega)
    refine ⟨T',?_⟩
    have c1 : (i : Int) < (T.length : Int) := by omega
    have c2 : (0 : Int) ≤ (i : Int) := by omega
    have ei : wrap64 ((i : Int) + 1) = ((i + 1 : Nat) : Int) := w64s (by omega)
    refine Ev.succ ?_
    simp only [l1_Spoil.l0]
    refine ev_pos c1 (ev_pos c2 ?_)
    rw [ei]
    exact g
theorem spoil_f (T : List Int) (hl : T.length < 140737488355328) : ∃ T',Ev (fun k => l1_Spoil.f k T) T' := spoil_l T.length 0 T (by omega) hl
theorem ReedsolMakes : l4_RM.Pure := by
  intro M P A B l1 hM hP hA hB ml sl hl
  obtain ⟨W,rfl,hW⟩ := bytes_of hl
  rw [ints_length] at ml sl
  have lw : W.length ≤ 9223372036854775806 := by omega
  have nn : l1_Lent.f (ints W) = some (ints W) := by
    unfold l1_Lent.f
    rw [if_pos (by rw [ints_length]; omega)]
  have st : l1_Stays.f (ints W) (ints W) = some true := by
    unfold l1_Stays.f
    rw [if_pos rfl]
  obtain ⟨T',sp⟩ := spoil_f (ints W) (by rw [ints_length]; omega)
  refine Ev.rounds (g := fun k => l4_RM.f k M P A B (ints W)) ?_
  unfold l4_RM.f
  have key : ∃ (c e : Int) (G E : List Int),Ev (fun k => reedsol_Check.f k M P A B) c ∧ Ev (fun k => r4_Check.f k M P A B) c ∧ Ev (fun k => reedsol_Generator.f k M P A B) (G,c) ∧ Ev (fun k => r4_Generator.f k M P A B) (G,c) ∧ Ev (fun k => reedsol_Encode.f k M P A B (ints W)) (E,e) ∧ Ev (fun k => r4_Encode.f k M P A B (ints W)) (E,e) := by
    obtain ⟨c,g1,g2,hc⟩ := checks_f M P A B (wf_i64 hM) (wf_u64 hP)
    rcases hc with hc | ⟨rfl,m,p,f,n,rfl,rfl,rfl,rfl,C⟩
    · exact ⟨c,c,[],[],g1,g2,Gen_bad g1 hc,refGen_bad g2 hc,Enc_bad g1 hc _,refEnc_bad g2 hc _⟩
    · exact ⟨_,_,_,_,g1,g2,Gen_t C,refGen_t C g2,Enc_t C W hW lw,refEnc_t C g2 W hW lw⟩
  obtain ⟨c,e,G,E,k1,k2,k3,k4,k5,k6⟩ := key
  refine Ev.bind (ev_const nn) (Ev.bind k3 (Ev.bind k5 (Ev.bind k4 (Ev.bind k6 (Ev.bind k1 (Ev.bind (ev_const (num_id c)) (Ev.bind k2 ?_)))))))
  refine ev_pos rfl (ev_pos rfl (Ev.bind (ev_const (num_id c)) (ev_pos rfl (Ev.bind (ev_const (num_id e)) (ev_pos rfl (Ev.bind (ev_const st) (ev_pos rfl (Ev.bind knows_f (ev_pos rfl (Ev.bind sp ?_))))))))))
  have h : ((strOfNums E).toList == (strOfNums E).toList) = true := beq_self_eq_true _
  exact ev_const (by rw [h])
end Go.Proofs.Ytdhnjnkjhfomiaa.Pure
