/- For every code and every word: Syndromes and Member are the document's; what is handed in stays. The plain law of ReedsolLooks; no condition. -/
import Derived.Test.YtdhnjnkjhfomiaaRlQRsK
import Derived.Test.YtdhnjnkjhfomiaaRlPx62
set_option linter.unusedVariables false
set_option linter.unusedSimpArgs false
namespace Go.Proofs.Ytdhnjnkjhfomiaa.Pure
open Go.RowKit Go.Proofs.Ytdhnjnkjhfomiaa.P Go.Proofs.YtdhnjnkjhfomiaaW.PrintWords Go.Proofs.YtdhnjnkjhfomiaaW.PrintLast Go.Proofs.YtdhnjnkjhfomiaaW.Q Go.Proofs.Ytdhnjnkjhfomiaa.GalP Go.Proofs.Ytdhnjnkjhfomiaa.Gal
theorem num_id (x : Int) : l4_num.f x = some x := rfl
theorem ReedsolLooks : l4_ReedsolLooks.Pure := by
  intro M P A B l1 hM hP hA hB ml sl hl
  obtain ⟨W, rfl, hW⟩ := bytes_of hl
  rw [ints_length] at ml sl
  have lw : W.length ≤ 9223372036854775806 := by omega
  have nn : l1_Lent.f (ints W) = some (ints W) := by
    unfold l1_Lent.f
    rw [if_pos (by rw [ints_length]; omega)]
  have st : l1_Stays.f (ints W) (ints W) = some true := by
    unfold l1_Stays.f
    rw [if_pos rfl]
  refine Ev.rounds (g := fun k => l4_ReedsolLooks.f k M P A B (ints W)) ?_
  unfold l4_ReedsolLooks.f
  rw [nn]
  simp only [Option.bind_some]
  have key : ∃ (S : List Int) (b : Bool) (e : Int), Ev (fun k => reedsol_Syndromes.f k M P A B (ints W)) (S, e) ∧ Ev (fun k => reedsol_Member.f k M P A B (ints W)) (b, e) ∧ Ev (fun k => r4_Syndromes.f k M P A B (ints W)) (S, e) ∧ Ev (fun k => r4_Member.f k M P A B (ints W)) (b, e) := by
    obtain ⟨c, g1, g2, hc⟩ := checks_f M P A B (wf_i64 hM) (wf_u64 hP)
    rcases hc with hc | ⟨rfl, m, p, f, n, rfl, rfl, rfl, rfl, C⟩
    · exact ⟨[], false, c, Syn_bad g1 hc _, Mem_bad g1 hc _, refSyn_bad g2 hc _, refMem_bad g2 hc _⟩
    · exact ⟨_, _, _, Syn_t C W hW lw, Mem_t C W hW lw, refSyn_t C W hW lw g2, refMem_t C W hW lw g2⟩
  obtain ⟨S, b, e, k1, k2, k3, k4⟩ := key
  refine Ev.bind k1 (Ev.bind k2 (Ev.bind k3 (Ev.bind k4 ?_)))
  exact ev_pos rfl (Ev.bind (ev_const (num_id e)) (ev_pos rfl (ev_pos (beq_self_eq_true _) (Ev.bind (ev_const (num_id e)) (ev_pos rfl (Ev.bind (ev_const st) (ev_pos rfl (Ev.bind knows_f (Ev.now _)))))))))
end Go.Proofs.Ytdhnjnkjhfomiaa.Pure
