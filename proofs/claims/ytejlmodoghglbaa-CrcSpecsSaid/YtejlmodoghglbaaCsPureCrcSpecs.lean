/- For every spec and name: Check and Named say what the document says. The plain law of CrcSpecs. -/
import Derived.Test.YtejlmodoghglbaaCsPx4
import Derived.Test.YtejlmodoghglbaaCsQCrcP
namespace Go.Proofs.Ytejlmodoghglbaa.Pure
open Go.RowKit Go.Proofs.Ytejlmodoghglbaa.P Go.Proofs.YtejlmodoghglbaaW.PrintWords Go.Proofs.YtejlmodoghglbaaW.PrintLast Go.Proofs.YtejlmodoghglbaaW.PrintMore
theorem CrcSpecs : outpostlaw03_CrcSpecs.Pure := by
  intro a0 a1 a2 a3 R s g0 g1 g2 g3 hs
  refine ⟨1, ?_⟩
  have hn : outpostref03_Named.f s = crc_Named.f s := rfl
  have ht : ∃ t, crc_Named.f s = some t := by
    unfold crc_Named.f
    repeat' split
    all_goals exact ⟨_, rfl⟩
  obtain ⟨t, ht⟩ := ht
  unfold outpostlaw03_CrcSpecs.f
  rw [hn, ht, crc_Check_f, Crc.refCheck_f a0 a1 a2 a3 R (Crc.wf_u32 g1) (Crc.wf_u32 g2) (Crc.wf_u32 g3)]
  simp [outpostlaw03_num.f, Crc.knows_f]
end Go.Proofs.Ytejlmodoghglbaa.Pure
