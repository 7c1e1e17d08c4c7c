/- For every code and all data: what Encode, Decode, Syndromes and Generator answer is the caller's own. The plain law of ReedsolOwn; no condition. -/
import Derived.Test.YtdhnjnkjhfomiaaRwPx96
import Derived.Test.YtdhnjnkjhfomiaaRwQRsK
import Derived.Test.YtdhnjnkjhfomiaaRwQRsE
import Derived.Test.YtdhnjnkjhfomiaaRwQRsY
set_option linter.unusedVariables false
set_option linter.unusedSimpArgs false
namespace Go.Proofs.Ytdhnjnkjhfomiaa.Pure
open Go.RowKit Go.Proofs.Ytdhnjnkjhfomiaa.P Go.Proofs.YtdhnjnkjhfomiaaW.PrintWords Go.Proofs.YtdhnjnkjhfomiaaW.PrintLast Go.Proofs.YtdhnjnkjhfomiaaW.Q Go.Proofs.Ytdhnjnkjhfomiaa.GalP Go.Proofs.Ytdhnjnkjhfomiaa.Gal
theorem ReedsolOwn : l4_ReedsolOwn.Pure := by
  intro M P A B l1 hM hP hA hB ml sl hl
  obtain ⟨V,rfl,hV⟩ := bytes_of hl
  rw [ints_length] at ml sl
  have lv : V.length ≤ 9223372036854775806 := by omega
  refine Ev.rounds (g := fun k => l4_ReedsolOwn.f k M P A B (ints V)) ?_
  unfold l4_ReedsolOwn.f
  obtain ⟨c,g1,g2,hc⟩ := checks_f M P A B (wf_i64 hM) (wf_u64 hP)
  rcases hc with hc | ⟨rfl,m,p,f,n,rfl,rfl,rfl,rfl,C⟩
  · refine Ev.bind g2 (ev_neg hc ?_)
    refine Ev.succ ?_
    simp only [l4_ReedsolOwn.j0]
    exact ev_pos trivial (Ev.bind knows_f (Ev.now _))
  · have s8 := C.F.sz8
    have s256 := C.F.sz256
    have n1 := C.n1
    have n2 := C.n2
    have hD := elN_lt (m := m) (n := n) C.F.zero_lt V
    have lD := elN_length m n V
    have k0 := el_f C V hV lv
    generalize elN m n V = D at hD lD k0
    have k1 := Enc_t C D (fun y hy => Nat.lt_of_lt_of_le (hD y hy) s256) (by omega)
    unfold EncR at k1
    rw [dE_ok (n := n) (by omega) hD,if_pos rfl] at k1
    have hW := encN_lt C.F f n hD
    have lW := encN_length p m f n D
    have sW := syn_enc C.F f n hD
    have tW : (encN p m f n D).take D.length = D := by unfold encN; exact List.take_left' rfl
    generalize encN p m f n D = W at k1 hW lW sW tW
    have hW2 : ∀ y ∈ W,y < 256 := fun y hy => Nat.lt_of_lt_of_le (hW y hy) s256
    have k2 := Dec_t C W hW2 (by omega) [] (by show 0 ≤ 4611686018427387904; omega)
    rw [dec_right C (by omega) (by omega) hW sW,show W.length - n = D.length by omega,tW] at k2
    have k3 := Syn_t C W hW2 (by omega)
    unfold SynR at k3
    rw [wE_ok (n := n) (by omega) (by omega) hW,if_pos rfl] at k3
    have lS := syn_length p m f n W
    generalize syn p m f n W = S at k3 lS
    have k4 := Gen_t C
    have lG := genN_length p m f n
    generalize genN p m f n = G at k4 lG
    have ap : l1_ApartBytes.f [ints W,ints W,ints D,ints D,ints S,ints G,ints G] = some true := by
      unfold l1_ApartBytes.f
      rw [if_pos]
      intro x hx
      simp only [List.mem_cons,List.not_mem_nil,or_false] at hx
      rcases hx with rfl | rfl | rfl | rfl | rfl | rfl | rfl <;> rw [ints_length] <;> omega
    refine Ev.bind g2 (ev_pos rfl (Ev.bind knows_f ?_))
    refine Ev.succ ?_
    simp only [l4_ReedsolOwn.j0]
    refine ev_neg Bool.false_ne_true (Ev.bind k0 (Ev.bind k1 (Ev.bind k1 (Ev.bind k2 (Ev.bind k2 (Ev.bind k3 (Ev.bind k4 (Ev.bind k4 ?_))))))))
    refine Ev.bind (ev_const (num_id 0)) (Ev.bind (ev_const (num_id 0)) (Ev.bind (ev_const (num_id 0)) (Ev.bind (ev_const (num_id 0)) (Ev.bind (ev_const (num_id 0)) (Ev.bind (ev_const (num_id 0)) (Ev.bind (ev_const (num_id 0)) ?_))))))
    refine ev_pos (by decide +kernel) (ev_pos rfl ?_)
    have e : ((strOfNums (ints G)).toList != (strOfNums (ints G)).toList) = false := bne_self_eq_false _
    rw [e]
    refine Ev.succ ?_
    simp only [l4_ReedsolOwn.j1]
    refine ev_neg Bool.false_ne_true (Ev.bind (ev_const ap) (ev_pos rfl (Ev.bind k4 (Ev.bind (ev_const (num_id 0)) (ev_pos rfl ?_)))))
    exact ev_const (by rw [beq_self_eq_true])
end Go.Proofs.Ytdhnjnkjhfomiaa.Pure
