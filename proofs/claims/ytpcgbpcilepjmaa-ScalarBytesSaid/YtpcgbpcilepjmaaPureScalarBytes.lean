/- The bytes that the program gives for any number of Go's int are the reference's, for every number. -/
import Derived.Test.YtpcgbpcilepjmaaS4
namespace Go.Proofs.Ytpcgbpcilepjmaa.Pure
open Go.RowKit Go.Proofs.Ytpcgbpcilepjmaa.P Go.Proofs.YtpcgbpcilepjmaaW.PrintWords Go.Proofs.YtpcgbpcilepjmaaW.PrintLast Go.Proofs.YtpcgbpcilepjmaaW.PrintMore Go.Proofs.Ytpcgbpcilepjmaa.H Go.Proofs.Ytpcgbpcilepjmaa.S

theorem ScalarBytes : regletlaw02_ScalarBytes.Pure := by
  intro c _
  apply Ev.rounds
  unfold regletlaw02_ScalarBytes.f
  refine Ev.bind awake_ev (Ev.pos rfl (Ev.bind (bytes_ev c) (Ev.bind0 (refBytes_eq c) (Ev.bind (same_ev _ _ (by have := bs_le c; omega)) (Ev.some ?_)))))
  simp

end Go.Proofs.Ytpcgbpcilepjmaa.Pure
