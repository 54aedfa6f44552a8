/- The bytes of a scalar are in one sequence of a range, and in one alone, if it is in the range, else in none: for all numbers. -/
import Derived.Test.YtpcgbpcilepjmaaS4
import Derived.Test.YtpcgbpcilepjmaaPx6
namespace Go.Proofs.Ytpcgbpcilepjmaa.Pure
open Go.RowKit Go.Proofs.Ytpcgbpcilepjmaa.P Go.Proofs.YtpcgbpcilepjmaaW.PrintWords Go.Proofs.YtpcgbpcilepjmaaW.PrintLast Go.Proofs.YtpcgbpcilepjmaaW.PrintMore Go.Proofs.Ytpcgbpcilepjmaa.H Go.Proofs.Ytpcgbpcilepjmaa.S

theorem scalarIn_j0 (s : List (List S40)) (lo hi c x : Int) (h : Sq lo hi s) (b : Bool) (hb : b = true → (isS c → lo ≤ c ∧ c ≤ hi)) (hb' : b = false → x = 0 ∧ (isS c → ¬ (lo ≤ c ∧ c ≤ hi))) :
    Ev (fun k => regletlaw02_ScalarIn.j0 k s (bs c) x b) true := by
  have hle := bs_le c
  have hcnt : isS c → cnt (bs c) s = if lo ≤ c ∧ c ≤ hi then 1 else 0 := fun hS => by
    rw [h.c, code_bs hS]; simp [hS]
  refine Ev.step (fun k => by rw [regletlaw02_ScalarIn.j0]) ?_
  cases b with
  | true =>
    refine Ev.pos rfl (Ev.bind awake_ev (Ev.pos rfl ?_))
    by_cases hS : isS c
    · refine Ev.neg (fun e => bs_empty.1 (by omega) hS) (Ev.bind (Count_ev _ s (by omega) (by have := h.len; omega)) (Ev.some ?_))
      rw [hcnt hS, if_pos (hb rfl hS)]; rfl
    · exact Ev.pos (by have := bs_empty.2 hS; omega) (Ev.now _)
  | false =>
    refine Ev.neg (by simp) (Ev.bind awake_ev (Ev.pos rfl ?_))
    by_cases hS : isS c
    · refine Ev.neg (fun e => bs_empty.1 (by omega) hS) (Ev.bind (Count_ev _ s (by omega) (by have := h.len; omega)) (Ev.some ?_))
      rw [hcnt hS, if_neg ((hb' rfl).2 hS), (hb' rfl).1]; rfl
    · exact Ev.pos (by have := bs_empty.2 hS; omega) (Ev.now _)

theorem ScalarIn : regletlaw02_ScalarIn.Pure := by
  intro lo hi c _ _ _
  apply Ev.rounds
  unfold regletlaw02_ScalarIn.f
  obtain ⟨s, h⟩ := seqs lo hi
  refine Ev.bind h.ev (Ev.bind (shaped_ev s h.len h.ok) (Ev.pos rfl (Ev.bind0 (refBytes_eq c) (Ev.bind0 (refScalar_eq c) ?_))))
  by_cases hS : isS c
  · refine Ev.pos (by simpa using hS) ?_
    by_cases a : c ≥ lo
    · refine Ev.pos a (scalarIn_j0 s lo hi c 0 h _ (fun e _ => ?_) (fun e => ⟨rfl, fun _ => ?_⟩))
      · simp at e; omega
      · simp at e; omega
    · exact Ev.neg a (scalarIn_j0 s lo hi c 0 h _ (fun e => by simp at e) (fun _ => ⟨rfl, fun _ => by omega⟩))
  · exact Ev.neg (by simpa using hS) (scalarIn_j0 s lo hi c 0 h _ (fun e => by simp at e) (fun _ => ⟨rfl, fun k => absurd k hS⟩))

end Go.Proofs.Ytpcgbpcilepjmaa.Pure
