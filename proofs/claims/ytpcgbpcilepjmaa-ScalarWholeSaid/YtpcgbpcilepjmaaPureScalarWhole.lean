/- A range of one scalar is one sequence, that has just its bytes; that of all scalars has all: for all numbers. -/
import Derived.Test.YtpcgbpcilepjmaaS4
import Derived.Test.YtpcgbpcilepjmaaPx7
namespace Go.Proofs.Ytpcgbpcilepjmaa.Pure
open Go.RowKit Go.Proofs.Ytpcgbpcilepjmaa.P Go.Proofs.YtpcgbpcilepjmaaW.PrintWords Go.Proofs.YtpcgbpcilepjmaaW.PrintLast Go.Proofs.YtpcgbpcilepjmaaW.PrintMore Go.Proofs.Ytpcgbpcilepjmaa.H Go.Proofs.Ytpcgbpcilepjmaa.S

theorem ScalarWhole : regletlaw02_ScalarWhole.Pure := by
  intro c wc
  apply Ev.rounds
  unfold regletlaw02_ScalarWhole.f
  obtain ⟨s, h⟩ := seqs c c
  obtain ⟨t, k⟩ := seqs 0 1114111
  refine Ev.bind h.ev (Ev.bind k.ev (Ev.bind0 (refBytes_eq c) ?_))
  have hle := bs_le c
  by_cases hS : isS c
  · have hb := isS_bd hS
    have hne : (bs c).length ≠ 0 := fun e => bs_empty.1 e hS
    have h1 := h.one rfl
    rw [if_pos hS] at h1
    have hc := h.c (bs c)
    rw [code_bs hS, if_pos ⟨hS, by omega, by omega⟩] at hc
    have hl := cnt_le (bs c) s
    obtain ⟨r, rfl⟩ : ∃ r, s = [r] := by
      rcases s with _ | ⟨r, _ | ⟨q, s⟩⟩
      · simp at hl; omega
      · exact ⟨r, rfl⟩
      · simp at h1
    rw [cnt_one] at hc
    have hin : inB (bs c) r = true := by
      by_cases q : inB (bs c) r = true
      · exact q
      · rw [if_neg q] at hc; omega
    have hk := k.c (bs c)
    rw [code_bs hS, if_pos ⟨hS, by omega, by omega⟩] at hk
    refine Ev.neg (by omega) (Ev.bind awake_ev (Ev.pos rfl (Ev.bind (shaped_ev t k.len k.ok) (Ev.pos rfl (Ev.bind (Count_ev _ t (by omega) (by have := k.len; omega)) ?_)))))
    refine Ev.pos (by rw [hk]; rfl) (Ev.pos (by simp) (Ev.pos (by simp) (Ev.pos ?_ ?_)))
    · show ((r.length : Nat) : Int) = _
      rw [inB_len hin]
    · show Ev (fun k => (regletref02_In.f k (bs c) r).bind fun t308 => some t308) true
      exact Ev.bind (In_ev _ r (by omega)) (Ev.some hin)
  · have h1 := h.one rfl
    rw [if_neg hS] at h1
    refine Ev.pos (by have := bs_empty.2 hS; omega) (Ev.bind awake_ev (Ev.pos rfl (Ev.some ?_)))
    have : s.length = 0 := by omega
    rw [this]; rfl

end Go.Proofs.Ytpcgbpcilepjmaa.Pure
