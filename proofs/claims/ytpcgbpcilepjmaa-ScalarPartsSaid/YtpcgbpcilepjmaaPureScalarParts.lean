/- A range that is parted in two has the bytes of both parts: for all numbers, and lists of one to three bytes. -/
import Derived.Test.YtpcgbpcilepjmaaS4
import Derived.Test.YtpcgbpcilepjmaaPx7
namespace Go.Proofs.Ytpcgbpcilepjmaa.Pure
open Go.RowKit Go.Proofs.Ytpcgbpcilepjmaa.P Go.Proofs.YtpcgbpcilepjmaaW.PrintWords Go.Proofs.YtpcgbpcilepjmaaW.PrintLast Go.Proofs.YtpcgbpcilepjmaaW.PrintMore Go.Proofs.Ytpcgbpcilepjmaa.H Go.Proofs.Ytpcgbpcilepjmaa.S

theorem scalarParts_true (lo mid hi a b c n : Int) : Ev (fun k => regletlaw02_ScalarParts.j0 k lo mid hi a b c n true true) true := by
  refine Ev.step (fun k => by rw [regletlaw02_ScalarParts.j0]) ?_
  exact Ev.pos rfl (Ev.now _)

theorem scalarParts_false (lo mid hi a b c n : Int) (wa : 0 ≤ a ∧ a ≤ 255) (wb : 0 ≤ b ∧ b ≤ 255) (wc : 0 ≤ c ∧ c ≤ 255) (wn : 0 ≤ n ∧ n ≤ 255) (hm : -9223372036854775808 ≤ mid) (h1 : lo ≤ mid) (h2 : mid < hi) (h3 : mid ≤ 2000000) :
    Ev (fun k => regletlaw02_ScalarParts.j0 k lo mid hi a b c n true false) true := by
  refine Ev.step (fun k => by rw [regletlaw02_ScalarParts.j0]) ?_
  refine Ev.neg (by simp) ?_
  rw [wrap64_id (x := a) (by omega) (by omega), wrap64_id (x := b) (by omega) (by omega), wrap64_id (x := c) (by omega) (by omega), wrap64_id (x := n) (by omega) (by omega), tmod_pos (a := n) (by omega), wrap64_id (x := 1 + n % 3) (by omega) (by omega), wrap64_id (x := mid + 1) (by omega) (by omega)]
  refine Ev.bind (Ev.now _) (Ev.pos (by omega) (Ev.pos (by simp; omega) (Ev.bind (Ev.now _) (Ev.pos rfl ?_))))
  obtain ⟨s, h⟩ := seqs lo hi
  obtain ⟨t, k⟩ := seqs lo mid
  obtain ⟨u, m⟩ := seqs (mid + 1) hi
  have hl : (List.take (1 + n % 3).toNat [a, b, c]).length ≤ 3 := by simp; omega
  refine Ev.bind h.ev (Ev.bind (Count_ev _ s (by omega) (by have := h.len; omega)) (Ev.bind k.ev (Ev.bind (Count_ev _ t (by omega) (by have := k.len; omega)) (Ev.bind m.ev (Ev.bind (Count_ev _ u (by omega) (by have := m.len; omega)) (Ev.some ?_))))))
  rw [h.c, k.c, m.c]
  generalize code (List.take (1 + n % 3).toNat [a, b, c]) = x
  by_cases hS : isS x
  · simp only [hS, true_and]
    by_cases p : x ≤ mid
    · by_cases q : lo ≤ x
      · rw [if_pos (by omega), if_pos (by omega), if_neg (by omega)]; decide +kernel
      · rw [if_neg (by omega), if_neg (by omega), if_neg (by omega)]; decide +kernel
    · by_cases q : x ≤ hi
      · rw [if_pos (by omega), if_neg (by omega), if_pos (by omega)]; decide +kernel
      · rw [if_neg (by omega), if_neg (by omega), if_neg (by omega)]; decide +kernel
  · simp only [hS, false_and, if_false]; decide +kernel

theorem ScalarParts : regletlaw02_ScalarParts.Pure := by
  intro lo mid hi a b c n wlo wmid whi wa wb wc wn
  have wmid := wf_i64 wmid
  have wa := wf_u8 wa
  have wb := wf_u8 wb
  have wc := wf_u8 wc
  have wn := wf_u8 wn
  apply Ev.rounds
  unfold regletlaw02_ScalarParts.f
  refine Ev.bind awake_ev (Ev.pos rfl ?_)
  by_cases h1 : lo > mid
  · exact Ev.pos h1 (scalarParts_true ..)
  · refine Ev.neg h1 ?_
    by_cases h2 : mid ≥ hi
    · exact Ev.pos h2 (scalarParts_true ..)
    · refine Ev.neg h2 ?_
      by_cases h3 : mid > 2000000
      · simp only [h3, decide_true]; exact scalarParts_true ..
      · simp only [h3, decide_false]; exact scalarParts_false lo mid hi a b c n wa wb wc wn (by omega) (by omega) (by omega) (by omega)

end Go.Proofs.Ytpcgbpcilepjmaa.Pure
