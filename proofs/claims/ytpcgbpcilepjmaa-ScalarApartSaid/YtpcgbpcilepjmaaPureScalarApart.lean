/- Unlike scalars have unlike bytes, none of which is the beginning of others: for all numbers. -/
import Derived.Test.YtpcgbpcilepjmaaS4
import Derived.Test.YtpcgbpcilepjmaaPx7
namespace Go.Proofs.Ytpcgbpcilepjmaa.Pure
open Go.RowKit Go.Proofs.Ytpcgbpcilepjmaa.P Go.Proofs.YtpcgbpcilepjmaaW.PrintWords Go.Proofs.YtpcgbpcilepjmaaW.PrintLast Go.Proofs.YtpcgbpcilepjmaaW.PrintMore Go.Proofs.Ytpcgbpcilepjmaa.H Go.Proofs.Ytpcgbpcilepjmaa.S

theorem bs_head {x : Int} (hS : isS x) : ∃ p l, bs x = p :: l ∧ ((bs x).length = 1 ↔ p < 192) ∧ ((bs x).length = 2 ↔ (192 ≤ p ∧ p < 224)) ∧ ((bs x).length = 3 ↔ (224 ≤ p ∧ p < 240)) ∧ ((bs x).length = 4 ↔ 240 ≤ p) := by
  obtain ⟨h0, h1⟩ := isS_bd hS
  by_cases a : x < 128
  · rw [bs_1 hS a]
    exact ⟨_, _, rfl, by simp; omega, by simp; omega, by simp; omega, by simp; omega⟩
  · by_cases b : x < 2048
    · rw [bs_2 hS (by omega) b]
      exact ⟨_, _, rfl, by simp; omega, by simp; omega, by simp; omega, by simp; omega⟩
    · by_cases d : x < 65536
      · rw [bs_3 hS (by omega) d]
        exact ⟨_, _, rfl, by simp; omega, by simp; omega, by simp; omega, by simp; omega⟩
      · rw [bs_4 hS (by omega)]
        exact ⟨_, _, rfl, by simp; omega, by simp; omega, by simp; omega, by simp; omega⟩

theorem bs_prefix {a b : Int} (hS : isS a) (hT : isS b) (h : bs a = (bs b).take (bs a).length) : a = b := by
  obtain ⟨p, l, e1, f1, f2, f3, f4⟩ := bs_head hS
  obtain ⟨q, m, e2, g1, g2, g3, g4⟩ := bs_head hT
  have hl := bs_le a
  have hl' := bs_le b
  have hp : p = q := by
    have h' := h
    rw [e1, e2] at h'
    simp at h'
    exact h'.1
  have hlen : (bs a).length = (bs b).length := by
    subst hp
    have z1 : (bs a).length ≠ 0 := by rw [e1]; simp
    have z2 : (bs b).length ≠ 0 := by rw [e2]; simp
    omega
  rw [hlen, List.take_length] at h
  rw [← dec_bs hS, h, dec_bs hT]

theorem ScalarApart : regletlaw02_ScalarApart.Pure := by
  intro a b wa wb
  have wa := wf_i64 wa
  apply Ev.rounds
  unfold regletlaw02_ScalarApart.f
  refine Ev.bind awake_ev (Ev.pos rfl (Ev.bind (bytes_ev a) (Ev.bind (bytes_ev b) ?_)))
  by_cases hS : isS a
  · have hne : (bs a).length ≠ 0 := fun e => bs_empty.1 e hS
    refine Ev.neg (by omega) ?_
    by_cases hl : (bs b).length < (bs a).length
    · exact Ev.pos (by omega) (Ev.pos (by omega) (Ev.now _))
    · refine Ev.neg (by omega) (Ev.pos (by omega) (Ev.pos (by omega) (Ev.bind (same_ev _ _ (by have := bs_le a; omega)) (Ev.some ?_))))
      have hT : isS b := by
        by_cases q : isS b
        · exact q
        · have := bs_empty.2 q; omega
      by_cases e : a = b
      · subst e
        simp
      · have : ¬ bs a = (bs b).take (bs a).length := fun q => e (bs_prefix hS hT q)
        simp [this, e]
  · refine Ev.pos (by have := bs_empty.2 hS; omega) (Ev.neg (by have := bs_empty.2 hS; omega) ?_)
    unfold isS at hS
    by_cases h1 : a < 0
    · exact Ev.pos h1 (Ev.now _)
    · refine Ev.neg h1 ?_
      by_cases h2 : a > 1114111
      · exact Ev.pos h2 (Ev.now _)
      · refine Ev.neg h2 (Ev.pos (by omega) (Ev.some ?_))
        simp; omega

end Go.Proofs.Ytpcgbpcilepjmaa.Pure
