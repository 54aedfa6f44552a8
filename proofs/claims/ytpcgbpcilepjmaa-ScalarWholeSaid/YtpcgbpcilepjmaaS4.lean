/- The pure part of the scalar layer: what Sequences answers. -/
import Derived.Test.YtpcgbpcilepjmaaS3
namespace Go.Proofs.Ytpcgbpcilepjmaa.S
open Go.RowKit Go.Proofs.Ytpcgbpcilepjmaa.P Go.Proofs.YtpcgbpcilepjmaaW.PrintWords Go.Proofs.YtpcgbpcilepjmaaW.PrintLast Go.Proofs.YtpcgbpcilepjmaaW.PrintMore Go.Proofs.Ytpcgbpcilepjmaa.H

def lims : List S40 := [⟨0, 127⟩, ⟨128, 2047⟩, ⟨2048, 55295⟩, ⟨57344, 65535⟩, ⟨65536, 1114111⟩]
theorem mx_le {a b c : Int} : mx a b ≤ c ↔ a ≤ c ∧ b ≤ c := by unfold mx; split <;> omega
theorem le_mn {a b c : Int} : c ≤ mn a b ↔ c ≤ a ∧ c ≤ b := by unfold mn; split <;> omega
theorem mx_ge (a b : Int) : a ≤ mx a b ∧ b ≤ mx a b := by unfold mx; split <;> omega
theorem mn_le (a b : Int) : mn a b ≤ a ∧ mn a b ≤ b := by unfold mn; split <;> omega

/-- One round of Sequences: the class of n bytes from L to H. -/
theorem seq_round (lo hi L H : Int) (n i : Nat) (hn : 1 ≤ n ∧ n ≤ 4) (hi5 : i < 5) (hr : rd_T40 lims (i : Int) = ⟨L, H⟩) (hc : cls n L H) (hq : n = (n - 1) + 1) :
    ∃ s : List (List S40), Sp (mx lo L) (mn hi H) s ∧ s.length ≤ 2 * n - 1 ∧ (lo = hi → s.length ≤ if L ≤ lo ∧ lo ≤ H then 1 else 0) ∧
      ∀ (acc r : List (List S40)), acc.length ≤ 100 → Ev (fun k => scalar_Sequences.l0 k lo hi (acc ++ s) lims 5 ((i + 1 : Nat) : Int)) r → Ev (fun k => scalar_Sequences.l0 k lo hi acc lims 5 (i : Int)) r := by
  have hl : lims.length = 5 := rfl
  by_cases e : mx lo L > mn hi H
  · refine ⟨[], Sp.nil (by omega), by simp, by simp, fun acc r ha k => ?_⟩
    refine Ev.step (fun k => by rw [scalar_Sequences.l0]) ?_
    rw [hr, wrap64_id (x := (i : Int) + 1) (by omega) (by omega)]
    refine Ev.pos (by omega) (Ev.pos (by omega) (Ev.pos (by omega) (Ev.pos e ?_)))
    rw [List.append_nil] at k
    exact k
  · have g := mx_ge lo L
    have g' := mn_le hi H
    have hc' : cls n (mx lo L) (mn hi H) := cls_sub hc g.2 g'.2
    obtain ⟨s, p⟩ := part_all (n - 1) (mx lo L) (mn hi H) ⟨by omega, hn.2⟩ hc' (by omega) (.inl hq)
    have hlen := p.any
    refine ⟨s, p.sp, by omega, fun h => ?_, fun acc r ha k => ?_⟩
    · have : mx lo L = mn hi H := by
        subst h
        revert e; unfold mx mn; split <;> split <;> omega
      have h1 := p.one this
      rw [if_pos]
      · exact h1
      · have := g.1; have := g'.1; omega
    · refine Ev.step (fun k => by rw [scalar_Sequences.l0]) ?_
      rw [hr, wrap64_id (x := (i : Int) + 1) (by omega) (by omega)]
      have hb := bs_len hc' (Int.le_refl _) (show mx lo L ≤ mn hi H by omega)
      refine Ev.pos (by omega) (Ev.pos (by omega) (Ev.pos (by omega) (Ev.neg e ?_)))
      refine Ev.bind (bytes_ev _) ?_
      have hs : wrap64 (6 * wrap64 (((bs (mx lo L)).length : Int) - 1)) = ((6 * (n - 1) : Nat) : Int) := by
        rw [hb, wrap64_id (x := (n : Int) - 1) (by omega) (by omega), wrap64_id (by omega) (by omega)]; omega
      rw [hs]
      exact Ev.bind p.ev (Ev.pos (by omega) k)

structure Sq (lo hi : Int) (s : List (List S40)) : Prop where
  ev : Ev (fun k => scalar_Sequences.f k lo hi) s
  ok : ∀ r ∈ s, okSeq r
  c : ∀ l, cnt l s = if isS (code l) ∧ lo ≤ code l ∧ code l ≤ hi then 1 else 0
  len : s.length ≤ 25
  one : lo = hi → s.length ≤ if isS lo then 1 else 0

theorem code_S (l : List Int) : isS (code l) ∨ code l = -1 := by
  unfold code
  split
  · rename_i h; exact .inl h.1
  · exact .inr rfl

theorem seqs (lo hi : Int) : ∃ s, Sq lo hi s := by
  obtain ⟨s0, p0, l0, o0, k0⟩ := seq_round lo hi 0 127 1 0 (by omega) (by omega) rfl (by simp [cls]) rfl
  obtain ⟨s1, p1, l1, o1, k1⟩ := seq_round lo hi 128 2047 2 1 (by omega) (by omega) rfl (by simp [cls]) rfl
  obtain ⟨s2, p2, l2, o2, k2⟩ := seq_round lo hi 2048 55295 3 2 (by omega) (by omega) rfl (by simp [cls]) rfl
  obtain ⟨s3, p3, l3, o3, k3⟩ := seq_round lo hi 57344 65535 3 3 (by omega) (by omega) rfl (by simp [cls]) rfl
  obtain ⟨s4, p4, l4, o4, k4⟩ := seq_round lo hi 65536 1114111 4 4 (by omega) (by omega) rfl (by simp [cls]) rfl
  refine ⟨[] ++ s0 ++ s1 ++ s2 ++ s3 ++ s4, ?_, ?_, ?_, ?_, ?_⟩
  · unfold scalar_Sequences.f
    refine Ev.bind0 (a := lims) rfl ?_
    refine k0 [] _ (by simp) (k1 _ _ (by simp; omega) (k2 _ _ (by simp; omega) (k3 _ _ (by simp; omega) (k4 _ _ (by simp; omega) ?_))))
    refine Ev.step (fun k => by rw [scalar_Sequences.l0]) ?_
    exact Ev.neg (by omega) (Ev.now _)
  · intro r hr
    simp only [List.nil_append, List.mem_append] at hr
    rcases hr with ((((h | h) | h) | h) | h)
    · exact p0.ok r h
    · exact p1.ok r h
    · exact p2.ok r h
    · exact p3.ok r h
    · exact p4.ok r h
  · intro l
    simp only [List.nil_append, cnt_append, p0.c, p1.c, p2.c, p3.c, p4.c, mx_le, le_mn]
    have hz := code_S l
    unfold isS at hz ⊢
    by_cases a : lo ≤ code l
    · by_cases b : code l ≤ hi
      · simp only [a, b, true_and, and_true]
        rcases (show code l < 0 ∨ (0 ≤ code l ∧ code l ≤ 127) ∨ (128 ≤ code l ∧ code l ≤ 2047) ∨ (2048 ≤ code l ∧ code l ≤ 55295) ∨ (57344 ≤ code l ∧ code l ≤ 65535) ∨ (65536 ≤ code l ∧ code l ≤ 1114111) by omega) with h | h | h | h | h | h
        · rw [if_neg (by omega), if_neg (by omega), if_neg (by omega), if_neg (by omega), if_neg (by omega), if_neg (by omega)]
        · rw [if_pos (by omega), if_neg (by omega), if_neg (by omega), if_neg (by omega), if_neg (by omega), if_pos (by omega)]
        · rw [if_neg (by omega), if_pos (by omega), if_neg (by omega), if_neg (by omega), if_neg (by omega), if_pos (by omega)]
        · rw [if_neg (by omega), if_neg (by omega), if_pos (by omega), if_neg (by omega), if_neg (by omega), if_pos (by omega)]
        · rw [if_neg (by omega), if_neg (by omega), if_neg (by omega), if_pos (by omega), if_neg (by omega), if_pos (by omega)]
        · rw [if_neg (by omega), if_neg (by omega), if_neg (by omega), if_neg (by omega), if_pos (by omega), if_pos (by omega)]
      · simp [b]
    · simp [a]
  · simp only [List.nil_append, List.length_append]; omega
  · intro h
    have o0 := o0 h
    have o1 := o1 h
    have o2 := o2 h
    have o3 := o3 h
    have o4 := o4 h
    simp only [List.nil_append, List.length_append]
    have iff : isS lo ↔ ((0 ≤ lo ∧ lo < 55296) ∨ (57343 < lo ∧ lo ≤ 1114111)) := Iff.rfl
    rcases (show (lo < 0 ∨ (55296 ≤ lo ∧ lo ≤ 57343) ∨ 1114111 < lo) ∨ (0 ≤ lo ∧ lo ≤ 127) ∨ (128 ≤ lo ∧ lo ≤ 2047) ∨ (2048 ≤ lo ∧ lo ≤ 55295) ∨ (57344 ≤ lo ∧ lo ≤ 65535) ∨ (65536 ≤ lo ∧ lo ≤ 1114111) by omega) with h | h | h | h | h | h
    · rw [if_neg (by omega)] at o0 o1 o2 o3 o4; rw [if_neg (fun q => by have := iff.1 q; omega)]; omega
    · rw [if_pos (by omega)] at o0; rw [if_neg (by omega)] at o1 o2 o3 o4; rw [if_pos (iff.2 (by omega))]; omega
    · rw [if_pos (by omega)] at o1; rw [if_neg (by omega)] at o0 o2 o3 o4; rw [if_pos (iff.2 (by omega))]; omega
    · rw [if_pos (by omega)] at o2; rw [if_neg (by omega)] at o0 o1 o3 o4; rw [if_pos (iff.2 (by omega))]; omega
    · rw [if_pos (by omega)] at o3; rw [if_neg (by omega)] at o0 o1 o2 o4; rw [if_pos (iff.2 (by omega))]; omega
    · rw [if_pos (by omega)] at o4; rw [if_neg (by omega)] at o0 o1 o2 o3; rw [if_pos (iff.2 (by omega))]; omega

theorem awake_ev : Ev (fun k => regletlaw02_awake.f k) true := Ev.of regletlaw02_awake.mono (k := 30) (by decide +kernel)

theorem bs_le (c : Int) : (bs c).length ≤ 4 := by
  unfold bs; split <;> (try split) <;> (try split) <;> (try split) <;> simp
theorem bs_empty {c : Int} : (bs c).length = 0 ↔ ¬ isS c := by
  constructor
  · intro h hS; exact bs_ne hS (List.length_eq_zero_iff.1 h)
  · intro h; unfold bs; rw [if_neg h]; rfl

end Go.Proofs.Ytpcgbpcilepjmaa.S
