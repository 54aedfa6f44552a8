/- Any bytes, at most four, are in one sequence of a range just if they are the bytes of a scalar of it. -/
import Derived.Test.YtpcgbpcilepjmaaS4
import Derived.Test.YtpcgbpcilepjmaaPx6
import Derived.Test.YtpcgbpcilepjmaaPx7
namespace Go.Proofs.Ytpcgbpcilepjmaa.Pure
open Go.RowKit Go.Proofs.Ytpcgbpcilepjmaa.P Go.Proofs.YtpcgbpcilepjmaaW.PrintWords Go.Proofs.YtpcgbpcilepjmaaW.PrintLast Go.Proofs.YtpcgbpcilepjmaaW.PrintMore Go.Proofs.Ytpcgbpcilepjmaa.H Go.Proofs.Ytpcgbpcilepjmaa.S

theorem Of_l1 (l : List Int) (c : Int) (hl : l.length ≤ 4) (he : (bs c).length = l.length) (d : Nat) : ∀ (i : Nat), i + d = l.length → (bs c).take i = l.take i →
    Ev (fun k => regletref02_Of.l1 k l c (bs c) (i : Int)) (if bs c = l then c else -1) := by
  induction d with
  | zero =>
    intro i hi hp
    refine Ev.step (fun k => by rw [regletref02_Of.l1]) ?_
    refine Ev.neg (by omega) (Ev.some ?_)
    rw [List.take_of_length_le (by omega), List.take_of_length_le (by omega)] at hp
    rw [if_pos hp]
  | succ d ih =>
    intro i hi hp
    have h1 : i < l.length := by omega
    have h2 : i < (bs c).length := by omega
    refine Ev.step (fun k => by rw [regletref02_Of.l1]) ?_
    rw [rd_get l i h1, rd_get (bs c) i h2, wrap64_id (x := (i : Int) + 1) (by omega) (by omega)]
    refine Ev.pos (by omega) (Ev.pos (by omega) (Ev.pos (by omega) ?_))
    by_cases e : (bs c)[i] = l[i]
    · refine Ev.pos e (ih (i + 1) (by omega) ?_)
      rw [List.take_succ_eq_append_getElem h1, List.take_succ_eq_append_getElem h2, hp, e]
    · refine Ev.neg e (Ev.some ?_)
      rw [if_neg]
      intro q
      apply e
      simp only [q]

theorem Of_end (l : List Int) (c : Int) (hl : l.length ≤ 4) (i : Int) (hi : ¬ i < (l.length : Int)) :
    Ev (fun k => regletref02_Of.l0 k l c i) (if bs c = l then c else -1) := by
  refine Ev.step (fun k => by rw [regletref02_Of.l0]) ?_
  refine Ev.neg hi (Ev.bind0 (refBytes_eq c) ?_)
  by_cases he : (bs c).length = l.length
  · exact Ev.pos (by omega) (Of_l1 l c hl he l.length 0 (by omega) (by simp))
  · refine Ev.neg (by omega) (Ev.some ?_)
    rw [if_neg (fun q => he (by rw [q]))]

theorem Of_step (l : List Int) (c r : Int) (i : Nat) (hi : i < l.length) (hl : l.length ≤ 4) (h0 : 0 ≤ c ∧ c ≤ 100000000) (hb : 0 ≤ l[i] ∧ l[i] ≤ 255)
    (k : Ev (fun k => regletref02_Of.l0 k l (c * 64 + l[i] % 64) ((i + 1 : Nat) : Int)) r) : Ev (fun k => regletref02_Of.l0 k l c (i : Int)) r := by
  have e : Go.bits .and .i64 l[i] 63 = l[i] % 64 := and_mask 6 (by decide) hb.1 (by omega)
  refine Ev.step (fun k => by rw [regletref02_Of.l0]) ?_
  rw [rd_get l i hi, e, wrap64_id (x := c * 64) (by omega) (by omega), wrap64_id (x := c * 64 + l[i] % 64) (by omega) (by omega), wrap64_id (x := (i : Int) + 1) (by omega) (by omega)]
  exact Ev.pos (by omega) (Ev.pos (by omega) k)

/-- Whatever candidate is told: if a scalar has these bytes, it is the candidate. -/
theorem code_cand {l : List Int} (hne : l ≠ []) (c : Int) (h : ∀ x, isS x → bs x = l → x = c) : (if bs c = l then c else -1) = code l := by
  by_cases e : bs c = l
  · rw [if_pos e]
    have hS : isS c := by
      by_cases q : isS c
      · exact q
      · exact absurd (by rw [← e]; exact List.length_eq_zero_iff.1 (bs_empty.2 q)) hne
    rw [← e, code_bs hS]
  · rw [if_neg e]
    rcases code_S l with q | q
    · have := code_spec (l := l) (by have := isS_bd q; omega)
      exact absurd (by rw [← h _ this.1 this.2]; exact this.2) e
    · exact q.symm

theorem bs_dec {x : Int} {l : List Int} (hS : isS x) (e : bs x = l) : x = dec l := by rw [← e, dec_bs hS]

theorem bs_lead {x : Int} (hS : isS x) : ((bs x).length = 2 → ∃ p q, bs x = [p, q] ∧ 192 ≤ p ∧ p < 224 ∧ 128 ≤ q ∧ q < 192) ∧ ((bs x).length = 3 → ∃ p q r, bs x = [p, q, r] ∧ 224 ≤ p ∧ p < 240 ∧ 128 ≤ q ∧ q < 192 ∧ 128 ≤ r ∧ r < 192) ∧
    ((bs x).length = 4 → ∃ p q r s, bs x = [p, q, r, s] ∧ 240 ≤ p ∧ p < 248 ∧ 128 ≤ q ∧ q < 192 ∧ 128 ≤ r ∧ r < 192 ∧ 128 ≤ s ∧ s < 192) := by
  obtain ⟨h0, h1⟩ := isS_bd hS
  by_cases a : x < 128
  · rw [bs_1 hS a]; simp
  · by_cases b : x < 2048
    · rw [bs_2 hS (by omega) b]
      exact ⟨fun _ => ⟨_, _, rfl, by omega, by omega, by omega, by omega⟩, by simp, by simp⟩
    · by_cases d : x < 65536
      · rw [bs_3 hS (by omega) d]
        exact ⟨by simp, fun _ => ⟨_, _, _, rfl, by omega, by omega, by omega, by omega, by omega, by omega⟩, by simp⟩
      · rw [bs_4 hS (by omega)]
        exact ⟨by simp, by simp, fun _ => ⟨_, _, _, _, rfl, by omega, by omega, by omega, by omega, by omega, by omega, by omega, by omega⟩⟩

theorem Of_ev (l : List Int) (h1 : 1 ≤ l.length) (h4 : l.length ≤ 4) (hb : ∀ x ∈ l, 0 ≤ x ∧ x ≤ 255) : Ev (fun k => regletref02_Of.f k l) (code l) := by
  have hne : l ≠ [] := by intro e; rw [e] at h1; simp at h1
  unfold regletref02_Of.f
  refine Ev.neg (by omega) ?_
  refine Ev.step (fun k => by rw [regletref02_Of.j0]) ?_
  refine Ev.neg (by simp; omega) (Ev.pos (by omega) ?_)
  rcases l with _ | ⟨a, _ | ⟨b, _ | ⟨c, _ | ⟨d, _ | ⟨e, l⟩⟩⟩⟩⟩
  · exact absurd rfl hne
  · refine Ev.neg (by simp) ?_
    refine Ev.step (fun k => by rw [regletref02_Of.j1]) ?_
    refine Ev.val (Of_end [a] a (by simp) 1 (by simp)) (code_cand hne a fun x hS e => ?_)
    rw [bs_dec hS e]; rfl
  · have ha := hb a (by simp)
    have hb' := hb b (by simp)
    have hs : shr .i64 255 (wrap64 ((([a, b] : List Int).length : Int) + 1)) = 31 := by show shr .i64 255 (wrap64 (((2 : Nat) : Int) + 1)) = 31; decide +kernel
    have e0 : Go.bits .and .i64 (rd [a, b] 0) (shr .i64 255 (wrap64 ((([a, b] : List Int).length : Int) + 1))) = a % 32 := by rw [hs]; exact and_mask 5 (by decide) ha.1 (by show a < _; omega)
    refine Ev.pos (by simp) (Ev.pos (by show (0 : Int) ≤ wrap64 (((2 : Nat) : Int) + 1); decide +kernel) ?_)
    refine Ev.step (fun k => by rw [regletref02_Of.j1]) ?_
    rw [e0]
    refine Of_step [a, b] (a % 32) _ 1 (by simp) (by simp) (by omega) hb' (Ev.val (Of_end [a, b] _ (by simp) 2 (by simp)) (code_cand hne _ fun x hS e => ?_))
    obtain ⟨p, q, e', _⟩ := (bs_lead hS).1 (by rw [e]; rfl)
    rw [bs_dec hS e]
    rw [e] at e'
    simp only [List.cons.injEq, and_true] at e'
    simp only [dec, List.getElem_cons_succ, List.getElem_cons_zero]
    omega
  · have ha := hb a (by simp)
    have hb' := hb b (by simp)
    have hc' := hb c (by simp)
    have hs : shr .i64 255 (wrap64 ((([a, b, c] : List Int).length : Int) + 1)) = 15 := by show shr .i64 255 (wrap64 (((3 : Nat) : Int) + 1)) = 15; decide +kernel
    have e0 : Go.bits .and .i64 (rd [a, b, c] 0) (shr .i64 255 (wrap64 ((([a, b, c] : List Int).length : Int) + 1))) = a % 16 := by rw [hs]; exact and_mask 4 (by decide) ha.1 (by show a < _; omega)
    refine Ev.pos (by simp) (Ev.pos (by show (0 : Int) ≤ wrap64 (((3 : Nat) : Int) + 1); decide +kernel) ?_)
    refine Ev.step (fun k => by rw [regletref02_Of.j1]) ?_
    rw [e0]
    refine Of_step [a, b, c] (a % 16) _ 1 (by simp) (by simp) (by omega) hb' (Of_step [a, b, c] _ _ 2 (by simp) (by simp) (by simp only [List.getElem_cons_succ, List.getElem_cons_zero]; omega) hc' (Ev.val (Of_end [a, b, c] _ (by simp) 3 (by simp)) (code_cand hne _ fun x hS e => ?_)))
    obtain ⟨p, q, r, e', _⟩ := (bs_lead hS).2.1 (by rw [e]; rfl)
    rw [bs_dec hS e]
    rw [e] at e'
    simp only [List.cons.injEq, and_true] at e'
    simp only [dec, List.getElem_cons_succ, List.getElem_cons_zero]
    omega
  · have ha := hb a (by simp)
    have hb' := hb b (by simp)
    have hc' := hb c (by simp)
    have hd' := hb d (by simp)
    have hs : shr .i64 255 (wrap64 ((([a, b, c, d] : List Int).length : Int) + 1)) = 7 := by show shr .i64 255 (wrap64 (((4 : Nat) : Int) + 1)) = 7; decide +kernel
    have e0 : Go.bits .and .i64 (rd [a, b, c, d] 0) (shr .i64 255 (wrap64 ((([a, b, c, d] : List Int).length : Int) + 1))) = a % 8 := by rw [hs]; exact and_mask 3 (by decide) ha.1 (by show a < _; omega)
    refine Ev.pos (by simp) (Ev.pos (by show (0 : Int) ≤ wrap64 (((4 : Nat) : Int) + 1); decide +kernel) ?_)
    refine Ev.step (fun k => by rw [regletref02_Of.j1]) ?_
    rw [e0]
    refine Of_step [a, b, c, d] (a % 8) _ 1 (by simp) (by simp) (by omega) hb' (Of_step [a, b, c, d] _ _ 2 (by simp) (by simp) (by simp only [List.getElem_cons_succ, List.getElem_cons_zero]; omega) hc' (Of_step [a, b, c, d] _ _ 3 (by simp) (by simp) (by simp only [List.getElem_cons_succ, List.getElem_cons_zero]; omega) hd' (Ev.val (Of_end [a, b, c, d] _ (by simp) 4 (by simp)) (code_cand hne _ fun x hS e => ?_))))
    obtain ⟨p, q, r, s, e', _⟩ := (bs_lead hS).2.2 (by rw [e]; rfl)
    rw [bs_dec hS e]
    rw [e] at e'
    simp only [List.cons.injEq, and_true] at e'
    simp only [dec, List.getElem_cons_succ, List.getElem_cons_zero]
    omega
  · simp at h4

theorem scalarOdd_j0 (l : List Int) (s : List (List S40)) (lo hi x : Int) (hl : l.length ≤ 4) (h : Sq lo hi s) (b : Bool) (hb : b = true → (isS (code l) ∧ lo ≤ code l ∧ code l ≤ hi)) (hb' : b = false → x = 0 ∧ ¬ (isS (code l) ∧ lo ≤ code l ∧ code l ≤ hi)) :
    Ev (fun k => regletlaw02_ScalarOdd.j0 k l s x b) true := by
  refine Ev.step (fun k => by rw [regletlaw02_ScalarOdd.j0]) ?_
  cases b with
  | true =>
    refine Ev.pos rfl (Ev.bind awake_ev (Ev.pos rfl (Ev.bind (shaped_ev s h.len h.ok) (Ev.pos rfl (Ev.bind (Count_ev l s (by omega) (by have := h.len; omega)) (Ev.some ?_))))))
    rw [h.c, if_pos (hb rfl)]; rfl
  | false =>
    refine Ev.neg (by simp) (Ev.bind awake_ev (Ev.pos rfl (Ev.bind (shaped_ev s h.len h.ok) (Ev.pos rfl (Ev.bind (Count_ev l s (by omega) (by have := h.len; omega)) (Ev.some ?_))))))
    rw [h.c, if_neg (hb' rfl).2, (hb' rfl).1]; rfl

theorem scalarOdd_go (l : List Int) (lo hi : Int) (h0 : 0 ≤ lo) (h1 : 1 ≤ l.length) (h4 : l.length ≤ 4) (hb : ∀ x ∈ l, 0 ≤ x ∧ x ≤ 255) :
    Ev (fun k => (scalar_Sequences.f k lo hi).bind fun t250 => ((regletref02_Of.f k l).bind fun t253 => (if t253 ≥ lo then (regletlaw02_ScalarOdd.j0 k l t250 0 (decide (t253 ≤ hi))) else (regletlaw02_ScalarOdd.j0 k l t250 0 false)))) true := by
  obtain ⟨s, h⟩ := seqs lo hi
  refine Ev.bind h.ev (Ev.bind (Of_ev l h1 h4 hb) ?_)
  have hz := code_S l
  by_cases a : code l ≥ lo
  · refine Ev.pos a (scalarOdd_j0 l s lo hi 0 h4 h _ (fun e => ?_) (fun e => ⟨rfl, fun q => ?_⟩))
    · simp at e
      rcases hz with hz | hz
      · exact ⟨hz, by omega, e⟩
      · omega
    · simp at e; omega
  · exact Ev.neg a (scalarOdd_j0 l s lo hi 0 h4 h _ (fun e => by simp at e) (fun _ => ⟨rfl, fun q => by omega⟩))

theorem ScalarOdd : regletlaw02_ScalarOdd.Pure := by
  intro lo hi a b c d n wlo whi wa wb wc wd wn
  have wlo := wf_u32 wlo
  have whi := wf_u32 whi
  have wa := wf_u8 wa
  have wb := wf_u8 wb
  have wc := wf_u8 wc
  have wd := wf_u8 wd
  have wn := wf_u8 wn
  apply Ev.rounds
  unfold regletlaw02_ScalarOdd.f
  rw [wrap64_id (x := a) (by omega) (by omega), wrap64_id (x := b) (by omega) (by omega), wrap64_id (x := c) (by omega) (by omega), wrap64_id (x := d) (by omega) (by omega), wrap64_id (x := n) (by omega) (by omega), wrap64_id (x := lo) (by omega) (by omega), wrap64_id (x := hi) (by omega) (by omega),
    tmod_pos (a := n) (by omega), tmod_pos (a := lo) (by omega), tmod_pos (a := hi) (by omega), wrap64_id (x := 1 + n % 4) (by omega) (by omega)]
  refine Ev.bind (Ev.now _) (Ev.pos (by omega) (Ev.pos (by simp; omega) (Ev.bind (Ev.now _) ?_)))
  refine scalarOdd_go _ _ _ (by omega) (by simp; omega) (by simp; omega) (fun x hx => ?_)
  have := List.mem_of_mem_take hx
  simp at this
  omega

end Go.Proofs.Ytpcgbpcilepjmaa.Pure
