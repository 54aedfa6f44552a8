/- Packed texts of this claim: the walks of the functions, and their plain laws; see the claim's last text. -/
import Derived.Test.YtfdcfihcfegekaaKPredictRows5
section
namespace Go.Proofs.Ytfdcfihcfegekaa.M
open Go.RowKit Go.Proofs.YtfdcfihcfegekaaW.PrintWords Go.Proofs.YtfdcfihcfegekaaW.PrintLast Go.Proofs.YtfdcfihcfegekaaW.PrintMore Go.Proofs.Ytfdcfihcfegekaa.P Go.Proofs.Ytfdcfihcfegekaa.H
set_option linter.unusedVariables false
set_option linter.unusedSimpArgs false
abbrev Clash := S50
def markOn (l : List Int) (row : List Bool) : List Bool := l.foldl (fun row t => row.set t.toNat true) row
theorem markOn_length : ∀ (l : List Int) (row : List Bool), (markOn l row).length = row.length
  | [], _ => rfl
  | t :: l, row => by rw [markOn, List.foldl_cons, ← markOn, markOn_length l]; simp
theorem markOn_getD : ∀ (l : List Int) (row : List Bool), (∀ t ∈ l, 0 ≤ t ∧ t.toNat < row.length) → ∀ look : Nat, (markOn l row).getD look false = (row.getD look false || decide ((look : Int) ∈ l))
  | [], _, _, _ => by simp [markOn]
  | t :: l, row, h, look => by
    obtain ⟨h0, h1⟩ := h t List.mem_cons_self
    rw [markOn, List.foldl_cons, ← markOn, markOn_getD l _ (fun x hx => by rw [List.length_set]; exact h x (List.mem_cons_of_mem _ hx)) look]
    by_cases he : t.toNat = look
    · subst he
      rw [get_set _ _ h1]
      have : ((t.toNat : Nat) : Int) = t := by omega
      simp [this]
    · rw [List.getD_eq_getElem?_getD, List.getElem?_set_ne he, ← List.getD_eq_getElem?_getD]
      have : ¬ (look : Int) = t := by omega
      simp [this]
theorem idx_range : ∀ (a : List Bool) (n : Nat), ∀ x ∈ idx n a, (n : Int) ≤ x ∧ x < ((n + a.length : Nat) : Int)
  | [], _, x, hx => by simp [idx] at hx
  | b :: a, n, x, hx => by
    have ih := idx_range a (n + 1)
    unfold idx at hx
    split at hx
    · rcases List.mem_cons.1 hx with rfl | h
      · simp; omega
      · have := ih x h; simp at this ⊢; omega
    · have := ih x hx; simp at this ⊢; omega
theorem chosen_l1_ev {x3 : List (List Int)} {x18 : List Prod} {x19 x20 : Int} {l0 : List ByteArray} {l1 : List Tok} {a2 a3 : Int} {l4 : List Prod} {R : List (List Bool)} (i : Nat) : ∀ (a pre : List Int) (out : List (List Bool)), (∀ t ∈ a, 0 ≤ t ∧ t.toNat < (out.getD i []).length) → i < out.length → pre.length + a.length ≤ 1000000 → Ev (fun k => predict_chosen.l0 k x3 (out.set i (markOn a (out.getD i []))) x18 x19 (wrap64 (x20 + 1)) l0 l1 a2 a3 l4) R → Ev (fun k => predict_chosen.l1 k x3 out (i : Int) x18 x19 x20 (pre ++ a) ((pre ++ a).length : Int) (pre.length : Int) l0 l1 a2 a3 l4) R
  | [], pre, out, _, hi, _, hk => Ev.step (fun k => by rw [predict_chosen.l1]) (Ev.neg (by simp) (by rw [markOn, List.foldl_nil, set_get _ _ _ hi] at hk; exact hk))
  | t :: a, pre, out, h, hi, h3, hk => by
    simp only [List.length_cons] at h3
    obtain ⟨h0, h1⟩ := h t List.mem_cons_self
    have ih := chosen_l1_ev (x3 := x3) (x18 := x18) (x19 := x19) (x20 := x20) (l0 := l0) (l1 := l1) (a2 := a2) (a3 := a3) (l4 := l4) (R := R) i a (pre ++ [t]) (out.set i ((out.getD i []).set t.toNat true)) (by rw [get_set _ _ hi]; intro x hx; rw [List.length_set]; exact h x (List.mem_cons_of_mem _ hx)) (by rw [List.length_set]; exact hi) (by simp; omega) (by rw [get_set _ _ hi, set_set]; exact hk)
    simp only [← wrap_next pre _ (show pre.length ≤ 1000000 by omega), List.append_assoc, List.singleton_append] at ih
    refine Ev.step (fun k => by rw [predict_chosen.l1]) (Ev.pos (by simp; omega) (Ev.pos (by omega) (Ev.pos (by simp; omega) (Ev.pos (by omega) (Ev.pos (by omega) ?_)))))
    rw [show rd (pre ++ t :: a) (pre.length : Int) = t from getD_mid _ pre t a _ rfl, show rd_L13 out (i : Int) = out.getD i [] from by rw [rd_L13, Int.toNat_natCast]]
    exact Ev.pos h0 (Ev.pos (by omega) (by rw [Int.toNat_natCast]; exact ih))
section
variable (l0 : List ByteArray) (l1 : List Tok) (a2 a3 : Int) (l4 : List Prod)
def sel (nn nt : Nat) (ps : List Prod) (p : Prod) : List Int := (dOf nn nt ps p.f1).1 ++ (if (dOf nn nt ps p.f1).2 = true then (dFollow nn nt ps).getD p.f0.toNat [] else [])
def chRow (nn nt : Nat) (ps : List Prod) (p : Prod) : List Bool := markOn (sel nn nt ps p) (none0 nt)
theorem of_range {nn nt : Nat} {ps : List Prod} (hps : ps.all (okProd nn nt) = true) (l : List Sym) : (dOf nn nt ps l).1.length ≤ nt + 1 ∧ ∀ x ∈ (dOf nn nt ps l).1, 0 ≤ x ∧ x < ((nt + 1 : Nat) : Int) := by
 unfold dOf
 split
 · rename_i hc
   have hb := bg_length (clo false nn ps) (fst_sh nn nt (clo false nn ps) hps) l _ hc.2.2 (none0_length nt)
   refine ⟨by have := idx_length 0 (bg (clo false nn ps) (fst nn nt (clo false nn ps) ps) l (none0 nt)).1; simp only; omega, fun x hx => ?_⟩
   have := idx_range _ 0 x hx
   rw [hb] at this
   simpa using this
 · simp
theorem follow_range {nn nt : Nat} {ps : List Prod} (hps : ps.all (okProd nn nt) = true) : (dFollow nn nt ps).length = nn ∧ ∀ i, ((dFollow nn nt ps).getD i []).length ≤ nt + 1 ∧ ∀ x ∈ (dFollow nn nt ps).getD i [], 0 ≤ x ∧ x < ((nt + 1 : Nat) : Int) := by
 unfold dFollow
 rw [if_pos hps]
 have hs := fol_sh (clo false nn ps) (fst_sh nn nt (clo false nn ps) hps) hps
 refine ⟨by rw [idxs, List.length_map, hs.1], fun i => ?_⟩
 by_cases hi : i < nn
 rotate_left
 · rw [List.getD_eq_getElem?_getD, List.getElem?_eq_none (by rw [idxs, List.length_map, hs.1]; omega)]
   simp
 have e : (idxs (fol nn nt (clo false nn ps) (fst nn nt (clo false nn ps) ps) ps)).getD i [] = idx 0 ((fol nn nt (clo false nn ps) (fst nn nt (clo false nn ps) ps) ps).getD i []) := by
  have hlt : i < (fol nn nt (clo false nn ps) (fst nn nt (clo false nn ps) ps) ps).length := by rw [hs.1]; exact hi
  rw [idxs, List.getD_eq_getElem?_getD, List.getElem?_map, List.getD_eq_getElem?_getD, List.getElem?_eq_getElem hlt]; rfl
 rw [e]
 have hl := hs.get hi
 refine ⟨by have := idx_length 0 ((fol nn nt (clo false nn ps) (fst nn nt (clo false nn ps) ps) ps).getD i []); omega, fun x hx => ?_⟩
 have := idx_range _ 0 x hx
 rw [hl] at this
 simpa using this
theorem sel_range {nn nt : Nat} {ps : List Prod} (hps : ps.all (okProd nn nt) = true) (p : Prod) : (sel nn nt ps p).length ≤ 2 * (nt + 1) ∧ ∀ x ∈ sel nn nt ps p, 0 ≤ x ∧ x < ((nt + 1 : Nat) : Int) := by
 have h1 := of_range hps p.f1
 have h2 := (follow_range hps).2 p.f0.toNat
 unfold sel
 refine ⟨?_, fun x hx => ?_⟩
 · rw [List.length_append]
   split
   · omega
   · simp; omega
 · rcases List.mem_append.1 hx with h | h
   · exact h1.2 x h
   · split at h
     · exact h2.2 x h
     · simp at h
theorem chRow_getD {nn nt : Nat} {ps : List Prod} (hps : ps.all (okProd nn nt) = true) (p : Prod) (look : Nat) : (chRow nn nt ps p).getD look false = decide ((look : Int) ∈ sel nn nt ps p) := by
 rw [chRow, markOn_getD _ _ (fun t ht => by have := (sel_range hps p).2 t ht; rw [none0_length]; omega)]
 simp [none0, List.getElem?_replicate]
 intro h
 by_cases hl : look < nt + 1
 rotate_left
 · rw [if_neg hl] at h; simp at h
 rw [if_pos hl] at h; simp at h
theorem chRow_length (nn nt : Nat) (ps : List Prod) (p : Prod) : (chRow nn nt ps p).length = nt + 1 := by rw [chRow, markOn_length, none0_length]
variable {l0 l1 a2 a3 l4}
theorem chosen_l0_ev (h : Small l4) (h0 : l0.length ≤ 1000000) (h1 : l1.length ≤ 1000) (hok : l4.all (okProd l0.length l1.length) = true) : ∀ (qs pre : List Prod) (out : List (List Bool)), pre ++ qs = l4 → out.length = pre.length → Ev (fun k => predict_chosen.l0 k (dFollow l0.length l1.length l4) (out ++ List.replicate qs.length []) l4 (l4.length : Int) (pre.length : Int) l0 l1 a2 a3 l4) (out ++ qs.map (chRow l0.length l1.length l4))
  | [], pre, out, e, ho => by
    refine Ev.step (fun k => by rw [predict_chosen.l0]) (Ev.neg (by rw [← e]; simp) (Ev.some (by simp)))
  | p :: qs, pre, out, e, ho => by
    have hlen : l4.length = pre.length + (qs.length + 1) := by rw [← e]; simp
    have hp0 : pre.length ≤ 1000000 := by have := h.1; omega
    have hmem : p ∈ l4 := by rw [← e]; simp
    have hokp := List.all_eq_true.1 hok p hmem
    have hl := okProd_left hokp
    have hrd : rd_T30 l4 (pre.length : Int) = p := by rw [← e]; exact getD_mid _ pre p qs _ rfl
    have ih := chosen_l0_ev h h0 h1 hok qs (pre ++ [p]) (out ++ [chRow l0.length l1.length l4 p]) (by rw [← e]; simp) (by simp [ho])
    rw [← wrap_next pre _ hp0] at ih
    have hw : wrap64 ((l1.length : Int) + 1) = ((l1.length + 1 : Nat) : Int) := by rw [wrap64_id (by omega) (by omega)]; omega
    have hset : ∀ v : List Bool, (out ++ List.replicate (qs.length + 1) []).set pre.length v = out ++ v :: List.replicate qs.length [] := fun v => by
      rw [List.replicate_succ, ← ho]; simp
    have hsel : sel l0.length l1.length l4 p = (dOf l0.length l1.length l4 p.f1).1 ++ (if (dOf l0.length l1.length l4 p.f1).2 = true then (dFollow l0.length l1.length l4).getD p.f0.toNat [] else []) := rfl
    have hfin : ∀ l : List Int, l = sel l0.length l1.length l4 p → Ev (fun k => predict_chosen.j1 k (dFollow l0.length l1.length l4) (out ++ none0 l1.length :: List.replicate qs.length []) (pre.length : Int) l l4 (l4.length : Int) (pre.length : Int) l0 l1 a2 a3 l4) (out ++ (p :: qs).map (chRow l0.length l1.length l4)) := fun l el => by
      subst el
      have hr := sel_range hok p
      refine Ev.step (fun k => by rw [predict_chosen.j1]) ?_
      have hg : (out ++ none0 l1.length :: List.replicate qs.length []).getD pre.length [] = none0 l1.length := by rw [← ho]; simp
      have hx := chosen_l1_ev (x3 := dFollow l0.length l1.length l4) (x18 := l4) (x19 := (l4.length : Int)) (x20 := (pre.length : Int)) (l0 := l0) (l1 := l1) (a2 := a2) (a3 := a3) (l4 := l4) (R := out ++ (p :: qs).map (chRow l0.length l1.length l4)) pre.length (sel l0.length l1.length l4 p) [] (out ++ none0 l1.length :: List.replicate qs.length []) (fun t ht => by have := hr.2 t ht; rw [hg, none0_length]; omega) (by simp [ho]) (by have := hr.1; simp; omega) (by
        rw [hg, show (out ++ none0 l1.length :: List.replicate qs.length []).set pre.length (markOn (sel l0.length l1.length l4 p) (none0 l1.length)) = (out ++ [chRow l0.length l1.length l4 p]) ++ List.replicate qs.length [] from by rw [← ho]; simp [chRow]]
        exact Ev.val ih (by simp))
      exact hx
    refine Ev.step (fun k => by rw [predict_chosen.l0]) (Ev.pos (by omega) (Ev.pos (by omega) (Ev.pos (by omega) ?_)))
    rw [hw]
    refine Ev.pos (by omega) (Ev.pos (by omega) (Ev.pos (by simp; omega) (Ev.bind0 (a := out ++ none0 l1.length :: List.replicate qs.length []) (by rw [Int.toNat_natCast, Int.toNat_natCast, List.length_cons, hset]; rfl) ?_)))
    rw [hrd]
    refine Ev.bind (of_ev l0 l1 a2 a3 l4 h h0 h1 p.f1 (h.2 p hmem)) ?_
    have hfl := follow_range hok
    by_cases he : (dOf l0.length l1.length l4 p.f1).2 = true
    · refine Ev.pos he (Ev.pos hl.1 (Ev.pos (by rw [hfl.1]; exact hl.2) (Ev.pos ?_ (hfin _ (by rw [hsel, if_pos he]; rfl)))))
      have h2 := (of_range hok p.f1).1
      have h3 := (hfl.2 p.f0.toNat).1
      have h4 : (rd_L3 (dFollow l0.length l1.length l4) p.f0).length ≤ l1.length + 1 := h3
      omega
    · exact Ev.neg he (hfin _ (by rw [hsel, if_neg he, List.append_nil]))
theorem chosen_ev (h : Small l4) (h0 : l0.length ≤ 1000000) (h1 : l1.length ≤ 1000) (hok : l4.all (okProd l0.length l1.length) = true) : Ev (fun k => predict_chosen.f k l0 l1 a2 a3 l4) (l4.map (chRow l0.length l1.length l4)) := by
 refine Ev.congr (fun k => by rw [predict_chosen.f]) (Ev.bind (follow_ev l0 l1 a2 a3 l4 h h0 h1) ?_)
 refine Ev.pos (by omega) (Ev.pos (by have := h.1; omega) ?_)
 have hx := chosen_l0_ev (a2 := a2) (a3 := a3) h h0 h1 hok l4 [] [] rfl rfl
 rw [Int.toNat_natCast]
 simpa using hx
theorem rows_l1_ev {x12 : Int} {x11 : Int} {R : List (List Int)} (r : Nat) : ∀ (n m : Nat) (out : List (List Int)), r < out.length → m + n ≤ 1000000 → out.getD r [] = List.replicate m (-1) ++ List.replicate n 0 → Ev (fun k => predict_rows.l0 k (out.set r (List.replicate (m + n) (-1))) x11 (wrap64 (x12 + 1)) l0 l1 a2 a3 l4) R → Ev (fun k => predict_rows.l1 k out (r : Int) x11 x12 ((m + n : Nat) : Int) (m : Int) l0 l1 a2 a3 l4) R
  | 0, m, out, hr, _, e, hk => Ev.step (fun k => by rw [predict_rows.l1]) (Ev.neg (by omega) (by
      rw [show out.set r (List.replicate (m + 0) (-1)) = out from by
        have := set_get out r [] hr
        rw [e] at this
        simpa using this] at hk
      exact hk))
  | n + 1, m, out, hr, h3, e, hk => by
    have hg : rd_L3 out (r : Int) = out.getD r [] := by rw [rd_L3, Int.toNat_natCast]
    have ih := rows_l1_ev (x12 := x12) (x11 := x11) (R := R) r n (m + 1) (out.set r (List.replicate (m + 1) (-1) ++ List.replicate n 0)) (by rw [List.length_set]; exact hr) (by omega) (get_set _ _ hr) (by rw [set_set, show m + 1 + n = m + (n + 1) by omega]; exact hk)
    refine Ev.step (fun k => by rw [predict_rows.l1]) (Ev.pos (by omega) (Ev.pos (by omega) (Ev.pos (by omega) (Ev.pos (by omega) (Ev.pos (by rw [hg, e]; simp; omega) ?_)))))
    have hs : (out.getD r []).set m (-1) = List.replicate (m + 1) (-1) ++ List.replicate n 0 := by
      rw [e, List.replicate_succ, List.replicate_succ', List.append_assoc]
      simp
    rw [hg, Int.toNat_natCast, Int.toNat_natCast, hs, show wrap64 ((m : Int) + 1) = ((m + 1 : Nat) : Int) from by rw [wrap64_id (by omega) (by omega)]; omega, show m + (n + 1) = m + 1 + n by omega]
    exact ih
theorem rows_l0_ev (h1 : l1.length ≤ 1000) : ∀ (n : Nat) (out : List (List Int)), out.length + n ≤ 1000000 → Ev (fun k => predict_rows.l0 k (out ++ List.replicate n []) ((out.length + n : Nat) : Int) (out.length : Int) l0 l1 a2 a3 l4) (out ++ List.replicate n (List.replicate (l1.length + 1) (-1)))
  | 0, out, _ => Ev.step (fun k => by rw [predict_rows.l0]) (Ev.neg (by omega) (Ev.some (by simp)))
  | n + 1, out, h3 => by
    have hw : wrap64 ((l1.length : Int) + 1) = ((l1.length + 1 : Nat) : Int) := by rw [wrap64_id (by omega) (by omega)]; omega
    have ih := rows_l0_ev h1 n (out ++ [List.replicate (l1.length + 1) (-1)]) (by simp; omega)
    rw [← wrap_next out _ (by omega)] at ih
    have hset : ∀ v w : List Int, (out ++ w :: List.replicate n []).set out.length v = out ++ v :: List.replicate n [] := fun v w => by simp
    refine Ev.step (fun k => by rw [predict_rows.l0]) (Ev.pos (by omega) ?_)
    rw [hw]
    refine Ev.pos (by omega) (Ev.pos (by omega) (Ev.pos (by omega) (Ev.pos (by simp; omega) (Ev.bind0 (a := out ++ List.replicate (l1.length + 1) 0 :: List.replicate n []) (by rw [Int.toNat_natCast, Int.toNat_natCast, List.replicate_succ, hset]) ?_))))
    have hg : (out ++ List.replicate (l1.length + 1) 0 :: List.replicate n []).getD out.length [] = List.replicate (l1.length + 1) (0 : Int) := by simp
    have hx := rows_l1_ev (l0 := l0) (l1 := l1) (a2 := a2) (a3 := a3) (l4 := l4) (x12 := (out.length : Int)) (x11 := ((out.length + (n + 1) : Nat) : Int)) (R := out ++ List.replicate (n + 1) (List.replicate (l1.length + 1) (-1))) out.length (l1.length + 1) 0 (out ++ List.replicate (l1.length + 1) 0 :: List.replicate n []) (by simp) (by omega) (by rw [hg]; simp) (by
      rw [hset, Nat.zero_add]
      have e : out.length + (n + 1) = (out ++ [List.replicate (l1.length + 1) (-1)]).length + n := by simp; omega
      rw [e]
      refine Ev.val (Ev.congr (fun k => ?_) ih) (by simp [List.replicate_succ])
      rw [List.append_assoc, List.singleton_append])
    rw [show rd_L3 (out ++ List.replicate (l1.length + 1) 0 :: List.replicate n []) (out.length : Int) = List.replicate (l1.length + 1) 0 from by rw [rd_L3, Int.toNat_natCast]; exact hg, List.length_replicate]
    simpa using hx
theorem rows_ev (h0 : l0.length ≤ 1000000) (h1 : l1.length ≤ 1000) : Ev (fun k => predict_rows.f k l0 l1 a2 a3 l4) (List.replicate l0.length (List.replicate (l1.length + 1) (-1))) := by
 refine Ev.congr (fun k => by rw [predict_rows.f]) (Ev.pos (by omega) (Ev.pos (by omega) (Ev.bind0 (a := List.replicate l0.length []) (by rw [Int.toNat_natCast]) ?_)))
 have hx := rows_l0_ev (l0 := l0) (a2 := a2) (a3 := a3) (l4 := l4) h1 l0.length [] (by simpa using h0)
 simpa using hx
end
def pRow (b : List (List Bool)) (ps : List Prod) (r : Nat) : Nat → Nat → List Clash → List Int × List Clash
  | 0, _, bad => ([], bad)
  | n + 1, look, bad => ((prIn b r look 0 ps (-1, bad)).1 :: (pRow b ps r n (look + 1) (prIn b r look 0 ps (-1, bad)).2).1, (pRow b ps r n (look + 1) (prIn b r look 0 ps (-1, bad)).2).2)
def pAll (b : List (List Bool)) (ps : List Prod) (w : Nat) : Nat → Nat → List Clash → List (List Int) × List Clash
  | 0, _, bad => ([], bad)
  | n + 1, r, bad => ((pRow b ps r w 0 bad).1 :: (pAll b ps w n (r + 1) (pRow b ps r w 0 bad).2).1, (pAll b ps w n (r + 1) (pRow b ps r w 0 bad).2).2)
theorem prRow_pRow (b : List (List Bool)) (ps : List Prod) (r : Nat) : ∀ (n : Nat) (pre : List Int) (bad : List Clash), prRow b ps r n pre.length (pre ++ List.replicate n (-1), bad) = (pre ++ (pRow b ps r n pre.length bad).1, (pRow b ps r n pre.length bad).2)
  | 0, pre, bad => by simp [prRow, pRow]
  | n + 1, pre, bad => by
    have hg : (pre ++ List.replicate (n + 1) (-1)).getD pre.length 0 = (-1 : Int) := by rw [List.replicate_succ]; simp
    have hs : ∀ v, (pre ++ List.replicate (n + 1) (-1)).set pre.length v = (pre ++ [v]) ++ List.replicate n (-1) := fun v => by rw [List.replicate_succ]; simp
    have ih := prRow_pRow b ps r n (pre ++ [(prIn b r pre.length 0 ps (-1, bad)).1]) (prIn b r pre.length 0 ps (-1, bad)).2
    rw [prRow, hg, hs, pRow]
    rw [List.length_append, List.length_singleton] at ih
    rw [ih, List.append_assoc]; rfl
theorem prAll_pAll (b : List (List Bool)) (ps : List Prod) (w : Nat) : ∀ (n : Nat) (pre : List (List Int)) (bad : List Clash), prAll b ps n pre.length (pre ++ List.replicate n (List.replicate w (-1)), bad) = (pre ++ (pAll b ps w n pre.length bad).1, (pAll b ps w n pre.length bad).2)
  | 0, pre, bad => by simp [prAll, pAll]
  | n + 1, pre, bad => by
    have hg : (pre ++ List.replicate (n + 1) (List.replicate w (-1))).getD pre.length [] = List.replicate w (-1 : Int) := by rw [List.replicate_succ]; simp
    have hs : ∀ v, (pre ++ List.replicate (n + 1) (List.replicate w (-1))).set pre.length v = (pre ++ [v]) ++ List.replicate n (List.replicate w (-1)) := fun v => by rw [List.replicate_succ]; simp
    have hr := prRow_pRow b ps pre.length w [] bad
    simp only [List.nil_append, List.length_nil] at hr
    have ih := prAll_pAll b ps w n (pre ++ [(pRow b ps pre.length w 0 bad).1]) (pRow b ps pre.length w 0 bad).2
    rw [prAll, hg, hs, pAll, List.length_replicate, hr]
    rw [List.length_append, List.length_singleton] at ih
    simp only
    rw [ih, List.append_assoc]; rfl
theorem prIn_max (b : List (List Bool)) (r look : Nat) : ∀ (ps : List Prod) (i : Nat) (st : Int × List Clash), (prIn b r look i ps st).2.length ≤ st.2.length + ps.length
  | [], _, _ => Nat.le_refl _
  | p :: ps, i, st => by
    have := prIn_max b r look ps (i + 1) (prStep b r look i p st)
    have : (prStep b r look i p st).2.length ≤ st.2.length + 1 := by
      unfold prStep; split
      · split <;> simp
      · simp
    rw [prIn, List.length_cons]; omega
theorem pRow_max (b : List (List Bool)) (ps : List Prod) (r : Nat) : ∀ (n look : Nat) (bad : List Clash), (pRow b ps r n look bad).1.length = n ∧ (pRow b ps r n look bad).2.length ≤ bad.length + n * ps.length
  | 0, _, _ => by simp [pRow]
  | n + 1, look, bad => by
    have h1 := pRow_max b ps r n (look + 1) (prIn b r look 0 ps (-1, bad)).2
    have h2 := prIn_max b r look ps 0 (-1, bad)
    rw [pRow, Nat.succ_mul]
    simp only [List.length_cons] at h2 ⊢
    exact ⟨by rw [h1.1], by omega⟩
theorem pAll_max (b : List (List Bool)) (ps : List Prod) (w : Nat) : ∀ (n r : Nat) (bad : List Clash), (pAll b ps w n r bad).1.length = n ∧ (∀ x ∈ (pAll b ps w n r bad).1, x.length = w) ∧ (pAll b ps w n r bad).2.length ≤ bad.length + n * (w * ps.length)
  | 0, _, _ => by simp [pAll]
  | n + 1, r, bad => by
    have h1 := pAll_max b ps w n (r + 1) (pRow b ps r w 0 bad).2
    have h2 := pRow_max b ps r w 0 bad
    rw [pAll, Nat.succ_mul]
    refine ⟨by simp only [List.length_cons]; rw [h1.1], fun x hx => ?_, by simp only; omega⟩
    rcases List.mem_cons.1 hx with rfl | h
    · exact h2.1
    · exact h1.2.1 x h
section
variable {l0 : List ByteArray} {l1 : List Tok} {a2 a3 : Int} {l4 : List Prod} {b : List (List Bool)} {all : List (List Int)}
end
section
variable (l0 : List ByteArray) (l1 : List Tok) (a2 a3 : Int) (l4 : List Prod)
def dPredict (nn nt : Nat) (ps : List Prod) : List (List Int) × List Clash := if ps.all (okProd nn nt) = true then pAll (ps.map (chRow nn nt ps)) ps (nt + 1) nn 0 [] else ([], [])
variable (h : Small l4) (h0 : l0.length ≤ 30) (h1 : l1.length ≤ 30) (h4 : l4.length ≤ 30)
include h h0 h1 h4
set_option linter.unusedSectionVars false in
theorem bad_bound (b : List (List Bool)) : (pAll b l4 (l1.length + 1) l0.length 0 []).2.length ≤ 100000 := by
 have h2 := (pAll_max b l4 (l1.length + 1) l0.length 0 []).2.2
 have h3 : l0.length * ((l1.length + 1) * l4.length) ≤ 30 * (31 * 30) := Nat.mul_le_mul h0 (Nat.mul_le_mul (by omega) h4)
 simp only [List.length_nil] at h2
 omega
theorem predict_ev : Ev (fun k => predict_Predict.f k l0 l1 a2 a3 l4) (dPredict l0.length l1.length l4) := by
 refine Ev.congr (fun k => by rw [predict_Predict.f]) (Ev.bind0 (firstsRight_val l0 l1 a2 a3 l4 h) ?_)
 unfold dPredict
 cases hr : l4.all (okProd l0.length l1.length) with
 | false => exact Ev.neg (by simp) (Ev.some (by simp))
 | true =>
  refine Ev.pos rfl (Ev.bind (chosen_ev h (by omega) (by omega) hr) (Ev.bind (rows_ev (by omega) (by omega)) ?_))
  have hp := prAll_pAll (l4.map (chRow l0.length l1.length l4)) l4 (l1.length + 1) l0.length [] []
  simp only [List.nil_append, List.length_nil] at hp
  rw [List.length_replicate, hp]
  refine Ev.pos ⟨?_, h.1, by omega, by have := bad_bound l0 l1 l4 h h0 h1 h4 (l4.map (chRow l0.length l1.length l4)); simp only; omega⟩ (Ev.some (if_pos rfl).symm)
  unfold prOk
  simp only [Bool.and_eq_true, decide_eq_true_eq, List.all_eq_true]
  refine ⟨by simp, fun row hrow => ?_⟩
  rw [List.eq_of_mem_replicate hrow, List.length_replicate]
  refine ⟨by omega, fun x hx => ?_⟩
  obtain ⟨p, _, rfl⟩ := List.mem_map.1 hx
  rw [chRow_length]
  omega
end
theorem mRight_ok {l : List Int} (hu : ∀ x ∈ l, 0 ≤ x ∧ x ≤ 255) {n t : Nat} (hn : 0 < n) (ht : 0 < t) : ∀ (c at_ : Nat) (acc : List Sym), acc.all (okSym n t) = true → (mRight l n t c at_ acc).1.all (okSym n t) = true ∧ (mRight l n t c at_ acc).1.length = acc.length + c
  | 0, at_, acc, h => ⟨h, rfl⟩
  | c + 1, at_, acc, h => by
    unfold mRight
    obtain ⟨h1, h2⟩ := mRight_ok hu hn ht c (at_ + 2) (acc ++ [if mPick l at_ 2 = 0 then ⟨true, mPick l (at_ + 1) t⟩ else ⟨false, mPick l (at_ + 1) n⟩]) (by
      rw [List.all_append, h, Bool.true_and]
      have h3 := mPick_lt hu (at_ + 1) (n := (t : Int)) (by omega)
      have h4 := mPick_lt hu (at_ + 1) (n := (n : Int)) (by omega)
      split
      · simp only [List.all_cons, List.all_nil, Bool.and_true, okSym, if_true, Bool.and_eq_true, decide_eq_true_eq]
        exact h3
      · simp only [List.all_cons, List.all_nil, Bool.and_true, okSym, Bool.and_eq_true, decide_eq_true_eq]
        exact ⟨h4.1, by simpa using h4.2⟩)
    exact ⟨h1, by rw [h2]; simp; omega⟩
theorem mProds_ok {l : List Int} (hu : ∀ x ∈ l, 0 ≤ x ∧ x ≤ 255) {n t : Nat} (hn : 0 < n) (ht : 0 < t) : ∀ (i at_ : Nat) (acc : List Prod), acc.all (okProd n t) = true → (∀ p ∈ acc, p.f1.length ≤ 3) → (mProds l n t i at_ acc).all (okProd n t) = true ∧ (mProds l n t i at_ acc).length = acc.length + i ∧ ∀ p ∈ mProds l n t i at_ acc, p.f1.length ≤ 3
  | 0, at_, acc, h, h3 => ⟨h, rfl, h3⟩
  | i + 1, at_, acc, h, h3 => by
    unfold mProds
    obtain ⟨h1, h2⟩ := mRight_ok hu hn ht (mPick l (at_ + 1) 4).toNat (at_ + 2) [] rfl
    have h4 := mPick_lt hu at_ (n := (n : Int)) (by omega)
    have h5 := mPick_lt hu (at_ + 1) (n := 4) (by omega)
    obtain ⟨h6, h7, h8⟩ := mProds_ok hu hn ht i (mRight l n t (mPick l (at_ + 1) 4).toNat (at_ + 2) []).2 (acc ++ [⟨mPick l at_ n, (mRight l n t (mPick l (at_ + 1) 4).toNat (at_ + 2) []).1⟩]) (by
      rw [List.all_append, h, Bool.true_and]
      simp only [List.all_cons, List.all_nil, Bool.and_true, okProd, Bool.and_eq_true, decide_eq_true_eq]
      exact ⟨h4, h1⟩) (by
      intro p hp
      rcases List.mem_append.1 hp with hp | hp
      · exact h3 p hp
      · obtain rfl := List.mem_singleton.1 hp
        simp only
        rw [h2]; simp; omega)
    exact ⟨h6, by rw [h7]; simp; omega, h8⟩
structure MadeOk (ns : List ByteArray) (ts : List Tok) (ps : List Prod) : Prop where
  n1 : 0 < ns.length
  n5 : ns.length ≤ 5
  t1 : 0 < ts.length
  t4 : ts.length ≤ 4
  p1 : 0 < ps.length
  p10 : ps.length ≤ 10
  ok : ps.all (okProd ns.length ts.length) = true
  r3 : ∀ p ∈ ps, p.f1.length ≤ 3
theorem MadeOk.small {ns : List ByteArray} {ts : List Tok} {ps : List Prod} (h : MadeOk ns ts ps) : Small ps := ⟨by have := h.p10; omega, fun p hp => by have := h.r3 p hp; omega⟩
theorem made_ev {l : List Int} (hw : ∀ x ∈ l, (Lit.int .u8 x).wf = true) : ∃ ns ts ps, MadeOk ns ts ps ∧ Ev (fun k => regletlaw13_Made.f k l) (ns, ts, 0, 0, ps) := by
 have hu : ∀ x ∈ l, 0 ≤ x ∧ x ≤ 255 := fun x hx => wf_u8 (hw x hx)
 have h0 := mPick_lt hu 0 (n := 5) (by decide)
 have h1 := mPick_lt hu 1 (n := 4) (by decide)
 have h2 := mPick_lt hu 2 (n := 10) (by decide)
 obtain ⟨n, en⟩ : ∃ n : Nat, 1 + mPick l 0 5 = (n : Int) := ⟨(1 + mPick l 0 5).toNat, by omega⟩
 obtain ⟨t, et⟩ : ∃ n : Nat, 1 + mPick l 1 4 = (n : Int) := ⟨(1 + mPick l 1 4).toNat, by omega⟩
 obtain ⟨c, ec⟩ : ∃ n : Nat, 1 + mPick l 2 10 = (n : Int) := ⟨(1 + mPick l 2 10).toNat, by omega⟩
 obtain ⟨h3, h4, h5⟩ := mProds_ok hu (n := n) (t := t) (by omega) (by omega) c 3 [] rfl (fun p hp => by simp at hp)
 have ln : (mNames.take n).length = n := by rw [List.length_take]; show min n 5 = n; omega
 have lt : ((mTexts.map mTok).take t).length = t := by rw [List.length_take]; show min t 4 = t; omega
 refine ⟨mNames.take n, (mTexts.map mTok).take t, mProds l n t c 3 [], ⟨by omega, by omega, by omega, by omega, by simp at h4; omega, by simp at h4; omega, by rw [ln, lt]; exact h3, h5⟩, Ev.some' ?_⟩
 have h7 : l.all (fun x => decide (0 ≤ x ∧ x ≤ 255)) = true := List.all_eq_true.2 (fun x hx => decide_eq_true (hu x hx))
 show (if l.all (fun x => decide (0 ≤ x ∧ x ≤ 255)) = true then _ else none) = _
 rw [if_pos h7, en, et, ec]
 rfl
section
variable {ns : List ByteArray} {R : List ByteArray × List Tok × Int × Int × List Prod}
end
theorem awake14_ev : Ev (fun k => regletlaw14_awake.f k) true := by
 have e1 : dPredict 1 1 [⟨0, [⟨true, 0⟩, ⟨false, 0⟩]⟩, ⟨0, []⟩] = ([[0, 1]], []) := by kernel_rfl
 have e2 : dPredict 1 1 [⟨0, [⟨true, 0⟩, ⟨false, 0⟩]⟩, ⟨0, []⟩, ⟨0, []⟩] = ([[0, 1]], [⟨0, 1, 1, 2⟩]) := by kernel_rfl
 unfold regletlaw14_awake.f
 simp only [Option.bind_some]
 refine Ev.pos (by decide) ?_
 refine Ev.bind (Ev.val (predict_ev [⟨#[97]⟩] (List.replicate 1 z61) 0 0 [⟨0, [⟨true, 0⟩, ⟨false, 0⟩]⟩, ⟨0, []⟩] ⟨by simp, by simp⟩ (by simp) (by simp) (by simp)) e1) (Ev.pos (by simp) ?_)
 refine Ev.bind (Ev.val (predict_ev [⟨#[97]⟩] (List.replicate 1 z61) 0 0 [⟨0, [⟨true, 0⟩, ⟨false, 0⟩]⟩, ⟨0, []⟩, ⟨0, []⟩] ⟨by simp, by simp⟩ (by simp) (by simp) (by simp)) e2) (Ev.pos rfl ?_)
 exact Ev.bind (sameLists_ev [[0, 1]] (by simp) (by simp)) (Ev.pos rfl (Ev.pos rfl (Ev.pos (by decide) (Ev.some rfl))))
end Go.Proofs.Ytfdcfihcfegekaa.M
end

section
namespace Go.Proofs.Ytfdcfihcfegekaa.M
open Go.RowKit Go.Proofs.YtfdcfihcfegekaaW.PrintWords Go.Proofs.YtfdcfihcfegekaaW.PrintLast Go.Proofs.YtfdcfihcfegekaaW.PrintMore Go.Proofs.Ytfdcfihcfegekaa.P Go.Proofs.Ytfdcfihcfegekaa.H
set_option linter.unusedVariables false
set_option linter.unusedSimpArgs false
set_option linter.unusedSectionVars false
section
variable (b : List (List Bool)) (ps : List Prod) (r look : Nat)
def Sel (i : Nat) : Prop := ∃ p, ps[i]? = some p ∧ p.f0 = (r : Int) ∧ (b.getD i []).getD look false = true
def GoodC (c : Clash) : Prop := c.f0 = (r : Int) ∧ c.f1 = (look : Int) ∧ ∃ i j : Nat, c.f2 = (i : Int) ∧ c.f3 = (j : Int) ∧ i < j ∧ j < ps.length ∧ Sel b ps r look i ∧ Sel b ps r look j
theorem sel_lt {b : List (List Bool)} {ps : List Prod} {r look i : Nat} (h : Sel b ps r look i) : i < ps.length := by
 obtain ⟨p, hp, _⟩ := h
 exact (List.getElem?_eq_some_iff.1 hp).1
variable {b ps r look}
theorem sel_mid {pre qs : List Prod} {p : Prod} (e : pre ++ p :: qs = ps) : Sel b ps r look pre.length ↔ p.f0 = (r : Int) ∧ (b.getD pre.length []).getD look false = true := by
 have hp : ps[pre.length]? = some p := by rw [← e]; simp
 constructor
 · rintro ⟨q, hq, h⟩
   rw [hp] at hq
   obtain rfl := Option.some.inj hq
   exact h
 · exact fun h => ⟨p, hp, h⟩
theorem prIn_inv : ∀ (qs pre : List Prod) (st : Int × List Clash), pre ++ qs = ps → (st.1 = -1 ∨ ∃ i : Nat, st.1 = (i : Int) ∧ i < pre.length ∧ Sel b ps r look i) →
    ((prIn b r look pre.length qs st).1 = -1 ∧ st.1 = -1 ∧ (∀ j, pre.length ≤ j → ¬ Sel b ps r look j) ∨
      ∃ i : Nat, (prIn b r look pre.length qs st).1 = (i : Int) ∧ Sel b ps r look i ∧ (st.1 = -1 → pre.length ≤ i ∧ ∀ j, pre.length ≤ j → Sel b ps r look j → i ≤ j) ∧ (st.1 ≠ -1 → st.1 = (i : Int))) ∧
    (∀ c ∈ (prIn b r look pre.length qs st).2, c ∈ st.2 ∨ GoodC b ps r look c) ∧
    (st.1 ≠ -1 → (∃ j, pre.length ≤ j ∧ Sel b ps r look j) → st.2.length < (prIn b r look pre.length qs st).2.length) ∧
    ((∃ i j, pre.length ≤ i ∧ i < j ∧ Sel b ps r look i ∧ Sel b ps r look j) → st.2.length < (prIn b r look pre.length qs st).2.length)
  | [], pre, st, e, hst => by
    have hno : ∀ j, pre.length ≤ j → ¬ Sel b ps r look j := fun j hj h => by
      have := sel_lt h
      rw [← e] at this
      simp at this
      omega
    refine ⟨?_, fun c hc => .inl hc, fun _ ⟨j, hj, h⟩ => absurd h (hno j hj), fun ⟨i, j, hi, _, h, _⟩ => absurd h (hno i hi)⟩
    rcases hst with h | ⟨i, h, hi, hs⟩
    · exact .inl ⟨h, h, hno⟩
    · exact .inr ⟨i, h, hs, fun h2 => by rw [h] at h2; omega, fun _ => h⟩
  | p :: qs, pre, st, e, hst => by
    have hm := sel_mid (b := b) (r := r) (look := look) e
    have hstep : ∀ st' : Int × List Clash, prStep b r look pre.length p st = st' → prIn b r look pre.length (p :: qs) st = prIn b r look (pre ++ [p]).length qs st' := fun st' h => by
      rw [prIn, h, List.length_append, List.length_singleton]
    have hlen : (pre ++ [p]).length = pre.length + 1 := by simp
    by_cases hs : Sel b ps r look pre.length
    · have hc := hm.1 hs
      by_cases hx : st.1 = -1
      · have ih := prIn_inv qs (pre ++ [p]) (((pre.length : Nat) : Int), st.2) (by rw [← e]; simp) (.inr ⟨pre.length, rfl, by simp, hs⟩)
        rw [hstep _ (by rw [prStep, if_pos hc, if_pos (by rw [hx]; decide)])]
        obtain ⟨h1, h2, h3, h4⟩ := ih
        have hne : ((pre.length : Nat) : Int) ≠ -1 := by omega
        refine ⟨?_, h2, fun h => absurd hx h, fun ⟨i, j, hi, hij, hsi, hsj⟩ => h3 hne ⟨j, by rw [hlen]; omega, hsj⟩⟩
        rcases h1 with ⟨_, h5, _⟩ | ⟨i, h5, h6, _, h8⟩
        · exact absurd h5 hne
        · have := h8 hne
          obtain rfl : pre.length = i := by simp only at this; omega
          exact .inr ⟨pre.length, h5, h6, fun _ => ⟨Nat.le_refl _, fun j hj _ => hj⟩, fun h => absurd hx h⟩
      · obtain ⟨i0, hi0, hi0l, hs0⟩ := hst.resolve_left hx
        have ih := prIn_inv qs (pre ++ [p]) (st.1, st.2 ++ [⟨(r : Int), (look : Int), st.1, ((pre.length : Nat) : Int)⟩]) (by rw [← e]; simp) (.inr ⟨i0, hi0, by simp; omega, hs0⟩)
        rw [hstep _ (by rw [prStep, if_pos hc, if_neg (by omega)])]
        obtain ⟨h1, h2, h3, h4⟩ := ih
        have hle := prIn_le b r look qs (pre ++ [p]).length (st.1, st.2 ++ [⟨(r : Int), (look : Int), st.1, ((pre.length : Nat) : Int)⟩])
        simp only [List.length_append, List.length_cons, List.length_nil] at hle
        have hlt : st.2.length < (prIn b r look (pre ++ [p]).length qs (st.1, st.2 ++ [⟨(r : Int), (look : Int), st.1, ((pre.length : Nat) : Int)⟩])).2.length := by
          simp only [List.length_append, List.length_cons, List.length_nil]
          omega
        refine ⟨?_, fun c hc' => ?_, fun _ _ => hlt, fun _ => hlt⟩
        · rcases h1 with ⟨_, h5, _⟩ | ⟨i, h5, h6, _, h8⟩
          · exact absurd h5 hx
          · exact .inr ⟨i, h5, h6, fun h => absurd h hx, fun _ => h8 hx⟩
        · rcases h2 c hc' with h | h
          · rcases List.mem_append.1 h with h | h
            · exact .inl h
            · obtain rfl := List.mem_singleton.1 h
              exact .inr ⟨rfl, rfl, i0, pre.length, hi0, rfl, hi0l, sel_lt hs, hs0, hs⟩
          · exact .inr h
    · have hc : ¬ (p.f0 = (r : Int) ∧ (b.getD pre.length []).getD look false = true) := fun h => hs (hm.2 h)
      have ih := prIn_inv qs (pre ++ [p]) st (by rw [← e]; simp) (hst.imp id (fun ⟨i, h, hi, h2⟩ => ⟨i, h, by simp; omega, h2⟩))
      rw [hstep _ (by rw [prStep, if_neg hc])]
      obtain ⟨h1, h2, h3, h4⟩ := ih
      have hup : ∀ j, pre.length ≤ j → Sel b ps r look j → (pre ++ [p]).length ≤ j := fun j hj h => by
        rw [hlen]
        by_cases he : j = pre.length
        · subst he; exact absurd h hs
        · omega
      refine ⟨?_, h2, fun h ⟨j, hj, h5⟩ => h3 h ⟨j, hup j hj h5, h5⟩, fun ⟨i, j, hi, hij, hsi, hsj⟩ => h4 ⟨i, j, hup i hi hsi, hij, hsi, hsj⟩⟩
      rcases h1 with ⟨h5, h6, h7⟩ | ⟨i, h5, h6, h7, h8⟩
      · exact .inl ⟨h5, h6, fun j hj h => h7 j (hup j hj h) h⟩
      · exact .inr ⟨i, h5, h6, fun h => ⟨by have := (h7 h).1; rw [hlen] at this; omega, fun j hj h9 => (h7 h).2 j (hup j hj h9) h9⟩, h8⟩
theorem prIn_fst : ∀ (qs : List Prod) (i : Nat) (st st' : Int × List Clash), st.1 = st'.1 → (prIn b r look i qs st).1 = (prIn b r look i qs st').1
  | [], _, _, _, h => h
  | p :: qs, i, st, st', h => by
    refine prIn_fst qs (i + 1) _ _ ?_
    unfold prStep
    rw [← h]
    split
    · split
      · rfl
      · exact rfl
    · exact h
end
def tk (b : List (List Bool)) (ps : List Prod) (r look : Nat) : Int := (prIn b r look 0 ps (-1, [])).1
theorem tk_spec (b : List (List Bool)) (ps : List Prod) (r look : Nat) : (tk b ps r look = -1 ∧ ∀ j, ¬ Sel b ps r look j) ∨ ∃ i : Nat, tk b ps r look = (i : Int) ∧ Sel b ps r look i ∧ ∀ j, Sel b ps r look j → i ≤ j := by
 rcases (prIn_inv (b := b) (ps := ps) (r := r) (look := look) ps [] (-1, []) rfl (.inl rfl)).1 with ⟨h, _, h2⟩ | ⟨i, h, h2, h3, _⟩
 · exact .inl ⟨h, fun j => h2 j (Nat.zero_le _)⟩
 · exact .inr ⟨i, h, h2, fun j hj => (h3 rfl).2 j (Nat.zero_le _) hj⟩
theorem pRow_getD (b : List (List Bool)) (ps : List Prod) (r : Nat) : ∀ (n look : Nat) (bad : List Clash) (j : Nat), j < n → (pRow b ps r n look bad).1.getD j 0 = tk b ps r (look + j)
  | 0, _, _, j, h => absurd h (by omega)
  | n + 1, look, bad, 0, _ => prIn_fst ps 0 _ _ rfl
  | n + 1, look, bad, j + 1, h => by
    have ih := pRow_getD b ps r n (look + 1) (prIn b r look 0 ps (-1, bad)).2 j (by omega)
    rw [pRow, List.getD_cons_succ, ih, show look + 1 + j = look + (j + 1) by omega]
theorem pAll_getD (b : List (List Bool)) (ps : List Prod) (w : Nat) : ∀ (n r : Nat) (bad : List Clash) (i : Nat), i < n → ((pAll b ps w n r bad).1.getD i []).length = w ∧ ∀ j, j < w → ((pAll b ps w n r bad).1.getD i []).getD j 0 = tk b ps (r + i) j
  | 0, _, _, i, h => absurd h (by omega)
  | n + 1, r, bad, 0, _ => by
    rw [pAll, List.getD_cons_zero]
    refine ⟨(pRow_max b ps r w 0 bad).1, fun j hj => ?_⟩
    rw [pRow_getD b ps r w 0 bad j hj]; simp
  | n + 1, r, bad, i + 1, h => by
    have ih := pAll_getD b ps w n (r + 1) (pRow b ps r w 0 bad).2 i (by omega)
    rw [pAll, List.getD_cons_succ]
    refine ⟨ih.1, fun j hj => ?_⟩
    rw [ih.2 j hj, show r + 1 + i = r + (i + 1) by omega]
section
variable {nn nt : Nat} {ps : List Prod}
def SelD (nn nt : Nat) (ps : List Prod) (r look i : Nat) : Prop := ∃ p, ps[i]? = some p ∧ p.f0 = (r : Int) ∧ (look : Int) ∈ sel nn nt ps p
theorem selD_iff (hps : ps.all (okProd nn nt) = true) (r look i : Nat) : Sel (ps.map (chRow nn nt ps)) ps r look i ↔ SelD nn nt ps r look i := by
 have hb : ∀ p, ps[i]? = some p → ((ps.map (chRow nn nt ps)).getD i []).getD look false = decide ((look : Int) ∈ sel nn nt ps p) := fun p hp => by
  have e : (ps.map (chRow nn nt ps)).getD i [] = chRow nn nt ps p := by rw [List.getD_eq_getElem?_getD, List.getElem?_map, hp]; rfl
  rw [e]
  exact chRow_getD hps p look
 constructor
 · rintro ⟨p, h1, h2, h3⟩
   rw [hb p h1] at h3
   exact ⟨p, h1, h2, of_decide_eq_true h3⟩
 · rintro ⟨p, h1, h2, h3⟩
   exact ⟨p, h1, h2, by rw [hb p h1]; exact decide_eq_true h3⟩
theorem dPredict_table (hps : ps.all (okProd nn nt) = true) : (dPredict nn nt ps).1.length = nn ∧ ∀ r, r < nn → ((dPredict nn nt ps).1.getD r []).length = nt + 1 ∧ ∀ look, look ≤ nt →
    (((dPredict nn nt ps).1.getD r []).getD look 0 = -1 ∧ ∀ j, ¬ SelD nn nt ps r look j) ∨ ∃ i : Nat, ((dPredict nn nt ps).1.getD r []).getD look 0 = (i : Int) ∧ SelD nn nt ps r look i ∧ ∀ j, SelD nn nt ps r look j → i ≤ j := by
 have e : dPredict nn nt ps = pAll (ps.map (chRow nn nt ps)) ps (nt + 1) nn 0 [] := by rw [dPredict, if_pos hps]
 rw [e]
 refine ⟨(pAll_max _ ps (nt + 1) nn 0 []).1, fun r hr => ?_⟩
 obtain ⟨h1, h2⟩ := pAll_getD (ps.map (chRow nn nt ps)) ps (nt + 1) nn 0 [] r hr
 refine ⟨h1, fun look hl => ?_⟩
 rw [h2 look (by omega), Nat.zero_add]
 rcases tk_spec (ps.map (chRow nn nt ps)) ps r look with ⟨h, h3⟩ | ⟨i, h, h3, h4⟩
 · exact .inl ⟨h, fun j hj => h3 j ((selD_iff hps r look j).2 hj)⟩
 · exact .inr ⟨i, h, (selD_iff hps r look i).1 h3, fun j hj => h4 j ((selD_iff hps r look j).2 hj)⟩
end
end Go.Proofs.Ytfdcfihcfegekaa.M
end

section
namespace Go.Proofs.Ytfdcfihcfegekaa.Pure
open Go.RowKit Go.Proofs.Ytfdcfihcfegekaa.P Go.Proofs.YtfdcfihcfegekaaW.PrintWords Go.Proofs.YtfdcfihcfegekaaW.PrintLast Go.Proofs.YtfdcfihcfegekaaW.PrintMore Go.Proofs.Ytfdcfihcfegekaa.H Go.Proofs.Ytfdcfihcfegekaa.M
section
variable {ns : List ByteArray} {ts : List Tok} {ps : List M.Prod}
theorem rowsLaw_l1_ev (hm : MadeOk ns ts ps) {p : M.Prod} {i : Nat} (hp : ps[i]? = some p) {R : Bool} (hR : Ev (fun k => regletlaw14_PredictRows.l0 k true (dPredict ns.length ts.length ps).1 (wrap64 ((i : Int) + 1)) ns ts 0 0 ps) R) : ∀ (a pre : List Int), (∀ x ∈ a, 0 ≤ x ∧ x < ((ts.length + 1 : Nat) : Int) ∧ x ∈ sel ns.length ts.length ps p) → pre.length + a.length ≤ 1000000 →
    Ev (fun k => regletlaw14_PredictRows.l1 k true (dPredict ns.length ts.length ps).1 (i : Int) (pre ++ a) (pre.length : Int) ns ts 0 0 ps p.f0 p.f1) R
  | [], pre, _, _ => Ev.step (fun k => by rw [regletlaw14_PredictRows.l1]) (Ev.neg (by simp) hR)
  | x :: a, pre, hs, h3 => by
    simp only [List.length_cons] at h3
    have ih := rowsLaw_l1_ev hm hp hR a (pre ++ [x]) (fun y hy => hs y (List.mem_cons_of_mem _ hy)) (by simp; omega)
    simp only [← wrap_next pre _ (show pre.length ≤ 1000000 by omega), List.append_assoc, List.singleton_append] at ih
    obtain ⟨h0, h1, h2⟩ := hs x List.mem_cons_self
    have hokp := List.all_eq_true.1 hm.ok p (List.mem_of_getElem? hp)
    obtain ⟨hl0, hl1⟩ := okProd_left hokp
    obtain ⟨ht1, ht2⟩ := dPredict_table hm.ok
    obtain ⟨ht3, ht4⟩ := ht2 p.f0.toNat (by omega)
    have hrow : rd_L3 (dPredict ns.length ts.length ps).1 p.f0 = (dPredict ns.length ts.length ps).1.getD p.f0.toNat [] := rfl
    have hrd : rd ((dPredict ns.length ts.length ps).1.getD p.f0.toNat []) x = ((dPredict ns.length ts.length ps).1.getD p.f0.toNat []).getD x.toNat 0 := rfl
    have hsel : SelD ns.length ts.length ps p.f0.toNat x.toNat i := ⟨p, hp, by omega, by rw [show ((x.toNat : Nat) : Int) = x by omega]; exact h2⟩
    obtain ⟨i0, he, ⟨q, hq, hq0, hq1⟩, hmin⟩ := (ht4 x.toNat (by omega)).resolve_left (fun hc => hc.2 i hsel)
    have hi0 := hmin i hsel
    have hq2 := (List.getElem?_eq_some_iff.1 hq).1
    have hrq : rd_T30 ps (i0 : Int) = q := by rw [rd_T30, Int.toNat_natCast, List.getD_eq_getElem?_getD, hq]; rfl
    refine Ev.step (fun k => by rw [regletlaw14_PredictRows.l1]) (Ev.pos (by simp; omega) (Ev.pos hl0 (Ev.pos (by rw [ht1]; exact hl1) (Ev.pos (by omega) ?_))))
    rw [show rd (pre ++ x :: a) (pre.length : Int) = x from getD_mid _ pre x a _ rfl, hrow, hrd, he, ht3, hrq]
    exact Ev.pos h0 (Ev.pos h1 (Ev.neg (by omega) (Ev.neg (by omega) (Ev.pos (by omega) (Ev.pos (by omega) (Ev.pos (by omega) ih))))))
theorem rowsLaw_l0_ev (hm : MadeOk ns ts ps) : ∀ (qs pre : List M.Prod), pre ++ qs = ps → Ev (fun k => regletlaw14_PredictRows.l0 k true (dPredict ns.length ts.length ps).1 (pre.length : Int) ns ts 0 0 ps) true
  | [], pre, e => by
    have hz : ¬ (pre.length : Int) < (ps.length : Int) := by rw [← e]; simp
    exact Ev.step (fun k => by rw [regletlaw14_PredictRows.l0]) (Ev.neg hz (Ev.some rfl))
  | p :: qs, pre, e => by
    have hlen : ps.length = pre.length + (qs.length + 1) := by rw [← e]; simp
    have hp10 := hm.p10
    have hn5 := hm.n5
    have ht4 := hm.t4
    have ih := rowsLaw_l0_ev hm qs (pre ++ [p]) (by rw [← e]; simp)
    rw [← wrap_next pre _ (by omega)] at ih
    have hp : ps[pre.length]? = some p := by rw [← e]; simp
    have hmem := List.mem_of_getElem? hp
    obtain ⟨hl0, hl1⟩ := okProd_left (List.all_eq_true.1 hm.ok p hmem)
    obtain ⟨ht1, ht2⟩ := dPredict_table hm.ok
    have hrd : rd_T30 ps (pre.length : Int) = p := by rw [← e]; exact getD_mid _ pre p qs _ rfl
    have hr := of_range hm.ok p.f1
    refine Ev.step (fun k => by rw [regletlaw14_PredictRows.l0]) (Ev.pos (by omega) (Ev.pos (by omega) ?_))
    rw [hrd]
    refine Ev.bind (refOf_ev ns ts 0 0 ps hm.small (by omega) (by omega) p.f1 (by have := hm.r3 p hmem; omega)) ?_
    refine Ev.pos hl0 (Ev.pos (by rw [ht1]; exact hl1) (Ev.pos ?_ ?_))
    · have := (ht2 p.f0.toNat (by omega)).1
      rw [rd_L3, this, wrap64_id (by omega) (by omega)]; omega
    · exact rowsLaw_l1_ev hm hp ih (dOf ns.length ts.length ps p.f1).1 [] (fun x hx => ⟨(hr.2 x hx).1, (hr.2 x hx).2, List.mem_append_left _ hx⟩) (by have := hr.1; rw [List.length_nil, Nat.zero_add]; exact Nat.le_trans this (by omega))
end
theorem PredictRows : regletlaw14_PredictRows.Pure := by
 intro l0 _ _ hw
 obtain ⟨ns, ts, ps, hm, hM⟩ := made_ev hw
 have hp10 := hm.p10
 have hn5 := hm.n5
 have ht4 := hm.t4
 apply Ev.rounds
 unfold regletlaw14_PredictRows.f
 refine Ev.bind awake14_ev (Ev.pos rfl (Ev.bind hM (Ev.bind (predict_ev ns ts 0 0 ps hm.small (by omega) (by omega) (by omega)) (Ev.pos ?_ ?_))))
 · rw [(dPredict_table hm.ok).1]
 · exact rowsLaw_l0_ev hm ps [] rfl
end Go.Proofs.Ytfdcfihcfegekaa.Pure
end
