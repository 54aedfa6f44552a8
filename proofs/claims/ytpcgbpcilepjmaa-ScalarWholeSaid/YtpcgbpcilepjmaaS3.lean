/- The pure part of the scalar layer: how a range is parted, and what Sequences answers. -/
import Derived.Test.YtpcgbpcilepjmaaS2
namespace Go.Proofs.Ytpcgbpcilepjmaa.S
open Go.RowKit Go.Proofs.Ytpcgbpcilepjmaa.P Go.Proofs.YtpcgbpcilepjmaaW.PrintWords Go.Proofs.YtpcgbpcilepjmaaW.PrintLast Go.Proofs.YtpcgbpcilepjmaaW.PrintMore Go.Proofs.Ytpcgbpcilepjmaa.H

/-! ### pairs -/
theorem replicate_toNat (n : Nat) : (((n : Int) : Int).toNat) = n := by omega
theorem zr_len (a b : List Int) (h : a.length = b.length) : (zr a b).length = a.length := by simp [zr, h]
theorem pairs_l0 (a b : List Int) (h : a.length = b.length) (hs : a.length ≤ 4) (d : Nat) : ∀ (xs : List S40) (i : Nat), xs.length = a.length → i + d = a.length →
    Ev (fun k => scalar_pairs.l0 k a b xs (a.length : Int) (i : Int)) (xs.take i ++ (zr a b).drop i) := by
  induction d with
  | zero =>
    intro xs i hx hi
    refine Ev.step (fun k => by rw [scalar_pairs.l0]) ?_
    refine Ev.neg (by omega) (Ev.some ?_)
    rw [List.take_of_length_le (by omega), List.drop_of_length_le (by rw [zr_len a b h]; omega)]; simp
  | succ d ih =>
    intro xs i hx hi
    have h1 : i < a.length := by omega
    have h2 : i < b.length := by omega
    have h3 : i < (zr a b).length := by rw [zr_len a b h]; omega
    refine Ev.step (fun k => by rw [scalar_pairs.l0]) ?_
    refine Ev.pos (by omega) (Ev.pos (by omega) (Ev.pos (by omega) (Ev.pos (by omega) (Ev.pos (by omega) ?_))))
    rw [rd_get a i h1, rd_get b i h2, wrap64_id (x := (i : Int) + 1) (by omega) (by omega)]
    refine Ev.val (ih (xs.set (i : Int).toNat ⟨a[i], b[i]⟩) (i + 1) (by simpa using hx) (by omega)) ?_
    rw [Int.toNat_natCast, List.drop_eq_getElem_cons h3, List.take_set, List.take_succ_eq_append_getElem (by omega)]
    rw [List.set_append_right _ _ (by rw [List.length_take]; omega)]
    have e : (zr a b)[i] = ⟨a[i], b[i]⟩ := by simp [zr]
    rw [e]
    simp [show min i xs.length = i by omega]

theorem pairs_ev {n : Nat} {lo hi : Int} (h : cls n lo hi) (hle : lo ≤ hi) : Ev (fun k => scalar_pairs.f k lo hi) (zr (bs lo) (bs hi)) := by
  have l1 := bs_len h (Int.le_refl lo) hle
  have l2 := bs_len h hle (Int.le_refl hi)
  have hn : n ≤ 4 := by unfold cls at h; split at h <;> first | omega | exact h.elim
  unfold scalar_pairs.f
  refine Ev.bind (bytes_ev lo) (Ev.bind (bytes_ev hi) ?_)
  refine Ev.pos (by omega) (Ev.pos (by omega) ?_)
  exact Ev.val (pairs_l0 (bs lo) (bs hi) (by omega) (by omega) (bs lo).length _ 0 (by simp) (by omega)) (by simp)

/-! ### one step of part -/
theorem shl_eq {j : Nat} (hj : j = 1 ∨ j = 2 ∨ j = 3) : wrap64 ((shl .i64 1 ((6 * j : Nat) : Int)) - 1) = Q j - 1 := by
  rcases hj with rfl | rfl | rfl <;> decide +kernel
theorem shr_eq {j : Nat} (hj : j = 1 ∨ j = 2 ∨ j = 3) (x : Int) : shr .i64 x ((6 * j : Nat) : Int) = x / Q j := by
  rcases hj with rfl | rfl | rfl <;> simp [shr, Q, IntKind.bits]
theorem and_eq {j : Nat} (hj : j = 1 ∨ j = 2 ∨ j = 3) {x : Int} (h0 : 0 ≤ x) (h1 : x ≤ 1114111) : Go.bits .and .i64 x (Q j - 1) = x % Q j := by
  rcases hj with rfl | rfl | rfl
  · exact and_mask 6 (by decide) h0 (by omega)
  · exact and_mask 12 (by decide) h0 (by omega)
  · exact and_mask 18 (by decide) h0 (by omega)
theorem or_eq {j : Nat} (hj : j = 1 ∨ j = 2 ∨ j = 3) {x : Int} (h0 : 0 ≤ x) (h1 : x ≤ 1114111) : Go.bits .or .i64 x (Q j - 1) = x - x % Q j + (Q j - 1) := by
  rcases hj with rfl | rfl | rfl
  · exact or_mask 6 (by decide) h0 (by omega)
  · exact or_mask 12 (by decide) h0 (by omega)
  · exact or_mask 18 (by decide) h0 (by omega)
theorem andNot_eq {j : Nat} (hj : j = 1 ∨ j = 2 ∨ j = 3) {x : Int} (h0 : 0 ≤ x) (h1 : x ≤ 1114111) : Go.bits .andNot .i64 x (Q j - 1) = x - x % Q j := by
  rcases hj with rfl | rfl | rfl
  · exact andNot_mask 6 h0 (by omega)
  · exact andNot_mask 12 h0 (by omega)
  · exact andNot_mask 18 h0 (by omega)
theorem sub_eq {j : Nat} (hj : j = 1 ∨ j = 2 ∨ j = 3) : wrap64 (((6 * j : Nat) : Int) - 6) = ((6 * (j - 1) : Nat) : Int) := by
  rcases hj with rfl | rfl | rfl <;> decide +kernel
theorem Q_cases {j : Nat} (hj : j = 1 ∨ j = 2 ∨ j = 3) : Q j = 64 ∨ Q j = 4096 ∨ Q j = 262144 := by
  rcases hj with rfl | rfl | rfl <;> simp [Q]

theorem part_zero {lo hi : Int} {p : List S40} (h : lo ≤ hi) (k : Ev (fun k => scalar_pairs.f k lo hi) p) : Ev (fun k => scalar_part.f k lo hi 0) [p] := by
  refine Ev.step (fun k => by rw [scalar_part.f]) ?_
  refine Ev.neg (by omega) (Ev.pos rfl ?_)
  refine Ev.step (fun k => by rw [scalar_part.j0]) ?_
  exact Ev.pos rfl (Ev.pos rfl (Ev.bind k (Ev.some rfl)))
theorem part_same {j : Nat} (hj : j = 1 ∨ j = 2 ∨ j = 3) {lo hi : Int} {s : List (List S40)} (h : lo ≤ hi) (e : lo / Q j = hi / Q j)
    (k : Ev (fun k => scalar_part.f k lo hi ((6 * (j - 1) : Nat) : Int)) s) : Ev (fun k => scalar_part.f k lo hi ((6 * j : Nat) : Int)) s := by
  refine Ev.step (fun k => by rw [scalar_part.f]) ?_
  refine Ev.neg (by omega) (Ev.neg (by omega) (Ev.pos (by omega) ?_))
  refine Ev.step (fun k => by rw [scalar_part.j0]) ?_
  rw [shr_eq hj, shr_eq hj, sub_eq hj]
  exact Ev.pos (by simp [e]) (Ev.neg (by omega) (Ev.bind k (Ev.now _)))
theorem part_head {j : Nat} (hj : j = 1 ∨ j = 2 ∨ j = 3) {lo hi : Int} {s t : List (List S40)} (h : lo ≤ hi) (h0 : 0 ≤ lo) (h1 : hi ≤ 1114111) (e : ¬ lo / Q j = hi / Q j) (u : ¬ lo % Q j = 0)
    (k : Ev (fun k => scalar_part.f k lo (lo - lo % Q j + (Q j - 1)) ((6 * (j - 1) : Nat) : Int)) s) (k' : Ev (fun k => scalar_part.f k (lo - lo % Q j + (Q j - 1) + 1) hi ((6 * j : Nat) : Int)) t) (hst : s.length + t.length ≤ 100) :
    Ev (fun k => scalar_part.f k lo hi ((6 * j : Nat) : Int)) (s ++ t) := by
  refine Ev.step (fun k => by rw [scalar_part.f]) ?_
  refine Ev.neg (by omega) (Ev.neg (by omega) (Ev.pos (by omega) ?_))
  refine Ev.step (fun k => by rw [scalar_part.j0]) ?_
  rw [shr_eq hj, shr_eq hj, sub_eq hj, shl_eq hj, and_eq hj h0 (by omega), or_eq hj h0 (by omega), wrap64_id (x := lo - lo % Q j + (Q j - 1) + 1) (by rcases Q_cases hj with q | q | q <;> rw [q] <;> omega) (by rcases Q_cases hj with q | q | q <;> rw [q] <;> omega)]
  exact Ev.neg (by simp [e]) (Ev.pos (by omega) (Ev.neg u (Ev.bind k (Ev.bind k' (Ev.pos (by omega) (Ev.now _))))))
theorem part_tail {j : Nat} (hj : j = 1 ∨ j = 2 ∨ j = 3) {lo hi : Int} {s t : List (List S40)} (h : lo ≤ hi) (h0 : 0 ≤ lo) (h1 : hi ≤ 1114111) (e : ¬ lo / Q j = hi / Q j) (u : lo % Q j = 0) (v : ¬ hi % Q j = Q j - 1)
    (k : Ev (fun k => scalar_part.f k lo (hi - hi % Q j - 1) ((6 * j : Nat) : Int)) s) (k' : Ev (fun k => scalar_part.f k (hi - hi % Q j) hi ((6 * (j - 1) : Nat) : Int)) t) (hst : s.length + t.length ≤ 100) :
    Ev (fun k => scalar_part.f k lo hi ((6 * j : Nat) : Int)) (s ++ t) := by
  refine Ev.step (fun k => by rw [scalar_part.f]) ?_
  refine Ev.neg (by omega) (Ev.neg (by omega) (Ev.pos (by omega) ?_))
  refine Ev.step (fun k => by rw [scalar_part.j0]) ?_
  rw [shr_eq hj, shr_eq hj, sub_eq hj, shl_eq hj, and_eq hj h0 (by omega), and_eq hj (x := hi) (by omega) (by omega), andNot_eq hj (x := hi) (by omega) (by omega), wrap64_id (x := hi - hi % Q j - 1) (by rcases Q_cases hj with q | q | q <;> rw [q] <;> omega) (by rcases Q_cases hj with q | q | q <;> rw [q] <;> omega)]
  exact Ev.neg (by simp [e]) (Ev.pos (by omega) (Ev.pos u (Ev.neg v (Ev.bind k (Ev.bind k' (Ev.pos (by omega) (Ev.now _)))))))
theorem part_full {j : Nat} (hj : j = 1 ∨ j = 2 ∨ j = 3) {lo hi : Int} {p : List S40} (h : lo ≤ hi) (h0 : 0 ≤ lo) (h1 : hi ≤ 1114111) (e : ¬ lo / Q j = hi / Q j) (u : lo % Q j = 0) (v : hi % Q j = Q j - 1)
    (k : Ev (fun k => scalar_pairs.f k lo hi) p) : Ev (fun k => scalar_part.f k lo hi ((6 * j : Nat) : Int)) [p] := by
  refine Ev.step (fun k => by rw [scalar_part.f]) ?_
  refine Ev.neg (by omega) (Ev.neg (by omega) (Ev.pos (by omega) ?_))
  refine Ev.step (fun k => by rw [scalar_part.j0]) ?_
  rw [shr_eq hj, shr_eq hj, sub_eq hj, shl_eq hj, and_eq hj h0 (by omega), and_eq hj (x := hi) (by omega) (by omega)]
  exact Ev.neg (by simp [e]) (Ev.pos (by omega) (Ev.pos u (Ev.pos v (Ev.bind k (Ev.some rfl)))))

/-! ### the whole of part: what it answers, and how long that is -/
structure Pt (j : Nat) (lo hi : Int) (s : List (List S40)) : Prop where
  ev : Ev (fun k => scalar_part.f k lo hi ((6 * j : Nat) : Int)) s
  sp : Sp lo hi s
  any : s.length ≤ 2 * j + 1
  low : lo % Q j = 0 → s.length ≤ j + 1
  high : hi % Q j = Q j - 1 → s.length ≤ j + 1
  both : lo % Q j = 0 → hi % Q j = Q j - 1 → s.length ≤ 1
  one : lo = hi → s.length ≤ 1
/-- A list of pairs is just the range where digits below j run freely. -/
theorem exact_j {n j : Nat} {lo hi : Int} (hn : j < n ∧ n ≤ 4) (h : cls n lo hi) (hle : lo ≤ hi) (f : n = j + 1 ∨ lo / Q (j + 1) = hi / Q (j + 1)) (u : lo % Q j = 0) (v : hi % Q j = Q j - 1) : Sp lo hi [zr (bs lo) (bs hi)] := by
  obtain ⟨h1, h2⟩ := hn
  have hb := cls_bd h
  rcases (show n = 1 ∨ n = 2 ∨ n = 3 ∨ n = 4 by omega) with rfl | rfl | rfl | rfl
  · exact exact_1 h hle
  · rcases (show j = 0 ∨ j = 1 by omega) with rfl | rfl <;> simp only [Q] at f u v
    · exact exact_2 h hle (by omega)
    · exact exact_2 h hle (by omega)
  · rcases (show j = 0 ∨ j = 1 ∨ j = 2 by omega) with rfl | rfl | rfl <;> simp only [Q] at f u v
    · exact exact_3 h hle (by omega)
    · exact exact_3 h hle (by omega)
    · exact exact_3 h hle (by omega)
  · rcases (show j = 0 ∨ j = 1 ∨ j = 2 ∨ j = 3 by omega) with rfl | rfl | rfl | rfl <;> simp only [Q] at f u v
    · exact exact_4 h hle (by omega)
    · exact exact_4 h hle (by omega)
    · exact exact_4 h hle (by omega)
    · exact exact_4 h hle (by omega)

theorem part_all {n : Nat} (j : Nat) : ∀ (lo hi : Int), j < n ∧ n ≤ 4 → cls n lo hi → lo ≤ hi → (n = j + 1 ∨ lo / Q (j + 1) = hi / Q (j + 1)) → ∃ s, Pt j lo hi s := by
  induction j with
  | zero =>
    intro lo hi hn h hle f
    have hs := exact_j hn h hle f (by simp only [Q]; omega) (by simp only [Q]; omega)
    exact ⟨[zr (bs lo) (bs hi)], part_zero hle (pairs_ev h hle), hs, by simp, fun _ => by simp, fun _ => by simp, fun _ _ => by simp, fun _ => by simp⟩
  | succ i ih =>
    intro lo hi hn h hle f
    obtain ⟨j, rfl⟩ : ∃ j, j = i + 1 := ⟨_, rfl⟩
    have hj : i + 1 = 1 ∨ i + 1 = 2 ∨ i + 1 = 3 := by omega
    have hb := cls_bd h
    have hQ : Q (i + 1) = 64 * Q i := by rcases hj with e | e | e <;> obtain rfl : i = _ := Nat.succ.inj e <;> rfl
    have hQ0 : 0 < Q i ∧ (Q i = 1 ∨ Q i = 64 ∨ Q i = 4096) := by rcases hj with e | e | e <;> obtain rfl : i = _ := Nat.succ.inj e <;> simp [Q]
    have hi' : i < n ∧ n ≤ 4 := by omega
    -- one block
    have same : ∀ lo hi : Int, cls n lo hi → lo ≤ hi → lo / Q (i + 1) = hi / Q (i + 1) → ∃ s, Pt (i + 1) lo hi s ∧ Pt i lo hi s := by
      intro lo hi h hle e
      obtain ⟨s, p⟩ := ih lo hi hi' h hle (.inr e)
      refine ⟨s, ⟨part_same hj hle e p.ev, p.sp, by have := p.any; omega, fun u => ?_, fun v => ?_, fun u v => ?_, p.one⟩, p⟩
      · have := p.low (by rw [hQ] at u; rcases hQ0.2 with q | q | q <;> rw [q] at u ⊢ <;> omega); omega
      · have := p.high (by rw [hQ] at v; rcases hQ0.2 with q | q | q <;> rw [q] at v ⊢ <;> omega); omega
      · exact p.both (by rw [hQ] at u; rcases hQ0.2 with q | q | q <;> rw [q] at u ⊢ <;> omega) (by rw [hQ] at v; rcases hQ0.2 with q | q | q <;> rw [q] at v ⊢ <;> omega)
    -- both ends whole
    have full : ∀ lo hi : Int, cls n lo hi → lo ≤ hi → (n = i + 1 + 1 ∨ lo / Q (i + 1 + 1) = hi / Q (i + 1 + 1)) → lo % Q (i + 1) = 0 → hi % Q (i + 1) = Q (i + 1) - 1 → ∃ s, Pt (i + 1) lo hi s := by
      intro lo hi h hle f u v
      have hb := cls_bd h
      by_cases e : lo / Q (i + 1) = hi / Q (i + 1)
      · obtain ⟨s, p, _⟩ := same lo hi h hle e
        exact ⟨s, p⟩
      · exact ⟨[zr (bs lo) (bs hi)], part_full hj hle hb.1 hb.2 e u v (pairs_ev h hle), exact_j hn h hle f u v, by simp, fun _ => by simp, fun _ => by simp, fun _ _ => by simp, fun _ => by simp⟩
    -- the lower end whole
    have low : ∀ lo hi : Int, cls n lo hi → lo ≤ hi → (n = i + 1 + 1 ∨ lo / Q (i + 1 + 1) = hi / Q (i + 1 + 1)) → lo % Q (i + 1) = 0 → ∃ s, Pt (i + 1) lo hi s := by
      intro lo hi h hle f u
      have hb := cls_bd h
      by_cases e : lo / Q (i + 1) = hi / Q (i + 1)
      · obtain ⟨s, p, _⟩ := same lo hi h hle e
        exact ⟨s, p⟩
      · by_cases v : hi % Q (i + 1) = Q (i + 1) - 1
        · exact full lo hi h hle f u v
        · have a1 : lo ≤ hi - hi % Q (i + 1) - 1 := by rcases Q_cases hj with q | q | q <;> rw [q] at u v e ⊢ <;> omega
          have a2 : hi - hi % Q (i + 1) ≤ hi := by rcases Q_cases hj with q | q | q <;> rw [q] at u v e ⊢ <;> omega
          have a3 : (hi - hi % Q (i + 1)) / Q (i + 1) = hi / Q (i + 1) := by rcases Q_cases hj with q | q | q <;> rw [q] at u v e ⊢ <;> omega
          have a4 : (hi - hi % Q (i + 1)) % Q i = 0 := by rw [hQ]; rcases hQ0.2 with q | q | q <;> rw [q] <;> omega
          have a5 : (hi - hi % Q (i + 1) - 1) % Q (i + 1) = Q (i + 1) - 1 := by rcases Q_cases hj with q | q | q <;> rw [q] at u v e ⊢ <;> omega
          have a6 : n = i + 1 + 1 ∨ lo / Q (i + 1 + 1) = (hi - hi % Q (i + 1) - 1) / Q (i + 1 + 1) := by
            rcases f with f | f
            · exact .inl f
            · right
              rcases hj with q | q | q <;> obtain rfl : i = _ := Nat.succ.inj q <;> simp only [Q] at * <;> omega
          obtain ⟨s, p⟩ := full lo (hi - hi % Q (i + 1) - 1) (cls_sub h (Int.le_refl _) (by omega)) a1 a6 u a5
          obtain ⟨t, r⟩ := ih (hi - hi % Q (i + 1)) hi hi' (cls_sub h (by omega) (Int.le_refl _)) a2 (.inr a3)
          have l1 := p.both u a5
          have l2 := r.low a4
          refine ⟨s ++ t, part_tail hj hle hb.1 hb.2 e u v p.ev r.ev (by omega), Sp.append p.sp (by have := r.sp; rwa [show hi - hi % Q (i + 1) - 1 + 1 = hi - hi % Q (i + 1) by omega]) (by omega) (by omega), ?_, fun _ => ?_, fun v' => absurd v' v, fun _ v' => absurd v' v, fun q => absurd (by rw [q]) e⟩
          · rw [List.length_append]; omega
          · rw [List.length_append]; omega
    by_cases u : lo % Q (i + 1) = 0
    · exact low lo hi h hle f u
    · by_cases e : lo / Q (i + 1) = hi / Q (i + 1)
      · obtain ⟨s, p, _⟩ := same lo hi h hle e
        exact ⟨s, p⟩
      · have a1 : lo ≤ lo - lo % Q (i + 1) + (Q (i + 1) - 1) := by rcases Q_cases hj with q | q | q <;> rw [q] at u e ⊢ <;> omega
        have a2 : lo - lo % Q (i + 1) + (Q (i + 1) - 1) + 1 ≤ hi := by rcases Q_cases hj with q | q | q <;> rw [q] at u e ⊢ <;> omega
        have a3 : lo / Q (i + 1) = (lo - lo % Q (i + 1) + (Q (i + 1) - 1)) / Q (i + 1) := by rcases Q_cases hj with q | q | q <;> rw [q] at u e ⊢ <;> omega
        have a4 : (lo - lo % Q (i + 1) + (Q (i + 1) - 1)) % Q i = Q i - 1 := by rw [hQ]; rcases hQ0.2 with q | q | q <;> rw [q] <;> omega
        have a5 : (lo - lo % Q (i + 1) + (Q (i + 1) - 1) + 1) % Q (i + 1) = 0 := by rcases Q_cases hj with q | q | q <;> rw [q] at u e ⊢ <;> omega
        have a6 : n = i + 1 + 1 ∨ (lo - lo % Q (i + 1) + (Q (i + 1) - 1) + 1) / Q (i + 1 + 1) = hi / Q (i + 1 + 1) := by
          rcases f with f | f
          · exact .inl f
          · right
            rcases hj with q | q | q <;> obtain rfl : i = _ := Nat.succ.inj q <;> simp only [Q] at * <;> omega
        obtain ⟨s, p⟩ := ih lo (lo - lo % Q (i + 1) + (Q (i + 1) - 1)) hi' (cls_sub h (Int.le_refl _) (by omega)) a1 (.inr a3)
        obtain ⟨t, r⟩ := low (lo - lo % Q (i + 1) + (Q (i + 1) - 1) + 1) hi (cls_sub h (by omega) (Int.le_refl _)) a2 a6 a5
        have l1 := p.high a4
        have l2 := r.low a5
        refine ⟨s ++ t, part_head hj hle hb.1 hb.2 e u p.ev r.ev (by omega), Sp.append p.sp r.sp (by omega) (by omega), ?_, fun u' => absurd u' u, fun v => ?_, fun u' => absurd u' u, fun q => absurd (by rw [q]) e⟩
        · rw [List.length_append]; omega
        · have l3 := r.both a5 v
          rw [List.length_append]; omega

end Go.Proofs.Ytpcgbpcilepjmaa.S
