/- Packed texts of this claim: the walks of the functions, and their plain laws; see the claim's last text. -/
import Derived.Test.YtojdjjbkpbapfaaKFirstsFollow2
section
namespace Go.Proofs.Ytojdjjbkpbapfaa.M
open Go.RowKit Go.Proofs.YtojdjjbkpbapfaaW.PrintWords Go.Proofs.YtojdjjbkpbapfaaW.PrintLast Go.Proofs.YtojdjjbkpbapfaaW.PrintMore Go.Proofs.Ytojdjjbkpbapfaa.P Go.Proofs.Ytojdjjbkpbapfaa.H
set_option linter.unusedVariables false
set_option linter.unusedSimpArgs false
def rows0 (nn nt : Nat) : List (List Bool) := List.replicate nn (none0 nt)
theorem rows0_sh (nn nt : Nat) : Sh nn nt (rows0 nn nt) := ⟨by simp [rows0], fun r hr => by rw [List.eq_of_mem_replicate hr]; simp [none0]⟩
def sStep (nt : Nat) (em : List Bool) (m : List (List Bool)) (p : Prod) : Bool × List (List Bool) :=
  (moreL (m.getD p.f0.toNat []) (bg em m p.f1 (none0 nt)).1, m.set p.f0.toNat (orL (m.getD p.f0.toNat []) (bg em m p.f1 (none0 nt)).1))
theorem none0_length (nt : Nat) : (none0 nt).length = nt + 1 := by simp [none0]
theorem row_step {nn nt : Nat} {m : List (List Bool)} (hs : Sh nn nt m) {i : Nat} (hi : i < nn) {b : List Bool} (hb : b.length = nt + 1) : Sh nn nt (m.set i (orL (m.getD i []) b)) ∧ cfs (m.set i (orL (m.getD i []) b)) ≤ cfs m ∧ (moreL (m.getD i []) b = true → cfs (m.set i (orL (m.getD i []) b)) < cfs m) := by
  have hr := hs.get hi
  have h1 := cf_orL (m.getD i []) b (by rw [hr, hb])
  have h2 := cfs_set m i (orL (m.getD i []) b) (by rw [hs.1]; exact hi) h1.1
  exact ⟨hs.set i (by rw [orL_length (by rw [hr, hb]), hr]), h2.1, fun h => h2.2 (h1.2 h)⟩
theorem sStep_good {nn nt : Nat} (em : List Bool) {ps : List Prod} (hps : ps.all (okProd nn nt) = true) : Good (Sh nn nt) cfs (sStep nt em) ps := by
  intro st p hI hp
  have hok := List.all_eq_true.1 hps p hp
  have hl := okProd_left hok
  exact row_step hI (by omega) (bg_length em hI p.f1 _ (okProd_right hok) (none0_length nt))
def fst (nn nt : Nat) (em : List Bool) (ps : List Prod) : List (List Bool) := gOut (sStep nt em) ps (cfs (rows0 nn nt)) (rows0 nn nt)
theorem fst_sh (nn nt : Nat) (em : List Bool) {ps : List Prod} (hps : ps.all (okProd nn nt) = true) : Sh nn nt (fst nn nt em ps) :=
  gOut_I (sStep_good em hps) _ _ (rows0_sh nn nt)
theorem studiedStep_ev {nn nt : Nat} {em : List Bool} (he : em.length = nn) (hnt : nt ≤ 1000) {m : List (List Bool)} (hs : Sh nn nt m) {p : Prod} (hok : okProd nn nt p = true) (h3 : p.f1.length ≤ 1000000) : Ev (fun k => studiedStep k nt em m p) (sStep nt em m p) := by
  have hl := okProd_left hok
  have hs1 := hs.1
  have hb := bg_length em hs p.f1 _ (okProd_right hok) (none0_length nt)
  have hr := hs.get (i := p.f0.toNat) (by omega)
  refine Ev.congr (fun k => by rw [studiedStep]) (Ev.bind (begins_ev hs he hnt p.f1 (okProd_right hok) h3) ?_)
  refine Ev.pos hl.1 (Ev.pos (by omega) ?_)
  exact Ev.bind (add_ev (m.getD p.f0.toNat []) (bg em m p.f1 (none0 nt)).1 (by rw [hr, hb]) (by omega)) (Ev.some rfl)
theorem studied_ev (l0 : List ByteArray) (l1 : List Tok) (a2 a3 : Int) (l4 : List Prod) (h : Small l4) (h0 : l0.length ≤ 1000000) (h1 : l1.length ≤ 1000) (hok : l4.all (okProd l0.length l1.length) = true) : Ev (fun k => studied_f k l0 l1 a2 a3 l4) (clo false l0.length l4, fst l0.length l1.length (clo false l0.length l4) l4) := by
  refine Ev.congr (fun k => by rw [studied_f, if_pos ⟨by omega, by omega, by have := h.1; omega⟩]) (Ev.bind (Ev.val (empty_ev l0 l1 a2 a3 l4 h h0) (if_pos hok)) ?_)
  have he := clo_length l0.length l1.length false hok
  refine Ev.bind (growOut_ev (sStep_good _ hok) (fun k => studiedStep k l1.length (clo false l0.length l4)) (fun st p hI hp => studiedStep_ev he h1 hI (List.all_eq_true.1 hok p hp) (h.2 p hp)) _ _ (rows0_sh l0.length l1.length) (Nat.le_refl _)) (Ev.some rfl)
theorem or_self : ∀ a : List Bool, orL a a = a
  | [] => rfl
  | x :: a => by show (x || x) :: orL a a = x :: a; rw [or_self a, Bool.or_self]
theorem more_self : ∀ a : List Bool, moreL a a = false
  | [] => rfl
  | x :: a => by show ((x && !x) || moreL a a) = false; rw [more_self a]; cases x <;> rfl
theorem or_three : ∀ (a b c : List Bool), a.length = b.length → b.length = c.length → orL a (orL b c) = orL (orL a b) c ∧ moreL a (orL b c) = (moreL (orL a b) c || moreL a b)
  | [], [], [], _, _ => ⟨rfl, rfl⟩
  | x :: a, y :: b, z :: c, h1, h2 => by
    obtain ⟨h3, h4⟩ := or_three a b c (by simpa using h1) (by simpa using h2)
    constructor
    · show (x || (y || z)) :: orL a (orL b c) = (x || y || z) :: orL (orL a b) c
      rw [h3, Bool.or_assoc]
    · show (((y || z) && !x) || moreL a (orL b c)) = (((z && !(x || y)) || moreL (orL a b) c) || ((y && !x) || moreL a b))
      rw [h4]
      cases x <;> cases y <;> cases z <;> simp
theorem or_back : ∀ (a b : List Bool), a.length = b.length → orL a (orL b a) = orL a b ∧ moreL a (orL b a) = moreL a b
  | [], [], _ => ⟨rfl, rfl⟩
  | x :: a, y :: b, h1 => by
    obtain ⟨h3, h4⟩ := or_back a b (by simpa using h1)
    constructor
    · show (x || (y || x)) :: orL a (orL b a) = (x || y) :: orL a b
      rw [h3]; cases x <;> cases y <;> rfl
    · show (((y || x) && !x) || moreL a (orL b a)) = ((y && !x) || moreL a b)
      rw [h4]; cases x <;> cases y <;> rfl
def fAdd (nt : Nat) (em : List Bool) (first : List (List Bool)) (left : Nat) (ys : List Sym) (out : List (List Bool)) : List Bool :=
  if (bg em first ys (none0 nt)).2 = true then orL (bg em first ys (none0 nt)).1 (out.getD left []) else (bg em first ys (none0 nt)).1
def fIn (nt : Nat) (em : List Bool) (first : List (List Bool)) (left : Nat) : List Sym → Bool → List (List Bool) → Bool × List (List Bool)
  | [], g, out => (g, out)
  | y :: ys, g, out => if y.f0 = true then fIn nt em first left ys g out else
    fIn nt em first left ys (moreL (out.getD y.f1.toNat []) (fAdd nt em first left ys out) || g) (out.set y.f1.toNat (orL (out.getD y.f1.toNat []) (fAdd nt em first left ys out)))
def fStep (nt : Nat) (em : List Bool) (first : List (List Bool)) (out : List (List Bool)) (p : Prod) : Bool × List (List Bool) := fIn nt em first p.f0.toNat p.f1 false out
theorem fAdd_length {nn nt : Nat} (em : List Bool) {first out : List (List Bool)} (hf : Sh nn nt first) (hs : Sh nn nt out) {left : Nat} (hl : left < nn) {ys : List Sym} (hok : ys.all (okSym nn nt) = true) : (fAdd nt em first left ys out).length = nt + 1 := by
  have hb := bg_length em hf ys _ hok (none0_length nt)
  unfold fAdd
  split
  · rw [orL_length (by rw [hb, hs.get hl]), hb]
  · exact hb
theorem fIn_good {nn nt : Nat} (em : List Bool) {first : List (List Bool)} (hf : Sh nn nt first) {left : Nat} (hl : left < nn) : ∀ (ys : List Sym) (g : Bool) (out : List (List Bool)), ys.all (okSym nn nt) = true → Sh nn nt out → Sh nn nt (fIn nt em first left ys g out).2 ∧ cfs (fIn nt em first left ys g out).2 ≤ cfs out ∧ ((fIn nt em first left ys g out).1 = true → g = true ∨ cfs (fIn nt em first left ys g out).2 < cfs out)
  | [], g, out, _, hs => ⟨hs, Nat.le_refl _, fun h => .inl h⟩
  | y :: ys, g, out, hok, hs => by
    simp only [List.all_cons, Bool.and_eq_true] at hok
    unfold fIn
    cases hy : y.f0 with
    | true => rw [if_pos rfl]; exact fIn_good em hf hl ys g out hok.2 hs
    | false =>
      rw [if_neg (by simp)]
      have hb := okSym_rule hok.1 hy
      obtain ⟨h1, h2, h3⟩ := row_step hs (i := y.f1.toNat) (by omega) (fAdd_length em hf hs hl hok.2)
      obtain ⟨h4, h5, h6⟩ := fIn_good em hf hl ys (moreL (out.getD y.f1.toNat []) (fAdd nt em first left ys out) || g) _ hok.2 h1
      refine ⟨h4, Nat.le_trans h5 h2, fun h => ?_⟩
      rcases h6 h with h7 | h7
      · rcases (Bool.or_eq_true _ _).mp h7 with h8 | h8
        · exact .inr (Nat.lt_of_le_of_lt h5 (h3 h8))
        · exact .inl h8
      · exact .inr (Nat.lt_of_lt_of_le h7 h2)
theorem fStep_good {nn nt : Nat} (em : List Bool) {first : List (List Bool)} (hf : Sh nn nt first) {ps : List Prod} (hps : ps.all (okProd nn nt) = true) : Good (Sh nn nt) cfs (fStep nt em first) ps := by
  intro st p hI hp
  have hok := List.all_eq_true.1 hps p hp
  have hl := okProd_left hok
  obtain ⟨h1, h2, h3⟩ := fIn_good em hf (left := p.f0.toNat) (by omega) p.f1 false st (okProd_right hok) hI
  exact ⟨h1, h2, fun h => (h3 h).resolve_left (by simp)⟩
theorem followAdd_ev {nn nt : Nat} (hnt : nt ≤ 1000) {out : List (List Bool)} (hs : Sh nn nt out) {n : Int} (h0 : 0 ≤ n) (h1 : n < (nn : Int)) {l : List Bool} (hl : l.length = nt + 1) : Ev (fun k => followAdd k n l out) (moreL (out.getD n.toNat []) l, out.set n.toNat (orL (out.getD n.toNat []) l)) := by
  have hr := hs.get (i := n.toNat) (by omega)
  have hs1 := hs.1
  exact Ev.congr (fun k => by rw [followAdd]) (Ev.pos h0 (Ev.pos (by omega) (Ev.bind (add_ev _ _ (by rw [hr, hl]) (by omega)) (Ev.some rfl))))
theorem followIn_ev {nn nt : Nat} {em : List Bool} (he : em.length = nn) (hnt : nt ≤ 1000) {first : List (List Bool)} (hf : Sh nn nt first) {left : Int} (hl0 : 0 ≤ left) (hl1 : left < (nn : Int)) : ∀ (ys : List Sym) (g : Bool) (out : List (List Bool)), ys.all (okSym nn nt) = true → ys.length ≤ 1000000 → Sh nn nt out → Ev (fun k => followIn k nt em first left ys g out) (fIn nt em first left.toNat ys g out)
  | [], g, out, _, _, hs => Ev.congr (fun k => by rw [followIn]) (Ev.some (by rw [fIn]))
  | y :: ys, g, out, hok, h3, hs => by
    simp only [List.all_cons, Bool.and_eq_true] at hok
    simp only [List.length_cons] at h3
    refine Ev.congr (fun k => by rw [followIn]) ?_
    unfold fIn
    cases hy : y.f0 with
    | true => rw [if_pos rfl]; exact Ev.pos rfl (followIn_ev he hnt hf hl0 hl1 ys g out hok.2 (by omega) hs)
    | false =>
      rw [if_neg (by simp)]
      have hb := okSym_rule hok.1 hy
      have hbl := bg_length em hf ys _ hok.2 (none0_length nt)
      have hn : y.f1.toNat < nn := by omega
      have hrow := hs.get hn
      obtain ⟨h1, _, _⟩ := row_step hs hn hbl
      obtain ⟨h1a, _, _⟩ := row_step hs hn (fAdd_length em hf hs (left := left.toNat) (by omega) hok.2)
      refine Ev.neg (by simp) (Ev.bind (begins_ev hf he hnt ys hok.2 (by omega)) (Ev.bind (followAdd_ev hnt hs hb.1 hb.2 hbl) ?_))
      cases hem : (bg em first ys (none0 nt)).2 with
      | false =>
        have e : fAdd nt em first left.toNat ys out = (bg em first ys (none0 nt)).1 := by rw [fAdd, hem, if_neg (by simp)]
        rw [e] at h1a ⊢
        exact Ev.neg (by simp) (followIn_ev he hnt hf hl0 hl1 ys _ _ hok.2 (by omega) h1a)
      | true =>
        have e : fAdd nt em first left.toNat ys out = orL (bg em first ys (none0 nt)).1 (out.getD left.toNat []) := by rw [fAdd, hem, if_pos rfl]
        rw [e] at h1a ⊢
        have hs1 := h1.1
        have hlr := hs.get (i := left.toNat) (by omega)
        have hlr2 := h1.get (i := left.toNat) (by omega)
        refine Ev.pos rfl (Ev.pos hl0 (Ev.pos (by simp only; rw [hs1]; exact hl1) (Ev.bind (followAdd_ev hnt h1 hb.1 hb.2 hlr2) ?_)))
        have hrow2 : (out.set y.f1.toNat (orL (out.getD y.f1.toNat []) (bg em first ys (none0 nt)).1)).getD y.f1.toNat [] = orL (out.getD y.f1.toNat []) (bg em first ys (none0 nt)).1 := by
          rw [List.getD_eq_getElem?_getD, List.getElem?_set_self (by rw [hs.1]; exact hn)]; rfl
        by_cases hyl : y.f1.toNat = left.toNat
        · rw [← hyl] at h1a ⊢
          dsimp only
          rw [hrow2, or_self, more_self, List.set_set]
          obtain ⟨e1, e2⟩ := or_back (out.getD y.f1.toNat []) (bg em first ys (none0 nt)).1 (by rw [hrow, hbl])
          rw [e1] at h1a ⊢
          rw [e2]
          have hres := followIn_ev he hnt hf hl0 hl1 ys (moreL (out.getD y.f1.toNat []) (bg em first ys (none0 nt)).1 || g) _ hok.2 (by omega) h1a
          rw [← hyl] at hres
          rw [Bool.false_or]
          exact hres
        · have hl2 : (out.set y.f1.toNat (orL (out.getD y.f1.toNat []) (bg em first ys (none0 nt)).1)).getD left.toNat [] = out.getD left.toNat [] := by
            rw [List.getD_eq_getElem?_getD, List.getElem?_set_ne hyl, List.getD_eq_getElem?_getD]
          dsimp only
          rw [hrow2, hl2, List.set_set]
          obtain ⟨e1, e2⟩ := or_three (out.getD y.f1.toNat []) (bg em first ys (none0 nt)).1 (out.getD left.toNat []) (by rw [hrow, hbl]) (by rw [hlr, hbl])
          rw [e1] at h1a ⊢
          rw [e2, Bool.or_assoc]
          exact followIn_ev he hnt hf hl0 hl1 ys _ _ hok.2 (by omega) h1a
end Go.Proofs.Ytojdjjbkpbapfaa.M
end

section
namespace Go.Proofs.Ytojdjjbkpbapfaa.P
open Go.RowKit Go.Proofs.YtojdjjbkpbapfaaW.PrintWords Go.Proofs.YtojdjjbkpbapfaaW.PrintLast Go.Proofs.YtojdjjbkpbapfaaW.PrintMore Go.Proofs.Ytojdjjbkpbapfaa.R
set_option linter.unusedVariables false
set_option linter.unusedSimpArgs false
def firsts_First.f (k : Nat) (l0_0 : List ByteArray) (l0_1 : List (S62)) (a0_2 : Int) (a0_3 : Int) (l0_4 : List (S34)) : Option (List (List Int)) :=
  (firsts_Right.f l0_0 l0_1 a0_2 a0_3 l0_4).bind fun r => if r = true then (studied_f k l0_0 l0_1 a0_2 a0_3 l0_4).bind fun x => firsts_all.f k x.2 else some []
theorem firsts_First.mono : ∀ (l0_0 : List ByteArray) (l0_1 : List (S62)) (a0_2 : Int) (a0_3 : Int) (l0_4 : List (S34)) k, LeO (firsts_First.f k l0_0 l0_1 a0_2 a0_3 l0_4) (firsts_First.f (k + 1) l0_0 l0_1 a0_2 a0_3 l0_4) := by
  intro l0_0 l0_1 a0_2 a0_3 l0_4 k
  unfold firsts_First.f
  exact LeO.bind (LeO.refl _) (fun _ => LeO.ite (LeO.bind (studied_mono _ _ _ _ _ _) (fun _ => firsts_all.mono _ _)) (LeO.refl _))
set_option maxHeartbeats 2000000 in
theorem firsts_First.calls (k : Nat) (A0_0 : Option Addr) (c0_0 : Nat) (l0_0 : List ByteArray) (A0_1 : Option Addr) (c0_1 : Nat) (l0_1 : List (S62)) (a0_2 : Int) (a0_3 : Int) (A0_4 : Option Addr) (c0_4 : Nat) (l0_4 : List (S34)) (r : List (List Int)) (w : World) (hr0_0 : Kd.C Kd.string w A0_0 l0_0.length l0_0) (hc0_0 : l0_0.length ≤ c0_0) (hr0_1 : Kd.C k62 w A0_1 l0_1.length l0_1) (hc0_1 : l0_1.length ≤ c0_1) (hr0_4 : Kd.C k34 w A0_4 l0_4.length l0_4) (hc0_4 : l0_4.length ≤ c0_4) (h : firsts_First.f k l0_0 l0_1 a0_2 a0_3 l0_4 = some r) :
    Calls Try.prog 14 #[.agg #[.slice A0_0 l0_0.length c0_0, .slice A0_1 l0_1.length c0_1, .int .i64 a0_2, .int .i64 a0_3, .slice A0_4 l0_4.length c0_4]] w fun e w' => ∃ v0_ : Value, e = .returned (v0_) ∧ Kd.S (Kd.slice 3 (Kd.int .i64)) 39 w' w.heap.size (fun _ => True) v0_ r ∧ Below w.heap.size w w' := by
  obtain ⟨rt, hrt, h2⟩ := Option.bind_eq_some_iff.1 h
  have HRT := Aside0.mk hrt
  clear h hrt
  have HA1 : Aside0 (Below w.heap.size w (w.alloc (.cells #[.slice A0_0 l0_0.length c0_0, .slice A0_1 l0_1.length c0_1, .int .i64 a0_2, .int .i64 a0_3, .slice A0_4 l0_4.length c0_4] 26))) := ⟨(Below.refl _ w).alloc (Nat.le_refl _) _⟩
  have HC : Aside0 (∀ W, Below (w.heap.size + 1) (w.alloc (.cells #[.slice A0_0 l0_0.length c0_0, .slice A0_1 l0_1.length c0_1, .int .i64 a0_2, .int .i64 a0_3, .slice A0_4 l0_4.length c0_4] 26)) W → W.cell? ⟨w.heap.size, 0, none⟩ = some (.slice A0_0 l0_0.length c0_0) ∧ W.cell? ⟨w.heap.size, 1, none⟩ = some (.slice A0_1 l0_1.length c0_1) ∧ W.cell? ⟨w.heap.size, 2, none⟩ = some (.int .i64 a0_2) ∧ W.cell? ⟨w.heap.size, 3, none⟩ = some (.int .i64 a0_3) ∧ W.cell? ⟨w.heap.size, 4, none⟩ = some (.slice A0_4 l0_4.length c0_4)) := ⟨fun W hW => ⟨(hW.cell (p := ⟨w.heap.size, 0, none⟩) (by simp)).trans (by simp), (hW.cell (p := ⟨w.heap.size, 1, none⟩) (by simp)).trans (by simp), (hW.cell (p := ⟨w.heap.size, 2, none⟩) (by simp)).trans (by simp), (hW.cell (p := ⟨w.heap.size, 3, none⟩) (by simp)).trans (by simp), (hW.cell (p := ⟨w.heap.size, 4, none⟩) (by simp)).trans (by simp)⟩⟩
  cases rt with
  | false =>
    rw [if_neg (by simp)] at h2
    obtain rfl := Option.some.inj h2
    clear h2
    go_enter Try.func14, Try.ntmps14
    go_wp2_with (go_at_call 23; (with_reducible refine (firsts_Right.calls A0_0 c0_0 l0_0 A0_1 c0_1 l0_1 a0_2 a0_3 A0_4 c0_4 l0_4 false _ (Kd.C_below hr0_0 HA1.out) hc0_0 (Kd.C_below hr0_1 HA1.out) hc0_1 (Kd.C_below hr0_4 HA1.out) hc0_4 HRT.out).mono ?_); rintro e w1 ⟨rfl, hb1⟩)
    go_ret
    exact ⟨_, rfl, Kd.S_nil _ _ _ _ _, HA1.out.trans (hb1.mono (by simp))⟩
  | true =>
    rw [if_pos rfl] at h2
    obtain ⟨⟨em, first⟩, hst, hal⟩ := Option.bind_eq_some_iff.1 h2
    have HST := Aside0.mk hst
    have HAL := Aside0.mk hal
    clear h2 hst hal
    go_enter Try.func14, Try.ntmps14
    go_wp2_with (first
      | (go_at_call 23; (with_reducible refine (firsts_Right.calls A0_0 c0_0 l0_0 A0_1 c0_1 l0_1 a0_2 a0_3 A0_4 c0_4 l0_4 true _ (Kd.C_below hr0_0 HA1.out) hc0_0 (Kd.C_below hr0_1 HA1.out) hc0_1 (Kd.C_below hr0_4 HA1.out) hc0_4 HRT.out).mono ?_); rintro e w1 ⟨rfl, hb1⟩; have HB1 : Aside0 (Below (w.heap.size + 1) (w.alloc (.cells #[.slice A0_0 l0_0.length c0_0, .slice A0_1 l0_1.length c0_1, .int .i64 a0_2, .int .i64 a0_3, .slice A0_4 l0_4.length c0_4] 26)) w1) := ⟨hb1.mono (by simp)⟩; have HB01 : Aside0 (Below w.heap.size w w1) := ⟨HA1.out.trans (hb1.mono (by simp))⟩; clear hb1; obtain ⟨q0, q1, q2, q3, q4⟩ := HC.out w1 HB1.out)
      | (go_at_call 33; (with_reducible refine (studied_any k A0_0 c0_0 l0_0 A0_1 c0_1 l0_1 a0_2 a0_3 A0_4 c0_4 l0_4 em first _ (Kd.C_below hr0_0 HB01.out) hc0_0 (Kd.C_below hr0_1 HB01.out) hc0_1 (Kd.C_below hr0_4 HB01.out) hc0_4 HST.out).mono ?_); rintro e w2 ⟨G, A5, c5, A6, c6, okE, okF, rfl, hs2⟩; have hn := (Kd.S_reads' hs2.rf).1; rw [hn] at hs2; have HS2 := Aside0.mk hs2; have g6 := (blk_cell HS2.out.g 6).trans (show _ = some (.slice A6 first.length c6) from rfl); clear hs2 hn q0 q1 q2 q3 q4)
      | (go_at_call 32; (with_reducible refine (firsts_all.calls k A6 c6 first r _ (Kd.S_reads' HS2.out.rf).2.2 (Kd.S_reads' HS2.out.rf).2.1 HAL.out).mono ?_); rintro e w3 ⟨v3, rfl, hS3, hb3⟩; have HS3 := Aside0.mk hS3; have HB3 := Aside0.mk hb3; clear hS3 hb3))
    go_ret
    exact ⟨_, rfl, Kd.S_lower HS3.out (HB01.out.trans (HS2.out.bel.mono HB01.out.size)).size, (HB01.out.trans (HS2.out.bel.mono HB01.out.size)).trans (HB3.out.mono (HB01.out.trans (HS2.out.bel.mono HB01.out.size)).size)⟩
def firsts_Of.f (k : Nat) (l0_0 : List ByteArray) (l0_1 : List (S62)) (a0_2 : Int) (a0_3 : Int) (l0_4 : List (S34)) (l1 : List (S49)) : Option (List Int × Bool) :=
  (firsts_Right.f l0_0 l0_1 a0_2 a0_3 l0_4).bind fun r => if r = true then (firsts_symbols.f l0_0 l0_1 a0_2 a0_3 l0_4 l1).bind fun r2 => if r2 = true then if (l0_0.length : Int) = 0 then some ([], false) else (studied_f k l0_0 l0_1 a0_2 a0_3 l0_4).bind fun x => (begins_f k l0_1.length x.1 x.2 l1).bind fun y => (firsts_set_rising.f k y.1).bind fun z => some (z, y.2) else some ([], false) else some ([], false)
theorem firsts_Of.mono : ∀ (l0_0 : List ByteArray) (l0_1 : List (S62)) (a0_2 : Int) (a0_3 : Int) (l0_4 : List (S34)) (l1 : List (S49)) k, LeO (firsts_Of.f k l0_0 l0_1 a0_2 a0_3 l0_4 l1) (firsts_Of.f (k + 1) l0_0 l0_1 a0_2 a0_3 l0_4 l1) := by
  intro l0_0 l0_1 a0_2 a0_3 l0_4 l1 k
  unfold firsts_Of.f
  exact LeO.bind (LeO.refl _) (fun _ => LeO.ite (LeO.bind (LeO.refl _) (fun _ => LeO.ite (LeO.ite (LeO.refl _) (LeO.bind (studied_mono _ _ _ _ _ _) (fun _ => LeO.bind (begins_f_mono _ _ _ _ _) (fun _ => LeO.bind (firsts_set_rising.mono _ _) (fun _ => LeO.refl _))))) (LeO.refl _))) (LeO.refl _))
set_option maxHeartbeats 4000000 in
theorem firsts_Of.calls (k : Nat) (A0_0 : Option Addr) (c0_0 : Nat) (l0_0 : List ByteArray) (A0_1 : Option Addr) (c0_1 : Nat) (l0_1 : List (S62)) (a0_2 : Int) (a0_3 : Int) (A0_4 : Option Addr) (c0_4 : Nat) (l0_4 : List (S34)) (A1 : Option Addr) (c1 : Nat) (l1 : List (S49)) (r1 : List Int) (r2 : Bool) (w : World) (hr0_0 : Kd.C Kd.string w A0_0 l0_0.length l0_0) (hc0_0 : l0_0.length ≤ c0_0) (hr0_1 : Kd.C k62 w A0_1 l0_1.length l0_1) (hc0_1 : l0_1.length ≤ c0_1) (hr0_4 : Kd.C k34 w A0_4 l0_4.length l0_4) (hc0_4 : l0_4.length ≤ c0_4) (hr1 : Kd.C k49 w A1 l1.length l1) (hc1 : l1.length ≤ c1) (h : firsts_Of.f k l0_0 l0_1 a0_2 a0_3 l0_4 l1 = some (r1, r2)) :
    Calls Try.prog 21 #[.agg #[.slice A0_0 l0_0.length c0_0, .slice A0_1 l0_1.length c0_1, .int .i64 a0_2, .int .i64 a0_3, .slice A0_4 l0_4.length c0_4], .slice A1 l1.length c1] w fun e w' => ∃ v0_ : Value, e = .returned (.tuple #[v0_, .bool r2]) ∧ Kd.R (Kd.int .i64) 3 w' w.heap.size (fun _ => True) v0_ r1 ∧ Below w.heap.size w w' := by
  obtain ⟨rt, hrt, h2⟩ := Option.bind_eq_some_iff.1 h
  have HRT := Aside0.mk hrt
  clear h hrt
  have HA1 : Aside0 (Below w.heap.size w (w.alloc (.cells #[.slice A0_0 l0_0.length c0_0, .slice A0_1 l0_1.length c0_1, .int .i64 a0_2, .int .i64 a0_3, .slice A0_4 l0_4.length c0_4] 26))) := ⟨(Below.refl _ w).alloc (Nat.le_refl _) _⟩
  have HC : Aside0 (∀ W, Below (w.heap.size + 1) (w.alloc (.cells #[.slice A0_0 l0_0.length c0_0, .slice A0_1 l0_1.length c0_1, .int .i64 a0_2, .int .i64 a0_3, .slice A0_4 l0_4.length c0_4] 26)) W → W.cell? ⟨w.heap.size, 0, none⟩ = some (.slice A0_0 l0_0.length c0_0) ∧ W.cell? ⟨w.heap.size, 1, none⟩ = some (.slice A0_1 l0_1.length c0_1) ∧ W.cell? ⟨w.heap.size, 2, none⟩ = some (.int .i64 a0_2) ∧ W.cell? ⟨w.heap.size, 3, none⟩ = some (.int .i64 a0_3) ∧ W.cell? ⟨w.heap.size, 4, none⟩ = some (.slice A0_4 l0_4.length c0_4)) := ⟨fun W hW => ⟨(hW.cell (p := ⟨w.heap.size, 0, none⟩) (by simp)).trans (by simp), (hW.cell (p := ⟨w.heap.size, 1, none⟩) (by simp)).trans (by simp), (hW.cell (p := ⟨w.heap.size, 2, none⟩) (by simp)).trans (by simp), (hW.cell (p := ⟨w.heap.size, 3, none⟩) (by simp)).trans (by simp), (hW.cell (p := ⟨w.heap.size, 4, none⟩) (by simp)).trans (by simp)⟩⟩
  cases rt with
  | false =>
    rw [if_neg (by simp)] at h2
    obtain ⟨rfl, rfl⟩ := Prod.mk.inj (Option.some.inj h2)
    clear h2
    go_enter Try.func21, Try.ntmps21
    go_wp2_with (go_at_call 23; (with_reducible refine (firsts_Right.calls A0_0 c0_0 l0_0 A0_1 c0_1 l0_1 a0_2 a0_3 A0_4 c0_4 l0_4 false _ (Kd.C_below hr0_0 HA1.out) hc0_0 (Kd.C_below hr0_1 HA1.out) hc0_1 (Kd.C_below hr0_4 HA1.out) hc0_4 HRT.out).mono ?_); rintro e w1 ⟨rfl, hb1⟩)
    go_ret2
    exact ⟨_, rfl, Kd.R_nil _ _ _ _ _, HA1.out.trans (hb1.mono (by simp))⟩
  | true =>
    rw [if_pos rfl] at h2
    obtain ⟨rt2, hrt2, h3⟩ := Option.bind_eq_some_iff.1 h2
    have HRT2 := Aside0.mk hrt2
    clear h2 hrt2
    cases rt2 with
    | false =>
      rw [if_neg (by simp)] at h3
      obtain ⟨rfl, rfl⟩ := Prod.mk.inj (Option.some.inj h3)
      clear h3
      go_enter Try.func21, Try.ntmps21
      go_wp2_with (first
        | (go_at_call 23; (with_reducible refine (firsts_Right.calls A0_0 c0_0 l0_0 A0_1 c0_1 l0_1 a0_2 a0_3 A0_4 c0_4 l0_4 true _ (Kd.C_below hr0_0 HA1.out) hc0_0 (Kd.C_below hr0_1 HA1.out) hc0_1 (Kd.C_below hr0_4 HA1.out) hc0_4 HRT.out).mono ?_); rintro e w1 ⟨rfl, hb1⟩; have HB1 : Aside0 (Below (w.heap.size + 1) (w.alloc (.cells #[.slice A0_0 l0_0.length c0_0, .slice A0_1 l0_1.length c0_1, .int .i64 a0_2, .int .i64 a0_3, .slice A0_4 l0_4.length c0_4] 26)) w1) := ⟨hb1.mono (by simp)⟩; have HB01 : Aside0 (Below w.heap.size w w1) := ⟨HA1.out.trans (hb1.mono (by simp))⟩; clear hb1; obtain ⟨q0, q1, q2, q3, q4⟩ := HC.out w1 HB1.out)
        | (go_at_call 40; (with_reducible refine (firsts_symbols.calls A0_0 c0_0 l0_0 A0_1 c0_1 l0_1 a0_2 a0_3 A0_4 c0_4 l0_4 A1 c1 l1 false _ (Kd.C_below hr0_0 HB01.out) hc0_0 (Kd.C_below hr0_1 HB01.out) hc0_1 (Kd.C_below hr0_4 HB01.out) hc0_4 (Kd.C_below hr1 HB01.out) hc1 HRT2.out).mono ?_); rintro e w2 ⟨rfl, hb2⟩; have HB2 := Aside0.mk hb2; clear hb2 q0 q1 q2 q3 q4))
      go_ret2
      exact ⟨_, rfl, Kd.R_nil _ _ _ _ _, HB01.out.trans (HB2.out.mono HB01.out.size)⟩
    | true =>
      rw [if_pos rfl] at h3
      by_cases hz : (l0_0.length : Int) = 0
      · rw [if_pos hz] at h3
        obtain ⟨rfl, rfl⟩ := Prod.mk.inj (Option.some.inj h3)
        clear h3
        have hzb : ((l0_0.length : Int) == 0) = true := beq_iff_eq.mpr hz
        go_enter Try.func21, Try.ntmps21
        go_wp2_with (first
          | (go_at_call 23; (with_reducible refine (firsts_Right.calls A0_0 c0_0 l0_0 A0_1 c0_1 l0_1 a0_2 a0_3 A0_4 c0_4 l0_4 true _ (Kd.C_below hr0_0 HA1.out) hc0_0 (Kd.C_below hr0_1 HA1.out) hc0_1 (Kd.C_below hr0_4 HA1.out) hc0_4 HRT.out).mono ?_); rintro e w1 ⟨rfl, hb1⟩; have HB1 : Aside0 (Below (w.heap.size + 1) (w.alloc (.cells #[.slice A0_0 l0_0.length c0_0, .slice A0_1 l0_1.length c0_1, .int .i64 a0_2, .int .i64 a0_3, .slice A0_4 l0_4.length c0_4] 26)) w1) := ⟨hb1.mono (by simp)⟩; have HB01 : Aside0 (Below w.heap.size w w1) := ⟨HA1.out.trans (hb1.mono (by simp))⟩; clear hb1; obtain ⟨q0, q1, q2, q3, q4⟩ := HC.out w1 HB1.out)
          | (go_at_call 40; (with_reducible refine (firsts_symbols.calls A0_0 c0_0 l0_0 A0_1 c0_1 l0_1 a0_2 a0_3 A0_4 c0_4 l0_4 A1 c1 l1 true _ (Kd.C_below hr0_0 HB01.out) hc0_0 (Kd.C_below hr0_1 HB01.out) hc0_1 (Kd.C_below hr0_4 HB01.out) hc0_4 (Kd.C_below hr1 HB01.out) hc1 HRT2.out).mono ?_); rintro e w2 ⟨rfl, hb2⟩; have HB2 := Aside0.mk hb2; clear q0 q1 q2 q3 q4; obtain ⟨q0, q1, q2, q3, q4⟩ := HC.out w2 (HB1.out.trans (HB2.out.mono (by have := HB1.out.size; simpa using this))); clear hb2))
        go_ret2
        exact ⟨_, rfl, Kd.R_nil _ _ _ _ _, HB01.out.trans (HB2.out.mono HB01.out.size)⟩
      · rw [if_neg hz] at h3
        have hzb : ((l0_0.length : Int) == 0) = false := beq_eq_false_iff_ne.mpr hz
        obtain ⟨⟨em, first⟩, hst, h4⟩ := Option.bind_eq_some_iff.1 h3
        obtain ⟨⟨bl, bb⟩, hbg, h5⟩ := Option.bind_eq_some_iff.1 h4
        obtain ⟨ri, hri, h6⟩ := Option.bind_eq_some_iff.1 h5
        obtain ⟨rfl, rfl⟩ := Prod.mk.inj (Option.some.inj h6)
        have HST := Aside0.mk hst
        have HBG := Aside0.mk hbg
        have HRI := Aside0.mk hri
        clear h3 h4 h5 h6 hst hbg hri
        go_enter Try.func21, Try.ntmps21
        go_wp2_with (first
          | (go_at_call 23; (with_reducible refine (firsts_Right.calls A0_0 c0_0 l0_0 A0_1 c0_1 l0_1 a0_2 a0_3 A0_4 c0_4 l0_4 true _ (Kd.C_below hr0_0 HA1.out) hc0_0 (Kd.C_below hr0_1 HA1.out) hc0_1 (Kd.C_below hr0_4 HA1.out) hc0_4 HRT.out).mono ?_); rintro e w1 ⟨rfl, hb1⟩; have HB1 : Aside0 (Below (w.heap.size + 1) (w.alloc (.cells #[.slice A0_0 l0_0.length c0_0, .slice A0_1 l0_1.length c0_1, .int .i64 a0_2, .int .i64 a0_3, .slice A0_4 l0_4.length c0_4] 26)) w1) := ⟨hb1.mono (by simp)⟩; have HB01 : Aside0 (Below w.heap.size w w1) := ⟨HA1.out.trans (hb1.mono (by simp))⟩; clear hb1; obtain ⟨q0, q1, q2, q3, q4⟩ := HC.out w1 HB1.out)
          | (go_at_call 40; (with_reducible refine (firsts_symbols.calls A0_0 c0_0 l0_0 A0_1 c0_1 l0_1 a0_2 a0_3 A0_4 c0_4 l0_4 A1 c1 l1 true _ (Kd.C_below hr0_0 HB01.out) hc0_0 (Kd.C_below hr0_1 HB01.out) hc0_1 (Kd.C_below hr0_4 HB01.out) hc0_4 (Kd.C_below hr1 HB01.out) hc1 HRT2.out).mono ?_); rintro e w2 ⟨rfl, hb2⟩; have HB2 := Aside0.mk hb2; clear q0 q1 q2 q3 q4; obtain ⟨q0, q1, q2, q3, q4⟩ := HC.out w2 (HB1.out.trans (HB2.out.mono (by have := HB1.out.size; simpa using this))); have HB02 : Aside0 (Below w.heap.size w w2) := ⟨HB01.out.trans (HB2.out.mono HB01.out.size)⟩; clear hb2)
          | (go_at_call 33; (with_reducible refine (studied_any k A0_0 c0_0 l0_0 A0_1 c0_1 l0_1 a0_2 a0_3 A0_4 c0_4 l0_4 em first _ (Kd.C_below hr0_0 HB02.out) hc0_0 (Kd.C_below hr0_1 HB02.out) hc0_1 (Kd.C_below hr0_4 HB02.out) hc0_4 HST.out).mono ?_); rintro e w3 ⟨G, A5, c5, A6, c6, okE, okF, rfl, hs2⟩; have hn := (Kd.S_reads' hs2.rf).1; rw [hn] at hs2; have HS2 := Aside0.mk hs2; have HB03 : Aside0 (Below w.heap.size w w3) := ⟨HB02.out.trans (HS2.out.bel.mono HB02.out.size)⟩; clear hs2 hn q0 q1 q2 q3 q4)
          | (go_at_call 38; (with_reducible refine (begins_any k G _ A0_1 A5 A6 A1 l0_1.length c0_1 c5 c6 c1 em first l1 bl bb ((blk_cell HS2.out.g 1).trans rfl) ((blk_cell HS2.out.g 5).trans rfl) ((blk_cell HS2.out.g 6).trans rfl) (Kd.R_reads' HS2.out.re).2.2 (Kd.S_reads' HS2.out.rf).2.2 (Kd.C_below hr1 HB03.out) HBG.out).mono ?_); rintro e w4 ⟨v4, rfl, hR4, hb4⟩; obtain ⟨A7, c7, rfl⟩ := Kd.R_slice hR4; have HR4 := Aside0.mk hR4; have HB04 : Aside0 (Below w.heap.size w w4) := ⟨HB03.out.trans (hb4.mono HB03.out.size)⟩; clear hR4 hb4)
          | (go_at_call 41; (with_reducible refine (firsts_set_rising.calls k A7 c7 bl ri _ (Kd.R_reads' HR4.out).2.2 (Kd.R_reads' HR4.out).2.1 HRI.out).mono ?_); rintro e w5 ⟨v5, rfl, hR5, hb5⟩; have HR5 := Aside0.mk hR5; have HB5 := Aside0.mk hb5; clear hR5 hb5))
        go_ret2
        exact ⟨_, rfl, Kd.R_lower HR5.out HB04.out.size, HB04.out.trans (HB5.out.mono HB04.out.size)⟩
end Go.Proofs.Ytojdjjbkpbapfaa.P
end

section
namespace Go.Proofs.Ytojdjjbkpbapfaa.M
open Go.RowKit Go.Proofs.YtojdjjbkpbapfaaW.PrintWords Go.Proofs.YtojdjjbkpbapfaaW.PrintLast Go.Proofs.YtojdjjbkpbapfaaW.PrintMore Go.Proofs.Ytojdjjbkpbapfaa.P Go.Proofs.Ytojdjjbkpbapfaa.H
set_option linter.unusedVariables false
set_option linter.unusedSimpArgs false
def fol0 (nn nt : Nat) : List (List Bool) := if 0 < nn then (rows0 nn nt).set 0 ((none0 nt).set nt true) else []
theorem fol0_sh (nn nt : Nat) : Sh nn nt (fol0 nn nt) := by
  unfold fol0
  split
  · exact (rows0_sh nn nt).set 0 (by simp [none0_length])
  · obtain rfl : nn = 0 := by omega
    exact ⟨rfl, fun r hr => by simp at hr⟩
def fol (nn nt : Nat) (em : List Bool) (first : List (List Bool)) (ps : List Prod) : List (List Bool) := gOut (fStep nt em first) ps (cfs (fol0 nn nt)) (fol0 nn nt)
theorem fol_sh {nn nt : Nat} (em : List Bool) {first : List (List Bool)} (hf : Sh nn nt first) {ps : List Prod} (hps : ps.all (okProd nn nt) = true) : Sh nn nt (fol nn nt em first ps) :=
  gOut_I (fStep_good em hf hps) _ _ (fol0_sh nn nt)
theorem Sh.small {nn nt : Nat} {m : List (List Bool)} (h : Sh nn nt m) (h1 : nt ≤ 1000) : ∀ r ∈ m, r.length ≤ 1000000 := fun r hr => by rw [h.2 r hr]; omega
section
variable (l0 : List ByteArray) (l1 : List Tok) (a2 a3 : Int) (l4 : List Prod)
def dFollow (nn nt : Nat) (ps : List Prod) : List (List Int) := if ps.all (okProd nn nt) = true then idxs (fol nn nt (clo false nn ps) (fst nn nt (clo false nn ps) ps) ps) else []
variable (h : Small l4) (h0 : l0.length ≤ 1000000) (h1 : l1.length ≤ 1000)
include h h0 h1
theorem follow_ev : Ev (fun k => firsts_Follow.f k l0 l1 a2 a3 l4) (dFollow l0.length l1.length l4) := by
  refine Ev.congr (fun k => by rw [firsts_Follow.f]) (Ev.bind0 (firstsRight_val l0 l1 a2 a3 l4 h) ?_)
  unfold dFollow
  cases hr : l4.all (okProd l0.length l1.length) with
  | false => exact Ev.neg (by simp) (Ev.some (by simp))
  | true =>
    have hs := fst_sh l0.length l1.length (clo false l0.length l4) hr
    have hs2 := fol_sh (clo false l0.length l4) hs hr
    have he := clo_length l0.length l1.length false hr
    rw [if_pos rfl]
    refine Ev.pos rfl (Ev.bind (studied_ev l0 l1 a2 a3 l4 h h0 h1 hr) ?_)
    refine Ev.bind (growOut_ev (fStep_good _ hs hr) (fun k => followStep k l1.length (clo false l0.length l4) (fst l0.length l1.length (clo false l0.length l4) l4)) (fun st p hI hp => ?_) (cfs (fol0 l0.length l1.length)) (fol0 l0.length l1.length) (fol0_sh _ _) (Nat.le_refl _)) (all_ev _ (by have := hs2.1; exact Nat.le_trans (Nat.le_of_eq this) h0) (hs2.small h1))
    have hok := List.all_eq_true.1 hr p hp
    have hl := okProd_left hok
    exact Ev.congr (fun k => by rw [followStep]) (followIn_ev he h1 hs hl.1 hl.2 p.f1 false st (okProd_right hok) (h.2 p hp) hI)
end
end Go.Proofs.Ytojdjjbkpbapfaa.M
end

section
namespace Go.Proofs.Ytojdjjbkpbapfaa.P
open Go.RowKit Go.Proofs.YtojdjjbkpbapfaaW.PrintWords Go.Proofs.YtojdjjbkpbapfaaW.PrintLast Go.Proofs.YtojdjjbkpbapfaaW.PrintMore
set_option linter.unusedVariables false
set_option linter.unusedSimpArgs false
def mPick (l : List Int) (at_ : Nat) (n : Int) : Int := if l.length < at_ + 1 then 0 else Int.tmod (l.getD at_ 0) n
theorem wrap_u8 {x : Int} (h0 : 0 ≤ x) (h1 : x ≤ 255) : IntKind.i64.wrap x = x := by rw [IntKind.wrap_i64]; omega
theorem wrap_tmod {x n : Int} (h0 : 0 ≤ x) (h1 : x ≤ 255) : IntKind.i64.wrap (x.tmod n) = x.tmod n := by
  have h2 : 0 ≤ x.tmod n := Int.tmod_nonneg n h0
  have h3 : x.tmod n ≤ x := by
    obtain ⟨a, rfl⟩ := Int.eq_ofNat_of_zero_le h0
    rcases Int.lt_or_le n 0 with hn | hn
    · obtain ⟨b, hb⟩ := Int.eq_ofNat_of_zero_le (show 0 ≤ -n by omega)
      have : (a : Int).tmod n = (a : Int).tmod b := by rw [show n = -(b : Int) by omega, Int.tmod_neg]
      rw [this, ← Int.ofNat_tmod]
      exact_mod_cast Nat.mod_le a b
    · obtain ⟨b, rfl⟩ := Int.eq_ofNat_of_zero_le hn
      rw [← Int.ofNat_tmod]
      exact_mod_cast Nat.mod_le a b
  rw [IntKind.wrap_i64]; omega
set_option maxHeartbeats 1000000 in
theorem pick_any (l : List Int) (A0 : Option Addr) (c0 at_ : Nat) (n : Int) (LB AB : Nat) (W : World) (hne : LB ≠ AB) (hl : W.cell? ⟨LB, 0, none⟩ = some (.slice A0 l.length c0)) (hab : W.heap[AB]? = some (.cells #[.int .i64 (at_ : Int)] 3 (0, 0)))
    (hr : ∀ W', Kept W W' (fun k => k = AB) → Kd.C (Kd.int .u8) W' A0 l.length l) (hn : n ≠ 0) (hat : at_ < 1000000) (hu : ∀ x ∈ l, 0 ≤ x ∧ x ≤ 255) :
    Calls Try.prog 31 #[.int .i64 n, .pointer (some ⟨AB, 0, none⟩), .pointer (some ⟨LB, 0, none⟩)] W fun e w' => e = .returned (.int .i64 (mPick l at_ n)) ∧ Aside0 (Kept W w' (fun k => k = AB)) ∧ Aside0 (w'.heap[AB]? = some (.cells #[.int .i64 ((at_ + 1 : Nat) : Int)] 3 (0, 0))) ∧ Aside0 (Below AB W w') := by
  have ha : W.cell? ⟨AB, 0, none⟩ = some (.int .i64 (at_ : Int)) := (blk_cell hab 0).trans rfl
  have hf := blk_frozen hab 0
  have HA3 := Aside0.mk (blk_put hab 0 (.int .i64 ((at_ : Int) + 1)) (cs' := #[.int .i64 ((at_ + 1 : Nat) : Int)]) rfl)
  have hK := Kept.setCell (Kept.refl W (fun k => k = AB)) (p := ⟨AB, 0, none⟩) (.inl rfl) (.int .i64 ((at_ : Int) + 1))
  have hw1 : IntKind.i64.wrap ((at_ : Int) + 1) = (at_ : Int) + 1 := by rw [IntKind.wrap_i64]; omega
  have hw2 : IntKind.i64.wrap ((at_ : Int) + 1 - 1) = (at_ : Int) := by rw [IntKind.wrap_i64]; omega
  have hl2 : (W.setCell ⟨AB, 0, none⟩ (.int .i64 ((at_ : Int) + 1))).cell? ⟨LB, 0, none⟩ = some (.slice A0 l.length c0) := cell_kept hl hK hne
  have ha2 : (W.setCell ⟨AB, 0, none⟩ (.int .i64 ((at_ : Int) + 1))).cell? ⟨AB, 0, none⟩ = some (.int .i64 ((at_ : Int) + 1)) := World.cell?_setCell_same' _ _ _ (by rw [ha]; rfl)
  have HB : Aside0 (Below AB W (W.setCell ⟨AB, 0, none⟩ (.int .i64 ((at_ : Int) + 1)))) := ⟨(Below.refl AB W).setCell (Nat.le_refl _) _⟩
  have HK := Aside0.mk hK
  have HU := Aside0.mk hu
  have HR := Aside0.mk hr
  clear hK hu hr hab
  by_cases hlt : l.length < at_ + 1
  · have e : mPick l at_ n = 0 := if_pos hlt
    rw [e]
    have d0 : decide ((at_ : Int) + 1 > (l.length : Int)) = true := decide_eq_true (by omega)
    clear hlt e
    go_enter Try.func31, Try.ntmps31
    go_wp2
    go_ret
    exact ⟨rfl, HK, HA3, HB⟩
  · have e : mPick l at_ n = Int.tmod (l.getD at_ 0) n := if_neg hlt
    rw [e]
    have d0 : decide ((at_ : Int) + 1 > (l.length : Int)) = false := decide_eq_false (by omega)
    obtain ⟨ad, ead, hc⟩ := Kd.at_int (HR.out _ HK.out) (at_ : Int) (by omega) (by omega)
    cases ead
    have p0 : (0 ≤ (at_ : Int)) = True := eq_true (by omega)
    have p1 : ((at_ : Int) < (l.length : Int)) = True := eq_true (by omega)
    have hx := HU.out (l.getD at_ 0) (by rw [List.getD_eq_getElem?_getD, List.getElem?_eq_getElem (by omega)]; exact List.getElem_mem _)
    have hx0 : rd l (at_ : Int) = l.getD at_ 0 := rfl
    rw [hx0] at hc
    generalize l.getD at_ 0 = x at hc hx
    have hw3 := wrap_u8 hx.1 hx.2
    have hw4 := wrap_tmod (n := n) hx.1 hx.2
    rw [Int.toNat_natCast] at hc
    clear hx hx0 hlt e
    go_enter Try.func31, Try.ntmps31
    go_wp2
    go_ret
    exact ⟨rfl, HK, HA3, HB⟩
theorem mPick_lt {l : List Int} (hu : ∀ x ∈ l, 0 ≤ x ∧ x ≤ 255) (at_ : Nat) {n : Int} (hn : 0 < n) : 0 ≤ mPick l at_ n ∧ mPick l at_ n < n := by
  unfold mPick
  split
  · omega
  · have hx := hu (l.getD at_ 0) (by rw [List.getD_eq_getElem?_getD, List.getElem?_eq_getElem (by omega)]; exact List.getElem_mem _)
    exact ⟨Int.tmod_nonneg n hx.1, Int.tmod_lt_of_pos _ hn⟩
def mRight (l : List Int) (n t : Int) : Nat → Nat → List S49 → List S49 × Nat
  | 0, at_, acc => (acc, at_)
  | c + 1, at_, acc => mRight l n t c (at_ + 2) (acc ++ [if mPick l at_ 2 = 0 then ⟨true, mPick l (at_ + 1) t⟩ else ⟨false, mPick l (at_ + 1) n⟩])
def mProds (l : List Int) (n t : Int) : Nat → Nat → List S34 → List S34
  | 0, _, acc => acc
  | i + 1, at_, acc => mProds l n t i (mRight l n t (mPick l (at_ + 1) 4).toNat (at_ + 2) []).2 (acc ++ [⟨mPick l at_ n, (mRight l n t (mPick l (at_ + 1) 4).toNat (at_ + 2) []).1⟩])
def mNames : List ByteArray := [⟨#[97]⟩, ⟨#[98]⟩, ⟨#[99]⟩, ⟨#[100]⟩, ⟨#[101]⟩]
def mTexts : List ByteArray := [⟨#[120]⟩, ⟨#[121]⟩, ⟨#[122]⟩, ⟨#[119]⟩]
def mTok (s : ByteArray) : S62 := ⟨⟨#[]⟩, ⟨5, s, [], 0, 0, []⟩⟩
def regletlaw13_Made.f (k : Nat) (l : List Int) : Option (List ByteArray × List S62 × Int × Int × List S34) :=
  if l.all (fun x => decide (0 ≤ x ∧ x ≤ 255)) = true then some (mNames.take (1 + mPick l 0 5).toNat, (mTexts.map mTok).take (1 + mPick l 1 4).toNat, 0, 0, mProds l (1 + mPick l 0 5) (1 + mPick l 1 4) (1 + mPick l 2 10).toNat 3 []) else none
theorem regletlaw13_Made.mono : ∀ l k, LeO (regletlaw13_Made.f k l) (regletlaw13_Made.f (k + 1) l) := fun _ _ => LeO.refl _
structure MadeI (w : World) (A0 : Option Addr) (n0 c0 : Nat) (at_ : Nat) (vn vt vp : Value) (W : World) : Prop where
  bel : Below w.heap.size w W
  l : W.heap[w.heap.size]? = some (.cells #[.slice A0 n0 c0] 31 (0, 0))
  r : W.heap[w.heap.size + 1]? = some (.cells #[.slice none 0 0, .slice none 0 0, .int .i64 0, .int .i64 0, .slice none 0 0] 26 (0, 0))
  s : W.heap[w.heap.size + 2]? = some (.cells #[vn, vt, .int .i64 0, .int .i64 0, vp] 26 (0, 0))
  a : W.heap[w.heap.size + 3]? = some (.cells #[.int .i64 (at_ : Int)] 3 (0, 0))
theorem MadeI.pick {w W W' : World} {A0 : Option Addr} {n0 c0 at_ : Nat} {vn vt vp : Value} (h : MadeI w A0 n0 c0 at_ vn vt vp W) (hk : Kept W W' (fun k => k = w.heap.size + 3)) (ha : W'.heap[w.heap.size + 3]? = some (.cells #[.int .i64 ((at_ + 1 : Nat) : Int)] 3 (0, 0))) (hb : Below (w.heap.size + 3) W W') : MadeI w A0 n0 c0 (at_ + 1) vn vt vp W' :=
  ⟨h.bel.trans (hb.mono (by omega)), blk_kept h.l hk (by simp), blk_kept h.r hk (by simp), blk_kept h.s hk (by simp), ha⟩
theorem MadeI.calls {w W : World} {A0 : Option Addr} {l : List Int} {c0 at_ : Nat} {vn vt vp : Value} (h : MadeI w A0 l.length c0 at_ vn vt vp W) (hr : Kd.C (Kd.int .u8) w A0 l.length l) (n : Int) (hn : n ≠ 0) (hat : at_ < 1000000) (hu : ∀ x ∈ l, 0 ≤ x ∧ x ≤ 255) :
    Calls Try.prog 31 #[.int .i64 n, .pointer (some ⟨w.heap.size + 3, 0, none⟩), .pointer (some ⟨w.heap.size, 0, none⟩)] W fun e w' => e = .returned (.int .i64 (mPick l at_ n)) ∧ Aside0 (MadeI w A0 l.length c0 (at_ + 1) vn vt vp w') ∧ Aside0 (Kept W w' (fun k => k = w.heap.size + 3)) := by
  refine (pick_any l A0 c0 at_ n w.heap.size (w.heap.size + 3) W (by omega) ((blk_cell h.l 0).trans rfl) h.a (fun W' hk => ?_) hn hat hu).mono ?_
  · refine Kd.C_kept_came (Kd.heap_int _) hr h.bel (S := fun k => k = w.heap.size + 3) (fun k hk => by omega) W' hk
  · rintro e w' ⟨rfl, hk, ha, hb⟩
    exact ⟨rfl, ⟨h.pick hk.out ha.out hb.out⟩, hk⟩
end Go.Proofs.Ytojdjjbkpbapfaa.P
end

section
namespace Go.Proofs.Ytojdjjbkpbapfaa.P
open Go.RowKit Go.Proofs.YtojdjjbkpbapfaaW.PrintWords Go.Proofs.YtojdjjbkpbapfaaW.PrintLast Go.Proofs.YtojdjjbkpbapfaaW.PrintMore
attribute [local go_sem] max2_int min2_int max_two min_two max_three min_three max_four min_four   -- for this text's walks alone
set_option linter.unusedVariables false
set_option linter.unusedSimpArgs false
def regletlaw13_awake.f (k : Nat)  : Option (Bool) := (some (([(⟨#[97]⟩ : ByteArray), (⟨#[98]⟩ : ByteArray)] : List ByteArray) : List ByteArray)).bind fun y153 => (if 2 ≤ 2706490160679 then ((some (List.replicate 2 z62 : List (S62))).bind fun y156 => ((some (([(⟨0, (([(⟨false, 1⟩ : S49), (⟨true, 0⟩ : S49)] : List (S49)))⟩ : S34), (⟨1, (([(⟨true, 1⟩ : S49)] : List (S49)))⟩ : S34), (⟨1, ([] : List (S49))⟩ : S34)] : List (S34)) : List (S34))).bind fun y165 => ((firsts_Of.f k y153 y156 0 0 y165 (([(⟨false, 1⟩ : S49)] : List (S49)))).bind fun bt172 => ((firsts_Right.f y153 y156 0 0 y165).bind fun t176 => (if t176 = true then ((firsts_Right.f ([] : List ByteArray) ([] : List (S62)) 0 0 (([(⟨0, ([] : List (S49))⟩ : S34)] : List (S34)))).bind fun t180 => (if t180 = true then (none) else ((firsts_First.f k y153 y156 0 0 y165).bind fun t181 => ((regletref13_SameLists.f k t181 (([(([0, 1] : List Int)), (([1] : List Int))] : List (List Int)))).bind fun t193 => (if t193 = true then ((firsts_Follow.f k y153 y156 0 0 y165).bind fun t194 => ((regletref13_SameLists.f k t194 (([(([2] : List Int)), (([0] : List Int))] : List (List Int)))).bind fun t206 => (if t206 = true then ((firsts_Empty.f k y153 y156 0 0 y165).bind fun t207 => ((regletref13_SameBools.f k t207 (([false, true] : List Bool))).bind fun t213 => (if t213 = true then ((firsts_Useful.f k y153 y156 0 0 y165).bind fun t214 => ((regletref13_SameBools.f k t214 (([true, true] : List Bool))).bind fun t220 => (if t220 = true then ((regletref13_SameInts.f k bt172.1 (([1] : List Int))).bind fun t224 => (if t224 = true then (some bt172.2) else (none))) else (none)))) else (none)))) else (none)))) else (none)))))) else (none)))))) else (none))
theorem regletlaw13_awake.mono : ∀ k, LeO (regletlaw13_awake.f k ) (regletlaw13_awake.f (k + 1) ) := by
  intro  k
  unfold regletlaw13_awake.f
  repeat' first
      | (with_reducible exact firsts_Empty.mono _ _ _ _ _ _)
      | (with_reducible exact firsts_First.mono _ _ _ _ _ _)
      | (with_reducible exact firsts_Follow.mono _ _ _ _ _ _)
      | (with_reducible exact firsts_Of.mono _ _ _ _ _ _ _)
      | (with_reducible exact firsts_Useful.mono _ _ _ _ _ _)
      | (with_reducible exact regletref13_SameBools.mono _ _ _)
      | (with_reducible exact regletref13_SameInts.mono _ _ _)
      | (with_reducible exact regletref13_SameLists.mono _ _ _)
      | (with_reducible exact LeO.refl _)
      | (with_reducible exact LeO.none _)
      | (with_reducible refine LeO.ite ?_ ?_)
      | (with_reducible refine LeO.bind ?_ (fun _ => ?_))
      | exact firsts_Empty.mono _ _ _ _ _ _
      | exact firsts_First.mono _ _ _ _ _ _
      | exact firsts_Follow.mono _ _ _ _ _ _
      | exact firsts_Of.mono _ _ _ _ _ _ _
      | exact firsts_Useful.mono _ _ _ _ _ _
      | exact regletref13_SameBools.mono _ _ _
      | exact regletref13_SameInts.mono _ _ _
      | exact regletref13_SameLists.mono _ _ _
      | exact LeO.none _
      | refine LeO.ite ?_ ?_
      | refine LeO.bind ?_ (fun _ => ?_)
set_option maxHeartbeats 8000000 in
set_option maxRecDepth 100000 in
theorem regletlaw13_awake.calls (k : Nat)  (r : Bool) (w : World) (h : regletlaw13_awake.f k  = some r) :
    Calls Try.prog 9 #[] w fun e w' => e = .returned (.bool r) ∧ Below w.heap.size w w' := by
  have hu49 := Try.underlying49
  have hu34 := Try.underlying34
  have hu26 := Try.underlying26
  have HB := Aside0.mk (Below.refl w.heap.size w)
  have H : ((some (([(⟨#[97]⟩ : ByteArray), (⟨#[98]⟩ : ByteArray)] : List ByteArray) : List ByteArray)).bind fun y153 => (if 2 ≤ 2706490160679 then ((some (List.replicate 2 z62 : List (S62))).bind fun y156 => ((some (([(⟨0, (([(⟨false, 1⟩ : S49), (⟨true, 0⟩ : S49)] : List (S49)))⟩ : S34), (⟨1, (([(⟨true, 1⟩ : S49)] : List (S49)))⟩ : S34), (⟨1, ([] : List (S49))⟩ : S34)] : List (S34)) : List (S34))).bind fun y165 => ((firsts_Of.f k y153 y156 0 0 y165 (([(⟨false, 1⟩ : S49)] : List (S49)))).bind fun bt172 => ((firsts_Right.f y153 y156 0 0 y165).bind fun t176 => (if t176 = true then ((firsts_Right.f ([] : List ByteArray) ([] : List (S62)) 0 0 (([(⟨0, ([] : List (S49))⟩ : S34)] : List (S34)))).bind fun t180 => (if t180 = true then (none) else ((firsts_First.f k y153 y156 0 0 y165).bind fun t181 => ((regletref13_SameLists.f k t181 (([(([0, 1] : List Int)), (([1] : List Int))] : List (List Int)))).bind fun t193 => (if t193 = true then ((firsts_Follow.f k y153 y156 0 0 y165).bind fun t194 => ((regletref13_SameLists.f k t194 (([(([2] : List Int)), (([0] : List Int))] : List (List Int)))).bind fun t206 => (if t206 = true then ((firsts_Empty.f k y153 y156 0 0 y165).bind fun t207 => ((regletref13_SameBools.f k t207 (([false, true] : List Bool))).bind fun t213 => (if t213 = true then ((firsts_Useful.f k y153 y156 0 0 y165).bind fun t214 => ((regletref13_SameBools.f k t214 (([true, true] : List Bool))).bind fun t220 => (if t220 = true then ((regletref13_SameInts.f k bt172.1 (([1] : List Int))).bind fun t224 => (if t224 = true then (some bt172.2) else (none))) else (none)))) else (none)))) else (none)))) else (none)))))) else (none)))))) else (none))) = some r := h
  clear h
  obtain ⟨y153, hy153⟩ : ∃ y_ : List ByteArray, y_ = (([(⟨#[97]⟩ : ByteArray), (⟨#[98]⟩ : ByteArray)] : List ByteArray)) := ⟨_, rfl⟩
  replace H : (if 2 ≤ 2706490160679 then ((some (List.replicate 2 z62 : List (S62))).bind fun y156 => ((some (([(⟨0, (([(⟨false, 1⟩ : S49), (⟨true, 0⟩ : S49)] : List (S49)))⟩ : S34), (⟨1, (([(⟨true, 1⟩ : S49)] : List (S49)))⟩ : S34), (⟨1, ([] : List (S49))⟩ : S34)] : List (S34)) : List (S34))).bind fun y165 => ((firsts_Of.f k y153 y156 0 0 y165 (([(⟨false, 1⟩ : S49)] : List (S49)))).bind fun bt172 => ((firsts_Right.f y153 y156 0 0 y165).bind fun t176 => (if t176 = true then ((firsts_Right.f ([] : List ByteArray) ([] : List (S62)) 0 0 (([(⟨0, ([] : List (S49))⟩ : S34)] : List (S34)))).bind fun t180 => (if t180 = true then (none) else ((firsts_First.f k y153 y156 0 0 y165).bind fun t181 => ((regletref13_SameLists.f k t181 (([(([0, 1] : List Int)), (([1] : List Int))] : List (List Int)))).bind fun t193 => (if t193 = true then ((firsts_Follow.f k y153 y156 0 0 y165).bind fun t194 => ((regletref13_SameLists.f k t194 (([(([2] : List Int)), (([0] : List Int))] : List (List Int)))).bind fun t206 => (if t206 = true then ((firsts_Empty.f k y153 y156 0 0 y165).bind fun t207 => ((regletref13_SameBools.f k t207 (([false, true] : List Bool))).bind fun t213 => (if t213 = true then ((firsts_Useful.f k y153 y156 0 0 y165).bind fun t214 => ((regletref13_SameBools.f k t214 (([true, true] : List Bool))).bind fun t220 => (if t220 = true then ((regletref13_SameInts.f k bt172.1 (([1] : List Int))).bind fun t224 => (if t224 = true then (some bt172.2) else (none))) else (none)))) else (none)))) else (none)))) else (none)))))) else (none)))))) else (none)) = some r := by first | (rw [hy153]; with_reducible exact H) | (have H2_ := (Option.bind_some _ _).symm.trans H; rw [hy153]; with_reducible exact H2_) | (have H2_ := (Option.bind_some _ _).symm.trans H; with_reducible exact H2_) | with_reducible exact H | (rw [hy153]; exact H) | exact H
  have Ny153 := Aside0.mk hy153
  clear hy153
  by_cases c1 : 2 ≤ 2706490160679
  · rw [if_pos c1] at H
    have c1b0 := eq_true c1
    have c1b1 : decide (2 ≤ 2706490160679) = true := decide_eq_true c1
    clear c1
    obtain ⟨y156, hy156⟩ : ∃ y_ : List (S62), y_ = (List.replicate 2 z62) := ⟨_, rfl⟩
    replace H : ((some (([(⟨0, (([(⟨false, 1⟩ : S49), (⟨true, 0⟩ : S49)] : List (S49)))⟩ : S34), (⟨1, (([(⟨true, 1⟩ : S49)] : List (S49)))⟩ : S34), (⟨1, ([] : List (S49))⟩ : S34)] : List (S34)) : List (S34))).bind fun y165 => ((firsts_Of.f k y153 y156 0 0 y165 (([(⟨false, 1⟩ : S49)] : List (S49)))).bind fun bt172 => ((firsts_Right.f y153 y156 0 0 y165).bind fun t176 => (if t176 = true then ((firsts_Right.f ([] : List ByteArray) ([] : List (S62)) 0 0 (([(⟨0, ([] : List (S49))⟩ : S34)] : List (S34)))).bind fun t180 => (if t180 = true then (none) else ((firsts_First.f k y153 y156 0 0 y165).bind fun t181 => ((regletref13_SameLists.f k t181 (([(([0, 1] : List Int)), (([1] : List Int))] : List (List Int)))).bind fun t193 => (if t193 = true then ((firsts_Follow.f k y153 y156 0 0 y165).bind fun t194 => ((regletref13_SameLists.f k t194 (([(([2] : List Int)), (([0] : List Int))] : List (List Int)))).bind fun t206 => (if t206 = true then ((firsts_Empty.f k y153 y156 0 0 y165).bind fun t207 => ((regletref13_SameBools.f k t207 (([false, true] : List Bool))).bind fun t213 => (if t213 = true then ((firsts_Useful.f k y153 y156 0 0 y165).bind fun t214 => ((regletref13_SameBools.f k t214 (([true, true] : List Bool))).bind fun t220 => (if t220 = true then ((regletref13_SameInts.f k bt172.1 (([1] : List Int))).bind fun t224 => (if t224 = true then (some bt172.2) else (none))) else (none)))) else (none)))) else (none)))) else (none)))))) else (none))))) = some r := by first | (rw [hy156]; with_reducible exact H) | (have H2_ := (Option.bind_some _ _).symm.trans H; rw [hy156]; with_reducible exact H2_) | (have H2_ := (Option.bind_some _ _).symm.trans H; with_reducible exact H2_) | with_reducible exact H | (rw [hy156]; exact H) | exact H
    have Ny156 := Aside0.mk hy156
    clear hy156
    obtain ⟨y159, hy159⟩ : ∃ y_ : List (S49), y_ = (([(⟨false, 1⟩ : S49), (⟨true, 0⟩ : S49)] : List (S49))) := ⟨_, rfl⟩
    replace H : ((some (([(⟨0, y159⟩ : S34), (⟨1, (([(⟨true, 1⟩ : S49)] : List (S49)))⟩ : S34), (⟨1, ([] : List (S49))⟩ : S34)] : List (S34)) : List (S34))).bind fun y165 => ((firsts_Of.f k y153 y156 0 0 y165 (([(⟨false, 1⟩ : S49)] : List (S49)))).bind fun bt172 => ((firsts_Right.f y153 y156 0 0 y165).bind fun t176 => (if t176 = true then ((firsts_Right.f ([] : List ByteArray) ([] : List (S62)) 0 0 (([(⟨0, ([] : List (S49))⟩ : S34)] : List (S34)))).bind fun t180 => (if t180 = true then (none) else ((firsts_First.f k y153 y156 0 0 y165).bind fun t181 => ((regletref13_SameLists.f k t181 (([(([0, 1] : List Int)), (([1] : List Int))] : List (List Int)))).bind fun t193 => (if t193 = true then ((firsts_Follow.f k y153 y156 0 0 y165).bind fun t194 => ((regletref13_SameLists.f k t194 (([(([2] : List Int)), (([0] : List Int))] : List (List Int)))).bind fun t206 => (if t206 = true then ((firsts_Empty.f k y153 y156 0 0 y165).bind fun t207 => ((regletref13_SameBools.f k t207 (([false, true] : List Bool))).bind fun t213 => (if t213 = true then ((firsts_Useful.f k y153 y156 0 0 y165).bind fun t214 => ((regletref13_SameBools.f k t214 (([true, true] : List Bool))).bind fun t220 => (if t220 = true then ((regletref13_SameInts.f k bt172.1 (([1] : List Int))).bind fun t224 => (if t224 = true then (some bt172.2) else (none))) else (none)))) else (none)))) else (none)))) else (none)))))) else (none))))) = some r := by first | (rw [hy159]; with_reducible exact H) | (have H2_ := (Option.bind_some _ _).symm.trans H; rw [hy159]; with_reducible exact H2_) | (have H2_ := (Option.bind_some _ _).symm.trans H; with_reducible exact H2_) | with_reducible exact H | (rw [hy159]; exact H) | exact H
    have Ny159 := Aside0.mk hy159
    clear hy159
    obtain ⟨y162, hy162⟩ : ∃ y_ : List (S49), y_ = (([(⟨true, 1⟩ : S49)] : List (S49))) := ⟨_, rfl⟩
    replace H : ((some (([(⟨0, y159⟩ : S34), (⟨1, y162⟩ : S34), (⟨1, ([] : List (S49))⟩ : S34)] : List (S34)) : List (S34))).bind fun y165 => ((firsts_Of.f k y153 y156 0 0 y165 (([(⟨false, 1⟩ : S49)] : List (S49)))).bind fun bt172 => ((firsts_Right.f y153 y156 0 0 y165).bind fun t176 => (if t176 = true then ((firsts_Right.f ([] : List ByteArray) ([] : List (S62)) 0 0 (([(⟨0, ([] : List (S49))⟩ : S34)] : List (S34)))).bind fun t180 => (if t180 = true then (none) else ((firsts_First.f k y153 y156 0 0 y165).bind fun t181 => ((regletref13_SameLists.f k t181 (([(([0, 1] : List Int)), (([1] : List Int))] : List (List Int)))).bind fun t193 => (if t193 = true then ((firsts_Follow.f k y153 y156 0 0 y165).bind fun t194 => ((regletref13_SameLists.f k t194 (([(([2] : List Int)), (([0] : List Int))] : List (List Int)))).bind fun t206 => (if t206 = true then ((firsts_Empty.f k y153 y156 0 0 y165).bind fun t207 => ((regletref13_SameBools.f k t207 (([false, true] : List Bool))).bind fun t213 => (if t213 = true then ((firsts_Useful.f k y153 y156 0 0 y165).bind fun t214 => ((regletref13_SameBools.f k t214 (([true, true] : List Bool))).bind fun t220 => (if t220 = true then ((regletref13_SameInts.f k bt172.1 (([1] : List Int))).bind fun t224 => (if t224 = true then (some bt172.2) else (none))) else (none)))) else (none)))) else (none)))) else (none)))))) else (none))))) = some r := by first | (rw [hy162]; with_reducible exact H) | (have H2_ := (Option.bind_some _ _).symm.trans H; rw [hy162]; with_reducible exact H2_) | (have H2_ := (Option.bind_some _ _).symm.trans H; with_reducible exact H2_) | with_reducible exact H | (rw [hy162]; exact H) | exact H
    have Ny162 := Aside0.mk hy162
    clear hy162
    obtain ⟨y165, hy165⟩ : ∃ y_ : List (S34), y_ = (([(⟨0, y159⟩ : S34), (⟨1, y162⟩ : S34), (⟨1, ([] : List (S49))⟩ : S34)] : List (S34))) := ⟨_, rfl⟩
    replace H : ((firsts_Of.f k y153 y156 0 0 y165 (([(⟨false, 1⟩ : S49)] : List (S49)))).bind fun bt172 => ((firsts_Right.f y153 y156 0 0 y165).bind fun t176 => (if t176 = true then ((firsts_Right.f ([] : List ByteArray) ([] : List (S62)) 0 0 (([(⟨0, ([] : List (S49))⟩ : S34)] : List (S34)))).bind fun t180 => (if t180 = true then (none) else ((firsts_First.f k y153 y156 0 0 y165).bind fun t181 => ((regletref13_SameLists.f k t181 (([(([0, 1] : List Int)), (([1] : List Int))] : List (List Int)))).bind fun t193 => (if t193 = true then ((firsts_Follow.f k y153 y156 0 0 y165).bind fun t194 => ((regletref13_SameLists.f k t194 (([(([2] : List Int)), (([0] : List Int))] : List (List Int)))).bind fun t206 => (if t206 = true then ((firsts_Empty.f k y153 y156 0 0 y165).bind fun t207 => ((regletref13_SameBools.f k t207 (([false, true] : List Bool))).bind fun t213 => (if t213 = true then ((firsts_Useful.f k y153 y156 0 0 y165).bind fun t214 => ((regletref13_SameBools.f k t214 (([true, true] : List Bool))).bind fun t220 => (if t220 = true then ((regletref13_SameInts.f k bt172.1 (([1] : List Int))).bind fun t224 => (if t224 = true then (some bt172.2) else (none))) else (none)))) else (none)))) else (none)))) else (none)))))) else (none)))) = some r := by first | (rw [hy165]; with_reducible exact H) | (have H2_ := (Option.bind_some _ _).symm.trans H; rw [hy165]; with_reducible exact H2_) | (have H2_ := (Option.bind_some _ _).symm.trans H; with_reducible exact H2_) | with_reducible exact H | (rw [hy165]; exact H) | exact H
    have Ny165 := Aside0.mk hy165
    clear hy165
    obtain ⟨y169, hy169⟩ : ∃ y_ : List (S49), y_ = (([(⟨false, 1⟩ : S49)] : List (S49))) := ⟨_, rfl⟩
    replace H : ((firsts_Of.f k y153 y156 0 0 y165 y169).bind fun bt172 => ((firsts_Right.f y153 y156 0 0 y165).bind fun t176 => (if t176 = true then ((firsts_Right.f ([] : List ByteArray) ([] : List (S62)) 0 0 (([(⟨0, ([] : List (S49))⟩ : S34)] : List (S34)))).bind fun t180 => (if t180 = true then (none) else ((firsts_First.f k y153 y156 0 0 y165).bind fun t181 => ((regletref13_SameLists.f k t181 (([(([0, 1] : List Int)), (([1] : List Int))] : List (List Int)))).bind fun t193 => (if t193 = true then ((firsts_Follow.f k y153 y156 0 0 y165).bind fun t194 => ((regletref13_SameLists.f k t194 (([(([2] : List Int)), (([0] : List Int))] : List (List Int)))).bind fun t206 => (if t206 = true then ((firsts_Empty.f k y153 y156 0 0 y165).bind fun t207 => ((regletref13_SameBools.f k t207 (([false, true] : List Bool))).bind fun t213 => (if t213 = true then ((firsts_Useful.f k y153 y156 0 0 y165).bind fun t214 => ((regletref13_SameBools.f k t214 (([true, true] : List Bool))).bind fun t220 => (if t220 = true then ((regletref13_SameInts.f k bt172.1 (([1] : List Int))).bind fun t224 => (if t224 = true then (some bt172.2) else (none))) else (none)))) else (none)))) else (none)))) else (none)))))) else (none)))) = some r := by first | (rw [hy169]; with_reducible exact H) | (have H2_ := (Option.bind_some _ _).symm.trans H; rw [hy169]; with_reducible exact H2_) | (have H2_ := (Option.bind_some _ _).symm.trans H; with_reducible exact H2_) | with_reducible exact H | (rw [hy169]; exact H) | exact H
    have Ny169 := Aside0.mk hy169
    clear hy169
    replace H := Option.bind_eq_some_iff.mp H
    obtain ⟨⟨t172, t175⟩, A20, H⟩ := H
    replace H : ((firsts_Right.f y153 y156 0 0 y165).bind fun t176 => (if t176 = true then ((firsts_Right.f ([] : List ByteArray) ([] : List (S62)) 0 0 (([(⟨0, ([] : List (S49))⟩ : S34)] : List (S34)))).bind fun t180 => (if t180 = true then (none) else ((firsts_First.f k y153 y156 0 0 y165).bind fun t181 => ((regletref13_SameLists.f k t181 (([(([0, 1] : List Int)), (([1] : List Int))] : List (List Int)))).bind fun t193 => (if t193 = true then ((firsts_Follow.f k y153 y156 0 0 y165).bind fun t194 => ((regletref13_SameLists.f k t194 (([(([2] : List Int)), (([0] : List Int))] : List (List Int)))).bind fun t206 => (if t206 = true then ((firsts_Empty.f k y153 y156 0 0 y165).bind fun t207 => ((regletref13_SameBools.f k t207 (([false, true] : List Bool))).bind fun t213 => (if t213 = true then ((firsts_Useful.f k y153 y156 0 0 y165).bind fun t214 => ((regletref13_SameBools.f k t214 (([true, true] : List Bool))).bind fun t220 => (if t220 = true then ((regletref13_SameInts.f k t172 (([1] : List Int))).bind fun t224 => (if t224 = true then (some t175) else (none))) else (none)))) else (none)))) else (none)))) else (none)))))) else (none))) = some r := H
    have A2 := Aside0.mk A20
    clear A20
    replace H := Option.bind_eq_some_iff.mp H
    obtain ⟨t176, A30, H⟩ := H
    replace H : (if t176 = true then ((firsts_Right.f ([] : List ByteArray) ([] : List (S62)) 0 0 (([(⟨0, ([] : List (S49))⟩ : S34)] : List (S34)))).bind fun t180 => (if t180 = true then (none) else ((firsts_First.f k y153 y156 0 0 y165).bind fun t181 => ((regletref13_SameLists.f k t181 (([(([0, 1] : List Int)), (([1] : List Int))] : List (List Int)))).bind fun t193 => (if t193 = true then ((firsts_Follow.f k y153 y156 0 0 y165).bind fun t194 => ((regletref13_SameLists.f k t194 (([(([2] : List Int)), (([0] : List Int))] : List (List Int)))).bind fun t206 => (if t206 = true then ((firsts_Empty.f k y153 y156 0 0 y165).bind fun t207 => ((regletref13_SameBools.f k t207 (([false, true] : List Bool))).bind fun t213 => (if t213 = true then ((firsts_Useful.f k y153 y156 0 0 y165).bind fun t214 => ((regletref13_SameBools.f k t214 (([true, true] : List Bool))).bind fun t220 => (if t220 = true then ((regletref13_SameInts.f k t172 (([1] : List Int))).bind fun t224 => (if t224 = true then (some t175) else (none))) else (none)))) else (none)))) else (none)))) else (none)))))) else (none)) = some r := H
    have A3 := Aside0.mk A30
    clear A30
    by_cases c4 : t176 = true
    · subst c4
      have H1 : ((firsts_Right.f ([] : List ByteArray) ([] : List (S62)) 0 0 (([(⟨0, ([] : List (S49))⟩ : S34)] : List (S34)))).bind fun t180 => (if t180 = true then (none) else ((firsts_First.f k y153 y156 0 0 y165).bind fun t181 => ((regletref13_SameLists.f k t181 (([(([0, 1] : List Int)), (([1] : List Int))] : List (List Int)))).bind fun t193 => (if t193 = true then ((firsts_Follow.f k y153 y156 0 0 y165).bind fun t194 => ((regletref13_SameLists.f k t194 (([(([2] : List Int)), (([0] : List Int))] : List (List Int)))).bind fun t206 => (if t206 = true then ((firsts_Empty.f k y153 y156 0 0 y165).bind fun t207 => ((regletref13_SameBools.f k t207 (([false, true] : List Bool))).bind fun t213 => (if t213 = true then ((firsts_Useful.f k y153 y156 0 0 y165).bind fun t214 => ((regletref13_SameBools.f k t214 (([true, true] : List Bool))).bind fun t220 => (if t220 = true then ((regletref13_SameInts.f k t172 (([1] : List Int))).bind fun t224 => (if t224 = true then (some t175) else (none))) else (none)))) else (none)))) else (none)))) else (none)))))) = some r := by rw [if_pos rfl] at H; exact H
      clear H
      have H := H1
      clear H1
      obtain ⟨y177, hy177⟩ : ∃ y_ : List (S34), y_ = (([(⟨0, ([] : List (S49))⟩ : S34)] : List (S34))) := ⟨_, rfl⟩
      replace H : ((firsts_Right.f ([] : List ByteArray) ([] : List (S62)) 0 0 y177).bind fun t180 => (if t180 = true then (none) else ((firsts_First.f k y153 y156 0 0 y165).bind fun t181 => ((regletref13_SameLists.f k t181 (([(([0, 1] : List Int)), (([1] : List Int))] : List (List Int)))).bind fun t193 => (if t193 = true then ((firsts_Follow.f k y153 y156 0 0 y165).bind fun t194 => ((regletref13_SameLists.f k t194 (([(([2] : List Int)), (([0] : List Int))] : List (List Int)))).bind fun t206 => (if t206 = true then ((firsts_Empty.f k y153 y156 0 0 y165).bind fun t207 => ((regletref13_SameBools.f k t207 (([false, true] : List Bool))).bind fun t213 => (if t213 = true then ((firsts_Useful.f k y153 y156 0 0 y165).bind fun t214 => ((regletref13_SameBools.f k t214 (([true, true] : List Bool))).bind fun t220 => (if t220 = true then ((regletref13_SameInts.f k t172 (([1] : List Int))).bind fun t224 => (if t224 = true then (some t175) else (none))) else (none)))) else (none)))) else (none)))) else (none)))))) = some r := by first | (rw [hy177]; with_reducible exact H) | (have H2_ := (Option.bind_some _ _).symm.trans H; rw [hy177]; with_reducible exact H2_) | (have H2_ := (Option.bind_some _ _).symm.trans H; with_reducible exact H2_) | with_reducible exact H | (rw [hy177]; exact H) | exact H
      have Ny177 := Aside0.mk hy177
      clear hy177
      replace H := Option.bind_eq_some_iff.mp H
      obtain ⟨t180, A50, H⟩ := H
      replace H : (if t180 = true then (none) else ((firsts_First.f k y153 y156 0 0 y165).bind fun t181 => ((regletref13_SameLists.f k t181 (([(([0, 1] : List Int)), (([1] : List Int))] : List (List Int)))).bind fun t193 => (if t193 = true then ((firsts_Follow.f k y153 y156 0 0 y165).bind fun t194 => ((regletref13_SameLists.f k t194 (([(([2] : List Int)), (([0] : List Int))] : List (List Int)))).bind fun t206 => (if t206 = true then ((firsts_Empty.f k y153 y156 0 0 y165).bind fun t207 => ((regletref13_SameBools.f k t207 (([false, true] : List Bool))).bind fun t213 => (if t213 = true then ((firsts_Useful.f k y153 y156 0 0 y165).bind fun t214 => ((regletref13_SameBools.f k t214 (([true, true] : List Bool))).bind fun t220 => (if t220 = true then ((regletref13_SameInts.f k t172 (([1] : List Int))).bind fun t224 => (if t224 = true then (some t175) else (none))) else (none)))) else (none)))) else (none)))) else (none))))) = some r := H
      have A5 := Aside0.mk A50
      clear A50
      by_cases c6 : t180 = true
      · subst c6
        have H1 : (none) = some r := by rw [if_pos rfl] at H; exact H
        clear H
        have H := H1
        clear H1
        exact absurd H (by simp)
      · replace c6 := Bool.eq_false_iff.mpr c6
        subst c6
        have H1 : ((firsts_First.f k y153 y156 0 0 y165).bind fun t181 => ((regletref13_SameLists.f k t181 (([(([0, 1] : List Int)), (([1] : List Int))] : List (List Int)))).bind fun t193 => (if t193 = true then ((firsts_Follow.f k y153 y156 0 0 y165).bind fun t194 => ((regletref13_SameLists.f k t194 (([(([2] : List Int)), (([0] : List Int))] : List (List Int)))).bind fun t206 => (if t206 = true then ((firsts_Empty.f k y153 y156 0 0 y165).bind fun t207 => ((regletref13_SameBools.f k t207 (([false, true] : List Bool))).bind fun t213 => (if t213 = true then ((firsts_Useful.f k y153 y156 0 0 y165).bind fun t214 => ((regletref13_SameBools.f k t214 (([true, true] : List Bool))).bind fun t220 => (if t220 = true then ((regletref13_SameInts.f k t172 (([1] : List Int))).bind fun t224 => (if t224 = true then (some t175) else (none))) else (none)))) else (none)))) else (none)))) else (none)))) = some r := by rw [if_neg (show ¬ (false = true) by decide)] at H; exact H
        clear H
        have H := H1
        clear H1
        replace H := Option.bind_eq_some_iff.mp H
        obtain ⟨t181, A70, H⟩ := H
        replace H : ((regletref13_SameLists.f k t181 (([(([0, 1] : List Int)), (([1] : List Int))] : List (List Int)))).bind fun t193 => (if t193 = true then ((firsts_Follow.f k y153 y156 0 0 y165).bind fun t194 => ((regletref13_SameLists.f k t194 (([(([2] : List Int)), (([0] : List Int))] : List (List Int)))).bind fun t206 => (if t206 = true then ((firsts_Empty.f k y153 y156 0 0 y165).bind fun t207 => ((regletref13_SameBools.f k t207 (([false, true] : List Bool))).bind fun t213 => (if t213 = true then ((firsts_Useful.f k y153 y156 0 0 y165).bind fun t214 => ((regletref13_SameBools.f k t214 (([true, true] : List Bool))).bind fun t220 => (if t220 = true then ((regletref13_SameInts.f k t172 (([1] : List Int))).bind fun t224 => (if t224 = true then (some t175) else (none))) else (none)))) else (none)))) else (none)))) else (none))) = some r := H
        have A7 := Aside0.mk A70
        clear A70
        obtain ⟨y184, hy184⟩ : ∃ y_ : List Int, y_ = (([0, 1] : List Int)) := ⟨_, rfl⟩
        replace H : ((regletref13_SameLists.f k t181 (([y184, (([1] : List Int))] : List (List Int)))).bind fun t193 => (if t193 = true then ((firsts_Follow.f k y153 y156 0 0 y165).bind fun t194 => ((regletref13_SameLists.f k t194 (([(([2] : List Int)), (([0] : List Int))] : List (List Int)))).bind fun t206 => (if t206 = true then ((firsts_Empty.f k y153 y156 0 0 y165).bind fun t207 => ((regletref13_SameBools.f k t207 (([false, true] : List Bool))).bind fun t213 => (if t213 = true then ((firsts_Useful.f k y153 y156 0 0 y165).bind fun t214 => ((regletref13_SameBools.f k t214 (([true, true] : List Bool))).bind fun t220 => (if t220 = true then ((regletref13_SameInts.f k t172 (([1] : List Int))).bind fun t224 => (if t224 = true then (some t175) else (none))) else (none)))) else (none)))) else (none)))) else (none))) = some r := by first | (rw [hy184]; with_reducible exact H) | (have H2_ := (Option.bind_some _ _).symm.trans H; rw [hy184]; with_reducible exact H2_) | (have H2_ := (Option.bind_some _ _).symm.trans H; with_reducible exact H2_) | with_reducible exact H | (rw [hy184]; exact H) | exact H
        have Ny184 := Aside0.mk hy184
        clear hy184
        obtain ⟨y187, hy187⟩ : ∃ y_ : List Int, y_ = (([1] : List Int)) := ⟨_, rfl⟩
        replace H : ((regletref13_SameLists.f k t181 (([y184, y187] : List (List Int)))).bind fun t193 => (if t193 = true then ((firsts_Follow.f k y153 y156 0 0 y165).bind fun t194 => ((regletref13_SameLists.f k t194 (([(([2] : List Int)), (([0] : List Int))] : List (List Int)))).bind fun t206 => (if t206 = true then ((firsts_Empty.f k y153 y156 0 0 y165).bind fun t207 => ((regletref13_SameBools.f k t207 (([false, true] : List Bool))).bind fun t213 => (if t213 = true then ((firsts_Useful.f k y153 y156 0 0 y165).bind fun t214 => ((regletref13_SameBools.f k t214 (([true, true] : List Bool))).bind fun t220 => (if t220 = true then ((regletref13_SameInts.f k t172 (([1] : List Int))).bind fun t224 => (if t224 = true then (some t175) else (none))) else (none)))) else (none)))) else (none)))) else (none))) = some r := by first | (rw [hy187]; with_reducible exact H) | (have H2_ := (Option.bind_some _ _).symm.trans H; rw [hy187]; with_reducible exact H2_) | (have H2_ := (Option.bind_some _ _).symm.trans H; with_reducible exact H2_) | with_reducible exact H | (rw [hy187]; exact H) | exact H
        have Ny187 := Aside0.mk hy187
        clear hy187
        obtain ⟨y190, hy190⟩ : ∃ y_ : List (List Int), y_ = (([y184, y187] : List (List Int))) := ⟨_, rfl⟩
        replace H : ((regletref13_SameLists.f k t181 y190).bind fun t193 => (if t193 = true then ((firsts_Follow.f k y153 y156 0 0 y165).bind fun t194 => ((regletref13_SameLists.f k t194 (([(([2] : List Int)), (([0] : List Int))] : List (List Int)))).bind fun t206 => (if t206 = true then ((firsts_Empty.f k y153 y156 0 0 y165).bind fun t207 => ((regletref13_SameBools.f k t207 (([false, true] : List Bool))).bind fun t213 => (if t213 = true then ((firsts_Useful.f k y153 y156 0 0 y165).bind fun t214 => ((regletref13_SameBools.f k t214 (([true, true] : List Bool))).bind fun t220 => (if t220 = true then ((regletref13_SameInts.f k t172 (([1] : List Int))).bind fun t224 => (if t224 = true then (some t175) else (none))) else (none)))) else (none)))) else (none)))) else (none))) = some r := by first | (rw [hy190]; with_reducible exact H) | (have H2_ := (Option.bind_some _ _).symm.trans H; rw [hy190]; with_reducible exact H2_) | (have H2_ := (Option.bind_some _ _).symm.trans H; with_reducible exact H2_) | with_reducible exact H | (rw [hy190]; exact H) | exact H
        have Ny190 := Aside0.mk hy190
        clear hy190
        replace H := Option.bind_eq_some_iff.mp H
        obtain ⟨t193, A80, H⟩ := H
        replace H : (if t193 = true then ((firsts_Follow.f k y153 y156 0 0 y165).bind fun t194 => ((regletref13_SameLists.f k t194 (([(([2] : List Int)), (([0] : List Int))] : List (List Int)))).bind fun t206 => (if t206 = true then ((firsts_Empty.f k y153 y156 0 0 y165).bind fun t207 => ((regletref13_SameBools.f k t207 (([false, true] : List Bool))).bind fun t213 => (if t213 = true then ((firsts_Useful.f k y153 y156 0 0 y165).bind fun t214 => ((regletref13_SameBools.f k t214 (([true, true] : List Bool))).bind fun t220 => (if t220 = true then ((regletref13_SameInts.f k t172 (([1] : List Int))).bind fun t224 => (if t224 = true then (some t175) else (none))) else (none)))) else (none)))) else (none)))) else (none)) = some r := H
        have A8 := Aside0.mk A80
        clear A80
        by_cases c9 : t193 = true
        · subst c9
          have H1 : ((firsts_Follow.f k y153 y156 0 0 y165).bind fun t194 => ((regletref13_SameLists.f k t194 (([(([2] : List Int)), (([0] : List Int))] : List (List Int)))).bind fun t206 => (if t206 = true then ((firsts_Empty.f k y153 y156 0 0 y165).bind fun t207 => ((regletref13_SameBools.f k t207 (([false, true] : List Bool))).bind fun t213 => (if t213 = true then ((firsts_Useful.f k y153 y156 0 0 y165).bind fun t214 => ((regletref13_SameBools.f k t214 (([true, true] : List Bool))).bind fun t220 => (if t220 = true then ((regletref13_SameInts.f k t172 (([1] : List Int))).bind fun t224 => (if t224 = true then (some t175) else (none))) else (none)))) else (none)))) else (none)))) = some r := by rw [if_pos rfl] at H; exact H
          clear H
          have H := H1
          clear H1
          replace H := Option.bind_eq_some_iff.mp H
          obtain ⟨t194, A100, H⟩ := H
          replace H : ((regletref13_SameLists.f k t194 (([(([2] : List Int)), (([0] : List Int))] : List (List Int)))).bind fun t206 => (if t206 = true then ((firsts_Empty.f k y153 y156 0 0 y165).bind fun t207 => ((regletref13_SameBools.f k t207 (([false, true] : List Bool))).bind fun t213 => (if t213 = true then ((firsts_Useful.f k y153 y156 0 0 y165).bind fun t214 => ((regletref13_SameBools.f k t214 (([true, true] : List Bool))).bind fun t220 => (if t220 = true then ((regletref13_SameInts.f k t172 (([1] : List Int))).bind fun t224 => (if t224 = true then (some t175) else (none))) else (none)))) else (none)))) else (none))) = some r := H
          have A10 := Aside0.mk A100
          clear A100
          obtain ⟨y197, hy197⟩ : ∃ y_ : List Int, y_ = (([2] : List Int)) := ⟨_, rfl⟩
          replace H : ((regletref13_SameLists.f k t194 (([y197, (([0] : List Int))] : List (List Int)))).bind fun t206 => (if t206 = true then ((firsts_Empty.f k y153 y156 0 0 y165).bind fun t207 => ((regletref13_SameBools.f k t207 (([false, true] : List Bool))).bind fun t213 => (if t213 = true then ((firsts_Useful.f k y153 y156 0 0 y165).bind fun t214 => ((regletref13_SameBools.f k t214 (([true, true] : List Bool))).bind fun t220 => (if t220 = true then ((regletref13_SameInts.f k t172 (([1] : List Int))).bind fun t224 => (if t224 = true then (some t175) else (none))) else (none)))) else (none)))) else (none))) = some r := by first | (rw [hy197]; with_reducible exact H) | (have H2_ := (Option.bind_some _ _).symm.trans H; rw [hy197]; with_reducible exact H2_) | (have H2_ := (Option.bind_some _ _).symm.trans H; with_reducible exact H2_) | with_reducible exact H | (rw [hy197]; exact H) | exact H
          have Ny197 := Aside0.mk hy197
          clear hy197
          obtain ⟨y200, hy200⟩ : ∃ y_ : List Int, y_ = (([0] : List Int)) := ⟨_, rfl⟩
          replace H : ((regletref13_SameLists.f k t194 (([y197, y200] : List (List Int)))).bind fun t206 => (if t206 = true then ((firsts_Empty.f k y153 y156 0 0 y165).bind fun t207 => ((regletref13_SameBools.f k t207 (([false, true] : List Bool))).bind fun t213 => (if t213 = true then ((firsts_Useful.f k y153 y156 0 0 y165).bind fun t214 => ((regletref13_SameBools.f k t214 (([true, true] : List Bool))).bind fun t220 => (if t220 = true then ((regletref13_SameInts.f k t172 (([1] : List Int))).bind fun t224 => (if t224 = true then (some t175) else (none))) else (none)))) else (none)))) else (none))) = some r := by first | (rw [hy200]; with_reducible exact H) | (have H2_ := (Option.bind_some _ _).symm.trans H; rw [hy200]; with_reducible exact H2_) | (have H2_ := (Option.bind_some _ _).symm.trans H; with_reducible exact H2_) | with_reducible exact H | (rw [hy200]; exact H) | exact H
          have Ny200 := Aside0.mk hy200
          clear hy200
          obtain ⟨y203, hy203⟩ : ∃ y_ : List (List Int), y_ = (([y197, y200] : List (List Int))) := ⟨_, rfl⟩
          replace H : ((regletref13_SameLists.f k t194 y203).bind fun t206 => (if t206 = true then ((firsts_Empty.f k y153 y156 0 0 y165).bind fun t207 => ((regletref13_SameBools.f k t207 (([false, true] : List Bool))).bind fun t213 => (if t213 = true then ((firsts_Useful.f k y153 y156 0 0 y165).bind fun t214 => ((regletref13_SameBools.f k t214 (([true, true] : List Bool))).bind fun t220 => (if t220 = true then ((regletref13_SameInts.f k t172 (([1] : List Int))).bind fun t224 => (if t224 = true then (some t175) else (none))) else (none)))) else (none)))) else (none))) = some r := by first | (rw [hy203]; with_reducible exact H) | (have H2_ := (Option.bind_some _ _).symm.trans H; rw [hy203]; with_reducible exact H2_) | (have H2_ := (Option.bind_some _ _).symm.trans H; with_reducible exact H2_) | with_reducible exact H | (rw [hy203]; exact H) | exact H
          have Ny203 := Aside0.mk hy203
          clear hy203
          replace H := Option.bind_eq_some_iff.mp H
          obtain ⟨t206, A110, H⟩ := H
          replace H : (if t206 = true then ((firsts_Empty.f k y153 y156 0 0 y165).bind fun t207 => ((regletref13_SameBools.f k t207 (([false, true] : List Bool))).bind fun t213 => (if t213 = true then ((firsts_Useful.f k y153 y156 0 0 y165).bind fun t214 => ((regletref13_SameBools.f k t214 (([true, true] : List Bool))).bind fun t220 => (if t220 = true then ((regletref13_SameInts.f k t172 (([1] : List Int))).bind fun t224 => (if t224 = true then (some t175) else (none))) else (none)))) else (none)))) else (none)) = some r := H
          have A11 := Aside0.mk A110
          clear A110
          by_cases c12 : t206 = true
          · subst c12
            have H1 : ((firsts_Empty.f k y153 y156 0 0 y165).bind fun t207 => ((regletref13_SameBools.f k t207 (([false, true] : List Bool))).bind fun t213 => (if t213 = true then ((firsts_Useful.f k y153 y156 0 0 y165).bind fun t214 => ((regletref13_SameBools.f k t214 (([true, true] : List Bool))).bind fun t220 => (if t220 = true then ((regletref13_SameInts.f k t172 (([1] : List Int))).bind fun t224 => (if t224 = true then (some t175) else (none))) else (none)))) else (none)))) = some r := by rw [if_pos rfl] at H; exact H
            clear H
            have H := H1
            clear H1
            replace H := Option.bind_eq_some_iff.mp H
            obtain ⟨t207, A130, H⟩ := H
            replace H : ((regletref13_SameBools.f k t207 (([false, true] : List Bool))).bind fun t213 => (if t213 = true then ((firsts_Useful.f k y153 y156 0 0 y165).bind fun t214 => ((regletref13_SameBools.f k t214 (([true, true] : List Bool))).bind fun t220 => (if t220 = true then ((regletref13_SameInts.f k t172 (([1] : List Int))).bind fun t224 => (if t224 = true then (some t175) else (none))) else (none)))) else (none))) = some r := H
            have A13 := Aside0.mk A130
            clear A130
            obtain ⟨y210, hy210⟩ : ∃ y_ : List Bool, y_ = (([false, true] : List Bool)) := ⟨_, rfl⟩
            replace H : ((regletref13_SameBools.f k t207 y210).bind fun t213 => (if t213 = true then ((firsts_Useful.f k y153 y156 0 0 y165).bind fun t214 => ((regletref13_SameBools.f k t214 (([true, true] : List Bool))).bind fun t220 => (if t220 = true then ((regletref13_SameInts.f k t172 (([1] : List Int))).bind fun t224 => (if t224 = true then (some t175) else (none))) else (none)))) else (none))) = some r := by first | (rw [hy210]; with_reducible exact H) | (have H2_ := (Option.bind_some _ _).symm.trans H; rw [hy210]; with_reducible exact H2_) | (have H2_ := (Option.bind_some _ _).symm.trans H; with_reducible exact H2_) | with_reducible exact H | (rw [hy210]; exact H) | exact H
            have Ny210 := Aside0.mk hy210
            clear hy210
            replace H := Option.bind_eq_some_iff.mp H
            obtain ⟨t213, A140, H⟩ := H
            replace H : (if t213 = true then ((firsts_Useful.f k y153 y156 0 0 y165).bind fun t214 => ((regletref13_SameBools.f k t214 (([true, true] : List Bool))).bind fun t220 => (if t220 = true then ((regletref13_SameInts.f k t172 (([1] : List Int))).bind fun t224 => (if t224 = true then (some t175) else (none))) else (none)))) else (none)) = some r := H
            have A14 := Aside0.mk A140
            clear A140
            by_cases c15 : t213 = true
            · subst c15
              have H1 : ((firsts_Useful.f k y153 y156 0 0 y165).bind fun t214 => ((regletref13_SameBools.f k t214 (([true, true] : List Bool))).bind fun t220 => (if t220 = true then ((regletref13_SameInts.f k t172 (([1] : List Int))).bind fun t224 => (if t224 = true then (some t175) else (none))) else (none)))) = some r := by rw [if_pos rfl] at H; exact H
              clear H
              have H := H1
              clear H1
              replace H := Option.bind_eq_some_iff.mp H
              obtain ⟨t214, A160, H⟩ := H
              replace H : ((regletref13_SameBools.f k t214 (([true, true] : List Bool))).bind fun t220 => (if t220 = true then ((regletref13_SameInts.f k t172 (([1] : List Int))).bind fun t224 => (if t224 = true then (some t175) else (none))) else (none))) = some r := H
              have A16 := Aside0.mk A160
              clear A160
              obtain ⟨y217, hy217⟩ : ∃ y_ : List Bool, y_ = (([true, true] : List Bool)) := ⟨_, rfl⟩
              replace H : ((regletref13_SameBools.f k t214 y217).bind fun t220 => (if t220 = true then ((regletref13_SameInts.f k t172 (([1] : List Int))).bind fun t224 => (if t224 = true then (some t175) else (none))) else (none))) = some r := by first | (rw [hy217]; with_reducible exact H) | (have H2_ := (Option.bind_some _ _).symm.trans H; rw [hy217]; with_reducible exact H2_) | (have H2_ := (Option.bind_some _ _).symm.trans H; with_reducible exact H2_) | with_reducible exact H | (rw [hy217]; exact H) | exact H
              have Ny217 := Aside0.mk hy217
              clear hy217
              replace H := Option.bind_eq_some_iff.mp H
              obtain ⟨t220, A170, H⟩ := H
              replace H : (if t220 = true then ((regletref13_SameInts.f k t172 (([1] : List Int))).bind fun t224 => (if t224 = true then (some t175) else (none))) else (none)) = some r := H
              have A17 := Aside0.mk A170
              clear A170
              by_cases c18 : t220 = true
              · subst c18
                have H1 : ((regletref13_SameInts.f k t172 (([1] : List Int))).bind fun t224 => (if t224 = true then (some t175) else (none))) = some r := by rw [if_pos rfl] at H; exact H
                clear H
                have H := H1
                clear H1
                obtain ⟨y221, hy221⟩ : ∃ y_ : List Int, y_ = (([1] : List Int)) := ⟨_, rfl⟩
                replace H : ((regletref13_SameInts.f k t172 y221).bind fun t224 => (if t224 = true then (some t175) else (none))) = some r := by first | (rw [hy221]; with_reducible exact H) | (have H2_ := (Option.bind_some _ _).symm.trans H; rw [hy221]; with_reducible exact H2_) | (have H2_ := (Option.bind_some _ _).symm.trans H; with_reducible exact H2_) | with_reducible exact H | (rw [hy221]; exact H) | exact H
                have Ny221 := Aside0.mk hy221
                clear hy221
                replace H := Option.bind_eq_some_iff.mp H
                obtain ⟨t224, A190, H⟩ := H
                replace H : (if t224 = true then (some t175) else (none)) = some r := H
                have A19 := Aside0.mk A190
                clear A190
                by_cases c20 : t224 = true
                · subst c20
                  have H1 : (some t175) = some r := by rw [if_pos rfl] at H; exact H
                  clear H
                  have H := H1
                  clear H1
                  obtain rfl := Option.some.inj H
                  go_enter Try.func9, Try.ntmps9
                  go_wp2_with (first | ((with_reducible refine gate_dst (N := 4) rfl ?_); (try (refine gate_guard (by rfl) ?_; dsimp only)); refine Kd.R_lit Kd.string _ 9 ?hg (N := 4) ?hd (xs := ([(⟨#[97]⟩ : ByteArray), (⟨#[98]⟩ : ByteArray)] : List ByteArray)) (inner := [.string (⟨#[97]⟩ : ByteArray), .string (⟨#[98]⟩ : ByteArray)]) (ok := fun _ => True) (okp := fun _ => True) ?hr ?hp (fun _ hk => hk) trivial (Below.refl _ _) (Nat.le_refl _) (by simp) ?_; (case hd => rfl); (case hg => rfl); (case hr => first | (go_simp; done) | (go_simp; rfl)); (case hp => exact (Reps.one (show Kd.M Kd.string _ _ _ (⟨#[97]⟩ : ByteArray) [.string (⟨#[97]⟩ : ByteArray)] from rfl) (Reps.one (show Kd.M Kd.string _ _ _ (⟨#[98]⟩ : ByteArray) [.string (⟨#[98]⟩ : ByteArray)] from rfl) (Reps.none _ _)))); intro v154 w21 ho22 hb hg_ hnew_; clear hg_ hnew_; (first | rw [← Ny153.out] at ho22 | (simp only [Int.reduceToNat] at ho22; rw [← Ny153.out] at ho22)); have n0_ := Aside0.mk (Kd.R_lower ho22 (below_size (by repeat (first | (with_reducible first | exact HB.out | apply below_alloc | apply pw_below_drewN | apply below_drew1) | exact HB.out)))); have n1_ := Aside0.mk (below_step (by repeat (first | (with_reducible first | exact HB.out | apply below_alloc | apply pw_below_drewN | apply below_drew1) | exact HB.out)) hb); clear HB; have HO155 := n0_; have HB := n1_; clear n0_ n1_; clear hb ho22) | ((with_reducible refine gate_dst (N := 5) rfl ?_); (try (refine gate_guard (by rfl) ?_; dsimp only)); refine Kd.N_make k62 _ 62 rfl (N' := 5) rfl 23 _ _ rfl 2 rfl rfl Try.underlying23 (.agg #[(.string ⟨#[]⟩), (.int .i64 0), (.string ⟨#[]⟩), (.slice none 0 0), (.int .i64 0), (.int .i64 0), (.slice none 0 0)]) 104 info62 rfl (by decide) (by omega) z62 (ok := fun k_ => w21.heap.size ≤ k_) (okp := fun _ => False) (k62_mkF _ _ z62 (Nat.le_refl _) (Kd.F_nil _ _ _) (Nat.le_refl _) (Kd.F_nil _ _ _)) (fun _ hk => hk.elim) (Nat.le_refl _) (by omega) (by omega) (Below.refl _ _) (Nat.le_refl _) ?_; intro v157 w23 ho24 hb hg_ hnew_; clear hg_ hnew_; (first | rw [← Ny156.out] at ho24 | (simp only [Int.reduceToNat] at ho24; rw [← Ny156.out] at ho24)); have n0_ := Aside0.mk (Kd.R_below (by (with_reducible repeat (first | apply Kd.R_alloc | apply Kd.R_drewN | apply Kd.R_drew)); exact HO155.out) hb); have n1_ := Aside0.mk (Kd.N_lower (Kd.N_mono (ok' := fun k_ => some k_ ≠ (v154 : Value).ownBlock) ho24 (fun k_ hk_ => (Kd.fresh' (Kd.R_lt (by (with_reducible repeat (first | apply Kd.R_alloc | apply Kd.R_drewN | apply Kd.R_drew)); exact HO155.out)) k_ hk_))) (below_size (by repeat (first | (with_reducible first | exact HB.out | apply below_alloc | apply pw_below_drewN | apply below_drew1) | exact HB.out)))); have n2_ := Aside0.mk (below_step (by repeat (first | (with_reducible first | exact HB.out | apply below_alloc | apply pw_below_drewN | apply below_drew1) | exact HB.out)) hb); clear HO155; clear HB; have HO155 := n0_; have HO158 := n1_; have HB := n2_; clear n0_ n1_ n2_; clear hb ho24) | ((with_reducible refine gate_dst (N := 8) rfl ?_); (try (refine gate_guard (by rfl) ?_; dsimp only)); refine Kd.R_lit k49 _ 49 ?hg (N := 8) ?hd (xs := ([(⟨false, 1⟩ : S49), (⟨true, 0⟩ : S49)] : List (S49))) (inner := [.bool false, .int .i64 1, .bool true, .int .i64 0]) (ok := fun _ => True) (okp := fun _ => True) ?hr ?hp (fun _ hk => hk) trivial (Below.refl _ _) (Nat.le_refl _) (by simp) ?_; (case hd => rfl); (case hg => rfl); (case hr => first | (go_simp; done) | (go_simp; rfl)); (case hp => exact (Reps.c2 (show Kd.M k49 _ _ _ (⟨false, 1⟩ : S49) [.bool false, .int .i64 1] from (k49_mkM _ _ _ (⟨false, 1⟩ : S49) )) (Reps.c2 (show Kd.M k49 _ _ _ (⟨true, 0⟩ : S49) [.bool true, .int .i64 0] from (k49_mkM _ _ _ (⟨true, 0⟩ : S49) )) (Reps.none _ _)))); intro v160 w25 ho26 hb hg_ hnew_; clear hg_ hnew_; (first | rw [← Ny159.out] at ho26 | (simp only [Int.reduceToNat] at ho26; rw [← Ny159.out] at ho26)); have n0_ := Aside0.mk (Kd.R_below (by (with_reducible repeat (first | apply Kd.R_alloc | apply Kd.R_drewN | apply Kd.R_drew)); exact HO155.out) hb); have n1_ := Aside0.mk (Kd.N_elder' (by (with_reducible repeat (first | apply Kd.N_alloc | apply Kd.N_drewN | apply Kd.N_drew)); exact HO158.out) (Kd.R_base ho26) hb); have n2_ := Aside0.mk (Kd.R_lower ho26 (below_size (by repeat (first | (with_reducible first | exact HB.out | apply below_alloc | apply pw_below_drewN | apply below_drew1) | exact HB.out)))); have n3_ := Aside0.mk (below_step (by repeat (first | (with_reducible first | exact HB.out | apply below_alloc | apply pw_below_drewN | apply below_drew1) | exact HB.out)) hb); clear HO155; clear HO158; clear HB; have HO155 := n0_; have HO158 := n1_; have HO161 := n2_; have HB := n3_; clear n0_ n1_ n2_ n3_; clear hb ho26; obtain ⟨Ao27, co27, eo27⟩ := Kd.R_slice HO161.out; subst eo27) | ((with_reducible refine gate_dst (N := 11) rfl ?_); (try (refine gate_guard (by rfl) ?_; dsimp only)); refine Kd.R_lit k49 _ 49 ?hg (N := 11) ?hd (xs := ([(⟨true, 1⟩ : S49)] : List (S49))) (inner := [.bool true, .int .i64 1]) (ok := fun _ => True) (okp := fun _ => True) ?hr ?hp (fun _ hk => hk) trivial (Below.refl _ _) (Nat.le_refl _) (by simp) ?_; (case hd => rfl); (case hg => rfl); (case hr => first | (go_simp; done) | (go_simp; rfl)); (case hp => exact (Reps.c2 (show Kd.M k49 _ _ _ (⟨true, 1⟩ : S49) [.bool true, .int .i64 1] from (k49_mkM _ _ _ (⟨true, 1⟩ : S49) )) (Reps.none _ _))); intro v163 w28 ho29 hb hg_ hnew_; clear hg_ hnew_; (first | rw [← Ny162.out] at ho29 | (simp only [Int.reduceToNat] at ho29; rw [← Ny162.out] at ho29)); have n0_ := Aside0.mk (Kd.R_below (by (with_reducible repeat (first | apply Kd.R_alloc | apply Kd.R_drewN | apply Kd.R_drew)); exact HO155.out) hb); have n1_ := Aside0.mk (Kd.N_elder' (by (with_reducible repeat (first | apply Kd.N_alloc | apply Kd.N_drewN | apply Kd.N_drew)); exact HO158.out) (Kd.R_base ho29) hb); have n2_ := Aside0.mk (Kd.R_elder' (by (with_reducible repeat (first | apply Kd.R_alloc | apply Kd.R_drewN | apply Kd.R_drew)); exact HO161.out) (Kd.R_base ho29) hb); have n3_ := Aside0.mk (Kd.R_lower (Kd.R_new' ho29 (Kd.R_lt (by (with_reducible repeat (first | apply Kd.R_alloc | apply Kd.R_drewN | apply Kd.R_drew)); exact HO161.out))) (below_size (by repeat (first | (with_reducible first | exact HB.out | apply below_alloc | apply pw_below_drewN | apply below_drew1) | exact HB.out)))); have n4_ := Aside0.mk (below_step (by repeat (first | (with_reducible first | exact HB.out | apply below_alloc | apply pw_below_drewN | apply below_drew1) | exact HB.out)) hb); clear HO155; clear HO158; clear HO161; clear HB; have HO155 := n0_; have HO158 := n1_; have HO161 := n2_; have HO164 := n3_; have HB := n4_; clear n0_ n1_ n2_ n3_ n4_; clear hb ho29; obtain ⟨Ao30, co30, eo30⟩ := Kd.R_slice HO164.out; subst eo30) | ((with_reducible refine gate_dst (N := 14) rfl ?_); (try (refine gate_guard (by rfl) ?_; dsimp only)); refine Kd.N_lit k34 _ 34 ?hg (N' := 14) ?hd (xs := ([(⟨0, y159⟩ : S34), (⟨1, y162⟩ : S34), (⟨1, ([] : List (S49))⟩ : S34)] : List (S34))) (inner := [.int .i64 0, .slice Ao27 y159.length co27, .int .i64 1, .slice Ao30 y162.length co30, .int .i64 1, .slice none 0 0]) (ok := (fun k_ => some k_ ≠ (v154 : Value).ownBlock ∧ some k_ ≠ (v157 : Value).ownBlock)) (okp := (fun k_ => some k_ ≠ (v154 : Value).ownBlock ∧ some k_ ≠ (v157 : Value).ownBlock)) ?hr ?hp (fun _ hk => hk) ((show ∀ k_, w28.heap.size ≤ k_ → (fun k_ => some k_ ≠ (v154 : Value).ownBlock ∧ some k_ ≠ (v157 : Value).ownBlock) k_ from fun k_ hk => ⟨Kd.fresh' (Kd.R_lt (by (with_reducible repeat (first | apply Kd.R_alloc | apply Kd.R_drewN | apply Kd.R_drew)); exact HO155.out)) k_ hk, Kd.fresh' (Kd.N_lt (by (with_reducible repeat (first | apply Kd.N_alloc | apply Kd.N_drewN | apply Kd.N_drew)); exact HO158.out)) k_ hk⟩) _ (Nat.le_refl _)) (Below.refl _ _) (Nat.le_refl _) (by simp) ?_; (case hd => rfl); (case hg => rfl); (case hr => first | (go_simp; done) | (go_simp; rfl)); (case hp => exact (Reps.c2 (show Kd.FK k34 _ _ (⟨0, y159⟩ : S34) [.int .i64 0, .slice Ao27 y159.length co27] from (k34_mkF _ _ (⟨0, y159⟩ : S34) (Kd.R_reads' (Kd.R_mono (ok' := (fun k_ => some k_ ≠ (v154 : Value).ownBlock ∧ some k_ ≠ (v157 : Value).ownBlock)) (Kd.R_apart' (Kd.R_apart' (HO161.out) (Kd.R_typed HO155.out) (by decide)) (Kd.N_typed HO158.out) (by decide)) (fun k_ hk => ⟨hk.1.2, hk.2⟩))).2.1 (Kd.R_F (Kd.R_mono (ok' := (fun k_ => some k_ ≠ (v154 : Value).ownBlock ∧ some k_ ≠ (v157 : Value).ownBlock)) (Kd.R_apart' (Kd.R_apart' (HO161.out) (Kd.R_typed HO155.out) (by decide)) (Kd.N_typed HO158.out) (by decide)) (fun k_ hk => ⟨hk.1.2, hk.2⟩))))) (Reps.c2 (show Kd.FK k34 _ _ (⟨1, y162⟩ : S34) [.int .i64 1, .slice Ao30 y162.length co30] from (k34_mkF _ _ (⟨1, y162⟩ : S34) (Kd.R_reads' (Kd.R_mono (ok' := (fun k_ => some k_ ≠ (v154 : Value).ownBlock ∧ some k_ ≠ (v157 : Value).ownBlock)) (Kd.R_apart' (Kd.R_apart' (HO164.out) (Kd.R_typed HO155.out) (by decide)) (Kd.N_typed HO158.out) (by decide)) (fun k_ hk => ⟨hk.1.2, hk.2⟩))).2.1 (Kd.R_F (Kd.R_mono (ok' := (fun k_ => some k_ ≠ (v154 : Value).ownBlock ∧ some k_ ≠ (v157 : Value).ownBlock)) (Kd.R_apart' (Kd.R_apart' (HO164.out) (Kd.R_typed HO155.out) (by decide)) (Kd.N_typed HO158.out) (by decide)) (fun k_ hk => ⟨hk.1.2, hk.2⟩))))) (Reps.c2 (show Kd.FK k34 _ _ (⟨1, ([] : List (S49))⟩ : S34) [.int .i64 1, .slice none 0 0] from (k34_mkF _ _ (⟨1, ([] : List (S49))⟩ : S34) (Nat.le_refl _) (Kd.F_nil _ _ _))) (Reps.none _ _))))); intro v166 w31 ho32 hb hg_ hnew_; clear hg_ hnew_; (first | rw [← Ny165.out] at ho32 | (simp only [Int.reduceToNat] at ho32; rw [← Ny165.out] at ho32)); have n0_ := Aside0.mk (Kd.R_below (by (with_reducible repeat (first | apply Kd.R_alloc | apply Kd.R_drewN | apply Kd.R_drew)); exact HO155.out) hb); have n1_ := Aside0.mk (Kd.N_elder' (by (with_reducible repeat (first | apply Kd.N_alloc | apply Kd.N_drewN | apply Kd.N_drew)); exact HO158.out) (Kd.N_base ho32) hb); have n2_ := Aside0.mk (Kd.N_lower ho32 (below_size (by repeat (first | (with_reducible first | exact HB.out | apply below_alloc | apply pw_below_drewN | apply below_drew1) | exact HB.out)))); have n3_ := Aside0.mk (below_step (by repeat (first | (with_reducible first | exact HB.out | apply below_alloc | apply pw_below_drewN | apply below_drew1) | exact HB.out)) hb); clear HO155; clear HO158; clear HB; clear HO161; clear HO164; have HO155 := n0_; have HO158 := n1_; have HO167 := n2_; have HB := n3_; clear n0_ n1_ n2_ n3_; clear hb ho32; obtain ⟨Ao33, co33, eo33⟩ := Kd.N_slice HO167.out; subst eo33; obtain ⟨Ao34, co34, eo34⟩ := Kd.N_slice HO158.out; subst eo34; obtain ⟨Ao35, co35, eo35⟩ := Kd.R_slice HO155.out; subst eo35) | ((with_reducible refine gate_dst (N := 1) rfl ?_); (try (refine gate_guard (by rfl) ?_; dsimp only)); refine box_event ?hg (N := 1) ?hd (cs := #[.slice none 0 0, .slice none 0 0, .int .i64 0, .int .i64 0, .slice none 0 0]) (t := 26) ?hr ?_; (case hd => rfl); (case hg => rfl); (case hr => first | (go_simp; done) | (go_simp; rfl)); intro gb168 hg w36 hbox hb; have n0_ := Aside0.mk (Kd.R_below (by (with_reducible repeat (first | apply Kd.R_alloc | apply Kd.R_drewN | apply Kd.R_drew)); exact HO155.out) hb); have n1_ := Aside0.mk (Kd.N_below (Kd.N_elderB (by (with_reducible repeat (first | apply Kd.N_alloc | apply Kd.N_drewN | apply Kd.N_drew)); exact HO158.out) gb168 (Nat.le_of_eq hg.symm)) hb); have n2_ := Aside0.mk (Kd.N_below (Kd.N_elderB (by (with_reducible repeat (first | apply Kd.N_alloc | apply Kd.N_drewN | apply Kd.N_drew)); exact HO167.out) gb168 (Nat.le_of_eq hg.symm)) hb); have n3_ := Aside0.mk (below_step (by repeat (first | (with_reducible first | exact HB.out | apply below_alloc | apply pw_below_drewN | apply below_drew1) | exact HB.out)) hb); have n4_ := Aside0.mk (hbox); have n5_ := Aside0.mk ((by rw [hg]; exact (below_size (by repeat (first | (with_reducible first | exact HB.out | apply below_alloc | apply pw_below_drewN | apply below_drew1) | exact HB.out))) : w.heap.size ≤ gb168)); have n6_ := Aside0.mk ((by rw [hg]; exact (below_size (by repeat (first | (with_reducible first | exact HB.out | apply below_alloc | apply pw_below_drewN | apply below_drew1) | exact HB.out))) : w.heap.size ≤ gb168)); clear HO155; clear HO158; clear HO167; clear HB; have HO155 := n0_; have HO158 := n1_; have HO167 := n2_; have HB := n3_; have BK168 := n4_; have GW168 := n5_; have GE168 := n6_; clear n0_ n1_ n2_ n3_ n4_ n5_ n6_; clear hb hbox hg; have hcz37_0 : w36.cell? ⟨gb168, 0, none⟩ = some (.slice none 0 0) := (blk_cell BK168.out 0).trans rfl; have hcz37_1 : w36.cell? ⟨gb168, 1, none⟩ = some (.slice none 0 0) := (blk_cell BK168.out 1).trans rfl; have hcz37_2 : w36.cell? ⟨gb168, 2, none⟩ = some (.int .i64 0) := (blk_cell BK168.out 2).trans rfl; have hcz37_3 : w36.cell? ⟨gb168, 3, none⟩ = some (.int .i64 0) := (blk_cell BK168.out 3).trans rfl; have hcz37_4 : w36.cell? ⟨gb168, 4, none⟩ = some (.slice none 0 0) := (blk_cell BK168.out 4).trans rfl; have hfz37_0 := blk_frozen BK168.out 0; have hfz37_1 := blk_frozen BK168.out 1; have hfz37_2 := blk_frozen BK168.out 2; have hfz37_3 := blk_frozen BK168.out 3; have hfz37_4 := blk_frozen BK168.out 4) | ((with_reducible refine gate_dst (N := 19) rfl ?_); (try (refine gate_guard (by rfl) ?_; dsimp only)); refine Kd.R_lit k49 _ 49 ?hg (N := 19) ?hd (xs := ([(⟨false, 1⟩ : S49)] : List (S49))) (inner := [.bool false, .int .i64 1]) (ok := fun _ => True) (okp := fun _ => True) ?hr ?hp (fun _ hk => hk) trivial (Below.refl _ _) (Nat.le_refl _) (by simp) ?_; (case hd => rfl); (case hg => rfl); (case hr => first | (go_simp; done) | (go_simp; rfl)); (case hp => exact (Reps.c2 (show Kd.M k49 _ _ _ (⟨false, 1⟩ : S49) [.bool false, .int .i64 1] from (k49_mkM _ _ _ (⟨false, 1⟩ : S49) )) (Reps.none _ _))); intro v170 w38 ho39 hb hg_ hnew_; clear hg_ hnew_; (first | rw [← Ny169.out] at ho39 | (simp only [Int.reduceToNat] at ho39; rw [← Ny169.out] at ho39)); have n0_ := Aside0.mk (Kd.R_below (by (with_reducible repeat (first | apply Kd.R_alloc | apply Kd.R_drewN | apply Kd.R_drew)); exact (Kd.R_mono (Kd.R_far (p := ⟨gb168, 4, none⟩) (Kd.R_far (p := ⟨gb168, 3, none⟩) (Kd.R_far (p := ⟨gb168, 2, none⟩) (Kd.R_far (p := ⟨gb168, 1, none⟩) (Kd.R_far (p := ⟨gb168, 0, none⟩) (Kd.R_types HO155.out BK168.out (by decide)) (fun _ hk => hk.2) (.slice Ao35 y153.length co35)) (fun _ hk => hk.2) (.slice Ao34 y156.length co34)) (fun _ hk => hk.2) (.int .i64 0)) (fun _ hk => hk.2) (.int .i64 0)) (fun _ hk => hk.2) (.slice Ao33 y165.length co33)) (fun _ h_ => h_.1))) hb); have n1_ := Aside0.mk (Kd.N_elder' (by (with_reducible repeat (first | apply Kd.N_alloc | apply Kd.N_drewN | apply Kd.N_drew)); exact (Kd.N_mono (Kd.N_far (p := ⟨gb168, 4, none⟩) (Kd.N_far (p := ⟨gb168, 3, none⟩) (Kd.N_far (p := ⟨gb168, 2, none⟩) (Kd.N_far (p := ⟨gb168, 1, none⟩) (Kd.N_far (p := ⟨gb168, 0, none⟩) (Kd.N_mono HO158.out (fun k_ hk => (⟨hk, hk.2⟩ : _ ∧ k_ ≠ gb168))) (fun _ hk => hk.2) (.slice Ao35 y153.length co35)) (fun _ hk => hk.2) (.slice Ao34 y156.length co34)) (fun _ hk => hk.2) (.int .i64 0)) (fun _ hk => hk.2) (.int .i64 0)) (fun _ hk => hk.2) (.slice Ao33 y165.length co33)) (fun _ h_ => h_.1))) (Kd.R_base ho39) hb); have n2_ := Aside0.mk (Kd.N_elder' (by (with_reducible repeat (first | apply Kd.N_alloc | apply Kd.N_drewN | apply Kd.N_drew)); exact (Kd.N_mono (Kd.N_far (p := ⟨gb168, 4, none⟩) (Kd.N_far (p := ⟨gb168, 3, none⟩) (Kd.N_far (p := ⟨gb168, 2, none⟩) (Kd.N_far (p := ⟨gb168, 1, none⟩) (Kd.N_far (p := ⟨gb168, 0, none⟩) (Kd.N_mono HO167.out (fun k_ hk => (⟨hk, hk.2⟩ : _ ∧ k_ ≠ gb168))) (fun _ hk => hk.2) (.slice Ao35 y153.length co35)) (fun _ hk => hk.2) (.slice Ao34 y156.length co34)) (fun _ hk => hk.2) (.int .i64 0)) (fun _ hk => hk.2) (.int .i64 0)) (fun _ hk => hk.2) (.slice Ao33 y165.length co33)) (fun _ h_ => h_.1))) (Kd.R_base ho39) hb); have n3_ := Aside0.mk (Kd.R_lower ho39 (below_size (by repeat (first | (with_reducible first | exact HB.out | apply below_alloc | apply pw_below_drewN | apply below_drew1 | refine below_set ?_ GE168.out) | exact HB.out)))); have n4_ := Aside0.mk (blk_below (g := gb168) (o := .cells #[.slice Ao35 y153.length co35, .slice Ao34 y156.length co34, .int .i64 0, .int .i64 0, .slice Ao33 y165.length co33] 26 (0, 0)) (by (with_reducible repeat (first | refine blk_drewN ?_ _ | refine blk_drew ?_ | refine blk_alloc ?_ _)); refine blk_put (cs := #[.slice Ao35 y153.length co35, .slice Ao34 y156.length co34, .int .i64 0, .int .i64 0, .slice none 0 0]) ?_ 4 _ rfl; (with_reducible repeat (first | refine blk_drewN ?_ _ | refine blk_drew ?_ | refine blk_alloc ?_ _)); refine blk_put (cs := #[.slice Ao35 y153.length co35, .slice Ao34 y156.length co34, .int .i64 0, .int .i64 0, .slice none 0 0]) ?_ 3 _ rfl; (with_reducible repeat (first | refine blk_drewN ?_ _ | refine blk_drew ?_ | refine blk_alloc ?_ _)); refine blk_put (cs := #[.slice Ao35 y153.length co35, .slice Ao34 y156.length co34, .int .i64 0, .int .i64 0, .slice none 0 0]) ?_ 2 _ rfl; (with_reducible repeat (first | refine blk_drewN ?_ _ | refine blk_drew ?_ | refine blk_alloc ?_ _)); refine blk_put (cs := #[.slice Ao35 y153.length co35, .slice none 0 0, .int .i64 0, .int .i64 0, .slice none 0 0]) ?_ 1 _ rfl; (with_reducible repeat (first | refine blk_drewN ?_ _ | refine blk_drew ?_ | refine blk_alloc ?_ _)); refine blk_put (cs := #[.slice none 0 0, .slice none 0 0, .int .i64 0, .int .i64 0, .slice none 0 0]) ?_ 0 _ rfl; (with_reducible repeat (first | refine blk_drewN ?_ _ | refine blk_drew ?_ | refine blk_alloc ?_ _)); exact BK168.out) hb); have n5_ := Aside0.mk (below_step (by repeat (first | (with_reducible first | exact HB.out | apply below_alloc | apply pw_below_drewN | apply below_drew1 | refine below_set ?_ GE168.out) | exact HB.out)) hb); clear HO155; clear HO158; clear HO167; clear BK168; clear HB; have HO155 := n0_; have HO158 := n1_; have HO167 := n2_; have HO171 := n3_; have BK168 := n4_; have HB := n5_; clear n0_ n1_ n2_ n3_ n4_ n5_; clear hb ho39; obtain ⟨Ao40, co40, eo40⟩ := Kd.R_slice HO171.out; subst eo40) | ((with_reducible refine gate_callee (f := 21) rfl ?_); refine goesL_ (some 20) rfl rfl Try.func21 (by kernel_rfl) rfl #[.agg #[.slice Ao35 y153.length co35, .slice Ao34 y156.length co34, .int .i64 0, .int .i64 0, .slice Ao33 y165.length co33], .slice Ao40 y169.length co40] rfl (by (try simp only [List.map_toArray, List.map_cons, List.map_nil]); first | done | rfl | (simp only [List.length_drop, List.length_take]; rfl)) ?_; (with_reducible refine (firsts_Of.calls k _ _ y153 _ _ y156 0 0 _ _ y165 _ _ y169 t172 t175 _ ?side1 ?side2 ?side3 ?side4 ?side5 ?side6 ?side7 ?side8 A2.out).mono ?_); (case side1 => repeat (first | exact (Kd.R_reads' HO155.out).2.2 | (with_reducible refine Kd.C_alloc ?_ _) | (with_reducible refine Kd.C_drewN ?_ _) | (with_reducible refine Kd.C_drew ?_))); (case side2 => exact (Kd.R_reads' HO155.out).2.1); (case side3 => repeat (first | exact (Kd.N_reads' HO158.out).2.2 | (with_reducible refine Kd.C_alloc ?_ _) | (with_reducible refine Kd.C_drewN ?_ _) | (with_reducible refine Kd.C_drew ?_))); (case side4 => exact (Kd.N_reads' HO158.out).2.1); (case side5 => repeat (first | exact (Kd.N_reads' HO167.out).2.2 | (with_reducible refine Kd.C_alloc ?_ _) | (with_reducible refine Kd.C_drewN ?_ _) | (with_reducible refine Kd.C_drew ?_))); (case side6 => exact (Kd.N_reads' HO167.out).2.1); (case side7 => repeat (first | exact (Kd.R_reads' HO171.out).2.2 | (with_reducible refine Kd.C_alloc ?_ _) | (with_reducible refine Kd.C_drewN ?_ _) | (with_reducible refine Kd.C_drew ?_))); (case side8 => exact (Kd.R_reads' HO171.out).2.1); rintro e w41 ⟨v173, rfl, ho0, hb⟩; refine ⟨_, rfl, ?_⟩; have n0_ := Aside0.mk (Kd.R_below (by (with_reducible repeat (first | apply Kd.R_alloc | apply Kd.R_drewN | apply Kd.R_drew)); exact HO155.out) hb); have n1_ := Aside0.mk (Kd.N_elder' (by (with_reducible repeat (first | apply Kd.N_alloc | apply Kd.N_drewN | apply Kd.N_drew)); exact HO158.out) (Kd.R_base ho0) hb); have n2_ := Aside0.mk (Kd.N_elder' (by (with_reducible repeat (first | apply Kd.N_alloc | apply Kd.N_drewN | apply Kd.N_drew)); exact HO167.out) (Kd.R_base ho0) hb); have n3_ := Aside0.mk (Kd.R_below (by (with_reducible repeat (first | apply Kd.R_alloc | apply Kd.R_drewN | apply Kd.R_drew)); exact HO171.out) hb); have n4_ := Aside0.mk (Kd.R_lower ho0 (below_size (by repeat (first | (with_reducible first | exact HB.out | apply below_alloc | apply pw_below_drewN | apply below_drew1 | refine below_set ?_ GE168.out) | exact HB.out)))); have n5_ := Aside0.mk (blk_below (g := gb168) (o := .cells #[.slice Ao35 y153.length co35, .slice Ao34 y156.length co34, .int .i64 0, .int .i64 0, .slice Ao33 y165.length co33] 26 (0, 0)) (by (with_reducible repeat (first | refine blk_drewN ?_ _ | refine blk_drew ?_ | refine blk_alloc ?_ _)); exact BK168.out) hb); have n6_ := Aside0.mk (below_step (by repeat (first | (with_reducible first | exact HB.out | apply below_alloc | apply pw_below_drewN | apply below_drew1 | refine below_set ?_ GE168.out) | exact HB.out)) hb); clear HO155; clear HO158; clear HO167; clear HO171; clear BK168; clear HB; have HO155 := n0_; have HO158 := n1_; have HO167 := n2_; have HO171 := n3_; have HO174 := n4_; have BK168 := n5_; have HB := n6_; clear n0_ n1_ n2_ n3_ n4_ n5_ n6_; (try clear hb); (try clear hb2); (try clear hk); (try clear hi); (try clear ho0); have hcz42_0 : w41.cell? ⟨gb168, 0, none⟩ = some (.slice Ao35 y153.length co35) := (blk_cell BK168.out 0).trans rfl; have hcz42_1 : w41.cell? ⟨gb168, 1, none⟩ = some (.slice Ao34 y156.length co34) := (blk_cell BK168.out 1).trans rfl; have hcz42_2 : w41.cell? ⟨gb168, 2, none⟩ = some (.int .i64 0) := (blk_cell BK168.out 2).trans rfl; have hcz42_3 : w41.cell? ⟨gb168, 3, none⟩ = some (.int .i64 0) := (blk_cell BK168.out 3).trans rfl; have hcz42_4 : w41.cell? ⟨gb168, 4, none⟩ = some (.slice Ao33 y165.length co33) := (blk_cell BK168.out 4).trans rfl; have hfz42_0 := blk_frozen BK168.out 0; have hfz42_1 := blk_frozen BK168.out 1; have hfz42_2 := blk_frozen BK168.out 2; have hfz42_3 := blk_frozen BK168.out 3; have hfz42_4 := blk_frozen BK168.out 4) | ((with_reducible refine gate_callee (f := 23) rfl ?_); refine goesL_ (some 24) rfl rfl Try.func23 (by kernel_rfl) rfl #[.agg #[.slice Ao35 y153.length co35, .slice Ao34 y156.length co34, .int .i64 0, .int .i64 0, .slice Ao33 y165.length co33]] rfl (by (try simp only [List.map_toArray, List.map_cons, List.map_nil]); first | done | rfl | (simp only [List.length_drop, List.length_take]; rfl)) ?_; (with_reducible refine (firsts_Right.calls _ _ y153 _ _ y156 0 0 _ _ y165 true _ ?side1 ?side2 ?side3 ?side4 ?side5 ?side6 A3.out).mono ?_); (case side1 => repeat (first | exact (Kd.R_reads' HO155.out).2.2 | (with_reducible refine Kd.C_alloc ?_ _) | (with_reducible refine Kd.C_drewN ?_ _) | (with_reducible refine Kd.C_drew ?_))); (case side2 => exact (Kd.R_reads' HO155.out).2.1); (case side3 => repeat (first | exact (Kd.N_reads' HO158.out).2.2 | (with_reducible refine Kd.C_alloc ?_ _) | (with_reducible refine Kd.C_drewN ?_ _) | (with_reducible refine Kd.C_drew ?_))); (case side4 => exact (Kd.N_reads' HO158.out).2.1); (case side5 => repeat (first | exact (Kd.N_reads' HO167.out).2.2 | (with_reducible refine Kd.C_alloc ?_ _) | (with_reducible refine Kd.C_drewN ?_ _) | (with_reducible refine Kd.C_drew ?_))); (case side6 => exact (Kd.N_reads' HO167.out).2.1); rintro e w43 ⟨rfl, hb⟩; refine ⟨_, rfl, ?_⟩; have n0_ := Aside0.mk (Kd.R_below (by (with_reducible repeat (first | apply Kd.R_alloc | apply Kd.R_drewN | apply Kd.R_drew)); exact HO155.out) hb); have n1_ := Aside0.mk (Kd.N_below (by (with_reducible repeat (first | apply Kd.N_alloc | apply Kd.N_drewN | apply Kd.N_drew)); exact HO158.out) hb); have n2_ := Aside0.mk (Kd.N_below (by (with_reducible repeat (first | apply Kd.N_alloc | apply Kd.N_drewN | apply Kd.N_drew)); exact HO167.out) hb); have n3_ := Aside0.mk (Kd.R_below (by (with_reducible repeat (first | apply Kd.R_alloc | apply Kd.R_drewN | apply Kd.R_drew)); exact HO171.out) hb); have n4_ := Aside0.mk (Kd.R_below (by (with_reducible repeat (first | apply Kd.R_alloc | apply Kd.R_drewN | apply Kd.R_drew)); exact HO174.out) hb); have n5_ := Aside0.mk (blk_below (g := gb168) (o := .cells #[.slice Ao35 y153.length co35, .slice Ao34 y156.length co34, .int .i64 0, .int .i64 0, .slice Ao33 y165.length co33] 26 (0, 0)) (by (with_reducible repeat (first | refine blk_drewN ?_ _ | refine blk_drew ?_ | refine blk_alloc ?_ _)); exact BK168.out) hb); have n6_ := Aside0.mk (below_step (by repeat (first | (with_reducible first | exact HB.out | apply below_alloc | apply pw_below_drewN | apply below_drew1 | refine below_set ?_ GE168.out) | exact HB.out)) hb); clear HO155; clear HO158; clear HO167; clear HO171; clear HO174; clear BK168; clear HB; have HO155 := n0_; have HO158 := n1_; have HO167 := n2_; have HO171 := n3_; have HO174 := n4_; have BK168 := n5_; have HB := n6_; clear n0_ n1_ n2_ n3_ n4_ n5_ n6_; (try clear hb); (try clear hb2); (try clear hk); (try clear hi)) | ((with_reducible refine gate_dst (N := 27) rfl ?_); (try (refine gate_guard (by rfl) ?_; dsimp only)); refine Kd.N_lit k34 _ 34 ?hg (N' := 27) ?hd (xs := ([(⟨0, ([] : List (S49))⟩ : S34)] : List (S34))) (inner := [.int .i64 0, .slice none 0 0]) (ok := (fun k_ => some k_ ≠ (.slice Ao35 y153.length co35 : Value).ownBlock ∧ some k_ ≠ (.slice Ao34 y156.length co34 : Value).ownBlock ∧ some k_ ≠ (.slice Ao33 y165.length co33 : Value).ownBlock ∧ some k_ ≠ (.slice Ao40 y169.length co40 : Value).ownBlock ∧ some k_ ≠ (v173 : Value).ownBlock ∧ k_ ≠ gb168)) (okp := (fun k_ => some k_ ≠ (.slice Ao35 y153.length co35 : Value).ownBlock ∧ some k_ ≠ (.slice Ao34 y156.length co34 : Value).ownBlock ∧ some k_ ≠ (.slice Ao33 y165.length co33 : Value).ownBlock ∧ some k_ ≠ (.slice Ao40 y169.length co40 : Value).ownBlock ∧ some k_ ≠ (v173 : Value).ownBlock ∧ k_ ≠ gb168)) ?hr ?hp (fun _ hk => hk) ((show ∀ k_, w43.heap.size ≤ k_ → (fun k_ => some k_ ≠ (.slice Ao35 y153.length co35 : Value).ownBlock ∧ some k_ ≠ (.slice Ao34 y156.length co34 : Value).ownBlock ∧ some k_ ≠ (.slice Ao33 y165.length co33 : Value).ownBlock ∧ some k_ ≠ (.slice Ao40 y169.length co40 : Value).ownBlock ∧ some k_ ≠ (v173 : Value).ownBlock ∧ k_ ≠ gb168) k_ from fun k_ hk => ⟨Kd.fresh' (Kd.R_lt (by (with_reducible repeat (first | apply Kd.R_alloc | apply Kd.R_drewN | apply Kd.R_drew)); exact HO155.out)) k_ hk, Kd.fresh' (Kd.N_lt (by (with_reducible repeat (first | apply Kd.N_alloc | apply Kd.N_drewN | apply Kd.N_drew)); exact HO158.out)) k_ hk, Kd.fresh' (Kd.N_lt (by (with_reducible repeat (first | apply Kd.N_alloc | apply Kd.N_drewN | apply Kd.N_drew)); exact HO167.out)) k_ hk, Kd.fresh' (Kd.R_lt (by (with_reducible repeat (first | apply Kd.R_alloc | apply Kd.R_drewN | apply Kd.R_drew)); exact HO171.out)) k_ hk, Kd.fresh' (Kd.R_lt (by (with_reducible repeat (first | apply Kd.R_alloc | apply Kd.R_drewN | apply Kd.R_drew)); exact HO174.out)) k_ hk, Kd.freshB (g := gb168) (o := .cells #[.slice Ao35 y153.length co35, .slice Ao34 y156.length co34, .int .i64 0, .int .i64 0, .slice Ao33 y165.length co33] 26 (0, 0)) (by (with_reducible repeat (first | refine blk_drewN ?_ _ | refine blk_drew ?_ | refine blk_alloc ?_ _)); exact BK168.out) k_ hk⟩) _ (Nat.le_refl _)) (Below.refl _ _) (Nat.le_refl _) (by simp) ?_; (case hd => rfl); (case hg => rfl); (case hr => first | (go_simp; done) | (go_simp; rfl)); (case hp => exact (Reps.c2 (show Kd.FK k34 _ _ (⟨0, ([] : List (S49))⟩ : S34) [.int .i64 0, .slice none 0 0] from (k34_mkF _ _ (⟨0, ([] : List (S49))⟩ : S34) (Nat.le_refl _) (Kd.F_nil _ _ _))) (Reps.none _ _))); intro v178 w44 ho45 hb hg_ hnew_; clear hg_ hnew_; (first | rw [← Ny177.out] at ho45 | (simp only [Int.reduceToNat] at ho45; rw [← Ny177.out] at ho45)); have n0_ := Aside0.mk (Kd.R_below (by (with_reducible repeat (first | apply Kd.R_alloc | apply Kd.R_drewN | apply Kd.R_drew)); exact HO155.out) hb); have n1_ := Aside0.mk (Kd.N_elder' (by (with_reducible repeat (first | apply Kd.N_alloc | apply Kd.N_drewN | apply Kd.N_drew)); exact HO158.out) (Kd.N_base ho45) hb); have n2_ := Aside0.mk (Kd.N_elder' (by (with_reducible repeat (first | apply Kd.N_alloc | apply Kd.N_drewN | apply Kd.N_drew)); exact HO167.out) (Kd.N_base ho45) hb); have n3_ := Aside0.mk (Kd.R_below (by (with_reducible repeat (first | apply Kd.R_alloc | apply Kd.R_drewN | apply Kd.R_drew)); exact HO171.out) hb); have n4_ := Aside0.mk (Kd.R_below (by (with_reducible repeat (first | apply Kd.R_alloc | apply Kd.R_drewN | apply Kd.R_drew)); exact HO174.out) hb); have n5_ := Aside0.mk (Kd.N_lower ho45 (below_size (by repeat (first | (with_reducible first | exact HB.out | apply below_alloc | apply pw_below_drewN | apply below_drew1 | refine below_set ?_ GE168.out) | exact HB.out)))); have n6_ := Aside0.mk (blk_below (g := gb168) (o := .cells #[.slice Ao35 y153.length co35, .slice Ao34 y156.length co34, .int .i64 0, .int .i64 0, .slice Ao33 y165.length co33] 26 (0, 0)) (by (with_reducible repeat (first | refine blk_drewN ?_ _ | refine blk_drew ?_ | refine blk_alloc ?_ _)); exact BK168.out) hb); have n7_ := Aside0.mk (below_step (by repeat (first | (with_reducible first | exact HB.out | apply below_alloc | apply pw_below_drewN | apply below_drew1 | refine below_set ?_ GE168.out) | exact HB.out)) hb); clear HO155; clear HO158; clear HO167; clear HO171; clear HO174; clear BK168; clear HB; have HO155 := n0_; have HO158 := n1_; have HO167 := n2_; have HO171 := n3_; have HO174 := n4_; have HO179 := n5_; have BK168 := n6_; have HB := n7_; clear n0_ n1_ n2_ n3_ n4_ n5_ n6_ n7_; clear hb ho45; obtain ⟨Ao46, co46, eo46⟩ := Kd.N_slice HO179.out; subst eo46) | (go_at_call 23; (refine (firsts_Right.calls _ _ ([] : List ByteArray) _ _ ([] : List (S62)) 0 0 _ _ y177 false _ ?side1 ?side2 ?side3 ?side4 ?side5 ?side6 A5.out).mono ?_); (case side1 => exact Kd.C_nil _ _); (case side2 => exact Nat.le_refl _); (case side3 => exact Kd.C_nil _ _); (case side4 => exact Nat.le_refl _); (case side5 => repeat (first | exact (Kd.N_reads' HO179.out).2.2 | (with_reducible refine Kd.C_alloc ?_ _) | (with_reducible refine Kd.C_drewN ?_ _) | (with_reducible refine Kd.C_drew ?_))); (case side6 => exact (Kd.N_reads' HO179.out).2.1); rintro e w47 ⟨rfl, hb⟩; have n0_ := Aside0.mk (Kd.R_below (by (with_reducible repeat (first | apply Kd.R_alloc | apply Kd.R_drewN | apply Kd.R_drew)); exact HO155.out) hb); have n1_ := Aside0.mk (Kd.N_below (by (with_reducible repeat (first | apply Kd.N_alloc | apply Kd.N_drewN | apply Kd.N_drew)); exact HO158.out) hb); have n2_ := Aside0.mk (Kd.N_below (by (with_reducible repeat (first | apply Kd.N_alloc | apply Kd.N_drewN | apply Kd.N_drew)); exact HO167.out) hb); have n3_ := Aside0.mk (Kd.R_below (by (with_reducible repeat (first | apply Kd.R_alloc | apply Kd.R_drewN | apply Kd.R_drew)); exact HO171.out) hb); have n4_ := Aside0.mk (Kd.R_below (by (with_reducible repeat (first | apply Kd.R_alloc | apply Kd.R_drewN | apply Kd.R_drew)); exact HO174.out) hb); have n5_ := Aside0.mk (Kd.N_below (by (with_reducible repeat (first | apply Kd.N_alloc | apply Kd.N_drewN | apply Kd.N_drew)); exact HO179.out) hb); have n6_ := Aside0.mk (blk_below (g := gb168) (o := .cells #[.slice Ao35 y153.length co35, .slice Ao34 y156.length co34, .int .i64 0, .int .i64 0, .slice Ao33 y165.length co33] 26 (0, 0)) (by (with_reducible repeat (first | refine blk_drewN ?_ _ | refine blk_drew ?_ | refine blk_alloc ?_ _)); exact BK168.out) hb); have n7_ := Aside0.mk (below_step (by repeat (first | (with_reducible first | exact HB.out | apply below_alloc | apply pw_below_drewN | apply below_drew1 | refine below_set ?_ GE168.out) | exact HB.out)) hb); clear HO155; clear HO158; clear HO167; clear HO171; clear HO174; clear HO179; clear BK168; clear HB; have HO155 := n0_; have HO158 := n1_; have HO167 := n2_; have HO171 := n3_; have HO174 := n4_; have HO179 := n5_; have BK168 := n6_; have HB := n7_; clear n0_ n1_ n2_ n3_ n4_ n5_ n6_ n7_; (try clear hb); (try clear hb2); (try clear hk); (try clear hi); have hcz48_0 : w47.cell? ⟨gb168, 0, none⟩ = some (.slice Ao35 y153.length co35) := (blk_cell BK168.out 0).trans rfl; have hcz48_1 : w47.cell? ⟨gb168, 1, none⟩ = some (.slice Ao34 y156.length co34) := (blk_cell BK168.out 1).trans rfl; have hcz48_2 : w47.cell? ⟨gb168, 2, none⟩ = some (.int .i64 0) := (blk_cell BK168.out 2).trans rfl; have hcz48_3 : w47.cell? ⟨gb168, 3, none⟩ = some (.int .i64 0) := (blk_cell BK168.out 3).trans rfl; have hcz48_4 : w47.cell? ⟨gb168, 4, none⟩ = some (.slice Ao33 y165.length co33) := (blk_cell BK168.out 4).trans rfl; have hfz48_0 := blk_frozen BK168.out 0; have hfz48_1 := blk_frozen BK168.out 1; have hfz48_2 := blk_frozen BK168.out 2; have hfz48_3 := blk_frozen BK168.out 3; have hfz48_4 := blk_frozen BK168.out 4) | (go_at_call 14; (with_reducible refine (firsts_First.calls k _ _ y153 _ _ y156 0 0 _ _ y165 t181 _ ?side1 ?side2 ?side3 ?side4 ?side5 ?side6 A7.out).mono ?_); (case side1 => repeat (first | exact (Kd.R_reads' HO155.out).2.2 | (with_reducible refine Kd.C_alloc ?_ _) | (with_reducible refine Kd.C_drewN ?_ _) | (with_reducible refine Kd.C_drew ?_))); (case side2 => exact (Kd.R_reads' HO155.out).2.1); (case side3 => repeat (first | exact (Kd.N_reads' HO158.out).2.2 | (with_reducible refine Kd.C_alloc ?_ _) | (with_reducible refine Kd.C_drewN ?_ _) | (with_reducible refine Kd.C_drew ?_))); (case side4 => exact (Kd.N_reads' HO158.out).2.1); (case side5 => repeat (first | exact (Kd.N_reads' HO167.out).2.2 | (with_reducible refine Kd.C_alloc ?_ _) | (with_reducible refine Kd.C_drewN ?_ _) | (with_reducible refine Kd.C_drew ?_))); (case side6 => exact (Kd.N_reads' HO167.out).2.1); rintro e w49 ⟨v182, rfl, ho0, hb⟩; have n0_ := Aside0.mk (Kd.R_below (by (with_reducible repeat (first | apply Kd.R_alloc | apply Kd.R_drewN | apply Kd.R_drew)); exact HO155.out) hb); have n1_ := Aside0.mk (Kd.N_elder' (by (with_reducible repeat (first | apply Kd.N_alloc | apply Kd.N_drewN | apply Kd.N_drew)); exact HO158.out) (Kd.N_base (Kd.S_N ho0)) hb); have n2_ := Aside0.mk (Kd.N_elder' (by (with_reducible repeat (first | apply Kd.N_alloc | apply Kd.N_drewN | apply Kd.N_drew)); exact HO167.out) (Kd.N_base (Kd.S_N ho0)) hb); have n3_ := Aside0.mk (Kd.R_below (by (with_reducible repeat (first | apply Kd.R_alloc | apply Kd.R_drewN | apply Kd.R_drew)); exact HO171.out) hb); have n4_ := Aside0.mk (Kd.R_below (by (with_reducible repeat (first | apply Kd.R_alloc | apply Kd.R_drewN | apply Kd.R_drew)); exact HO174.out) hb); have n5_ := Aside0.mk (Kd.N_elder' (by (with_reducible repeat (first | apply Kd.N_alloc | apply Kd.N_drewN | apply Kd.N_drew)); exact HO179.out) (Kd.N_base (Kd.S_N ho0)) hb); have n6_ := Aside0.mk (Kd.N_lower (Kd.N_mono (ok' := fun k_ => some k_ ≠ (.slice Ao35 y153.length co35 : Value).ownBlock ∧ some k_ ≠ (.slice Ao34 y156.length co34 : Value).ownBlock ∧ some k_ ≠ (.slice Ao33 y165.length co33 : Value).ownBlock ∧ some k_ ≠ (.slice Ao40 y169.length co40 : Value).ownBlock ∧ some k_ ≠ (v173 : Value).ownBlock ∧ some k_ ≠ (.slice Ao46 y177.length co46 : Value).ownBlock ∧ k_ ≠ gb168) (Kd.S_N (Kd.S_bound ho0)) (fun k_ hk_ => ⟨(Kd.fresh' (Kd.R_lt (by (with_reducible repeat (first | apply Kd.R_alloc | apply Kd.R_drewN | apply Kd.R_drew)); exact HO155.out)) k_ hk_.2.1), (Kd.fresh' (Kd.N_lt (by (with_reducible repeat (first | apply Kd.N_alloc | apply Kd.N_drewN | apply Kd.N_drew)); exact HO158.out)) k_ hk_.2.1), (Kd.fresh' (Kd.N_lt (by (with_reducible repeat (first | apply Kd.N_alloc | apply Kd.N_drewN | apply Kd.N_drew)); exact HO167.out)) k_ hk_.2.1), (Kd.fresh' (Kd.R_lt (by (with_reducible repeat (first | apply Kd.R_alloc | apply Kd.R_drewN | apply Kd.R_drew)); exact HO171.out)) k_ hk_.2.1), (Kd.fresh' (Kd.R_lt (by (with_reducible repeat (first | apply Kd.R_alloc | apply Kd.R_drewN | apply Kd.R_drew)); exact HO174.out)) k_ hk_.2.1), (Kd.fresh' (Kd.N_lt (by (with_reducible repeat (first | apply Kd.N_alloc | apply Kd.N_drewN | apply Kd.N_drew)); exact HO179.out)) k_ hk_.2.1), (Kd.freshB (g := gb168) (o := .cells #[.slice Ao35 y153.length co35, .slice Ao34 y156.length co34, .int .i64 0, .int .i64 0, .slice Ao33 y165.length co33] 26 (0, 0)) (by (with_reducible repeat (first | refine blk_drewN ?_ _ | refine blk_drew ?_ | refine blk_alloc ?_ _)); exact BK168.out) k_ hk_.2.1)⟩)) (below_size (by repeat (first | (with_reducible first | exact HB.out | apply below_alloc | apply pw_below_drewN | apply below_drew1 | refine below_set ?_ GE168.out) | exact HB.out)))); have n7_ := Aside0.mk (blk_below (g := gb168) (o := .cells #[.slice Ao35 y153.length co35, .slice Ao34 y156.length co34, .int .i64 0, .int .i64 0, .slice Ao33 y165.length co33] 26 (0, 0)) (by (with_reducible repeat (first | refine blk_drewN ?_ _ | refine blk_drew ?_ | refine blk_alloc ?_ _)); exact BK168.out) hb); have n8_ := Aside0.mk (below_step (by repeat (first | (with_reducible first | exact HB.out | apply below_alloc | apply pw_below_drewN | apply below_drew1 | refine below_set ?_ GE168.out) | exact HB.out)) hb); clear HO155; clear HO158; clear HO167; clear HO171; clear HO174; clear HO179; clear BK168; clear HB; have HO155 := n0_; have HO158 := n1_; have HO167 := n2_; have HO171 := n3_; have HO174 := n4_; have HO179 := n5_; have HO183 := n6_; have BK168 := n7_; have HB := n8_; clear n0_ n1_ n2_ n3_ n4_ n5_ n6_ n7_ n8_; (try clear hb); (try clear hb2); (try clear hk); (try clear hi); (try clear ho0)) | ((with_reducible refine gate_dst (N := 35) rfl ?_); (try (refine gate_guard (by rfl) ?_; dsimp only)); refine Kd.R_lit (Kd.int .i64) _ 3 ?hg (N := 35) ?hd (xs := ([0, 1] : List Int)) (inner := [.int .i64 0, .int .i64 1]) (ok := fun _ => True) (okp := fun _ => True) ?hr ?hp (fun _ hk => hk) trivial (Below.refl _ _) (Nat.le_refl _) (by simp) ?_; (case hd => rfl); (case hg => rfl); (case hr => first | (go_simp; done) | (go_simp; rfl)); (case hp => exact (Reps.one (show Kd.M (Kd.int .i64) _ _ _ 0 [.int .i64 0] from rfl) (Reps.one (show Kd.M (Kd.int .i64) _ _ _ 1 [.int .i64 1] from rfl) (Reps.none _ _)))); intro v185 w50 ho51 hb hg_ hnew_; clear hg_ hnew_; (first | rw [← Ny184.out] at ho51 | (simp only [Int.reduceToNat] at ho51; rw [← Ny184.out] at ho51)); have n0_ := Aside0.mk (Kd.R_below (by (with_reducible repeat (first | apply Kd.R_alloc | apply Kd.R_drewN | apply Kd.R_drew)); exact HO155.out) hb); have n1_ := Aside0.mk (Kd.N_elder' (by (with_reducible repeat (first | apply Kd.N_alloc | apply Kd.N_drewN | apply Kd.N_drew)); exact HO158.out) (Kd.R_base ho51) hb); have n2_ := Aside0.mk (Kd.N_elder' (by (with_reducible repeat (first | apply Kd.N_alloc | apply Kd.N_drewN | apply Kd.N_drew)); exact HO167.out) (Kd.R_base ho51) hb); have n3_ := Aside0.mk (Kd.R_below (by (with_reducible repeat (first | apply Kd.R_alloc | apply Kd.R_drewN | apply Kd.R_drew)); exact HO171.out) hb); have n4_ := Aside0.mk (Kd.R_elder' (by (with_reducible repeat (first | apply Kd.R_alloc | apply Kd.R_drewN | apply Kd.R_drew)); exact HO174.out) (Kd.R_base ho51) hb); have n5_ := Aside0.mk (Kd.N_elder' (by (with_reducible repeat (first | apply Kd.N_alloc | apply Kd.N_drewN | apply Kd.N_drew)); exact HO179.out) (Kd.R_base ho51) hb); have n6_ := Aside0.mk (Kd.N_elder' (by (with_reducible repeat (first | apply Kd.N_alloc | apply Kd.N_drewN | apply Kd.N_drew)); exact HO183.out) (Kd.R_base ho51) hb); have n7_ := Aside0.mk (Kd.R_lower (Kd.R_new' ho51 (Kd.R_lt (by (with_reducible repeat (first | apply Kd.R_alloc | apply Kd.R_drewN | apply Kd.R_drew)); exact HO174.out))) (below_size (by repeat (first | (with_reducible first | exact HB.out | apply below_alloc | apply pw_below_drewN | apply below_drew1 | refine below_set ?_ GE168.out) | exact HB.out)))); have n8_ := Aside0.mk (blk_below (g := gb168) (o := .cells #[.slice Ao35 y153.length co35, .slice Ao34 y156.length co34, .int .i64 0, .int .i64 0, .slice Ao33 y165.length co33] 26 (0, 0)) (by (with_reducible repeat (first | refine blk_drewN ?_ _ | refine blk_drew ?_ | refine blk_alloc ?_ _)); exact BK168.out) hb); have n9_ := Aside0.mk (below_step (by repeat (first | (with_reducible first | exact HB.out | apply below_alloc | apply pw_below_drewN | apply below_drew1 | refine below_set ?_ GE168.out) | exact HB.out)) hb); clear HO155; clear HO158; clear HO167; clear HO171; clear HO174; clear HO179; clear HO183; clear BK168; clear HB; have HO155 := n0_; have HO158 := n1_; have HO167 := n2_; have HO171 := n3_; have HO174 := n4_; have HO179 := n5_; have HO183 := n6_; have HO186 := n7_; have BK168 := n8_; have HB := n9_; clear n0_ n1_ n2_ n3_ n4_ n5_ n6_ n7_ n8_ n9_; clear hb ho51) | ((with_reducible refine gate_dst (N := 36) rfl ?_); (try (refine gate_guard (by rfl) ?_; dsimp only)); refine Kd.R_lit (Kd.int .i64) _ 3 ?hg (N := 36) ?hd (xs := ([1] : List Int)) (inner := [.int .i64 1]) (ok := fun _ => True) (okp := fun _ => True) ?hr ?hp (fun _ hk => hk) trivial (Below.refl _ _) (Nat.le_refl _) (by simp) ?_; (case hd => rfl); (case hg => rfl); (case hr => first | (go_simp; done) | (go_simp; rfl)); (case hp => exact (Reps.one (show Kd.M (Kd.int .i64) _ _ _ 1 [.int .i64 1] from rfl) (Reps.none _ _))); intro v188 w52 ho53 hb hg_ hnew_; clear hg_ hnew_; (first | rw [← Ny187.out] at ho53 | (simp only [Int.reduceToNat] at ho53; rw [← Ny187.out] at ho53)); have n0_ := Aside0.mk (Kd.R_below (by (with_reducible repeat (first | apply Kd.R_alloc | apply Kd.R_drewN | apply Kd.R_drew)); exact HO155.out) hb); have n1_ := Aside0.mk (Kd.N_elder' (by (with_reducible repeat (first | apply Kd.N_alloc | apply Kd.N_drewN | apply Kd.N_drew)); exact HO158.out) (Kd.R_base ho53) hb); have n2_ := Aside0.mk (Kd.N_elder' (by (with_reducible repeat (first | apply Kd.N_alloc | apply Kd.N_drewN | apply Kd.N_drew)); exact HO167.out) (Kd.R_base ho53) hb); have n3_ := Aside0.mk (Kd.R_below (by (with_reducible repeat (first | apply Kd.R_alloc | apply Kd.R_drewN | apply Kd.R_drew)); exact HO171.out) hb); have n4_ := Aside0.mk (Kd.R_elder' (by (with_reducible repeat (first | apply Kd.R_alloc | apply Kd.R_drewN | apply Kd.R_drew)); exact HO174.out) (Kd.R_base ho53) hb); have n5_ := Aside0.mk (Kd.N_elder' (by (with_reducible repeat (first | apply Kd.N_alloc | apply Kd.N_drewN | apply Kd.N_drew)); exact HO179.out) (Kd.R_base ho53) hb); have n6_ := Aside0.mk (Kd.N_elder' (by (with_reducible repeat (first | apply Kd.N_alloc | apply Kd.N_drewN | apply Kd.N_drew)); exact HO183.out) (Kd.R_base ho53) hb); have n7_ := Aside0.mk (Kd.R_elder' (by (with_reducible repeat (first | apply Kd.R_alloc | apply Kd.R_drewN | apply Kd.R_drew)); exact HO186.out) (Kd.R_base ho53) hb); have n8_ := Aside0.mk (Kd.R_lower (Kd.R_new' (Kd.R_new' ho53 (Kd.R_lt (by (with_reducible repeat (first | apply Kd.R_alloc | apply Kd.R_drewN | apply Kd.R_drew)); exact HO174.out))) (Kd.R_lt (by (with_reducible repeat (first | apply Kd.R_alloc | apply Kd.R_drewN | apply Kd.R_drew)); exact HO186.out))) (below_size (by repeat (first | (with_reducible first | exact HB.out | apply below_alloc | apply pw_below_drewN | apply below_drew1 | refine below_set ?_ GE168.out) | exact HB.out)))); have n9_ := Aside0.mk (blk_below (g := gb168) (o := .cells #[.slice Ao35 y153.length co35, .slice Ao34 y156.length co34, .int .i64 0, .int .i64 0, .slice Ao33 y165.length co33] 26 (0, 0)) (by (with_reducible repeat (first | refine blk_drewN ?_ _ | refine blk_drew ?_ | refine blk_alloc ?_ _)); exact BK168.out) hb); have n10_ := Aside0.mk (below_step (by repeat (first | (with_reducible first | exact HB.out | apply below_alloc | apply pw_below_drewN | apply below_drew1 | refine below_set ?_ GE168.out) | exact HB.out)) hb); clear HO155; clear HO158; clear HO167; clear HO171; clear HO174; clear HO179; clear HO183; clear HO186; clear BK168; clear HB; have HO155 := n0_; have HO158 := n1_; have HO167 := n2_; have HO171 := n3_; have HO174 := n4_; have HO179 := n5_; have HO183 := n6_; have HO186 := n7_; have HO189 := n8_; have BK168 := n9_; have HB := n10_; clear n0_ n1_ n2_ n3_ n4_ n5_ n6_ n7_ n8_ n9_ n10_; clear hb ho53; obtain ⟨Ao54, co54, eo54⟩ := Kd.R_slice HO186.out; subst eo54; obtain ⟨Ao55, co55, eo55⟩ := Kd.R_slice HO189.out; subst eo55) | ((with_reducible refine gate_dst (N := 37) rfl ?_); (try (refine gate_guard (by rfl) ?_; dsimp only)); refine Kd.N_lit (Kd.slice 3 (Kd.int .i64)) _ 39 ?hg (N' := 37) ?hd (xs := ([y184, y187] : List (List Int))) (inner := [.slice Ao54 y184.length co54, .slice Ao55 y187.length co55]) (ok := (fun k_ => some k_ ≠ (.slice Ao35 y153.length co35 : Value).ownBlock ∧ some k_ ≠ (.slice Ao34 y156.length co34 : Value).ownBlock ∧ some k_ ≠ (.slice Ao33 y165.length co33 : Value).ownBlock ∧ some k_ ≠ (.slice Ao40 y169.length co40 : Value).ownBlock ∧ some k_ ≠ (v173 : Value).ownBlock ∧ some k_ ≠ (.slice Ao46 y177.length co46 : Value).ownBlock ∧ some k_ ≠ (v182 : Value).ownBlock ∧ k_ ≠ gb168)) (okp := (fun k_ => some k_ ≠ (.slice Ao35 y153.length co35 : Value).ownBlock ∧ some k_ ≠ (.slice Ao34 y156.length co34 : Value).ownBlock ∧ some k_ ≠ (.slice Ao33 y165.length co33 : Value).ownBlock ∧ some k_ ≠ (.slice Ao40 y169.length co40 : Value).ownBlock ∧ some k_ ≠ (v173 : Value).ownBlock ∧ some k_ ≠ (.slice Ao46 y177.length co46 : Value).ownBlock ∧ some k_ ≠ (v182 : Value).ownBlock ∧ k_ ≠ gb168)) ?hr ?hp (fun _ hk => hk) ((show ∀ k_, w52.heap.size ≤ k_ → (fun k_ => some k_ ≠ (.slice Ao35 y153.length co35 : Value).ownBlock ∧ some k_ ≠ (.slice Ao34 y156.length co34 : Value).ownBlock ∧ some k_ ≠ (.slice Ao33 y165.length co33 : Value).ownBlock ∧ some k_ ≠ (.slice Ao40 y169.length co40 : Value).ownBlock ∧ some k_ ≠ (v173 : Value).ownBlock ∧ some k_ ≠ (.slice Ao46 y177.length co46 : Value).ownBlock ∧ some k_ ≠ (v182 : Value).ownBlock ∧ k_ ≠ gb168) k_ from fun k_ hk => ⟨Kd.fresh' (Kd.R_lt (by (with_reducible repeat (first | apply Kd.R_alloc | apply Kd.R_drewN | apply Kd.R_drew)); exact HO155.out)) k_ hk, Kd.fresh' (Kd.N_lt (by (with_reducible repeat (first | apply Kd.N_alloc | apply Kd.N_drewN | apply Kd.N_drew)); exact HO158.out)) k_ hk, Kd.fresh' (Kd.N_lt (by (with_reducible repeat (first | apply Kd.N_alloc | apply Kd.N_drewN | apply Kd.N_drew)); exact HO167.out)) k_ hk, Kd.fresh' (Kd.R_lt (by (with_reducible repeat (first | apply Kd.R_alloc | apply Kd.R_drewN | apply Kd.R_drew)); exact HO171.out)) k_ hk, Kd.fresh' (Kd.R_lt (by (with_reducible repeat (first | apply Kd.R_alloc | apply Kd.R_drewN | apply Kd.R_drew)); exact HO174.out)) k_ hk, Kd.fresh' (Kd.N_lt (by (with_reducible repeat (first | apply Kd.N_alloc | apply Kd.N_drewN | apply Kd.N_drew)); exact HO179.out)) k_ hk, Kd.fresh' (Kd.N_lt (by (with_reducible repeat (first | apply Kd.N_alloc | apply Kd.N_drewN | apply Kd.N_drew)); exact HO183.out)) k_ hk, Kd.freshB (g := gb168) (o := .cells #[.slice Ao35 y153.length co35, .slice Ao34 y156.length co34, .int .i64 0, .int .i64 0, .slice Ao33 y165.length co33] 26 (0, 0)) (by (with_reducible repeat (first | refine blk_drewN ?_ _ | refine blk_drew ?_ | refine blk_alloc ?_ _)); exact BK168.out) k_ hk⟩) _ (Nat.le_refl _)) (Below.refl _ _) (Nat.le_refl _) (by simp) ?_; (case hd => rfl); (case hg => rfl); (case hr => first | (go_simp; done) | (go_simp; rfl)); (case hp => exact (Reps.one (show Kd.FK (Kd.slice 3 (Kd.int .i64)) _ _ y184 [.slice Ao54 y184.length co54] from (Kd.FK_slice_mk (Kd.R_reads' (Kd.R_mono (ok' := (fun k_ => some k_ ≠ (.slice Ao35 y153.length co35 : Value).ownBlock ∧ some k_ ≠ (.slice Ao34 y156.length co34 : Value).ownBlock ∧ some k_ ≠ (.slice Ao33 y165.length co33 : Value).ownBlock ∧ some k_ ≠ (.slice Ao40 y169.length co40 : Value).ownBlock ∧ some k_ ≠ (v173 : Value).ownBlock ∧ some k_ ≠ (.slice Ao46 y177.length co46 : Value).ownBlock ∧ some k_ ≠ (v182 : Value).ownBlock ∧ k_ ≠ gb168)) (Kd.R_types (Kd.R_apart' (Kd.R_apart' (Kd.R_apart' (Kd.R_apart' (Kd.R_apart' (Kd.R_apart' (HO186.out) (Kd.R_typed HO155.out) (by decide)) (Kd.N_typed HO158.out) (by decide)) (Kd.N_typed HO167.out) (by decide)) (Kd.R_typed HO171.out) (by decide)) (Kd.N_typed HO179.out) (by decide)) (Kd.N_typed HO183.out) (by decide)) BK168.out (by decide)) (fun k_ hk => ⟨hk.1.1.1.1.1.1.2, ⟨hk.1.1.1.1.1.2, ⟨hk.1.1.1.1.2, ⟨hk.1.1.1.2, ⟨hk.1.1.1.1.1.1.1.1.2, ⟨hk.1.1.2, ⟨hk.1.2, hk.2⟩⟩⟩⟩⟩⟩⟩))).2.1 (Kd.R_F (Kd.R_mono (ok' := (fun k_ => some k_ ≠ (.slice Ao35 y153.length co35 : Value).ownBlock ∧ some k_ ≠ (.slice Ao34 y156.length co34 : Value).ownBlock ∧ some k_ ≠ (.slice Ao33 y165.length co33 : Value).ownBlock ∧ some k_ ≠ (.slice Ao40 y169.length co40 : Value).ownBlock ∧ some k_ ≠ (v173 : Value).ownBlock ∧ some k_ ≠ (.slice Ao46 y177.length co46 : Value).ownBlock ∧ some k_ ≠ (v182 : Value).ownBlock ∧ k_ ≠ gb168)) (Kd.R_types (Kd.R_apart' (Kd.R_apart' (Kd.R_apart' (Kd.R_apart' (Kd.R_apart' (Kd.R_apart' (HO186.out) (Kd.R_typed HO155.out) (by decide)) (Kd.N_typed HO158.out) (by decide)) (Kd.N_typed HO167.out) (by decide)) (Kd.R_typed HO171.out) (by decide)) (Kd.N_typed HO179.out) (by decide)) (Kd.N_typed HO183.out) (by decide)) BK168.out (by decide)) (fun k_ hk => ⟨hk.1.1.1.1.1.1.2, ⟨hk.1.1.1.1.1.2, ⟨hk.1.1.1.1.2, ⟨hk.1.1.1.2, ⟨hk.1.1.1.1.1.1.1.1.2, ⟨hk.1.1.2, ⟨hk.1.2, hk.2⟩⟩⟩⟩⟩⟩⟩))))) (Reps.one (show Kd.FK (Kd.slice 3 (Kd.int .i64)) _ _ y187 [.slice Ao55 y187.length co55] from (Kd.FK_slice_mk (Kd.R_reads' (Kd.R_mono (ok' := (fun k_ => some k_ ≠ (.slice Ao35 y153.length co35 : Value).ownBlock ∧ some k_ ≠ (.slice Ao34 y156.length co34 : Value).ownBlock ∧ some k_ ≠ (.slice Ao33 y165.length co33 : Value).ownBlock ∧ some k_ ≠ (.slice Ao40 y169.length co40 : Value).ownBlock ∧ some k_ ≠ (v173 : Value).ownBlock ∧ some k_ ≠ (.slice Ao46 y177.length co46 : Value).ownBlock ∧ some k_ ≠ (v182 : Value).ownBlock ∧ k_ ≠ gb168)) (Kd.R_types (Kd.R_apart' (Kd.R_apart' (Kd.R_apart' (Kd.R_apart' (Kd.R_apart' (Kd.R_apart' (HO189.out) (Kd.R_typed HO155.out) (by decide)) (Kd.N_typed HO158.out) (by decide)) (Kd.N_typed HO167.out) (by decide)) (Kd.R_typed HO171.out) (by decide)) (Kd.N_typed HO179.out) (by decide)) (Kd.N_typed HO183.out) (by decide)) BK168.out (by decide)) (fun k_ hk => ⟨hk.1.1.1.1.1.1.2, ⟨hk.1.1.1.1.1.2, ⟨hk.1.1.1.1.2, ⟨hk.1.1.1.2, ⟨hk.1.1.1.1.1.1.1.1.2, ⟨hk.1.1.2, ⟨hk.1.2, hk.2⟩⟩⟩⟩⟩⟩⟩))).2.1 (Kd.R_F (Kd.R_mono (ok' := (fun k_ => some k_ ≠ (.slice Ao35 y153.length co35 : Value).ownBlock ∧ some k_ ≠ (.slice Ao34 y156.length co34 : Value).ownBlock ∧ some k_ ≠ (.slice Ao33 y165.length co33 : Value).ownBlock ∧ some k_ ≠ (.slice Ao40 y169.length co40 : Value).ownBlock ∧ some k_ ≠ (v173 : Value).ownBlock ∧ some k_ ≠ (.slice Ao46 y177.length co46 : Value).ownBlock ∧ some k_ ≠ (v182 : Value).ownBlock ∧ k_ ≠ gb168)) (Kd.R_types (Kd.R_apart' (Kd.R_apart' (Kd.R_apart' (Kd.R_apart' (Kd.R_apart' (Kd.R_apart' (HO189.out) (Kd.R_typed HO155.out) (by decide)) (Kd.N_typed HO158.out) (by decide)) (Kd.N_typed HO167.out) (by decide)) (Kd.R_typed HO171.out) (by decide)) (Kd.N_typed HO179.out) (by decide)) (Kd.N_typed HO183.out) (by decide)) BK168.out (by decide)) (fun k_ hk => ⟨hk.1.1.1.1.1.1.2, ⟨hk.1.1.1.1.1.2, ⟨hk.1.1.1.1.2, ⟨hk.1.1.1.2, ⟨hk.1.1.1.1.1.1.1.1.2, ⟨hk.1.1.2, ⟨hk.1.2, hk.2⟩⟩⟩⟩⟩⟩⟩))))) (Reps.none _ _)))); intro v191 w56 ho57 hb hg_ hnew_; clear hg_ hnew_; (first | rw [← Ny190.out] at ho57 | (simp only [Int.reduceToNat] at ho57; rw [← Ny190.out] at ho57)); have n0_ := Aside0.mk (Kd.R_below (by (with_reducible repeat (first | apply Kd.R_alloc | apply Kd.R_drewN | apply Kd.R_drew)); exact HO155.out) hb); have n1_ := Aside0.mk (Kd.N_elder' (by (with_reducible repeat (first | apply Kd.N_alloc | apply Kd.N_drewN | apply Kd.N_drew)); exact HO158.out) (Kd.N_base ho57) hb); have n2_ := Aside0.mk (Kd.N_elder' (by (with_reducible repeat (first | apply Kd.N_alloc | apply Kd.N_drewN | apply Kd.N_drew)); exact HO167.out) (Kd.N_base ho57) hb); have n3_ := Aside0.mk (Kd.R_below (by (with_reducible repeat (first | apply Kd.R_alloc | apply Kd.R_drewN | apply Kd.R_drew)); exact HO171.out) hb); have n4_ := Aside0.mk (Kd.R_below (by (with_reducible repeat (first | apply Kd.R_alloc | apply Kd.R_drewN | apply Kd.R_drew)); exact HO174.out) hb); have n5_ := Aside0.mk (Kd.N_elder' (by (with_reducible repeat (first | apply Kd.N_alloc | apply Kd.N_drewN | apply Kd.N_drew)); exact HO179.out) (Kd.N_base ho57) hb); have n6_ := Aside0.mk (Kd.N_elder' (by (with_reducible repeat (first | apply Kd.N_alloc | apply Kd.N_drewN | apply Kd.N_drew)); exact HO183.out) (Kd.N_base ho57) hb); have n7_ := Aside0.mk (Kd.N_lower ho57 (below_size (by repeat (first | (with_reducible first | exact HB.out | apply below_alloc | apply pw_below_drewN | apply below_drew1 | refine below_set ?_ GE168.out) | exact HB.out)))); have n8_ := Aside0.mk (blk_below (g := gb168) (o := .cells #[.slice Ao35 y153.length co35, .slice Ao34 y156.length co34, .int .i64 0, .int .i64 0, .slice Ao33 y165.length co33] 26 (0, 0)) (by (with_reducible repeat (first | refine blk_drewN ?_ _ | refine blk_drew ?_ | refine blk_alloc ?_ _)); exact BK168.out) hb); have n9_ := Aside0.mk (below_step (by repeat (first | (with_reducible first | exact HB.out | apply below_alloc | apply pw_below_drewN | apply below_drew1 | refine below_set ?_ GE168.out) | exact HB.out)) hb); clear HO155; clear HO158; clear HO167; clear HO171; clear HO174; clear HO179; clear HO183; clear BK168; clear HB; clear HO186; clear HO189; have HO155 := n0_; have HO158 := n1_; have HO167 := n2_; have HO171 := n3_; have HO174 := n4_; have HO179 := n5_; have HO183 := n6_; have HO192 := n7_; have BK168 := n8_; have HB := n9_; clear n0_ n1_ n2_ n3_ n4_ n5_ n6_ n7_ n8_ n9_; clear hb ho57; obtain ⟨Ao58, co58, eo58⟩ := Kd.N_slice HO183.out; subst eo58; obtain ⟨Ao59, co59, eo59⟩ := Kd.N_slice HO192.out; subst eo59) | (go_at_call 24; (with_reducible refine (regletref13_SameLists.calls k _ _ t181 _ _ y190 true _ ?side1 ?side2 ?side3 ?side4 A8.out).mono ?_); (case side1 => repeat (first | exact (Kd.N_reads' HO183.out).2.2 | (with_reducible refine Kd.C_alloc ?_ _) | (with_reducible refine Kd.C_drewN ?_ _) | (with_reducible refine Kd.C_drew ?_))); (case side2 => exact (Kd.N_reads' HO183.out).2.1); (case side3 => repeat (first | exact (Kd.N_reads' HO192.out).2.2 | (with_reducible refine Kd.C_alloc ?_ _) | (with_reducible refine Kd.C_drewN ?_ _) | (with_reducible refine Kd.C_drew ?_))); (case side4 => exact (Kd.N_reads' HO192.out).2.1); rintro e w' ⟨rfl, ⟨nd, rfl⟩⟩; have hcz60_0 : w56.cell? ⟨gb168, 0, none⟩ = some (.slice Ao35 y153.length co35) := (blk_cell BK168.out 0).trans rfl; have hcz60_1 : w56.cell? ⟨gb168, 1, none⟩ = some (.slice Ao34 y156.length co34) := (blk_cell BK168.out 1).trans rfl; have hcz60_2 : w56.cell? ⟨gb168, 2, none⟩ = some (.int .i64 0) := (blk_cell BK168.out 2).trans rfl; have hcz60_3 : w56.cell? ⟨gb168, 3, none⟩ = some (.int .i64 0) := (blk_cell BK168.out 3).trans rfl; have hcz60_4 : w56.cell? ⟨gb168, 4, none⟩ = some (.slice Ao33 y165.length co33) := (blk_cell BK168.out 4).trans rfl; have hfz60_0 := blk_frozen BK168.out 0; have hfz60_1 := blk_frozen BK168.out 1; have hfz60_2 := blk_frozen BK168.out 2; have hfz60_3 := blk_frozen BK168.out 3; have hfz60_4 := blk_frozen BK168.out 4) | (go_at_call 18; (with_reducible refine (firsts_Follow.calls k _ _ y153 _ _ y156 0 0 _ _ y165 t194 _ ?side1 ?side2 ?side3 ?side4 ?side5 ?side6 A10.out).mono ?_); (case side1 => repeat (first | exact (Kd.R_reads' HO155.out).2.2 | (with_reducible refine Kd.C_alloc ?_ _) | (with_reducible refine Kd.C_drewN ?_ _) | (with_reducible refine Kd.C_drew ?_))); (case side2 => exact (Kd.R_reads' HO155.out).2.1); (case side3 => repeat (first | exact (Kd.N_reads' HO158.out).2.2 | (with_reducible refine Kd.C_alloc ?_ _) | (with_reducible refine Kd.C_drewN ?_ _) | (with_reducible refine Kd.C_drew ?_))); (case side4 => exact (Kd.N_reads' HO158.out).2.1); (case side5 => repeat (first | exact (Kd.N_reads' HO167.out).2.2 | (with_reducible refine Kd.C_alloc ?_ _) | (with_reducible refine Kd.C_drewN ?_ _) | (with_reducible refine Kd.C_drew ?_))); (case side6 => exact (Kd.N_reads' HO167.out).2.1); rintro e w61 ⟨v195, rfl, ho0, hb⟩; have n0_ := Aside0.mk (Kd.R_below (by (with_reducible repeat (first | apply Kd.R_alloc | apply Kd.R_drewN | apply Kd.R_drew)); exact HO155.out) hb); have n1_ := Aside0.mk (Kd.N_elder' (by (with_reducible repeat (first | apply Kd.N_alloc | apply Kd.N_drewN | apply Kd.N_drew)); exact HO158.out) (Kd.N_base (Kd.S_N ho0)) hb); have n2_ := Aside0.mk (Kd.N_elder' (by (with_reducible repeat (first | apply Kd.N_alloc | apply Kd.N_drewN | apply Kd.N_drew)); exact HO167.out) (Kd.N_base (Kd.S_N ho0)) hb); have n3_ := Aside0.mk (Kd.R_below (by (with_reducible repeat (first | apply Kd.R_alloc | apply Kd.R_drewN | apply Kd.R_drew)); exact HO171.out) hb); have n4_ := Aside0.mk (Kd.R_below (by (with_reducible repeat (first | apply Kd.R_alloc | apply Kd.R_drewN | apply Kd.R_drew)); exact HO174.out) hb); have n5_ := Aside0.mk (Kd.N_elder' (by (with_reducible repeat (first | apply Kd.N_alloc | apply Kd.N_drewN | apply Kd.N_drew)); exact HO179.out) (Kd.N_base (Kd.S_N ho0)) hb); have n6_ := Aside0.mk (Kd.N_elder' (by (with_reducible repeat (first | apply Kd.N_alloc | apply Kd.N_drewN | apply Kd.N_drew)); exact HO183.out) (Kd.N_base (Kd.S_N ho0)) hb); have n7_ := Aside0.mk (Kd.N_elder' (by (with_reducible repeat (first | apply Kd.N_alloc | apply Kd.N_drewN | apply Kd.N_drew)); exact HO192.out) (Kd.N_base (Kd.S_N ho0)) hb); have n8_ := Aside0.mk (Kd.N_lower (Kd.N_mono (ok' := fun k_ => some k_ ≠ (.slice Ao35 y153.length co35 : Value).ownBlock ∧ some k_ ≠ (.slice Ao34 y156.length co34 : Value).ownBlock ∧ some k_ ≠ (.slice Ao33 y165.length co33 : Value).ownBlock ∧ some k_ ≠ (.slice Ao40 y169.length co40 : Value).ownBlock ∧ some k_ ≠ (v173 : Value).ownBlock ∧ some k_ ≠ (.slice Ao46 y177.length co46 : Value).ownBlock ∧ some k_ ≠ (.slice Ao58 t181.length co58 : Value).ownBlock ∧ some k_ ≠ (.slice Ao59 y190.length co59 : Value).ownBlock ∧ k_ ≠ gb168) (Kd.S_N (Kd.S_bound ho0)) (fun k_ hk_ => ⟨(Kd.fresh' (Kd.R_lt (by (with_reducible repeat (first | apply Kd.R_alloc | apply Kd.R_drewN | apply Kd.R_drew)); exact HO155.out)) k_ hk_.2.1), (Kd.fresh' (Kd.N_lt (by (with_reducible repeat (first | apply Kd.N_alloc | apply Kd.N_drewN | apply Kd.N_drew)); exact HO158.out)) k_ hk_.2.1), (Kd.fresh' (Kd.N_lt (by (with_reducible repeat (first | apply Kd.N_alloc | apply Kd.N_drewN | apply Kd.N_drew)); exact HO167.out)) k_ hk_.2.1), (Kd.fresh' (Kd.R_lt (by (with_reducible repeat (first | apply Kd.R_alloc | apply Kd.R_drewN | apply Kd.R_drew)); exact HO171.out)) k_ hk_.2.1), (Kd.fresh' (Kd.R_lt (by (with_reducible repeat (first | apply Kd.R_alloc | apply Kd.R_drewN | apply Kd.R_drew)); exact HO174.out)) k_ hk_.2.1), (Kd.fresh' (Kd.N_lt (by (with_reducible repeat (first | apply Kd.N_alloc | apply Kd.N_drewN | apply Kd.N_drew)); exact HO179.out)) k_ hk_.2.1), (Kd.fresh' (Kd.N_lt (by (with_reducible repeat (first | apply Kd.N_alloc | apply Kd.N_drewN | apply Kd.N_drew)); exact HO183.out)) k_ hk_.2.1), (Kd.fresh' (Kd.N_lt (by (with_reducible repeat (first | apply Kd.N_alloc | apply Kd.N_drewN | apply Kd.N_drew)); exact HO192.out)) k_ hk_.2.1), (Kd.freshB (g := gb168) (o := .cells #[.slice Ao35 y153.length co35, .slice Ao34 y156.length co34, .int .i64 0, .int .i64 0, .slice Ao33 y165.length co33] 26 (0, 0)) (by (with_reducible repeat (first | refine blk_drewN ?_ _ | refine blk_drew ?_ | refine blk_alloc ?_ _)); exact BK168.out) k_ hk_.2.1)⟩)) (below_size (by repeat (first | (with_reducible first | exact HB.out | apply below_alloc | apply pw_below_drewN | apply below_drew1 | refine below_set ?_ GE168.out) | exact HB.out)))); have n9_ := Aside0.mk (blk_below (g := gb168) (o := .cells #[.slice Ao35 y153.length co35, .slice Ao34 y156.length co34, .int .i64 0, .int .i64 0, .slice Ao33 y165.length co33] 26 (0, 0)) (by (with_reducible repeat (first | refine blk_drewN ?_ _ | refine blk_drew ?_ | refine blk_alloc ?_ _)); exact BK168.out) hb); have n10_ := Aside0.mk (below_step (by repeat (first | (with_reducible first | exact HB.out | apply below_alloc | apply pw_below_drewN | apply below_drew1 | refine below_set ?_ GE168.out) | exact HB.out)) hb); clear HO155; clear HO158; clear HO167; clear HO171; clear HO174; clear HO179; clear HO183; clear HO192; clear BK168; clear HB; have HO155 := n0_; have HO158 := n1_; have HO167 := n2_; have HO171 := n3_; have HO174 := n4_; have HO179 := n5_; have HO183 := n6_; have HO192 := n7_; have HO196 := n8_; have BK168 := n9_; have HB := n10_; clear n0_ n1_ n2_ n3_ n4_ n5_ n6_ n7_ n8_ n9_ n10_; (try clear hb); (try clear hb2); (try clear hk); (try clear hi); (try clear ho0)) | ((with_reducible refine gate_dst (N := 43) rfl ?_); (try (refine gate_guard (by rfl) ?_; dsimp only)); refine Kd.R_lit (Kd.int .i64) _ 3 ?hg (N := 43) ?hd (xs := ([2] : List Int)) (inner := [.int .i64 2]) (ok := fun _ => True) (okp := fun _ => True) ?hr ?hp (fun _ hk => hk) trivial (Below.refl _ _) (Nat.le_refl _) (by simp) ?_; (case hd => rfl); (case hg => rfl); (case hr => first | (go_simp; done) | (go_simp; rfl)); (case hp => exact (Reps.one (show Kd.M (Kd.int .i64) _ _ _ 2 [.int .i64 2] from rfl) (Reps.none _ _))); intro v198 w62 ho63 hb hg_ hnew_; clear hg_ hnew_; (first | rw [← Ny197.out] at ho63 | (simp only [Int.reduceToNat] at ho63; rw [← Ny197.out] at ho63)); have n0_ := Aside0.mk (Kd.R_below (by (with_reducible repeat (first | apply Kd.R_alloc | apply Kd.R_drewN | apply Kd.R_drew)); exact HO155.out) hb); have n1_ := Aside0.mk (Kd.N_elder' (by (with_reducible repeat (first | apply Kd.N_alloc | apply Kd.N_drewN | apply Kd.N_drew)); exact HO158.out) (Kd.R_base ho63) hb); have n2_ := Aside0.mk (Kd.N_elder' (by (with_reducible repeat (first | apply Kd.N_alloc | apply Kd.N_drewN | apply Kd.N_drew)); exact HO167.out) (Kd.R_base ho63) hb); have n3_ := Aside0.mk (Kd.R_below (by (with_reducible repeat (first | apply Kd.R_alloc | apply Kd.R_drewN | apply Kd.R_drew)); exact HO171.out) hb); have n4_ := Aside0.mk (Kd.R_elder' (by (with_reducible repeat (first | apply Kd.R_alloc | apply Kd.R_drewN | apply Kd.R_drew)); exact HO174.out) (Kd.R_base ho63) hb); have n5_ := Aside0.mk (Kd.N_elder' (by (with_reducible repeat (first | apply Kd.N_alloc | apply Kd.N_drewN | apply Kd.N_drew)); exact HO179.out) (Kd.R_base ho63) hb); have n6_ := Aside0.mk (Kd.N_elder' (by (with_reducible repeat (first | apply Kd.N_alloc | apply Kd.N_drewN | apply Kd.N_drew)); exact HO183.out) (Kd.R_base ho63) hb); have n7_ := Aside0.mk (Kd.N_elder' (by (with_reducible repeat (first | apply Kd.N_alloc | apply Kd.N_drewN | apply Kd.N_drew)); exact HO192.out) (Kd.R_base ho63) hb); have n8_ := Aside0.mk (Kd.N_elder' (by (with_reducible repeat (first | apply Kd.N_alloc | apply Kd.N_drewN | apply Kd.N_drew)); exact HO196.out) (Kd.R_base ho63) hb); have n9_ := Aside0.mk (Kd.R_lower (Kd.R_new' ho63 (Kd.R_lt (by (with_reducible repeat (first | apply Kd.R_alloc | apply Kd.R_drewN | apply Kd.R_drew)); exact HO174.out))) (below_size (by repeat (first | (with_reducible first | exact HB.out | apply below_alloc | apply pw_below_drewN | apply below_drew1 | refine below_set ?_ GE168.out) | exact HB.out)))); have n10_ := Aside0.mk (blk_below (g := gb168) (o := .cells #[.slice Ao35 y153.length co35, .slice Ao34 y156.length co34, .int .i64 0, .int .i64 0, .slice Ao33 y165.length co33] 26 (0, 0)) (by (with_reducible repeat (first | refine blk_drewN ?_ _ | refine blk_drew ?_ | refine blk_alloc ?_ _)); exact BK168.out) hb); have n11_ := Aside0.mk (below_step (by repeat (first | (with_reducible first | exact HB.out | apply below_alloc | apply pw_below_drewN | apply below_drew1 | refine below_set ?_ GE168.out) | exact HB.out)) hb); clear HO155; clear HO158; clear HO167; clear HO171; clear HO174; clear HO179; clear HO183; clear HO192; clear HO196; clear BK168; clear HB; have HO155 := n0_; have HO158 := n1_; have HO167 := n2_; have HO171 := n3_; have HO174 := n4_; have HO179 := n5_; have HO183 := n6_; have HO192 := n7_; have HO196 := n8_; have HO199 := n9_; have BK168 := n10_; have HB := n11_; clear n0_ n1_ n2_ n3_ n4_ n5_ n6_ n7_ n8_ n9_ n10_ n11_; clear hb ho63) | ((with_reducible refine gate_dst (N := 44) rfl ?_); (try (refine gate_guard (by rfl) ?_; dsimp only)); refine Kd.R_lit (Kd.int .i64) _ 3 ?hg (N := 44) ?hd (xs := ([0] : List Int)) (inner := [.int .i64 0]) (ok := fun _ => True) (okp := fun _ => True) ?hr ?hp (fun _ hk => hk) trivial (Below.refl _ _) (Nat.le_refl _) (by simp) ?_; (case hd => rfl); (case hg => rfl); (case hr => first | (go_simp; done) | (go_simp; rfl)); (case hp => exact (Reps.one (show Kd.M (Kd.int .i64) _ _ _ 0 [.int .i64 0] from rfl) (Reps.none _ _))); intro v201 w64 ho65 hb hg_ hnew_; clear hg_ hnew_; (first | rw [← Ny200.out] at ho65 | (simp only [Int.reduceToNat] at ho65; rw [← Ny200.out] at ho65)); have n0_ := Aside0.mk (Kd.R_below (by (with_reducible repeat (first | apply Kd.R_alloc | apply Kd.R_drewN | apply Kd.R_drew)); exact HO155.out) hb); have n1_ := Aside0.mk (Kd.N_elder' (by (with_reducible repeat (first | apply Kd.N_alloc | apply Kd.N_drewN | apply Kd.N_drew)); exact HO158.out) (Kd.R_base ho65) hb); have n2_ := Aside0.mk (Kd.N_elder' (by (with_reducible repeat (first | apply Kd.N_alloc | apply Kd.N_drewN | apply Kd.N_drew)); exact HO167.out) (Kd.R_base ho65) hb); have n3_ := Aside0.mk (Kd.R_below (by (with_reducible repeat (first | apply Kd.R_alloc | apply Kd.R_drewN | apply Kd.R_drew)); exact HO171.out) hb); have n4_ := Aside0.mk (Kd.R_elder' (by (with_reducible repeat (first | apply Kd.R_alloc | apply Kd.R_drewN | apply Kd.R_drew)); exact HO174.out) (Kd.R_base ho65) hb); have n5_ := Aside0.mk (Kd.N_elder' (by (with_reducible repeat (first | apply Kd.N_alloc | apply Kd.N_drewN | apply Kd.N_drew)); exact HO179.out) (Kd.R_base ho65) hb); have n6_ := Aside0.mk (Kd.N_elder' (by (with_reducible repeat (first | apply Kd.N_alloc | apply Kd.N_drewN | apply Kd.N_drew)); exact HO183.out) (Kd.R_base ho65) hb); have n7_ := Aside0.mk (Kd.N_elder' (by (with_reducible repeat (first | apply Kd.N_alloc | apply Kd.N_drewN | apply Kd.N_drew)); exact HO192.out) (Kd.R_base ho65) hb); have n8_ := Aside0.mk (Kd.N_elder' (by (with_reducible repeat (first | apply Kd.N_alloc | apply Kd.N_drewN | apply Kd.N_drew)); exact HO196.out) (Kd.R_base ho65) hb); have n9_ := Aside0.mk (Kd.R_elder' (by (with_reducible repeat (first | apply Kd.R_alloc | apply Kd.R_drewN | apply Kd.R_drew)); exact HO199.out) (Kd.R_base ho65) hb); have n10_ := Aside0.mk (Kd.R_lower (Kd.R_new' (Kd.R_new' ho65 (Kd.R_lt (by (with_reducible repeat (first | apply Kd.R_alloc | apply Kd.R_drewN | apply Kd.R_drew)); exact HO174.out))) (Kd.R_lt (by (with_reducible repeat (first | apply Kd.R_alloc | apply Kd.R_drewN | apply Kd.R_drew)); exact HO199.out))) (below_size (by repeat (first | (with_reducible first | exact HB.out | apply below_alloc | apply pw_below_drewN | apply below_drew1 | refine below_set ?_ GE168.out) | exact HB.out)))); have n11_ := Aside0.mk (blk_below (g := gb168) (o := .cells #[.slice Ao35 y153.length co35, .slice Ao34 y156.length co34, .int .i64 0, .int .i64 0, .slice Ao33 y165.length co33] 26 (0, 0)) (by (with_reducible repeat (first | refine blk_drewN ?_ _ | refine blk_drew ?_ | refine blk_alloc ?_ _)); exact BK168.out) hb); have n12_ := Aside0.mk (below_step (by repeat (first | (with_reducible first | exact HB.out | apply below_alloc | apply pw_below_drewN | apply below_drew1 | refine below_set ?_ GE168.out) | exact HB.out)) hb); clear HO155; clear HO158; clear HO167; clear HO171; clear HO174; clear HO179; clear HO183; clear HO192; clear HO196; clear HO199; clear BK168; clear HB; have HO155 := n0_; have HO158 := n1_; have HO167 := n2_; have HO171 := n3_; have HO174 := n4_; have HO179 := n5_; have HO183 := n6_; have HO192 := n7_; have HO196 := n8_; have HO199 := n9_; have HO202 := n10_; have BK168 := n11_; have HB := n12_; clear n0_ n1_ n2_ n3_ n4_ n5_ n6_ n7_ n8_ n9_ n10_ n11_ n12_; clear hb ho65; obtain ⟨Ao66, co66, eo66⟩ := Kd.R_slice HO199.out; subst eo66; obtain ⟨Ao67, co67, eo67⟩ := Kd.R_slice HO202.out; subst eo67) | ((with_reducible refine gate_dst (N := 45) rfl ?_); (try (refine gate_guard (by rfl) ?_; dsimp only)); refine Kd.N_lit (Kd.slice 3 (Kd.int .i64)) _ 39 ?hg (N' := 45) ?hd (xs := ([y197, y200] : List (List Int))) (inner := [.slice Ao66 y197.length co66, .slice Ao67 y200.length co67]) (ok := (fun k_ => some k_ ≠ (.slice Ao35 y153.length co35 : Value).ownBlock ∧ some k_ ≠ (.slice Ao34 y156.length co34 : Value).ownBlock ∧ some k_ ≠ (.slice Ao33 y165.length co33 : Value).ownBlock ∧ some k_ ≠ (.slice Ao40 y169.length co40 : Value).ownBlock ∧ some k_ ≠ (v173 : Value).ownBlock ∧ some k_ ≠ (.slice Ao46 y177.length co46 : Value).ownBlock ∧ some k_ ≠ (.slice Ao58 t181.length co58 : Value).ownBlock ∧ some k_ ≠ (.slice Ao59 y190.length co59 : Value).ownBlock ∧ some k_ ≠ (v195 : Value).ownBlock ∧ k_ ≠ gb168)) (okp := (fun k_ => some k_ ≠ (.slice Ao35 y153.length co35 : Value).ownBlock ∧ some k_ ≠ (.slice Ao34 y156.length co34 : Value).ownBlock ∧ some k_ ≠ (.slice Ao33 y165.length co33 : Value).ownBlock ∧ some k_ ≠ (.slice Ao40 y169.length co40 : Value).ownBlock ∧ some k_ ≠ (v173 : Value).ownBlock ∧ some k_ ≠ (.slice Ao46 y177.length co46 : Value).ownBlock ∧ some k_ ≠ (.slice Ao58 t181.length co58 : Value).ownBlock ∧ some k_ ≠ (.slice Ao59 y190.length co59 : Value).ownBlock ∧ some k_ ≠ (v195 : Value).ownBlock ∧ k_ ≠ gb168)) ?hr ?hp (fun _ hk => hk) ((show ∀ k_, w64.heap.size ≤ k_ → (fun k_ => some k_ ≠ (.slice Ao35 y153.length co35 : Value).ownBlock ∧ some k_ ≠ (.slice Ao34 y156.length co34 : Value).ownBlock ∧ some k_ ≠ (.slice Ao33 y165.length co33 : Value).ownBlock ∧ some k_ ≠ (.slice Ao40 y169.length co40 : Value).ownBlock ∧ some k_ ≠ (v173 : Value).ownBlock ∧ some k_ ≠ (.slice Ao46 y177.length co46 : Value).ownBlock ∧ some k_ ≠ (.slice Ao58 t181.length co58 : Value).ownBlock ∧ some k_ ≠ (.slice Ao59 y190.length co59 : Value).ownBlock ∧ some k_ ≠ (v195 : Value).ownBlock ∧ k_ ≠ gb168) k_ from fun k_ hk => ⟨Kd.fresh' (Kd.R_lt (by (with_reducible repeat (first | apply Kd.R_alloc | apply Kd.R_drewN | apply Kd.R_drew)); exact HO155.out)) k_ hk, Kd.fresh' (Kd.N_lt (by (with_reducible repeat (first | apply Kd.N_alloc | apply Kd.N_drewN | apply Kd.N_drew)); exact HO158.out)) k_ hk, Kd.fresh' (Kd.N_lt (by (with_reducible repeat (first | apply Kd.N_alloc | apply Kd.N_drewN | apply Kd.N_drew)); exact HO167.out)) k_ hk, Kd.fresh' (Kd.R_lt (by (with_reducible repeat (first | apply Kd.R_alloc | apply Kd.R_drewN | apply Kd.R_drew)); exact HO171.out)) k_ hk, Kd.fresh' (Kd.R_lt (by (with_reducible repeat (first | apply Kd.R_alloc | apply Kd.R_drewN | apply Kd.R_drew)); exact HO174.out)) k_ hk, Kd.fresh' (Kd.N_lt (by (with_reducible repeat (first | apply Kd.N_alloc | apply Kd.N_drewN | apply Kd.N_drew)); exact HO179.out)) k_ hk, Kd.fresh' (Kd.N_lt (by (with_reducible repeat (first | apply Kd.N_alloc | apply Kd.N_drewN | apply Kd.N_drew)); exact HO183.out)) k_ hk, Kd.fresh' (Kd.N_lt (by (with_reducible repeat (first | apply Kd.N_alloc | apply Kd.N_drewN | apply Kd.N_drew)); exact HO192.out)) k_ hk, Kd.fresh' (Kd.N_lt (by (with_reducible repeat (first | apply Kd.N_alloc | apply Kd.N_drewN | apply Kd.N_drew)); exact HO196.out)) k_ hk, Kd.freshB (g := gb168) (o := .cells #[.slice Ao35 y153.length co35, .slice Ao34 y156.length co34, .int .i64 0, .int .i64 0, .slice Ao33 y165.length co33] 26 (0, 0)) (by (with_reducible repeat (first | refine blk_drewN ?_ _ | refine blk_drew ?_ | refine blk_alloc ?_ _)); exact BK168.out) k_ hk⟩) _ (Nat.le_refl _)) (Below.refl _ _) (Nat.le_refl _) (by simp) ?_; (case hd => rfl); (case hg => rfl); (case hr => first | (go_simp; done) | (go_simp; rfl)); (case hp => exact (Reps.one (show Kd.FK (Kd.slice 3 (Kd.int .i64)) _ _ y197 [.slice Ao66 y197.length co66] from (Kd.FK_slice_mk (Kd.R_reads' (Kd.R_mono (ok' := (fun k_ => some k_ ≠ (.slice Ao35 y153.length co35 : Value).ownBlock ∧ some k_ ≠ (.slice Ao34 y156.length co34 : Value).ownBlock ∧ some k_ ≠ (.slice Ao33 y165.length co33 : Value).ownBlock ∧ some k_ ≠ (.slice Ao40 y169.length co40 : Value).ownBlock ∧ some k_ ≠ (v173 : Value).ownBlock ∧ some k_ ≠ (.slice Ao46 y177.length co46 : Value).ownBlock ∧ some k_ ≠ (.slice Ao58 t181.length co58 : Value).ownBlock ∧ some k_ ≠ (.slice Ao59 y190.length co59 : Value).ownBlock ∧ some k_ ≠ (v195 : Value).ownBlock ∧ k_ ≠ gb168)) (Kd.R_types (Kd.R_apart' (Kd.R_apart' (Kd.R_apart' (Kd.R_apart' (Kd.R_apart' (Kd.R_apart' (Kd.R_apart' (Kd.R_apart' (HO199.out) (Kd.R_typed HO155.out) (by decide)) (Kd.N_typed HO158.out) (by decide)) (Kd.N_typed HO167.out) (by decide)) (Kd.R_typed HO171.out) (by decide)) (Kd.N_typed HO179.out) (by decide)) (Kd.N_typed HO183.out) (by decide)) (Kd.N_typed HO192.out) (by decide)) (Kd.N_typed HO196.out) (by decide)) BK168.out (by decide)) (fun k_ hk => ⟨hk.1.1.1.1.1.1.1.1.2, ⟨hk.1.1.1.1.1.1.1.2, ⟨hk.1.1.1.1.1.1.2, ⟨hk.1.1.1.1.1.2, ⟨hk.1.1.1.1.1.1.1.1.1.1.2, ⟨hk.1.1.1.1.2, ⟨hk.1.1.1.2, ⟨hk.1.1.2, ⟨hk.1.2, hk.2⟩⟩⟩⟩⟩⟩⟩⟩⟩))).2.1 (Kd.R_F (Kd.R_mono (ok' := (fun k_ => some k_ ≠ (.slice Ao35 y153.length co35 : Value).ownBlock ∧ some k_ ≠ (.slice Ao34 y156.length co34 : Value).ownBlock ∧ some k_ ≠ (.slice Ao33 y165.length co33 : Value).ownBlock ∧ some k_ ≠ (.slice Ao40 y169.length co40 : Value).ownBlock ∧ some k_ ≠ (v173 : Value).ownBlock ∧ some k_ ≠ (.slice Ao46 y177.length co46 : Value).ownBlock ∧ some k_ ≠ (.slice Ao58 t181.length co58 : Value).ownBlock ∧ some k_ ≠ (.slice Ao59 y190.length co59 : Value).ownBlock ∧ some k_ ≠ (v195 : Value).ownBlock ∧ k_ ≠ gb168)) (Kd.R_types (Kd.R_apart' (Kd.R_apart' (Kd.R_apart' (Kd.R_apart' (Kd.R_apart' (Kd.R_apart' (Kd.R_apart' (Kd.R_apart' (HO199.out) (Kd.R_typed HO155.out) (by decide)) (Kd.N_typed HO158.out) (by decide)) (Kd.N_typed HO167.out) (by decide)) (Kd.R_typed HO171.out) (by decide)) (Kd.N_typed HO179.out) (by decide)) (Kd.N_typed HO183.out) (by decide)) (Kd.N_typed HO192.out) (by decide)) (Kd.N_typed HO196.out) (by decide)) BK168.out (by decide)) (fun k_ hk => ⟨hk.1.1.1.1.1.1.1.1.2, ⟨hk.1.1.1.1.1.1.1.2, ⟨hk.1.1.1.1.1.1.2, ⟨hk.1.1.1.1.1.2, ⟨hk.1.1.1.1.1.1.1.1.1.1.2, ⟨hk.1.1.1.1.2, ⟨hk.1.1.1.2, ⟨hk.1.1.2, ⟨hk.1.2, hk.2⟩⟩⟩⟩⟩⟩⟩⟩⟩))))) (Reps.one (show Kd.FK (Kd.slice 3 (Kd.int .i64)) _ _ y200 [.slice Ao67 y200.length co67] from (Kd.FK_slice_mk (Kd.R_reads' (Kd.R_mono (ok' := (fun k_ => some k_ ≠ (.slice Ao35 y153.length co35 : Value).ownBlock ∧ some k_ ≠ (.slice Ao34 y156.length co34 : Value).ownBlock ∧ some k_ ≠ (.slice Ao33 y165.length co33 : Value).ownBlock ∧ some k_ ≠ (.slice Ao40 y169.length co40 : Value).ownBlock ∧ some k_ ≠ (v173 : Value).ownBlock ∧ some k_ ≠ (.slice Ao46 y177.length co46 : Value).ownBlock ∧ some k_ ≠ (.slice Ao58 t181.length co58 : Value).ownBlock ∧ some k_ ≠ (.slice Ao59 y190.length co59 : Value).ownBlock ∧ some k_ ≠ (v195 : Value).ownBlock ∧ k_ ≠ gb168)) (Kd.R_types (Kd.R_apart' (Kd.R_apart' (Kd.R_apart' (Kd.R_apart' (Kd.R_apart' (Kd.R_apart' (Kd.R_apart' (Kd.R_apart' (HO202.out) (Kd.R_typed HO155.out) (by decide)) (Kd.N_typed HO158.out) (by decide)) (Kd.N_typed HO167.out) (by decide)) (Kd.R_typed HO171.out) (by decide)) (Kd.N_typed HO179.out) (by decide)) (Kd.N_typed HO183.out) (by decide)) (Kd.N_typed HO192.out) (by decide)) (Kd.N_typed HO196.out) (by decide)) BK168.out (by decide)) (fun k_ hk => ⟨hk.1.1.1.1.1.1.1.1.2, ⟨hk.1.1.1.1.1.1.1.2, ⟨hk.1.1.1.1.1.1.2, ⟨hk.1.1.1.1.1.2, ⟨hk.1.1.1.1.1.1.1.1.1.1.2, ⟨hk.1.1.1.1.2, ⟨hk.1.1.1.2, ⟨hk.1.1.2, ⟨hk.1.2, hk.2⟩⟩⟩⟩⟩⟩⟩⟩⟩))).2.1 (Kd.R_F (Kd.R_mono (ok' := (fun k_ => some k_ ≠ (.slice Ao35 y153.length co35 : Value).ownBlock ∧ some k_ ≠ (.slice Ao34 y156.length co34 : Value).ownBlock ∧ some k_ ≠ (.slice Ao33 y165.length co33 : Value).ownBlock ∧ some k_ ≠ (.slice Ao40 y169.length co40 : Value).ownBlock ∧ some k_ ≠ (v173 : Value).ownBlock ∧ some k_ ≠ (.slice Ao46 y177.length co46 : Value).ownBlock ∧ some k_ ≠ (.slice Ao58 t181.length co58 : Value).ownBlock ∧ some k_ ≠ (.slice Ao59 y190.length co59 : Value).ownBlock ∧ some k_ ≠ (v195 : Value).ownBlock ∧ k_ ≠ gb168)) (Kd.R_types (Kd.R_apart' (Kd.R_apart' (Kd.R_apart' (Kd.R_apart' (Kd.R_apart' (Kd.R_apart' (Kd.R_apart' (Kd.R_apart' (HO202.out) (Kd.R_typed HO155.out) (by decide)) (Kd.N_typed HO158.out) (by decide)) (Kd.N_typed HO167.out) (by decide)) (Kd.R_typed HO171.out) (by decide)) (Kd.N_typed HO179.out) (by decide)) (Kd.N_typed HO183.out) (by decide)) (Kd.N_typed HO192.out) (by decide)) (Kd.N_typed HO196.out) (by decide)) BK168.out (by decide)) (fun k_ hk => ⟨hk.1.1.1.1.1.1.1.1.2, ⟨hk.1.1.1.1.1.1.1.2, ⟨hk.1.1.1.1.1.1.2, ⟨hk.1.1.1.1.1.2, ⟨hk.1.1.1.1.1.1.1.1.1.1.2, ⟨hk.1.1.1.1.2, ⟨hk.1.1.1.2, ⟨hk.1.1.2, ⟨hk.1.2, hk.2⟩⟩⟩⟩⟩⟩⟩⟩⟩))))) (Reps.none _ _)))); intro v204 w68 ho69 hb hg_ hnew_; clear hg_ hnew_; (first | rw [← Ny203.out] at ho69 | (simp only [Int.reduceToNat] at ho69; rw [← Ny203.out] at ho69)); have n0_ := Aside0.mk (Kd.R_below (by (with_reducible repeat (first | apply Kd.R_alloc | apply Kd.R_drewN | apply Kd.R_drew)); exact HO155.out) hb); have n1_ := Aside0.mk (Kd.N_elder' (by (with_reducible repeat (first | apply Kd.N_alloc | apply Kd.N_drewN | apply Kd.N_drew)); exact HO158.out) (Kd.N_base ho69) hb); have n2_ := Aside0.mk (Kd.N_elder' (by (with_reducible repeat (first | apply Kd.N_alloc | apply Kd.N_drewN | apply Kd.N_drew)); exact HO167.out) (Kd.N_base ho69) hb); have n3_ := Aside0.mk (Kd.R_below (by (with_reducible repeat (first | apply Kd.R_alloc | apply Kd.R_drewN | apply Kd.R_drew)); exact HO171.out) hb); have n4_ := Aside0.mk (Kd.R_below (by (with_reducible repeat (first | apply Kd.R_alloc | apply Kd.R_drewN | apply Kd.R_drew)); exact HO174.out) hb); have n5_ := Aside0.mk (Kd.N_elder' (by (with_reducible repeat (first | apply Kd.N_alloc | apply Kd.N_drewN | apply Kd.N_drew)); exact HO179.out) (Kd.N_base ho69) hb); have n6_ := Aside0.mk (Kd.N_elder' (by (with_reducible repeat (first | apply Kd.N_alloc | apply Kd.N_drewN | apply Kd.N_drew)); exact HO183.out) (Kd.N_base ho69) hb); have n7_ := Aside0.mk (Kd.N_elder' (by (with_reducible repeat (first | apply Kd.N_alloc | apply Kd.N_drewN | apply Kd.N_drew)); exact HO192.out) (Kd.N_base ho69) hb); have n8_ := Aside0.mk (Kd.N_elder' (by (with_reducible repeat (first | apply Kd.N_alloc | apply Kd.N_drewN | apply Kd.N_drew)); exact HO196.out) (Kd.N_base ho69) hb); have n9_ := Aside0.mk (Kd.N_lower ho69 (below_size (by repeat (first | (with_reducible first | exact HB.out | apply below_alloc | apply pw_below_drewN | apply below_drew1 | refine below_set ?_ GE168.out) | exact HB.out)))); have n10_ := Aside0.mk (blk_below (g := gb168) (o := .cells #[.slice Ao35 y153.length co35, .slice Ao34 y156.length co34, .int .i64 0, .int .i64 0, .slice Ao33 y165.length co33] 26 (0, 0)) (by (with_reducible repeat (first | refine blk_drewN ?_ _ | refine blk_drew ?_ | refine blk_alloc ?_ _)); exact BK168.out) hb); have n11_ := Aside0.mk (below_step (by repeat (first | (with_reducible first | exact HB.out | apply below_alloc | apply pw_below_drewN | apply below_drew1 | refine below_set ?_ GE168.out) | exact HB.out)) hb); clear HO155; clear HO158; clear HO167; clear HO171; clear HO174; clear HO179; clear HO183; clear HO192; clear HO196; clear BK168; clear HB; clear HO199; clear HO202; have HO155 := n0_; have HO158 := n1_; have HO167 := n2_; have HO171 := n3_; have HO174 := n4_; have HO179 := n5_; have HO183 := n6_; have HO192 := n7_; have HO196 := n8_; have HO205 := n9_; have BK168 := n10_; have HB := n11_; clear n0_ n1_ n2_ n3_ n4_ n5_ n6_ n7_ n8_ n9_ n10_ n11_; clear hb ho69; obtain ⟨Ao70, co70, eo70⟩ := Kd.N_slice HO196.out; subst eo70; obtain ⟨Ao71, co71, eo71⟩ := Kd.N_slice HO205.out; subst eo71) | (go_at_call 24; (with_reducible refine (regletref13_SameLists.calls k _ _ t194 _ _ y203 true _ ?side1 ?side2 ?side3 ?side4 A11.out).mono ?_); (case side1 => repeat (first | exact (Kd.N_reads' HO196.out).2.2 | (with_reducible refine Kd.C_alloc ?_ _) | (with_reducible refine Kd.C_drewN ?_ _) | (with_reducible refine Kd.C_drew ?_))); (case side2 => exact (Kd.N_reads' HO196.out).2.1); (case side3 => repeat (first | exact (Kd.N_reads' HO205.out).2.2 | (with_reducible refine Kd.C_alloc ?_ _) | (with_reducible refine Kd.C_drewN ?_ _) | (with_reducible refine Kd.C_drew ?_))); (case side4 => exact (Kd.N_reads' HO205.out).2.1); rintro e w' ⟨rfl, ⟨nd, rfl⟩⟩; have hcz72_0 : w68.cell? ⟨gb168, 0, none⟩ = some (.slice Ao35 y153.length co35) := (blk_cell BK168.out 0).trans rfl; have hcz72_1 : w68.cell? ⟨gb168, 1, none⟩ = some (.slice Ao34 y156.length co34) := (blk_cell BK168.out 1).trans rfl; have hcz72_2 : w68.cell? ⟨gb168, 2, none⟩ = some (.int .i64 0) := (blk_cell BK168.out 2).trans rfl; have hcz72_3 : w68.cell? ⟨gb168, 3, none⟩ = some (.int .i64 0) := (blk_cell BK168.out 3).trans rfl; have hcz72_4 : w68.cell? ⟨gb168, 4, none⟩ = some (.slice Ao33 y165.length co33) := (blk_cell BK168.out 4).trans rfl; have hfz72_0 := blk_frozen BK168.out 0; have hfz72_1 := blk_frozen BK168.out 1; have hfz72_2 := blk_frozen BK168.out 2; have hfz72_3 := blk_frozen BK168.out 3; have hfz72_4 := blk_frozen BK168.out 4) | (go_at_call 15; (with_reducible refine (firsts_Empty.calls k _ _ y153 _ _ y156 0 0 _ _ y165 t207 _ ?side1 ?side2 ?side3 ?side4 ?side5 ?side6 A13.out).mono ?_); (case side1 => repeat (first | exact (Kd.R_reads' HO155.out).2.2 | (with_reducible refine Kd.C_alloc ?_ _) | (with_reducible refine Kd.C_drewN ?_ _) | (with_reducible refine Kd.C_drew ?_))); (case side2 => exact (Kd.R_reads' HO155.out).2.1); (case side3 => repeat (first | exact (Kd.N_reads' HO158.out).2.2 | (with_reducible refine Kd.C_alloc ?_ _) | (with_reducible refine Kd.C_drewN ?_ _) | (with_reducible refine Kd.C_drew ?_))); (case side4 => exact (Kd.N_reads' HO158.out).2.1); (case side5 => repeat (first | exact (Kd.N_reads' HO167.out).2.2 | (with_reducible refine Kd.C_alloc ?_ _) | (with_reducible refine Kd.C_drewN ?_ _) | (with_reducible refine Kd.C_drew ?_))); (case side6 => exact (Kd.N_reads' HO167.out).2.1); rintro e w73 ⟨v208, rfl, ho0, hb⟩; have n0_ := Aside0.mk (Kd.R_below (by (with_reducible repeat (first | apply Kd.R_alloc | apply Kd.R_drewN | apply Kd.R_drew)); exact HO155.out) hb); have n1_ := Aside0.mk (Kd.N_elder' (by (with_reducible repeat (first | apply Kd.N_alloc | apply Kd.N_drewN | apply Kd.N_drew)); exact HO158.out) (Kd.R_base ho0) hb); have n2_ := Aside0.mk (Kd.N_elder' (by (with_reducible repeat (first | apply Kd.N_alloc | apply Kd.N_drewN | apply Kd.N_drew)); exact HO167.out) (Kd.R_base ho0) hb); have n3_ := Aside0.mk (Kd.R_below (by (with_reducible repeat (first | apply Kd.R_alloc | apply Kd.R_drewN | apply Kd.R_drew)); exact HO171.out) hb); have n4_ := Aside0.mk (Kd.R_below (by (with_reducible repeat (first | apply Kd.R_alloc | apply Kd.R_drewN | apply Kd.R_drew)); exact HO174.out) hb); have n5_ := Aside0.mk (Kd.N_elder' (by (with_reducible repeat (first | apply Kd.N_alloc | apply Kd.N_drewN | apply Kd.N_drew)); exact HO179.out) (Kd.R_base ho0) hb); have n6_ := Aside0.mk (Kd.N_elder' (by (with_reducible repeat (first | apply Kd.N_alloc | apply Kd.N_drewN | apply Kd.N_drew)); exact HO183.out) (Kd.R_base ho0) hb); have n7_ := Aside0.mk (Kd.N_elder' (by (with_reducible repeat (first | apply Kd.N_alloc | apply Kd.N_drewN | apply Kd.N_drew)); exact HO192.out) (Kd.R_base ho0) hb); have n8_ := Aside0.mk (Kd.N_elder' (by (with_reducible repeat (first | apply Kd.N_alloc | apply Kd.N_drewN | apply Kd.N_drew)); exact HO196.out) (Kd.R_base ho0) hb); have n9_ := Aside0.mk (Kd.N_elder' (by (with_reducible repeat (first | apply Kd.N_alloc | apply Kd.N_drewN | apply Kd.N_drew)); exact HO205.out) (Kd.R_base ho0) hb); have n10_ := Aside0.mk (Kd.R_lower ho0 (below_size (by repeat (first | (with_reducible first | exact HB.out | apply below_alloc | apply pw_below_drewN | apply below_drew1 | refine below_set ?_ GE168.out) | exact HB.out)))); have n11_ := Aside0.mk (blk_below (g := gb168) (o := .cells #[.slice Ao35 y153.length co35, .slice Ao34 y156.length co34, .int .i64 0, .int .i64 0, .slice Ao33 y165.length co33] 26 (0, 0)) (by (with_reducible repeat (first | refine blk_drewN ?_ _ | refine blk_drew ?_ | refine blk_alloc ?_ _)); exact BK168.out) hb); have n12_ := Aside0.mk (below_step (by repeat (first | (with_reducible first | exact HB.out | apply below_alloc | apply pw_below_drewN | apply below_drew1 | refine below_set ?_ GE168.out) | exact HB.out)) hb); clear HO155; clear HO158; clear HO167; clear HO171; clear HO174; clear HO179; clear HO183; clear HO192; clear HO196; clear HO205; clear BK168; clear HB; have HO155 := n0_; have HO158 := n1_; have HO167 := n2_; have HO171 := n3_; have HO174 := n4_; have HO179 := n5_; have HO183 := n6_; have HO192 := n7_; have HO196 := n8_; have HO205 := n9_; have HO209 := n10_; have BK168 := n11_; have HB := n12_; clear n0_ n1_ n2_ n3_ n4_ n5_ n6_ n7_ n8_ n9_ n10_ n11_ n12_; (try clear hb); (try clear hb2); (try clear hk); (try clear hi); (try clear ho0)) | ((with_reducible refine gate_dst (N := 51) rfl ?_); (try (refine gate_guard (by rfl) ?_; dsimp only)); refine Kd.R_lit Kd.bool _ 4 ?hg (N := 51) ?hd (xs := ([false, true] : List Bool)) (inner := [.bool false, .bool true]) (ok := fun _ => True) (okp := fun _ => True) ?hr ?hp (fun _ hk => hk) trivial (Below.refl _ _) (Nat.le_refl _) (by simp) ?_; (case hd => rfl); (case hg => rfl); (case hr => first | (go_simp; done) | (go_simp; rfl)); (case hp => exact (Reps.one (show Kd.M Kd.bool _ _ _ false [.bool false] from rfl) (Reps.one (show Kd.M Kd.bool _ _ _ true [.bool true] from rfl) (Reps.none _ _)))); intro v211 w74 ho75 hb hg_ hnew_; clear hg_ hnew_; (first | rw [← Ny210.out] at ho75 | (simp only [Int.reduceToNat] at ho75; rw [← Ny210.out] at ho75)); have n0_ := Aside0.mk (Kd.R_below (by (with_reducible repeat (first | apply Kd.R_alloc | apply Kd.R_drewN | apply Kd.R_drew)); exact HO155.out) hb); have n1_ := Aside0.mk (Kd.N_elder' (by (with_reducible repeat (first | apply Kd.N_alloc | apply Kd.N_drewN | apply Kd.N_drew)); exact HO158.out) (Kd.R_base ho75) hb); have n2_ := Aside0.mk (Kd.N_elder' (by (with_reducible repeat (first | apply Kd.N_alloc | apply Kd.N_drewN | apply Kd.N_drew)); exact HO167.out) (Kd.R_base ho75) hb); have n3_ := Aside0.mk (Kd.R_below (by (with_reducible repeat (first | apply Kd.R_alloc | apply Kd.R_drewN | apply Kd.R_drew)); exact HO171.out) hb); have n4_ := Aside0.mk (Kd.R_below (by (with_reducible repeat (first | apply Kd.R_alloc | apply Kd.R_drewN | apply Kd.R_drew)); exact HO174.out) hb); have n5_ := Aside0.mk (Kd.N_elder' (by (with_reducible repeat (first | apply Kd.N_alloc | apply Kd.N_drewN | apply Kd.N_drew)); exact HO179.out) (Kd.R_base ho75) hb); have n6_ := Aside0.mk (Kd.N_elder' (by (with_reducible repeat (first | apply Kd.N_alloc | apply Kd.N_drewN | apply Kd.N_drew)); exact HO183.out) (Kd.R_base ho75) hb); have n7_ := Aside0.mk (Kd.N_elder' (by (with_reducible repeat (first | apply Kd.N_alloc | apply Kd.N_drewN | apply Kd.N_drew)); exact HO192.out) (Kd.R_base ho75) hb); have n8_ := Aside0.mk (Kd.N_elder' (by (with_reducible repeat (first | apply Kd.N_alloc | apply Kd.N_drewN | apply Kd.N_drew)); exact HO196.out) (Kd.R_base ho75) hb); have n9_ := Aside0.mk (Kd.N_elder' (by (with_reducible repeat (first | apply Kd.N_alloc | apply Kd.N_drewN | apply Kd.N_drew)); exact HO205.out) (Kd.R_base ho75) hb); have n10_ := Aside0.mk (Kd.R_elder' (by (with_reducible repeat (first | apply Kd.R_alloc | apply Kd.R_drewN | apply Kd.R_drew)); exact HO209.out) (Kd.R_base ho75) hb); have n11_ := Aside0.mk (Kd.R_lower (Kd.R_new' ho75 (Kd.R_lt (by (with_reducible repeat (first | apply Kd.R_alloc | apply Kd.R_drewN | apply Kd.R_drew)); exact HO209.out))) (below_size (by repeat (first | (with_reducible first | exact HB.out | apply below_alloc | apply pw_below_drewN | apply below_drew1 | refine below_set ?_ GE168.out) | exact HB.out)))); have n12_ := Aside0.mk (blk_below (g := gb168) (o := .cells #[.slice Ao35 y153.length co35, .slice Ao34 y156.length co34, .int .i64 0, .int .i64 0, .slice Ao33 y165.length co33] 26 (0, 0)) (by (with_reducible repeat (first | refine blk_drewN ?_ _ | refine blk_drew ?_ | refine blk_alloc ?_ _)); exact BK168.out) hb); have n13_ := Aside0.mk (below_step (by repeat (first | (with_reducible first | exact HB.out | apply below_alloc | apply pw_below_drewN | apply below_drew1 | refine below_set ?_ GE168.out) | exact HB.out)) hb); clear HO155; clear HO158; clear HO167; clear HO171; clear HO174; clear HO179; clear HO183; clear HO192; clear HO196; clear HO205; clear HO209; clear BK168; clear HB; have HO155 := n0_; have HO158 := n1_; have HO167 := n2_; have HO171 := n3_; have HO174 := n4_; have HO179 := n5_; have HO183 := n6_; have HO192 := n7_; have HO196 := n8_; have HO205 := n9_; have HO209 := n10_; have HO212 := n11_; have BK168 := n12_; have HB := n13_; clear n0_ n1_ n2_ n3_ n4_ n5_ n6_ n7_ n8_ n9_ n10_ n11_ n12_ n13_; clear hb ho75; obtain ⟨Ao76, co76, eo76⟩ := Kd.R_slice HO209.out; subst eo76; obtain ⟨Ao77, co77, eo77⟩ := Kd.R_slice HO212.out; subst eo77) | (go_at_call 25; (with_reducible refine (regletref13_SameBools.calls k _ _ t207 _ _ y210 true _ ?side1 ?side2 ?side3 ?side4 A14.out).mono ?_); (case side1 => repeat (first | exact (Kd.R_reads' HO209.out).2.2 | (with_reducible refine Kd.C_alloc ?_ _) | (with_reducible refine Kd.C_drewN ?_ _) | (with_reducible refine Kd.C_drew ?_))); (case side2 => exact (Kd.R_reads' HO209.out).2.1); (case side3 => repeat (first | exact (Kd.R_reads' HO212.out).2.2 | (with_reducible refine Kd.C_alloc ?_ _) | (with_reducible refine Kd.C_drewN ?_ _) | (with_reducible refine Kd.C_drew ?_))); (case side4 => exact (Kd.R_reads' HO212.out).2.1); rintro e w' ⟨rfl, ⟨nd, rfl⟩⟩; have hcz78_0 : w74.cell? ⟨gb168, 0, none⟩ = some (.slice Ao35 y153.length co35) := (blk_cell BK168.out 0).trans rfl; have hcz78_1 : w74.cell? ⟨gb168, 1, none⟩ = some (.slice Ao34 y156.length co34) := (blk_cell BK168.out 1).trans rfl; have hcz78_2 : w74.cell? ⟨gb168, 2, none⟩ = some (.int .i64 0) := (blk_cell BK168.out 2).trans rfl; have hcz78_3 : w74.cell? ⟨gb168, 3, none⟩ = some (.int .i64 0) := (blk_cell BK168.out 3).trans rfl; have hcz78_4 : w74.cell? ⟨gb168, 4, none⟩ = some (.slice Ao33 y165.length co33) := (blk_cell BK168.out 4).trans rfl; have hfz78_0 := blk_frozen BK168.out 0; have hfz78_1 := blk_frozen BK168.out 1; have hfz78_2 := blk_frozen BK168.out 2; have hfz78_3 := blk_frozen BK168.out 3; have hfz78_4 := blk_frozen BK168.out 4) | (go_at_call 16; (with_reducible refine (firsts_Useful.calls k _ _ y153 _ _ y156 0 0 _ _ y165 t214 _ ?side1 ?side2 ?side3 ?side4 ?side5 ?side6 A16.out).mono ?_); (case side1 => repeat (first | exact (Kd.R_reads' HO155.out).2.2 | (with_reducible refine Kd.C_alloc ?_ _) | (with_reducible refine Kd.C_drewN ?_ _) | (with_reducible refine Kd.C_drew ?_))); (case side2 => exact (Kd.R_reads' HO155.out).2.1); (case side3 => repeat (first | exact (Kd.N_reads' HO158.out).2.2 | (with_reducible refine Kd.C_alloc ?_ _) | (with_reducible refine Kd.C_drewN ?_ _) | (with_reducible refine Kd.C_drew ?_))); (case side4 => exact (Kd.N_reads' HO158.out).2.1); (case side5 => repeat (first | exact (Kd.N_reads' HO167.out).2.2 | (with_reducible refine Kd.C_alloc ?_ _) | (with_reducible refine Kd.C_drewN ?_ _) | (with_reducible refine Kd.C_drew ?_))); (case side6 => exact (Kd.N_reads' HO167.out).2.1); rintro e w79 ⟨v215, rfl, ho0, hb⟩; have n0_ := Aside0.mk (Kd.R_below (by (with_reducible repeat (first | apply Kd.R_alloc | apply Kd.R_drewN | apply Kd.R_drew)); exact HO155.out) hb); have n1_ := Aside0.mk (Kd.N_elder' (by (with_reducible repeat (first | apply Kd.N_alloc | apply Kd.N_drewN | apply Kd.N_drew)); exact HO158.out) (Kd.R_base ho0) hb); have n2_ := Aside0.mk (Kd.N_elder' (by (with_reducible repeat (first | apply Kd.N_alloc | apply Kd.N_drewN | apply Kd.N_drew)); exact HO167.out) (Kd.R_base ho0) hb); have n3_ := Aside0.mk (Kd.R_below (by (with_reducible repeat (first | apply Kd.R_alloc | apply Kd.R_drewN | apply Kd.R_drew)); exact HO171.out) hb); have n4_ := Aside0.mk (Kd.R_below (by (with_reducible repeat (first | apply Kd.R_alloc | apply Kd.R_drewN | apply Kd.R_drew)); exact HO174.out) hb); have n5_ := Aside0.mk (Kd.N_elder' (by (with_reducible repeat (first | apply Kd.N_alloc | apply Kd.N_drewN | apply Kd.N_drew)); exact HO179.out) (Kd.R_base ho0) hb); have n6_ := Aside0.mk (Kd.N_elder' (by (with_reducible repeat (first | apply Kd.N_alloc | apply Kd.N_drewN | apply Kd.N_drew)); exact HO183.out) (Kd.R_base ho0) hb); have n7_ := Aside0.mk (Kd.N_elder' (by (with_reducible repeat (first | apply Kd.N_alloc | apply Kd.N_drewN | apply Kd.N_drew)); exact HO192.out) (Kd.R_base ho0) hb); have n8_ := Aside0.mk (Kd.N_elder' (by (with_reducible repeat (first | apply Kd.N_alloc | apply Kd.N_drewN | apply Kd.N_drew)); exact HO196.out) (Kd.R_base ho0) hb); have n9_ := Aside0.mk (Kd.N_elder' (by (with_reducible repeat (first | apply Kd.N_alloc | apply Kd.N_drewN | apply Kd.N_drew)); exact HO205.out) (Kd.R_base ho0) hb); have n10_ := Aside0.mk (Kd.R_elder' (by (with_reducible repeat (first | apply Kd.R_alloc | apply Kd.R_drewN | apply Kd.R_drew)); exact HO209.out) (Kd.R_base ho0) hb); have n11_ := Aside0.mk (Kd.R_elder' (by (with_reducible repeat (first | apply Kd.R_alloc | apply Kd.R_drewN | apply Kd.R_drew)); exact HO212.out) (Kd.R_base ho0) hb); have n12_ := Aside0.mk (Kd.R_lower (Kd.R_new' (Kd.R_new' ho0 (Kd.R_lt (by (with_reducible repeat (first | apply Kd.R_alloc | apply Kd.R_drewN | apply Kd.R_drew)); exact HO209.out))) (Kd.R_lt (by (with_reducible repeat (first | apply Kd.R_alloc | apply Kd.R_drewN | apply Kd.R_drew)); exact HO212.out))) (below_size (by repeat (first | (with_reducible first | exact HB.out | apply below_alloc | apply pw_below_drewN | apply below_drew1 | refine below_set ?_ GE168.out) | exact HB.out)))); have n13_ := Aside0.mk (blk_below (g := gb168) (o := .cells #[.slice Ao35 y153.length co35, .slice Ao34 y156.length co34, .int .i64 0, .int .i64 0, .slice Ao33 y165.length co33] 26 (0, 0)) (by (with_reducible repeat (first | refine blk_drewN ?_ _ | refine blk_drew ?_ | refine blk_alloc ?_ _)); exact BK168.out) hb); have n14_ := Aside0.mk (below_step (by repeat (first | (with_reducible first | exact HB.out | apply below_alloc | apply pw_below_drewN | apply below_drew1 | refine below_set ?_ GE168.out) | exact HB.out)) hb); clear HO155; clear HO158; clear HO167; clear HO171; clear HO174; clear HO179; clear HO183; clear HO192; clear HO196; clear HO205; clear HO209; clear HO212; clear BK168; clear HB; have HO155 := n0_; have HO158 := n1_; have HO167 := n2_; have HO171 := n3_; have HO174 := n4_; have HO179 := n5_; have HO183 := n6_; have HO192 := n7_; have HO196 := n8_; have HO205 := n9_; have HO209 := n10_; have HO212 := n11_; have HO216 := n12_; have BK168 := n13_; have HB := n14_; clear n0_ n1_ n2_ n3_ n4_ n5_ n6_ n7_ n8_ n9_ n10_ n11_ n12_ n13_ n14_; (try clear hb); (try clear hb2); (try clear hk); (try clear hi); (try clear ho0)) | ((with_reducible refine gate_dst (N := 57) rfl ?_); (try (refine gate_guard (by rfl) ?_; dsimp only)); refine Kd.R_lit Kd.bool _ 4 ?hg (N := 57) ?hd (xs := ([true, true] : List Bool)) (inner := [.bool true, .bool true]) (ok := fun _ => True) (okp := fun _ => True) ?hr ?hp (fun _ hk => hk) trivial (Below.refl _ _) (Nat.le_refl _) (by simp) ?_; (case hd => rfl); (case hg => rfl); (case hr => first | (go_simp; done) | (go_simp; rfl)); (case hp => exact (Reps.one (show Kd.M Kd.bool _ _ _ true [.bool true] from rfl) (Reps.one (show Kd.M Kd.bool _ _ _ true [.bool true] from rfl) (Reps.none _ _)))); intro v218 w80 ho81 hb hg_ hnew_; clear hg_ hnew_; (first | rw [← Ny217.out] at ho81 | (simp only [Int.reduceToNat] at ho81; rw [← Ny217.out] at ho81)); have n0_ := Aside0.mk (Kd.R_below (by (with_reducible repeat (first | apply Kd.R_alloc | apply Kd.R_drewN | apply Kd.R_drew)); exact HO155.out) hb); have n1_ := Aside0.mk (Kd.N_elder' (by (with_reducible repeat (first | apply Kd.N_alloc | apply Kd.N_drewN | apply Kd.N_drew)); exact HO158.out) (Kd.R_base ho81) hb); have n2_ := Aside0.mk (Kd.N_elder' (by (with_reducible repeat (first | apply Kd.N_alloc | apply Kd.N_drewN | apply Kd.N_drew)); exact HO167.out) (Kd.R_base ho81) hb); have n3_ := Aside0.mk (Kd.R_below (by (with_reducible repeat (first | apply Kd.R_alloc | apply Kd.R_drewN | apply Kd.R_drew)); exact HO171.out) hb); have n4_ := Aside0.mk (Kd.R_below (by (with_reducible repeat (first | apply Kd.R_alloc | apply Kd.R_drewN | apply Kd.R_drew)); exact HO174.out) hb); have n5_ := Aside0.mk (Kd.N_elder' (by (with_reducible repeat (first | apply Kd.N_alloc | apply Kd.N_drewN | apply Kd.N_drew)); exact HO179.out) (Kd.R_base ho81) hb); have n6_ := Aside0.mk (Kd.N_elder' (by (with_reducible repeat (first | apply Kd.N_alloc | apply Kd.N_drewN | apply Kd.N_drew)); exact HO183.out) (Kd.R_base ho81) hb); have n7_ := Aside0.mk (Kd.N_elder' (by (with_reducible repeat (first | apply Kd.N_alloc | apply Kd.N_drewN | apply Kd.N_drew)); exact HO192.out) (Kd.R_base ho81) hb); have n8_ := Aside0.mk (Kd.N_elder' (by (with_reducible repeat (first | apply Kd.N_alloc | apply Kd.N_drewN | apply Kd.N_drew)); exact HO196.out) (Kd.R_base ho81) hb); have n9_ := Aside0.mk (Kd.N_elder' (by (with_reducible repeat (first | apply Kd.N_alloc | apply Kd.N_drewN | apply Kd.N_drew)); exact HO205.out) (Kd.R_base ho81) hb); have n10_ := Aside0.mk (Kd.R_elder' (by (with_reducible repeat (first | apply Kd.R_alloc | apply Kd.R_drewN | apply Kd.R_drew)); exact HO209.out) (Kd.R_base ho81) hb); have n11_ := Aside0.mk (Kd.R_elder' (by (with_reducible repeat (first | apply Kd.R_alloc | apply Kd.R_drewN | apply Kd.R_drew)); exact HO212.out) (Kd.R_base ho81) hb); have n12_ := Aside0.mk (Kd.R_elder' (by (with_reducible repeat (first | apply Kd.R_alloc | apply Kd.R_drewN | apply Kd.R_drew)); exact HO216.out) (Kd.R_base ho81) hb); have n13_ := Aside0.mk (Kd.R_lower (Kd.R_new' (Kd.R_new' (Kd.R_new' ho81 (Kd.R_lt (by (with_reducible repeat (first | apply Kd.R_alloc | apply Kd.R_drewN | apply Kd.R_drew)); exact HO209.out))) (Kd.R_lt (by (with_reducible repeat (first | apply Kd.R_alloc | apply Kd.R_drewN | apply Kd.R_drew)); exact HO212.out))) (Kd.R_lt (by (with_reducible repeat (first | apply Kd.R_alloc | apply Kd.R_drewN | apply Kd.R_drew)); exact HO216.out))) (below_size (by repeat (first | (with_reducible first | exact HB.out | apply below_alloc | apply pw_below_drewN | apply below_drew1 | refine below_set ?_ GE168.out) | exact HB.out)))); have n14_ := Aside0.mk (blk_below (g := gb168) (o := .cells #[.slice Ao35 y153.length co35, .slice Ao34 y156.length co34, .int .i64 0, .int .i64 0, .slice Ao33 y165.length co33] 26 (0, 0)) (by (with_reducible repeat (first | refine blk_drewN ?_ _ | refine blk_drew ?_ | refine blk_alloc ?_ _)); exact BK168.out) hb); have n15_ := Aside0.mk (below_step (by repeat (first | (with_reducible first | exact HB.out | apply below_alloc | apply pw_below_drewN | apply below_drew1 | refine below_set ?_ GE168.out) | exact HB.out)) hb); clear HO155; clear HO158; clear HO167; clear HO171; clear HO174; clear HO179; clear HO183; clear HO192; clear HO196; clear HO205; clear HO209; clear HO212; clear HO216; clear BK168; clear HB; have HO155 := n0_; have HO158 := n1_; have HO167 := n2_; have HO171 := n3_; have HO174 := n4_; have HO179 := n5_; have HO183 := n6_; have HO192 := n7_; have HO196 := n8_; have HO205 := n9_; have HO209 := n10_; have HO212 := n11_; have HO216 := n12_; have HO219 := n13_; have BK168 := n14_; have HB := n15_; clear n0_ n1_ n2_ n3_ n4_ n5_ n6_ n7_ n8_ n9_ n10_ n11_ n12_ n13_ n14_ n15_; clear hb ho81; obtain ⟨Ao82, co82, eo82⟩ := Kd.R_slice HO216.out; subst eo82; obtain ⟨Ao83, co83, eo83⟩ := Kd.R_slice HO219.out; subst eo83) | (go_at_call 25; (with_reducible refine (regletref13_SameBools.calls k _ _ t214 _ _ y217 true _ ?side1 ?side2 ?side3 ?side4 A17.out).mono ?_); (case side1 => repeat (first | exact (Kd.R_reads' HO216.out).2.2 | (with_reducible refine Kd.C_alloc ?_ _) | (with_reducible refine Kd.C_drewN ?_ _) | (with_reducible refine Kd.C_drew ?_))); (case side2 => exact (Kd.R_reads' HO216.out).2.1); (case side3 => repeat (first | exact (Kd.R_reads' HO219.out).2.2 | (with_reducible refine Kd.C_alloc ?_ _) | (with_reducible refine Kd.C_drewN ?_ _) | (with_reducible refine Kd.C_drew ?_))); (case side4 => exact (Kd.R_reads' HO219.out).2.1); rintro e w' ⟨rfl, ⟨nd, rfl⟩⟩) | ((with_reducible refine gate_dst (N := 62) rfl ?_); (try (refine gate_guard (by rfl) ?_; dsimp only)); refine Kd.R_lit (Kd.int .i64) _ 3 ?hg (N := 62) ?hd (xs := ([1] : List Int)) (inner := [.int .i64 1]) (ok := fun _ => True) (okp := fun _ => True) ?hr ?hp (fun _ hk => hk) trivial (Below.refl _ _) (Nat.le_refl _) (by simp) ?_; (case hd => rfl); (case hg => rfl); (case hr => first | (go_simp; done) | (go_simp; rfl)); (case hp => exact (Reps.one (show Kd.M (Kd.int .i64) _ _ _ 1 [.int .i64 1] from rfl) (Reps.none _ _))); intro v222 w84 ho85 hb hg_ hnew_; clear hg_ hnew_; (first | rw [← Ny221.out] at ho85 | (simp only [Int.reduceToNat] at ho85; rw [← Ny221.out] at ho85)); have n0_ := Aside0.mk (Kd.R_below (by (with_reducible repeat (first | apply Kd.R_alloc | apply Kd.R_drewN | apply Kd.R_drew)); exact HO155.out) hb); have n1_ := Aside0.mk (Kd.N_elder' (by (with_reducible repeat (first | apply Kd.N_alloc | apply Kd.N_drewN | apply Kd.N_drew)); exact HO158.out) (Kd.R_base ho85) hb); have n2_ := Aside0.mk (Kd.N_elder' (by (with_reducible repeat (first | apply Kd.N_alloc | apply Kd.N_drewN | apply Kd.N_drew)); exact HO167.out) (Kd.R_base ho85) hb); have n3_ := Aside0.mk (Kd.R_below (by (with_reducible repeat (first | apply Kd.R_alloc | apply Kd.R_drewN | apply Kd.R_drew)); exact HO171.out) hb); have n4_ := Aside0.mk (Kd.R_elder' (by (with_reducible repeat (first | apply Kd.R_alloc | apply Kd.R_drewN | apply Kd.R_drew)); exact HO174.out) (Kd.R_base ho85) hb); have n5_ := Aside0.mk (Kd.N_elder' (by (with_reducible repeat (first | apply Kd.N_alloc | apply Kd.N_drewN | apply Kd.N_drew)); exact HO179.out) (Kd.R_base ho85) hb); have n6_ := Aside0.mk (Kd.N_elder' (by (with_reducible repeat (first | apply Kd.N_alloc | apply Kd.N_drewN | apply Kd.N_drew)); exact HO183.out) (Kd.R_base ho85) hb); have n7_ := Aside0.mk (Kd.N_elder' (by (with_reducible repeat (first | apply Kd.N_alloc | apply Kd.N_drewN | apply Kd.N_drew)); exact HO192.out) (Kd.R_base ho85) hb); have n8_ := Aside0.mk (Kd.N_elder' (by (with_reducible repeat (first | apply Kd.N_alloc | apply Kd.N_drewN | apply Kd.N_drew)); exact HO196.out) (Kd.R_base ho85) hb); have n9_ := Aside0.mk (Kd.N_elder' (by (with_reducible repeat (first | apply Kd.N_alloc | apply Kd.N_drewN | apply Kd.N_drew)); exact HO205.out) (Kd.R_base ho85) hb); have n10_ := Aside0.mk (Kd.R_below (by (with_reducible repeat (first | apply Kd.R_alloc | apply Kd.R_drewN | apply Kd.R_drew)); exact HO209.out) hb); have n11_ := Aside0.mk (Kd.R_below (by (with_reducible repeat (first | apply Kd.R_alloc | apply Kd.R_drewN | apply Kd.R_drew)); exact HO212.out) hb); have n12_ := Aside0.mk (Kd.R_below (by (with_reducible repeat (first | apply Kd.R_alloc | apply Kd.R_drewN | apply Kd.R_drew)); exact HO216.out) hb); have n13_ := Aside0.mk (Kd.R_below (by (with_reducible repeat (first | apply Kd.R_alloc | apply Kd.R_drewN | apply Kd.R_drew)); exact HO219.out) hb); have n14_ := Aside0.mk (Kd.R_lower (Kd.R_new' ho85 (Kd.R_lt (by (with_reducible repeat (first | apply Kd.R_alloc | apply Kd.R_drewN | apply Kd.R_drew)); exact HO174.out))) (below_size (by repeat (first | (with_reducible first | exact HB.out | apply below_alloc | apply pw_below_drewN | apply below_drew1 | refine below_set ?_ GE168.out) | exact HB.out)))); have n15_ := Aside0.mk (blk_below (g := gb168) (o := .cells #[.slice Ao35 y153.length co35, .slice Ao34 y156.length co34, .int .i64 0, .int .i64 0, .slice Ao33 y165.length co33] 26 (0, 0)) (by (with_reducible repeat (first | refine blk_drewN ?_ _ | refine blk_drew ?_ | refine blk_alloc ?_ _)); exact BK168.out) hb); have n16_ := Aside0.mk (below_step (by repeat (first | (with_reducible first | exact HB.out | apply below_alloc | apply pw_below_drewN | apply below_drew1 | refine below_set ?_ GE168.out) | exact HB.out)) hb); clear HO155; clear HO158; clear HO167; clear HO171; clear HO174; clear HO179; clear HO183; clear HO192; clear HO196; clear HO205; clear HO209; clear HO212; clear HO216; clear HO219; clear BK168; clear HB; have HO155 := n0_; have HO158 := n1_; have HO167 := n2_; have HO171 := n3_; have HO174 := n4_; have HO179 := n5_; have HO183 := n6_; have HO192 := n7_; have HO196 := n8_; have HO205 := n9_; have HO209 := n10_; have HO212 := n11_; have HO216 := n12_; have HO219 := n13_; have HO223 := n14_; have BK168 := n15_; have HB := n16_; clear n0_ n1_ n2_ n3_ n4_ n5_ n6_ n7_ n8_ n9_ n10_ n11_ n12_ n13_ n14_ n15_ n16_; clear hb ho85; obtain ⟨Ao86, co86, eo86⟩ := Kd.R_slice HO174.out; subst eo86; obtain ⟨Ao87, co87, eo87⟩ := Kd.R_slice HO223.out; subst eo87) | (go_at_call 22; (with_reducible refine (regletref13_SameInts.calls k _ _ t172 _ _ y221 true _ ?side1 ?side2 ?side3 ?side4 A19.out).mono ?_); (case side1 => repeat (first | exact (Kd.R_reads' HO174.out).2.2 | (with_reducible refine Kd.C_alloc ?_ _) | (with_reducible refine Kd.C_drewN ?_ _) | (with_reducible refine Kd.C_drew ?_))); (case side2 => exact (Kd.R_reads' HO174.out).2.1); (case side3 => repeat (first | exact (Kd.R_reads' HO223.out).2.2 | (with_reducible refine Kd.C_alloc ?_ _) | (with_reducible refine Kd.C_drewN ?_ _) | (with_reducible refine Kd.C_drew ?_))); (case side4 => exact (Kd.R_reads' HO223.out).2.1); rintro e w' ⟨rfl, ⟨nd, rfl⟩⟩))
                  go_ret
                  exact ⟨by first | rfl | (simp [errW_none, errW_some] <;> rfl) | (simp [*, errW_none, errW_some] <;> rfl), by repeat (first | (with_reducible first | exact HB.out | apply below_alloc | apply pw_below_drewN | apply below_drew1 | refine below_set ?_ GE168.out) | exact HB.out)⟩
                · replace c20 := Bool.eq_false_iff.mpr c20
                  subst c20
                  have H1 : (none) = some r := by rw [if_neg (show ¬ (false = true) by decide)] at H; exact H
                  clear H
                  have H := H1
                  clear H1
                  exact absurd H (by simp)
              · replace c18 := Bool.eq_false_iff.mpr c18
                subst c18
                have H1 : (none) = some r := by rw [if_neg (show ¬ (false = true) by decide)] at H; exact H
                clear H
                have H := H1
                clear H1
                exact absurd H (by simp)
            · replace c15 := Bool.eq_false_iff.mpr c15
              subst c15
              have H1 : (none) = some r := by rw [if_neg (show ¬ (false = true) by decide)] at H; exact H
              clear H
              have H := H1
              clear H1
              exact absurd H (by simp)
          · replace c12 := Bool.eq_false_iff.mpr c12
            subst c12
            have H1 : (none) = some r := by rw [if_neg (show ¬ (false = true) by decide)] at H; exact H
            clear H
            have H := H1
            clear H1
            exact absurd H (by simp)
        · replace c9 := Bool.eq_false_iff.mpr c9
          subst c9
          have H1 : (none) = some r := by rw [if_neg (show ¬ (false = true) by decide)] at H; exact H
          clear H
          have H := H1
          clear H1
          exact absurd H (by simp)
    · replace c4 := Bool.eq_false_iff.mpr c4
      subst c4
      have H1 : (none) = some r := by rw [if_neg (show ¬ (false = true) by decide)] at H; exact H
      clear H
      have H := H1
      clear H1
      exact absurd H (by simp)
  · rw [if_neg c1] at H
    exact absurd H (by simp)
end Go.Proofs.Ytojdjjbkpbapfaa.P
end

section
namespace Go.Proofs.Ytojdjjbkpbapfaa.M
open Go.RowKit Go.Proofs.YtojdjjbkpbapfaaW.PrintWords Go.Proofs.YtojdjjbkpbapfaaW.PrintLast Go.Proofs.YtojdjjbkpbapfaaW.PrintMore Go.Proofs.Ytojdjjbkpbapfaa.P Go.Proofs.Ytojdjjbkpbapfaa.H
set_option linter.unusedVariables false
set_option linter.unusedSimpArgs false
set_option maxRecDepth 100000 in
theorem awake_some : regletlaw13_awake.f 40 = some true := by kernel_rfl
theorem mRight_ok {l : List Int} (hu : ∀ x ∈ l, 0 ≤ x ∧ x ≤ 255) {n t : Nat} (hn : 0 < n) (ht : 0 < t) : ∀ (c at_ : Nat) (acc : List Sym), acc.all (okSym n t) = true → (mRight l n t c at_ acc).1.all (okSym n t) = true ∧ (mRight l n t c at_ acc).1.length = acc.length + c
  | 0, at_, acc, h => ⟨h, rfl⟩
  | c + 1, at_, acc, h => by
    unfold mRight
    obtain ⟨h1, h2⟩ := mRight_ok hu hn ht c (at_ + 2) (acc ++ [if mPick l at_ 2 = 0 then ⟨true, mPick l (at_ + 1) t⟩ else ⟨false, mPick l (at_ + 1) n⟩]) (by
      rw [List.all_append, h, Bool.true_and]
      have h3 := mPick_lt hu (at_ + 1) (n := (t : Int)) (by omega)
      have h4 := mPick_lt hu (at_ + 1) (n := (n : Int)) (by omega)
      split
      · simp only [List.all_cons, List.all_nil, Bool.and_true, okSym, if_true, Bool.and_eq_true, decide_eq_true_eq]
        exact h3
      · simp only [List.all_cons, List.all_nil, Bool.and_true, okSym, Bool.and_eq_true, decide_eq_true_eq]
        exact ⟨h4.1, by simpa using h4.2⟩)
    exact ⟨h1, by rw [h2]; simp; omega⟩
theorem mProds_ok {l : List Int} (hu : ∀ x ∈ l, 0 ≤ x ∧ x ≤ 255) {n t : Nat} (hn : 0 < n) (ht : 0 < t) : ∀ (i at_ : Nat) (acc : List Prod), acc.all (okProd n t) = true → (∀ p ∈ acc, p.f1.length ≤ 3) → (mProds l n t i at_ acc).all (okProd n t) = true ∧ (mProds l n t i at_ acc).length = acc.length + i ∧ ∀ p ∈ mProds l n t i at_ acc, p.f1.length ≤ 3
  | 0, at_, acc, h, h3 => ⟨h, rfl, h3⟩
  | i + 1, at_, acc, h, h3 => by
    unfold mProds
    obtain ⟨h1, h2⟩ := mRight_ok hu hn ht (mPick l (at_ + 1) 4).toNat (at_ + 2) [] rfl
    have h4 := mPick_lt hu at_ (n := (n : Int)) (by omega)
    have h5 := mPick_lt hu (at_ + 1) (n := 4) (by omega)
    obtain ⟨h6, h7, h8⟩ := mProds_ok hu hn ht i (mRight l n t (mPick l (at_ + 1) 4).toNat (at_ + 2) []).2 (acc ++ [⟨mPick l at_ n, (mRight l n t (mPick l (at_ + 1) 4).toNat (at_ + 2) []).1⟩]) (by
      rw [List.all_append, h, Bool.true_and]
      simp only [List.all_cons, List.all_nil, Bool.and_true, okProd, Bool.and_eq_true, decide_eq_true_eq]
      exact ⟨h4, h1⟩) (by
      intro p hp
      rcases List.mem_append.1 hp with hp | hp
      · exact h3 p hp
      · obtain rfl := List.mem_singleton.1 hp
        simp only
        rw [h2]; simp; omega)
    exact ⟨h6, by rw [h7]; simp; omega, h8⟩
structure MadeOk (ns : List ByteArray) (ts : List Tok) (ps : List Prod) : Prop where
  n1 : 0 < ns.length
  n5 : ns.length ≤ 5
  t1 : 0 < ts.length
  t4 : ts.length ≤ 4
  p1 : 0 < ps.length
  p10 : ps.length ≤ 10
  ok : ps.all (okProd ns.length ts.length) = true
  r3 : ∀ p ∈ ps, p.f1.length ≤ 3
theorem MadeOk.small {ns : List ByteArray} {ts : List Tok} {ps : List Prod} (h : MadeOk ns ts ps) : Small ps := ⟨by have := h.p10; omega, fun p hp => by have := h.r3 p hp; omega⟩
theorem made_ev {l : List Int} (hw : ∀ x ∈ l, (Lit.int .u8 x).wf = true) : ∃ ns ts ps, MadeOk ns ts ps ∧ Ev (fun k => regletlaw13_Made.f k l) (ns, ts, 0, 0, ps) := by
  have hu : ∀ x ∈ l, 0 ≤ x ∧ x ≤ 255 := fun x hx => wf_u8 (hw x hx)
  have h0 := mPick_lt hu 0 (n := 5) (by decide)
  have h1 := mPick_lt hu 1 (n := 4) (by decide)
  have h2 := mPick_lt hu 2 (n := 10) (by decide)
  obtain ⟨n, en⟩ : ∃ n : Nat, 1 + mPick l 0 5 = (n : Int) := ⟨(1 + mPick l 0 5).toNat, by omega⟩
  obtain ⟨t, et⟩ : ∃ n : Nat, 1 + mPick l 1 4 = (n : Int) := ⟨(1 + mPick l 1 4).toNat, by omega⟩
  obtain ⟨c, ec⟩ : ∃ n : Nat, 1 + mPick l 2 10 = (n : Int) := ⟨(1 + mPick l 2 10).toNat, by omega⟩
  obtain ⟨h3, h4, h5⟩ := mProds_ok hu (n := n) (t := t) (by omega) (by omega) c 3 [] rfl (fun p hp => by simp at hp)
  have ln : (mNames.take n).length = n := by rw [List.length_take]; show min n 5 = n; omega
  have lt : ((mTexts.map mTok).take t).length = t := by rw [List.length_take]; show min t 4 = t; omega
  refine ⟨mNames.take n, (mTexts.map mTok).take t, mProds l n t c 3 [], ⟨by omega, by omega, by omega, by omega, by simp at h4; omega, by simp at h4; omega, by rw [ln, lt]; exact h3, h5⟩, Ev.some' ?_⟩
  have h7 : l.all (fun x => decide (0 ≤ x ∧ x ≤ 255)) = true := List.all_eq_true.2 (fun x hx => decide_eq_true (hu x hx))
  show (if l.all (fun x => decide (0 ≤ x ∧ x ≤ 255)) = true then _ else none) = _
  rw [if_pos h7, en, et, ec]
  rfl
theorem made_ev0 {l : List Int} (hw : ∀ x ∈ l, (Lit.int .u8 x).wf = true) : ∃ ns ts ps, MadeOk ns ts ps ∧ ∀ k, regletlaw13_Made.f k l = some (ns, ts, 0, 0, ps) := by
  obtain ⟨ns, ts, ps, h, K, hK⟩ := made_ev hw
  exact ⟨ns, ts, ps, h, fun k => hK K (Nat.le_refl _)⟩
theorem rd_mem (ps : List Prod) (i : Int) (h0 : 0 ≤ i) (h1 : i < (ps.length : Int)) : rd_T34 ps i ∈ ps := by
  have h2 : i.toNat < ps.length := by omega
  show ps.getD i.toNat _ ∈ ps
  rw [List.getD_eq_getElem?_getD, List.getElem?_eq_getElem h2]
  exact List.getElem_mem h2
end Go.Proofs.Ytojdjjbkpbapfaa.M
end

section
namespace Go.Proofs.Ytojdjjbkpbapfaa.P
open Go.RowKit Go.Proofs.YtojdjjbkpbapfaaW.PrintWords Go.Proofs.YtojdjjbkpbapfaaW.PrintLast Go.Proofs.YtojdjjbkpbapfaaW.PrintMore
attribute [local go_sem] max2_int min2_int max_two min_two max_three min_three max_four min_four   -- for this text's walks alone
set_option linter.unusedVariables false
set_option linter.unusedSimpArgs false
def regletlaw13_has.l0 : Nat → List Int → Int → Int → Option (Bool)
  | 0, _, _, _ => none
  | k + 1, x0, x1, x5 => if x5 < (x0.length : Int) then (if 0 ≤ x5 then (if (rd x0 x5) = x1 then (some true) else (regletlaw13_has.l0 k x0 x1 (wrap64 (x5 + 1)))) else (none)) else (some false)
def regletlaw13_has.f (k : Nat) (l0 : List Int) (a1 : Int) : Option (Bool) := regletlaw13_has.l0 k l0 a1 0
theorem regletlaw13_has.mono_l : ∀ k, (∀ y0 y1 y2, LeO (regletlaw13_has.l0 k y0 y1 y2) (regletlaw13_has.l0 (k + 1) y0 y1 y2))
  | 0 => fun _ _ _ r h => by simp [regletlaw13_has.l0] at h
  | k + 1 => by
    have ih0 := regletlaw13_has.mono_l k
    · intro y0 y1 y2
      unfold regletlaw13_has.l0
      repeat' first
      | (with_reducible exact ih0 _ _ _)
      | (with_reducible exact LeO.refl _)
      | (with_reducible exact LeO.none _)
      | (with_reducible refine LeO.ite ?_ ?_)
      | (with_reducible refine LeO.bind ?_ (fun _ => ?_))
      | exact ih0 _ _ _
      | exact LeO.none _
      | refine LeO.ite ?_ ?_
      | refine LeO.bind ?_ (fun _ => ?_)
theorem regletlaw13_has.mono : ∀ a0 a1 k, LeO (regletlaw13_has.f k a0 a1) (regletlaw13_has.f (k + 1) a0 a1) := by
  intro a0 a1 k
  have ih0 := regletlaw13_has.mono_l k
  unfold regletlaw13_has.f
  repeat' first
      | (with_reducible exact ih0 _ _ _)
      | (with_reducible exact LeO.refl _)
      | (with_reducible exact LeO.none _)
      | (with_reducible refine LeO.ite ?_ ?_)
      | (with_reducible refine LeO.bind ?_ (fun _ => ?_))
      | exact ih0 _ _ _
      | exact LeO.none _
      | refine LeO.ite ?_ ?_
      | refine LeO.bind ?_ (fun _ => ?_)
set_option maxHeartbeats 8000000 in
set_option maxRecDepth 100000 in
theorem regletlaw13_has.calls (k : Nat) (A0 : Option Addr) (c0 : Nat) (l0 : List Int) (a1 : Int) (r : Bool) (w : World) (hr0 : Kd.C (Kd.int .i64) w A0 l0.length l0) (hc0 : l0.length ≤ c0) (h : regletlaw13_has.f k l0 a1 = some r) :
    Calls Try.prog 17 #[.slice A0 l0.length c0, .int .i64 a1] w fun e w' => e = .returned (.bool r) ∧ Drawn0 w w' := by
  have HR0 := Aside0.mk hr0
  have HC0 := Aside0.mk hc0
  clear hr0 hc0
  have H : (regletlaw13_has.l0 k l0 a1 0) = some r := h
  clear h
  have H' := Aside0.mk H
  clear H
  go_enter Try.func17, Try.ntmps17
  go_wp2
  go_loopg [5] k (fun kq v5 w' => ∃ (x5_1 : Int), v5 = .int .i64 x5_1 ∧ Aside0 (regletlaw13_has.l0 kq l0 a1 x5_1 = some r) ∧ Aside0 (kq ≤ k) ∧ Drawn0 w w')
  case atStart => exact ⟨(0), (by first | rfl | (simp; done) | (simp [*]; done)), H', ⟨Nat.le_refl _⟩, by repeat (first | exact Drawn0.refl _ | apply Drawn0.step)⟩
  case round =>
    clear H'
    try clear c1
    try clear p2
    obtain ⟨x5_1, rfl, HA, HK1, ⟨m1, rfl⟩⟩ := hrel
    cases gk with
    | zero => exact absurd HA.out (by simp [regletlaw13_has.l0])
    | succ k1 =>
      have H := HA.out
      clear HA
      simp only [regletlaw13_has.l0] at H
      by_cases c3 : x5_1 < (l0.length : Int)
      · rw [if_pos c3] at H
        have c3b0 : decide (x5_1 < (l0.length : Int)) = true := decide_eq_true c3
        clear c3
        by_cases c4 : 0 ≤ x5_1
        · rw [if_pos c4] at H
          have c4b0 : decide (0 ≤ x5_1) = true := decide_eq_true c4
          clear c4
          by_cases c5 : (rd l0 x5_1) = a1
          · rw [if_pos c5] at H
            have c5b0 : ((rd l0 x5_1) == a1) = true := beq_iff_eq.mpr c5
            have c5b1 : ((rd l0 x5_1) != a1) = false := bne_eq_false_iff_eq.mpr c5
            clear c5
            obtain rfl := Option.some.inj H
            have p398 : 0 ≤ (x5_1 : Int) := of_decide_eq_true (by first | (with_reducible assumption) | assumption)
            have q398 : x5_1 < (l0.length : Int) := of_decide_eq_true (by first | (with_reducible assumption) | assumption)
            obtain ⟨ad398, e398, hx398_0⟩ := Kd.at_int HR0.out x5_1 p398 q398
            cases e398
            replace p398 := eq_true p398
            replace q398 := eq_true q398
            go_wp2
            go_ret
            exact ⟨by first | rfl | (simp; done) | (simp [*]; done), by repeat (first | exact Drawn0.refl _ | apply Drawn0.step)⟩
          · rw [if_neg c5] at H
            have c5b0 : ((rd l0 x5_1) == a1) = false := beq_eq_false_iff_ne.mpr c5
            have c5b1 : ((rd l0 x5_1) != a1) = true := bne_iff_ne.mpr c5
            have H' := Aside0.mk H
            clear H
            have p398 : 0 ≤ (x5_1 : Int) := of_decide_eq_true (by first | (with_reducible assumption) | assumption)
            have q398 : x5_1 < (l0.length : Int) := of_decide_eq_true (by first | (with_reducible assumption) | assumption)
            obtain ⟨ad398, e398, hx398_0⟩ := Kd.at_int HR0.out x5_1 p398 q398
            cases e398
            replace p398 := eq_true p398
            replace q398 := eq_true q398
            go_wp2
            go_roundg k1
            case measure => have := HK1.out; omega
            case rel => exact ⟨(wrap64 (x5_1 + 1)), (by first | rfl | (simp; done) | (simp [*]; done)), H', ⟨by have := HK1.out; omega⟩, by repeat (first | exact Drawn0.refl _ | apply Drawn0.step)⟩
        · rw [if_neg c4] at H
          exact absurd H (by simp)
      · rw [if_neg c3] at H
        have c3b0 : decide (x5_1 < (l0.length : Int)) = false := decide_eq_false c3
        clear c3
        obtain rfl := Option.some.inj H
        go_wp2
        go_ret
        exact ⟨by first | rfl | (simp; done) | (simp [*]; done), by repeat (first | exact Drawn0.refl _ | apply Drawn0.step)⟩
end Go.Proofs.Ytojdjjbkpbapfaa.P
end

section
namespace Go.Proofs.Ytojdjjbkpbapfaa.M
open Go.RowKit Go.Proofs.YtojdjjbkpbapfaaW.PrintWords Go.Proofs.YtojdjjbkpbapfaaW.PrintLast Go.Proofs.YtojdjjbkpbapfaaW.PrintMore Go.Proofs.Ytojdjjbkpbapfaa.P Go.Proofs.Ytojdjjbkpbapfaa.H
set_option linter.unusedVariables false
set_option linter.unusedSimpArgs false
theorem has_l0_ev (n : Int) : ∀ (a pre : List Int), pre.length + a.length ≤ 1000000 → Ev (fun k => regletlaw13_has.l0 k (pre ++ a) n (pre.length : Int)) (decide (n ∈ a))
  | [], pre, _ => Ev.step (fun k => by rw [regletlaw13_has.l0]) (Ev.neg (by simp) (Ev.some (by simp)))
  | x :: a, pre, h3 => by
    simp only [List.length_cons] at h3
    have ih := has_l0_ev n a (pre ++ [x]) (by simp; omega)
    simp only [← wrap_next pre _ (show pre.length ≤ 1000000 by omega), List.append_assoc, List.singleton_append] at ih
    refine Ev.step (fun k => by rw [regletlaw13_has.l0]) (Ev.pos (by simp; omega) (Ev.pos (by omega) ?_))
    rw [show rd (pre ++ x :: a) (pre.length : Int) = x from getD_mid _ pre x a _ rfl]
    by_cases h : x = n
    · exact Ev.pos h (Ev.some (by simp [h]))
    · exact Ev.neg h (Ev.val ih (by simp [Ne.symm h]))
theorem has_ev (a : List Int) (n : Int) (h : a.length ≤ 1000000) : Ev (fun k => regletlaw13_has.f k a n) (decide (n ∈ a)) :=
  Ev.congr (fun k => by rw [regletlaw13_has.f]) (by simpa using has_l0_ev n a [] (by simpa using h))
theorem mem_idx (x : Int) : ∀ (a : List Bool) (n : Nat), x ∈ idx n a ↔ ∃ i : Nat, a.getD i false = true ∧ x = ((n + i : Nat) : Int)
  | [], n => by simp [idx]
  | y :: a, n => by
    have ih := mem_idx x a (n + 1)
    have hs : (∃ i : Nat, (y :: a).getD i false = true ∧ x = ((n + i : Nat) : Int)) ↔ ((y = true ∧ x = (n : Int)) ∨ ∃ i : Nat, a.getD i false = true ∧ x = ((n + 1 + i : Nat) : Int)) := by
      constructor
      · rintro ⟨i, h1, h2⟩
        cases i with
        | zero => exact .inl ⟨by simpa using h1, by simpa using h2⟩
        | succ i => exact .inr ⟨i, by simpa using h1, by rw [h2]; congr 1; omega⟩
      · rintro (⟨h1, h2⟩ | ⟨i, h1, h2⟩)
        · exact ⟨0, by simpa using h1, by simpa using h2⟩
        · exact ⟨i + 1, by simpa using h1, by rw [h2]; congr 1; omega⟩
    rw [hs, ← ih, show idx n (y :: a) = if y = true then (n : Int) :: idx (n + 1) a else idx (n + 1) a from rfl]
    cases y <;> simp
theorem orL_getD : ∀ (a b : List Bool) (i : Nat), a.length = b.length → (orL a b).getD i false = (a.getD i false || b.getD i false)
  | [], [], i, _ => by simp [orL]
  | x :: a, y :: b, 0, _ => by simp [orL]
  | x :: a, y :: b, i + 1, h => by
    have := orL_getD a b i (by simpa using h)
    simpa [orL] using this
theorem orL_none (nt : Nat) : ∀ (a : List Bool), a.length = nt + 1 → orL a (none0 nt) = a := by
  intro a h
  apply List.ext_getElem
  · rw [orL_length (by rw [h, none0_length])]
  · intro i h1 h2
    have := orL_getD a (none0 nt) i (by rw [h, none0_length])
    have h0 : (none0 nt).getD i false = false := by
      unfold none0
      rw [List.getD_eq_getElem?_getD, List.getElem?_replicate]
      split <;> rfl
    rw [h0, Bool.or_false, List.getD_eq_getElem?_getD, List.getD_eq_getElem?_getD, List.getElem?_eq_getElem h1, List.getElem?_eq_getElem h2] at this
    exact this
theorem bg_from (em : List Bool) {first : List (List Bool)} {nn nt : Nat} (hs : Sh nn nt first) : ∀ (l : List Sym) (out : List Bool), l.all (okSym nn nt) = true → out.length = nt + 1 → bg em first l out = (orL out (bg em first l (none0 nt)).1, (bg em first l (none0 nt)).2)
  | [], out, _, h => by simp only [bg]; rw [orL_none nt out h]
  | x :: l, out, hl, h => by
    simp only [List.all_cons, Bool.and_eq_true] at hl
    cases hx : x.f0 with
    | true =>
      have hb := okSym_tok hl.1 hx
      have e : ∀ out, bg em first (x :: l) out = (out.set x.f1.toNat true, false) := fun out => by rw [bg, if_pos hx]
      rw [e, e]
      congr 1
      apply List.ext_getElem
      · rw [orL_length (by rw [List.length_set, h, none0_length]), List.length_set]
      · intro i h1 h2
        have e := orL_getD out ((none0 nt).set x.f1.toNat true) i (by rw [List.length_set, h, none0_length])
        rw [List.getD_eq_getElem?_getD, List.getElem?_eq_getElem h2] at e
        simp only [Option.getD_some] at e
        rw [e]
        have h3 : i < out.length := by simpa using h1
        rw [List.getElem_set]
        rw [List.getD_eq_getElem?_getD, List.getElem?_eq_getElem h3, List.getD_eq_getElem?_getD, List.getElem?_set]
        simp only [Option.getD_some, none0_length]
        by_cases hi : x.f1.toNat = i
        · subst hi
          have : x.f1.toNat < nt + 1 := by omega
          simp [this]
        · rw [if_neg hi, if_neg hi]
          have h0 : ((none0 nt)[i]?.getD false) = false := by
            unfold none0
            rw [List.getElem?_replicate]
            split <;> rfl
          rw [h0, Bool.or_false]
    | false =>
      have hb := okSym_rule hl.1 hx
      have e : ∀ out, bg em first (x :: l) out = if em.getD x.f1.toNat false = true then bg em first l (orL out (first.getD x.f1.toNat [])) else (orL out (first.getD x.f1.toNat []), false) := fun out => by rw [bg, if_neg (by simp [hx])]
      rw [e, e]
      have hr := hs.get (i := x.f1.toNat) (by omega)
      have e1 : orL (none0 nt) (first.getD x.f1.toNat []) = first.getD x.f1.toNat [] := by
        have := orL_none nt (first.getD x.f1.toNat []) hr
        conv => rhs; rw [← this]
        unfold orL
        exact List.zipWith_comm_of_comm (fun a b => Bool.or_comm a b)
      rw [e1]
      cases hem : em.getD x.f1.toNat false with
      | false => rw [if_neg (by simp), if_neg (by simp)]
      | true =>
        rw [if_pos rfl, if_pos rfl]
        have hl2 := bg_length em hs l _ hl.2 (none0_length nt)
        rw [bg_from em hs l (orL out (first.getD x.f1.toNat [])) hl.2 (by rw [orL_length (by rw [h, hr]), h]), bg_from em hs l (first.getD x.f1.toNat []) hl.2 hr]
        simp only
        rw [(or_three out (first.getD x.f1.toNat []) (bg em first l (none0 nt)).1 (by rw [h, hr]) (by rw [hr, hl2])).1]
theorem bg_append (em : List Bool) (first : List (List Bool)) : ∀ (l1 l2 : List Sym) (out : List Bool), bg em first (l1 ++ l2) out = if (bg em first l1 out).2 = true then bg em first l2 (bg em first l1 out).1 else bg em first l1 out
  | [], l2, out => by simp [bg]
  | x :: l1, l2, out => by
    rw [List.cons_append]
    cases hx : x.f0 with
    | true =>
      have e : ∀ l, bg em first (x :: l) out = (out.set x.f1.toNat true, false) := fun l => by rw [bg, if_pos hx]
      rw [e, e]; simp
    | false =>
      have e : ∀ l, bg em first (x :: l) out = if em.getD x.f1.toNat false = true then bg em first l (orL out (first.getD x.f1.toNat [])) else (orL out (first.getD x.f1.toNat []), false) := fun l => by rw [bg, if_neg (by simp [hx])]
      rw [e, e]
      cases em.getD x.f1.toNat false with
      | true => rw [if_pos rfl, if_pos rfl]; exact bg_append em first l1 l2 _
      | false => simp
end Go.Proofs.Ytojdjjbkpbapfaa.M
end

section
namespace Go.Proofs.Ytojdjjbkpbapfaa.P
open Go.RowKit Go.Proofs.YtojdjjbkpbapfaaW.PrintWords Go.Proofs.YtojdjjbkpbapfaaW.PrintLast Go.Proofs.YtojdjjbkpbapfaaW.PrintMore
set_option linter.unusedVariables false
set_option linter.unusedSimpArgs false
def dAll (ps : List S34) (rule : Int) (i : Nat) : List Int := ((List.range i).filter (fun j : Nat => decide ((rd_T34 ps (j : Int)).f0 = rule))).map (fun j : Nat => (j : Int))
theorem dAll_yes {ps : List S34} {rule : Int} {i : Nat} (h : (rd_T34 ps (i : Int)).f0 = rule) : dAll ps rule (i + 1) = dAll ps rule i ++ [(i : Int)] := by
  unfold dAll; rw [List.range_succ, List.filter_append]; simp [h]
theorem dAll_no {ps : List S34} {rule : Int} {i : Nat} (h : ¬ (rd_T34 ps (i : Int)).f0 = rule) : dAll ps rule (i + 1) = dAll ps rule i := by
  unfold dAll; rw [List.range_succ, List.filter_append]; simp [h]
theorem dAll_length (ps : List S34) (rule : Int) (i : Nat) : (dAll ps rule i).length ≤ i := by
  unfold dAll; rw [List.length_map]; exact Nat.le_trans (List.length_filter_le _ _) (by simp)
theorem dAll_mem {ps : List S34} {rule : Int} {i : Nat} {x : Int} (h : x ∈ dAll ps rule i) : 0 ≤ x ∧ x < (i : Int) ∧ (rd_T34 ps x).f0 = rule := by
  unfold dAll at h
  obtain ⟨j, hj, rfl⟩ := List.mem_map.1 h
  obtain ⟨h1, h2⟩ := List.mem_filter.1 hj
  exact ⟨by omega, by have := List.mem_range.1 h1; omega, of_decide_eq_true h2⟩
def dK (L : List Int) (at_ n : Nat) : Int := if at_ < L.length then if at_ < 60 then Int.tmod (L.getD at_ 0) (n : Int) else (n : Int) - 1 else (n : Int) - 1
theorem dK_lt {L : List Int} (hu : ∀ x ∈ L, 0 ≤ x ∧ x ≤ 255) (at_ : Nat) {n : Nat} (hn : 0 < n) : 0 ≤ dK L at_ n ∧ dK L at_ n < (n : Int) := by
  unfold dK
  split
  · split
    · rename_i h _
      have hx := hu (L.getD at_ 0) (by rw [List.getD_eq_getElem?_getD, List.getElem?_eq_getElem h]; exact List.getElem_mem _)
      exact ⟨Int.tmod_nonneg _ hx.1, Int.tmod_lt_of_pos _ (by omega)⟩
    · omega
  · omega
def drvL (next : Int → Nat → (List Int × Bool) × Nat) : List S49 → List Int → Nat → (List Int × Bool) × Nat
  | [], out, at_ => ((out, true), at_)
  | x :: xs, out, at_ => if x.f0 = true then drvL next xs (out ++ [x.f1]) at_ else
    if (next x.f1 at_).1.2 = true then if out.length + (next x.f1 at_).1.1.length > 60 then (([], false), (next x.f1 at_).2) else drvL next xs (out ++ (next x.f1 at_).1.1) (next x.f1 at_).2 else (([], false), (next x.f1 at_).2)
def drv (ps : List S34) (L : List Int) : Nat → Int → Nat → Nat → (List Int × Bool) × Nat
  | 0, _, _, at_ => (([], false), at_)
  | f + 1, rule, deep, at_ => if (dAll ps rule ps.length).length = 0 ∨ 10 < deep then (([], false), at_) else
    drvL (fun r a => drv ps L f r (deep + 1) a) (rd_T34 ps ((dAll ps rule ps.length).getD (dK L at_ (dAll ps rule ps.length).length).toNat 0)).f1 [] (at_ + 1)
theorem drvL_at {next : Int → Nat → (List Int × Bool) × Nat} {B : Nat} (h : ∀ r a, (next r a).2 ≤ a + B) : ∀ (l : List S49) (out : List Int) (at_ : Nat), (drvL next l out at_).2 ≤ at_ + l.length * B
  | [], out, at_ => by simp [drvL]
  | x :: xs, out, at_ => by
    unfold drvL
    have e : (x :: xs).length * B = B + xs.length * B := by rw [List.length_cons, Nat.succ_mul]; omega
    rw [e]
    have h1 := h x.f1 at_
    split
    · have := drvL_at h xs (out ++ [x.f1]) at_; omega
    · split
      · split
        · simp only; omega
        · have := drvL_at h xs (out ++ (next x.f1 at_).1.1) (next x.f1 at_).2; omega
      · simp only; omega
theorem drv_at {ps : List S34} {L : List Int} (hr : ∀ p ∈ ps, p.f1.length ≤ 10) : ∀ (f : Nat) (rule : Int) (deep at_ : Nat), (drv ps L f rule deep at_).2 ≤ at_ + 11 ^ f
  | 0, rule, deep, at_ => by simp [drv]
  | f + 1, rule, deep, at_ => by
    unfold drv
    split
    · exact Nat.le_add_right _ _
    · have h1 := drvL_at (next := fun r a => drv ps L f r (deep + 1) a) (B := 11 ^ f) (fun r a => drv_at hr f r (deep + 1) a) (rd_T34 ps ((dAll ps rule ps.length).getD (dK L at_ (dAll ps rule ps.length).length).toNat 0)).f1 [] (at_ + 1)
      have h2 : (rd_T34 ps ((dAll ps rule ps.length).getD (dK L at_ (dAll ps rule ps.length).length).toNat 0)).f1.length ≤ 10 := by
        generalize (dAll ps rule ps.length).getD (dK L at_ (dAll ps rule ps.length).length).toNat 0 = i
        unfold rd_T34
        rw [List.getD_eq_getElem?_getD]
        cases hg : ps[i.toNat]? with
        | none => exact Nat.zero_le _
        | some p => exact hr p (List.mem_of_getElem? hg)
      have h3 : 1 ≤ 11 ^ f := Nat.one_le_pow _ _ (by decide)
      have h4 : (rd_T34 ps ((dAll ps rule ps.length).getD (dK L at_ (dAll ps rule ps.length).length).toNat 0)).f1.length * 11 ^ f ≤ 10 * 11 ^ f := Nat.mul_le_mul_right _ h2
      rw [Nat.pow_succ]
      omega
theorem drvL_len {next : Int → Nat → (List Int × Bool) × Nat} : ∀ (l : List S49) (out : List Int) (at_ i : Nat), out.length ≤ 60 + i → (drvL next l out at_).1.1.length ≤ 60 + i + l.length
  | [], out, at_, i, h => by simpa [drvL] using h
  | x :: xs, out, at_, i, h => by
    unfold drvL
    simp only [List.length_cons]
    split
    · have := drvL_len (next := next) xs (out ++ [x.f1]) at_ (i + 1) (by simp; omega); omega
    · split
      · split
        · simp
        · rename_i hs
          have := drvL_len (next := next) xs (out ++ (next x.f1 at_).1.1) (next x.f1 at_).2 i (by simp; omega); omega
      · simp
theorem drv_len {ps : List S34} {L : List Int} (hr : ∀ p ∈ ps, p.f1.length ≤ 10) (f : Nat) (rule : Int) (deep at_ : Nat) : (drv ps L f rule deep at_).1.1.length ≤ 70 := by
  cases f with
  | zero => simp [drv]
  | succ f =>
    unfold drv
    split
    · simp
    · have h1 := drvL_len (next := fun r a => drv ps L f r (deep + 1) a) (rd_T34 ps ((dAll ps rule ps.length).getD (dK L at_ (dAll ps rule ps.length).length).toNat 0)).f1 [] (at_ + 1) 0 (by simp)
      have h2 : (rd_T34 ps ((dAll ps rule ps.length).getD (dK L at_ (dAll ps rule ps.length).length).toNat 0)).f1.length ≤ 10 := by
        generalize (dAll ps rule ps.length).getD (dK L at_ (dAll ps rule ps.length).length).toNat 0 = i
        unfold rd_T34
        rw [List.getD_eq_getElem?_getD]
        cases hg : ps[i.toNat]? with
        | none => exact Nat.zero_le _
        | some p => exact hr p (List.mem_of_getElem? hg)
      omega
end Go.Proofs.Ytojdjjbkpbapfaa.P
end

section
namespace Go.Proofs.Ytojdjjbkpbapfaa.M
open Go.RowKit Go.Proofs.YtojdjjbkpbapfaaW.PrintWords Go.Proofs.YtojdjjbkpbapfaaW.PrintLast Go.Proofs.YtojdjjbkpbapfaaW.PrintMore Go.Proofs.Ytojdjjbkpbapfaa.P Go.Proofs.Ytojdjjbkpbapfaa.H
set_option linter.unusedVariables false
set_option linter.unusedSimpArgs false
def Still {σ : Type} (I : σ → Prop) (stp : σ → Prod → Bool × σ) (ps : List Prod) : Prop := ∀ st p, I st → p ∈ ps → (stp st p).1 = false → (stp st p).2 = st
theorem gIn_still {σ : Type} {I : σ → Prop} {stp : σ → Prod → Bool × σ} : ∀ {ps : List Prod}, Still I stp ps → (∀ st p, I st → p ∈ ps → I (stp st p).2) → ∀ (ag : Bool) (st : σ), I st → (gIn stp ps ag st).1 = false → ag = false ∧ (gIn stp ps ag st).2 = st ∧ ∀ p ∈ ps, (stp st p).1 = false
  | [], _, _, ag, st, _, h => ⟨h, rfl, fun p hp => by simp at hp⟩
  | p :: ps, hs, hI, ag, st, h0, h => by
    rw [gIn] at h ⊢
    obtain ⟨h1, h2, h3⟩ := gIn_still (fun st q hi hq => hs st q hi (List.mem_cons_of_mem _ hq)) (fun st q hi hq => hI st q hi (List.mem_cons_of_mem _ hq)) _ _ (hI st p h0 List.mem_cons_self) h
    rw [Bool.or_eq_false_iff] at h1
    have e := hs st p h0 List.mem_cons_self h1.1
    rw [e] at h2 h3
    refine ⟨h1.2, by rw [e]; exact h2, fun q hq => ?_⟩
    rcases List.mem_cons.1 hq with rfl | hq
    · exact h1.1
    · exact h3 q hq
theorem gOut_closed {σ : Type} {I : σ → Prop} {μ : σ → Nat} {stp : σ → Prod → Bool × σ} {ps : List Prod} (hg : Good I μ stp ps) (hs : Still I stp ps) : ∀ (n : Nat) (st : σ), I st → μ st ≤ n → ∀ p ∈ ps, (stp (gOut stp ps n st) p).1 = false
  | n, st, hI, hn => by
    obtain ⟨h1, h2, h3⟩ := gIn_good hg false st hI
    cases hr : (gIn stp ps false st).1 with
    | false =>
      obtain ⟨_, h4, h5⟩ := gIn_still hs (fun st p hi hp => (hg st p hi hp).1) false st hI hr
      have e : gOut stp ps n st = st := by cases n <;> simp [gOut, hr, h4]
      rw [e]; exact h5
    | true =>
      have hlt := (h3 hr).resolve_left (by simp)
      cases n with
      | zero => omega
      | succ n =>
        rw [gOut, if_pos hr]
        exact gOut_closed hg hs n _ h1 (by omega)
theorem cStep_still (nn nt : Nat) (token : Bool) (ps : List Prod) : Still (fun out : List Bool => out.length = nn) (cStep token) ps := fun st p _ _ h => by
  have h' : cNew token st p = false := h
  unfold cStep; simp [h']
theorem clo_closed (nn nt : Nat) (token : Bool) {ps : List Prod} (hps : ps.all (okProd nn nt) = true) : ∀ p ∈ ps, p.f1.any (oddP token (clo token nn ps)) = false → (clo token nn ps).getD p.f0.toNat false = true := fun p hp h => by
  have h1 := gOut_closed (cStep_good nn nt token hps) (cStep_still nn nt token ps) (cf (List.replicate nn false)) (List.replicate nn false) (by simp) (Nat.le_refl _) p hp
  have h2 : cNew token (clo token nn ps) p = false := h1
  unfold cNew at h2
  rw [h] at h2
  simpa using h2
theorem more_false : ∀ {a b : List Bool}, a.length = b.length → moreL a b = false → orL a b = a
  | [], [], _, _ => rfl
  | x :: a, y :: b, h, hm => by
    have hm' : ((y && !x) || moreL a b) = false := hm
    rw [Bool.or_eq_false_iff] at hm'
    have ih := more_false (a := a) (b := b) (by simpa using h) hm'.2
    show (x || y) :: orL a b = x :: a
    rw [ih]
    have := hm'.1
    cases x <;> cases y <;> simp_all
theorem set_same (m : List (List Bool)) (i : Nat) : m.set i (m.getD i []) = m := by
  apply List.ext_getElem
  · simp
  · intro j h1 h2
    rw [List.getElem_set]
    split
    · rename_i e; subst e; simp [List.getD_eq_getElem?_getD, h2]
    · rfl
theorem sStep_still {nn nt : Nat} (em : List Bool) {ps : List Prod} (hps : ps.all (okProd nn nt) = true) : Still (Sh nn nt) (sStep nt em) ps := fun st p hI hp h => by
  have hok := List.all_eq_true.1 hps p hp
  have hl := okProd_left hok
  have hb := bg_length em hI p.f1 _ (okProd_right hok) (none0_length nt)
  have hr := hI.get (i := p.f0.toNat) (by omega)
  have h' : moreL (st.getD p.f0.toNat []) (bg em st p.f1 (none0 nt)).1 = false := h
  show st.set p.f0.toNat (orL (st.getD p.f0.toNat []) (bg em st p.f1 (none0 nt)).1) = st
  rw [more_false (by rw [hr, hb]) h', set_same]
theorem fst_closed (nn nt : Nat) (em : List Bool) {ps : List Prod} (hps : ps.all (okProd nn nt) = true) : ∀ p ∈ ps, orL ((fst nn nt em ps).getD p.f0.toNat []) (bg em (fst nn nt em ps) p.f1 (none0 nt)).1 = (fst nn nt em ps).getD p.f0.toNat [] := fun p hp => by
  have h1 := gOut_closed (sStep_good em hps) (sStep_still em hps) (cfs (rows0 nn nt)) (rows0 nn nt) (rows0_sh nn nt) (Nat.le_refl _) p hp
  have hs := fst_sh nn nt em hps
  have hok := List.all_eq_true.1 hps p hp
  have hl := okProd_left hok
  have hb := bg_length em hs p.f1 _ (okProd_right hok) (none0_length nt)
  have hr := hs.get (i := p.f0.toNat) (by omega)
  exact more_false (by rw [hr, hb]) h1
inductive DerL (ps : List Prod) : List Sym → List Int → Prop where
  | nil : DerL ps [] []
  | tok (n : Int) (l : List Sym) (t : List Int) : DerL ps l t → DerL ps (⟨true, n⟩ :: l) (n :: t)
  | rule (p : Prod) (l : List Sym) (t1 t2 : List Int) : p ∈ ps → DerL ps p.f1 t1 → DerL ps l t2 → DerL ps (⟨false, p.f0⟩ :: l) (t1 ++ t2)
theorem drvL_der {ps : List Prod} {next : Int → Nat → (List Int × Bool) × Nat} (hn : ∀ r a t a', next r a = ((t, true), a') → ∃ p ∈ ps, p.f0 = r ∧ DerL ps p.f1 t) : ∀ (l : List Sym) (out t : List Int) (at_ a' : Nat), drvL next l out at_ = ((t, true), a') → ∃ t', t = out ++ t' ∧ DerL ps l t'
  | [], out, t, at_, a', h => by
    simp only [drvL, Prod.mk.injEq] at h
    exact ⟨[], by simp [← h.1.1], .nil⟩
  | x :: l, out, t, at_, a', h => by
    obtain ⟨tk, n⟩ := x
    unfold drvL at h
    cases tk with
    | true =>
      rw [if_pos rfl] at h
      obtain ⟨t', e, hd⟩ := drvL_der hn l _ t _ a' h
      exact ⟨n :: t', by rw [e]; simp, .tok n l t' hd⟩
    | false =>
      rw [if_neg (by simp)] at h
      simp only at h
      split at h
      · rename_i hok
        split at h
        · simp at h
        · obtain ⟨t', e, hd⟩ := drvL_der hn l _ t _ a' h
          obtain ⟨p, hp, rfl, hd1⟩ := hn n at_ (next n at_).1.1 (next n at_).2 (by rw [← hok])
          exact ⟨(next p.f0 at_).1.1 ++ t', by rw [e, List.append_assoc], .rule p l _ t' hp hd1 hd⟩
      · simp at h
theorem drv_der {ps : List Prod} {L : List Int} (hu : ∀ x ∈ L, 0 ≤ x ∧ x ≤ 255) : ∀ (f : Nat) (rule : Int) (deep at_ : Nat) (t : List Int) (a' : Nat), drv ps L f rule deep at_ = ((t, true), a') → ∃ p ∈ ps, p.f0 = rule ∧ DerL ps p.f1 t
  | 0, rule, deep, at_, t, a', h => by simp [drv] at h
  | f + 1, rule, deep, at_, t, a', h => by
    unfold drv at h
    split at h
    · simp at h
    · rename_i hst
      have hpos : 0 < (dAll ps rule ps.length).length := Nat.pos_of_ne_zero (fun h0 => hst (.inl h0))
      have hk := dK_lt hu at_ hpos
      have hmem := dAll_mem (ps := ps) (rule := rule) (i := ps.length) (x := (dAll ps rule ps.length).getD (dK L at_ (dAll ps rule ps.length).length).toNat 0) (by
        rw [List.getD_eq_getElem?_getD, List.getElem?_eq_getElem (show (dK L at_ (dAll ps rule ps.length).length).toNat < (dAll ps rule ps.length).length by omega)]; exact List.getElem_mem _)
      obtain ⟨t', e, hd⟩ := drvL_der (next := fun r a => drv ps L f r (deep + 1) a) (fun r a t a' h => drv_der hu f r (deep + 1) a t a' h) _ _ _ _ _ h
      refine ⟨_, rd_mem ps _ hmem.1 hmem.2.1, hmem.2.2, ?_⟩
      rw [List.nil_append] at e
      rw [e]; exact hd
section
variable {nn nt : Nat} {ps : List Prod} (hps : ps.all (okProd nn nt) = true)
include hps
theorem der_useful {l : List Sym} {t : List Int} (h : DerL ps l t) : l.any (oddP true (clo true nn ps)) = false := by
  induction h with
  | nil => rfl
  | tok n l t _ ih => rw [List.any_cons, ih]; rfl
  | rule p l t1 t2 hp _ _ ih1 ih2 =>
    rw [List.any_cons, ih2, Bool.or_false]
    have := clo_closed nn nt true hps p hp ih1
    show (false && _ || !false && !rdOf false (clo true nn ps) p.f0) = false
    rw [show rdOf false (clo true nn ps) p.f0 = true from this]; rfl
theorem der_empty {l : List Sym} {t : List Int} (h : DerL ps l t) : t = [] → l.any (oddP false (clo false nn ps)) = false := by
  induction h with
  | nil => intro _; rfl
  | tok n l t _ _ => intro h; simp at h
  | rule p l t1 t2 hp _ _ ih1 ih2 =>
    intro h
    obtain ⟨h1, h2⟩ := List.append_eq_nil_iff.1 h
    rw [List.any_cons, ih2 h2, Bool.or_false]
    have := clo_closed nn nt false hps p hp (ih1 h1)
    show (false && _ || !false && !rdOf false (clo false nn ps) p.f0) = false
    rw [show rdOf false (clo false nn ps) p.f0 = true from this]; rfl
theorem bg_rule_mem {p : Prod} (hp : p ∈ ps) {l : List Sym} (hl : l.all (okSym nn nt) = true) {i : Nat} (h : ((fst nn nt (clo false nn ps) ps).getD p.f0.toNat []).getD i false = true) : ((bg (clo false nn ps) (fst nn nt (clo false nn ps) ps) (⟨false, p.f0⟩ :: l) (none0 nt)).1).getD i false = true := by
  have hs := fst_sh nn nt (clo false nn ps) hps
  have hl0 := okProd_left (List.all_eq_true.1 hps p hp)
  have hr := hs.get (i := p.f0.toNat) (by omega)
  have hor := orL_getD (none0 nt) ((fst nn nt (clo false nn ps) ps).getD p.f0.toNat []) i (by rw [none0_length, hr])
  rw [h, Bool.or_true] at hor
  rw [bg, if_neg (by simp)]
  split
  · have hlen : (orL (none0 nt) ((fst nn nt (clo false nn ps) ps).getD p.f0.toNat [])).length = nt + 1 := by rw [orL_length (by rw [none0_length, hr]), none0_length]
    rw [bg_from (clo false nn ps) hs l _ hl hlen]
    simp only
    rw [orL_getD _ _ _ (by rw [hlen, bg_length (clo false nn ps) hs l _ hl (none0_length nt)]), hor]; rfl
  · exact hor
theorem der_first {l : List Sym} {t : List Int} (h : DerL ps l t) : l.all (okSym nn nt) = true → ∀ x t', t = x :: t' → 0 ≤ x ∧ x < (nt : Int) ∧ ((bg (clo false nn ps) (fst nn nt (clo false nn ps) ps) l (none0 nt)).1).getD x.toNat false = true := by
  have hs := fst_sh nn nt (clo false nn ps) hps
  induction h with
  | nil => intro _ x t' h; simp at h
  | tok n l t _ _ =>
    intro hl x t' h
    obtain ⟨rfl, rfl⟩ := List.cons.inj h
    simp only [List.all_cons, Bool.and_eq_true] at hl
    have hb : 0 ≤ n ∧ n < (nt : Int) := okSym_tok hl.1 rfl
    refine ⟨hb.1, hb.2, ?_⟩
    rw [bg, if_pos rfl]
    simp only
    rw [List.getD_eq_getElem?_getD, List.getElem?_set_self (by rw [none0_length]; omega)]; rfl
  | rule p l t1 t2 hp hd1 hd2 ih1 ih2 =>
    intro hl x t' h
    simp only [List.all_cons, Bool.and_eq_true] at hl
    have hok := List.all_eq_true.1 hps p hp
    cases t1 with
    | cons y t1 =>
      rw [List.cons_append] at h
      obtain ⟨rfl, rfl⟩ := List.cons.inj h
      obtain ⟨h1, h2, h3⟩ := ih1 (okProd_right hok) y t1 rfl
      refine ⟨h1, h2, bg_rule_mem hps hp hl.2 ?_⟩
      have hl0 := okProd_left hok
      rw [← fst_closed nn nt (clo false nn ps) hps p hp, orL_getD _ _ _ (by rw [hs.get (i := p.f0.toNat) (by omega), bg_length (clo false nn ps) hs p.f1 _ (okProd_right hok) (none0_length nt)]), h3, Bool.or_true]
    | nil =>
      rw [List.nil_append] at h
      obtain ⟨h1, h2, h3⟩ := ih2 hl.2 x t' h
      refine ⟨h1, h2, ?_⟩
      have he := clo_closed nn nt false hps p hp (der_empty hps hd1 rfl)
      have hl0 := okProd_left hok
      have hr := hs.get (i := p.f0.toNat) (by omega)
      rw [bg, if_neg (by simp), if_pos he]
      have hlen : (orL (none0 nt) ((fst nn nt (clo false nn ps) ps).getD p.f0.toNat [])).length = nt + 1 := by rw [orL_length (by rw [none0_length, hr]), none0_length]
      rw [bg_from (clo false nn ps) hs l _ hl.2 hlen]
      simp only
      rw [orL_getD _ _ _ (by rw [hlen, bg_length (clo false nn ps) hs l _ hl.2 (none0_length nt)]), h3, Bool.or_true]
theorem rule_first {L : List Int} (hu : ∀ x ∈ L, 0 ≤ x ∧ x ≤ 255) {f : Nat} {rule : Int} {deep at_ : Nat} {t : List Int} {a' : Nat} (h : drv ps L f rule deep at_ = ((t, true), a')) :
    (clo true nn ps).getD rule.toNat false = true ∧ (t = [] → (clo false nn ps).getD rule.toNat false = true) ∧ ∀ x t', t = x :: t' → 0 ≤ x ∧ x < (nt : Int) ∧ ((fst nn nt (clo false nn ps) ps).getD rule.toNat []).getD x.toNat false = true := by
  obtain ⟨p, hp, rfl, hd⟩ := drv_der hu f rule deep at_ t a' h
  have hok := List.all_eq_true.1 hps p hp
  refine ⟨clo_closed nn nt true hps p hp (der_useful hps hd), fun h => clo_closed nn nt false hps p hp (der_empty hps hd h), fun x t' e => ?_⟩
  obtain ⟨h1, h2, h3⟩ := der_first hps hd (okProd_right hok) x t' e
  have hs := fst_sh nn nt (clo false nn ps) hps
  have hl0 := okProd_left hok
  exact ⟨h1, h2, by rw [← fst_closed nn nt (clo false nn ps) hps p hp, orL_getD _ _ _ (by rw [hs.get (i := p.f0.toNat) (by omega), bg_length (clo false nn ps) hs p.f1 _ (okProd_right hok) (none0_length nt)]), h3, Bool.or_true]⟩
end
end Go.Proofs.Ytojdjjbkpbapfaa.M
end

section
namespace Go.Proofs.Ytojdjjbkpbapfaa.M
open Go.RowKit Go.Proofs.YtojdjjbkpbapfaaW.PrintWords Go.Proofs.YtojdjjbkpbapfaaW.PrintLast Go.Proofs.YtojdjjbkpbapfaaW.PrintMore Go.Proofs.Ytojdjjbkpbapfaa.P Go.Proofs.Ytojdjjbkpbapfaa.H
set_option linter.unusedVariables false
set_option linter.unusedSimpArgs false
theorem fIn_false {nn nt : Nat} (em : List Bool) {first : List (List Bool)} (hf : Sh nn nt first) {left : Nat} (hl : left < nn) : ∀ (ys : List Sym) (g : Bool) (out : List (List Bool)), ys.all (okSym nn nt) = true → Sh nn nt out → (fIn nt em first left ys g out).1 = false →
    g = false ∧ (fIn nt em first left ys g out).2 = out ∧ ∀ pre y rest, ys = pre ++ y :: rest → y.f0 = false → moreL (out.getD y.f1.toNat []) (fAdd nt em first left rest out) = false
  | [], g, out, _, _, h => ⟨h, rfl, fun pre y rest e => by simp at e⟩
  | x :: xs, g, out, hok, hs, h => by
    simp only [List.all_cons, Bool.and_eq_true] at hok
    cases hx : x.f0 with
    | true =>
      have e : fIn nt em first left (x :: xs) g out = fIn nt em first left xs g out := by rw [fIn, if_pos hx]
      rw [e] at h ⊢
      obtain ⟨h1, h2, h3⟩ := fIn_false em hf hl xs g out hok.2 hs h
      refine ⟨h1, h2, fun pre y rest e hy => ?_⟩
      cases pre with
      | nil => simp at e; rw [e.1, hy] at hx; cases hx
      | cons z pre => simp at e; exact h3 pre y rest e.2 hy
    | false =>
      have hb := okSym_rule hok.1 hx
      have hal := fAdd_length em hf hs hl hok.2
      have hrow := hs.get (i := x.f1.toNat) (by omega)
      have e : fIn nt em first left (x :: xs) g out = fIn nt em first left xs (moreL (out.getD x.f1.toNat []) (fAdd nt em first left xs out) || g) (out.set x.f1.toNat (orL (out.getD x.f1.toNat []) (fAdd nt em first left xs out))) := by rw [fIn, if_neg (by simp [hx])]
      rw [e] at h ⊢
      obtain ⟨h1, h2, h3⟩ := fIn_false em hf hl xs _ _ hok.2 (row_step hs (i := x.f1.toNat) (by omega) hal).1 h
      rw [Bool.or_eq_false_iff] at h1
      have hsame : out.set x.f1.toNat (orL (out.getD x.f1.toNat []) (fAdd nt em first left xs out)) = out := by rw [more_false (by rw [hrow, hal]) h1.1, set_same]
      rw [hsame] at h2 h3 ⊢
      refine ⟨h1.2, h2, fun pre y rest e hy => ?_⟩
      cases pre with
      | nil => simp at e; rw [← e.1, ← e.2]; exact h1.1
      | cons z pre => simp at e; exact h3 pre y rest e.2 hy
theorem fIn_keeps {nn nt : Nat} (em : List Bool) {first : List (List Bool)} (hf : Sh nn nt first) {left : Nat} (hl : left < nn) (i b : Nat) : ∀ (ys : List Sym) (g : Bool) (out : List (List Bool)), ys.all (okSym nn nt) = true → Sh nn nt out → (out.getD i []).getD b false = true → ((fIn nt em first left ys g out).2.getD i []).getD b false = true
  | [], g, out, _, _, h => h
  | x :: xs, g, out, hok, hs, h => by
    simp only [List.all_cons, Bool.and_eq_true] at hok
    cases hx : x.f0 with
    | true => rw [fIn, if_pos hx]; exact fIn_keeps em hf hl i b xs g out hok.2 hs h
    | false =>
      have hb := okSym_rule hok.1 hx
      have hal := fAdd_length em hf hs hl hok.2
      have hrow := hs.get (i := x.f1.toNat) (by omega)
      rw [fIn, if_neg (by simp [hx])]
      refine fIn_keeps em hf hl i b xs _ _ hok.2 (row_step hs (i := x.f1.toNat) (by omega) hal).1 ?_
      by_cases hi : x.f1.toNat = i
      · subst hi
        have hlt : x.f1.toNat < out.length := by rw [hs.1]; omega
        rw [List.getD_eq_getElem?_getD (l := out.set _ _), List.getElem?_set_self hlt]
        simp only [Option.getD_some]
        rw [orL_getD _ _ _ (by rw [hrow, hal]), h, Bool.true_or]
      · rw [List.getD_eq_getElem?_getD (l := out.set _ _), List.getElem?_set_ne hi, ← List.getD_eq_getElem?_getD]; exact h
section
variable {nn nt : Nat} {ps : List Prod} (hps : ps.all (okProd nn nt) = true) (em : List Bool) {first : List (List Bool)} (hf : Sh nn nt first)
include hps hf
theorem fStep_still : Still (Sh nn nt) (fStep nt em first) ps := fun st p hI hp h => by
  have hok := List.all_eq_true.1 hps p hp
  have hl := okProd_left hok
  exact (fIn_false em hf (left := p.f0.toNat) (by omega) p.f1 false st (okProd_right hok) hI h).2.1
theorem fol_closed : ∀ p ∈ ps, ∀ pre y rest, p.f1 = pre ++ y :: rest → y.f0 = false → orL ((fol nn nt em first ps).getD y.f1.toNat []) (fAdd nt em first p.f0.toNat rest (fol nn nt em first ps)) = (fol nn nt em first ps).getD y.f1.toNat [] := fun p hp pre y rest e hy => by
  have h1 := gOut_closed (fStep_good em hf hps) (fStep_still hps em hf) (cfs (fol0 nn nt)) (fol0 nn nt) (fol0_sh nn nt) (Nat.le_refl _) p hp
  have hs := fol_sh em hf hps
  have hok := List.all_eq_true.1 hps p hp
  have hl := okProd_left hok
  have h2 := (fIn_false em hf (left := p.f0.toNat) (by omega) p.f1 false _ (okProd_right hok) hs h1).2.2 pre y rest e hy
  have hr := okProd_right hok
  rw [e, List.all_append, List.all_cons, Bool.and_eq_true, Bool.and_eq_true] at hr
  have hb := okSym_rule hr.2.1 hy
  exact more_false (by rw [hs.get (i := y.f1.toNat) (by omega), fAdd_length em hf hs (by omega) hr.2.2]) h2
theorem fol_end (hn : 0 < nn) : ((fol nn nt em first ps).getD 0 []).getD nt false = true := by
  have hg : Good (fun st => Sh nn nt st ∧ (st.getD 0 []).getD nt false = true) cfs (fStep nt em first) ps := fun st p hI hp => by
    obtain ⟨h1, h2, h3⟩ := fStep_good em hf hps st p hI.1 hp
    have hok := List.all_eq_true.1 hps p hp
    have hl := okProd_left hok
    exact ⟨⟨h1, fIn_keeps em hf (left := p.f0.toNat) (by omega) 0 nt p.f1 false st (okProd_right hok) hI.1 hI.2⟩, h2, h3⟩
  refine (gOut_I hg (cfs (fol0 nn nt)) (fol0 nn nt) ⟨fol0_sh nn nt, ?_⟩).2
  unfold fol0
  rw [if_pos hn]
  have e : ((rows0 nn nt).set 0 ((none0 nt).set nt true)).getD 0 [] = (none0 nt).set nt true := by
    rw [List.getD_eq_getElem?_getD, List.getElem?_set_self (by rw [(rows0_sh nn nt).1]; exact hn)]; rfl
  rw [e, List.getD_eq_getElem?_getD, List.getElem?_set_self (by rw [none0_length]; omega)]; rfl
end
theorem bg_head (em : List Bool) {first : List (List Bool)} {nn nt : Nat} (hs : Sh nn nt first) (x : Sym) (l : List Sym) (hx : okSym nn nt x = true) (hl : l.all (okSym nn nt) = true) (i : Nat) (h : (bg em first [x] (none0 nt)).1.getD i false = true) : (bg em first (x :: l) (none0 nt)).1.getD i false = true := by
  have e := bg_append em first [x] l (none0 nt)
  rw [List.singleton_append] at e
  rw [e]
  have hlen := bg_length em hs [x] (none0 nt) (by simp [hx]) (none0_length nt)
  split
  · rw [bg_from em hs l _ hl hlen]
    simp only
    rw [orL_getD _ _ _ (by rw [hlen, bg_length em hs l _ hl (none0_length nt)]), h, Bool.true_or]
  · exact h
theorem behind_follows {nn nt : Nat} {ps : List Prod} (hps : ps.all (okProd nn nt) = true) {p : Prod} (hp : p ∈ ps) {pre : List Sym} {y x : Sym} {rest : List Sym} (e : p.f1 = pre ++ y :: x :: rest) (hy : y.f0 = false) {n : Nat} (hn : (bg (clo false nn ps) (fst nn nt (clo false nn ps) ps) [x] (none0 nt)).1.getD n false = true) :
    ((fol nn nt (clo false nn ps) (fst nn nt (clo false nn ps) ps) ps).getD y.f1.toNat []).getD n false = true := by
  have hs := fst_sh nn nt (clo false nn ps) hps
  have hs2 := fol_sh (clo false nn ps) hs hps
  have hr := okProd_right (List.all_eq_true.1 hps p hp)
  have hl := okProd_left (List.all_eq_true.1 hps p hp)
  rw [e, List.all_append, List.all_cons, List.all_cons, Bool.and_eq_true, Bool.and_eq_true, Bool.and_eq_true] at hr
  have hb := okSym_rule hr.2.1 hy
  have hxr : (x :: rest).all (okSym nn nt) = true := by rw [List.all_cons, hr.2.2.1, hr.2.2.2]; rfl
  rw [← fol_closed hps (clo false nn ps) hs p hp pre y (x :: rest) e hy]
  have hal := fAdd_length (clo false nn ps) hs hs2 (left := p.f0.toNat) (by omega) hxr
  rw [orL_getD _ _ _ (by rw [hs2.get (i := y.f1.toNat) (by omega), hal])]
  have h1 := bg_head (clo false nn ps) hs x rest hr.2.2.1 hr.2.2.2 n hn
  have h2 : (fAdd nt (clo false nn ps) (fst nn nt (clo false nn ps) ps) p.f0.toNat (x :: rest) (fol nn nt (clo false nn ps) (fst nn nt (clo false nn ps) ps) ps)).getD n false = true := by
    unfold fAdd
    split
    · rw [orL_getD _ _ _ (by rw [bg_length (clo false nn ps) hs _ _ hxr (none0_length nt), hs2.get (i := p.f0.toNat) (by omega)]), h1, Bool.true_or]
    · exact h1
  rw [h2, Bool.or_true]
theorem bg_tok (em : List Bool) (first : List (List Bool)) (nt : Nat) (n : Int) (h0 : 0 ≤ n) (h1 : n < (nt : Int)) : (bg em first [⟨true, n⟩] (none0 nt)).1.getD n.toNat false = true := by
  rw [bg, if_pos rfl]
  simp only
  rw [List.getD_eq_getElem?_getD, List.getElem?_set_self (by rw [none0_length]; omega)]; rfl
theorem bg_rule1 {nn nt : Nat} {ps : List Prod} (hps : ps.all (okProd nn nt) = true) {L : List Int} (hu : ∀ x ∈ L, 0 ≤ x ∧ x ≤ 255) {f : Nat} {rule : Int} {deep at_ : Nat} {x : Int} {t : List Int} {a' : Nat} (h : drv ps L f rule deep at_ = ((x :: t, true), a')) :
    0 ≤ x ∧ (bg (clo false nn ps) (fst nn nt (clo false nn ps) ps) [⟨false, rule⟩] (none0 nt)).1.getD x.toNat false = true := by
  obtain ⟨p, hp, rfl, _⟩ := drv_der hu f rule deep at_ _ _ h
  obtain ⟨h1, h2, h3⟩ := (rule_first hps hu h).2.2 x t rfl
  exact ⟨h1, bg_rule_mem hps hp rfl h3⟩
end Go.Proofs.Ytojdjjbkpbapfaa.M
end
