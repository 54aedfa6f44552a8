/- Packed texts of this claim: the walks of the functions, and their plain laws; see the claim's last text. -/
import Derived.Test.YtojdjjbkpbapfaaKFirstsMade6
section
namespace Go.Proofs.Ytojdjjbkpbapfaa.M
open Go.RowKit Go.Proofs.YtojdjjbkpbapfaaW.PrintWords Go.Proofs.YtojdjjbkpbapfaaW.PrintLast Go.Proofs.YtojdjjbkpbapfaaW.PrintMore Go.Proofs.Ytojdjjbkpbapfaa.P Go.Proofs.Ytojdjjbkpbapfaa.H
set_option linter.unusedVariables false
set_option linter.unusedSimpArgs false
def Small (ps : List Prod) : Prop := ps.length ≤ 1000000 ∧ ∀ p ∈ ps, p.f1.length ≤ 1000000
theorem firstsRight_val (l0 : List ByteArray) (l1 : List Tok) (a2 a3 : Int) (l4 : List Prod) (h : Small l4) : firsts_Right.f l0 l1 a2 a3 l4 = some (l4.all (okProd l0.length l1.length)) := by
  unfold firsts_Right.f
  rw [if_pos ⟨by have := h.1; omega, by rw [List.all_eq_true]; intro p hp; have := h.2 p hp; exact decide_eq_true (by omega)⟩]
theorem refRight_l1_ev (l0 : List ByteArray) (l1 : List Tok) (a2 a3 : Int) (l4 : List Prod) (x3 left : Int) (r : Bool) : ∀ (l pre : List Sym), pre.length + l.length ≤ 1000000 → (l.all (okSym l0.length l1.length) = true → Ev (fun k => regletref13_Right.l0 k (wrap64 (x3 + 1)) l0 l1 a2 a3 l4) r) → (l.all (okSym l0.length l1.length) = false → r = false) → Ev (fun k => regletref13_Right.l1 k x3 (pre.length : Int) l0 l1 a2 a3 l4 left (pre ++ l)) r
  | [], pre, _, h1, _ => Ev.step (fun k => by rw [regletref13_Right.l1]) (Ev.neg (by simp) (h1 rfl))
  | x :: l, pre, h3, h1, h2 => by
    simp only [List.length_cons] at h3
    have ih := refRight_l1_ev l0 l1 a2 a3 l4 x3 left r l (pre ++ [x]) (by simp; omega)
    simp only [← wrap_next pre _ (show pre.length ≤ 1000000 by omega), List.append_assoc, List.singleton_append] at ih
    have e : rd_T49 (pre ++ x :: l) (pre.length : Int) = x := getD_mid _ pre x l _ rfl
    refine Ev.step (fun k => by rw [regletref13_Right.l1]) ?_
    rw [e]
    refine Ev.pos (by simp; omega) (Ev.pos (by omega) ?_)
    cases hx : x.f0 with
    | true =>
      refine Ev.pos rfl ?_
      by_cases h0 : x.f1 < 0
      · exact Ev.pos h0 (Ev.some (h2 (by simp [okSym, hx]; omega)).symm)
      · refine Ev.neg h0 ?_
        by_cases h5 : x.f1 ≥ (l1.length : Int)
        · exact Ev.pos h5 (Ev.some (h2 (by simp [okSym, hx]; omega)).symm)
        · refine Ev.neg h5 (ih (fun h => h1 ?_) (fun h => h2 ?_))
          · simp [okSym, hx, -List.all_eq_true] ; exact ⟨by omega, h⟩
          · rw [List.all_cons, h, Bool.and_false]
    | false =>
      refine Ev.neg (by simp) ?_
      by_cases h0 : x.f1 < 0
      · exact Ev.pos h0 (Ev.some (h2 (by simp [okSym, hx]; omega)).symm)
      · refine Ev.neg h0 ?_
        by_cases h5 : x.f1 ≥ (l0.length : Int)
        · exact Ev.pos h5 (Ev.some (h2 (by simp [okSym, hx]; omega)).symm)
        · refine Ev.neg h5 (ih (fun h => h1 ?_) (fun h => h2 ?_))
          · simp [okSym, hx, -List.all_eq_true] ; exact ⟨by omega, h⟩
          · rw [List.all_cons, h, Bool.and_false]
theorem refRight_l0_ev (l0 : List ByteArray) (l1 : List Tok) (a2 a3 : Int) : ∀ (qs pre : List Prod), pre.length + qs.length ≤ 1000000 → (∀ p ∈ qs, p.f1.length ≤ 1000000) → Ev (fun k => regletref13_Right.l0 k (pre.length : Int) l0 l1 a2 a3 (pre ++ qs)) (qs.all (okProd l0.length l1.length))
  | [], pre, _, _ => Ev.step (fun k => by rw [regletref13_Right.l0]) (Ev.neg (by simp) (Ev.some (by simp)))
  | p :: qs, pre, h3, h4 => by
    simp only [List.length_cons] at h3
    have ih := refRight_l0_ev l0 l1 a2 a3 qs (pre ++ [p]) (by simp; omega) (fun p hp => h4 p (List.mem_cons_of_mem _ hp))
    simp only [← wrap_next pre _ (show pre.length ≤ 1000000 by omega), List.append_assoc, List.singleton_append] at ih
    have e : rd_T34 (pre ++ p :: qs) (pre.length : Int) = p := getD_mid _ pre p qs _ rfl
    refine Ev.step (fun k => by rw [regletref13_Right.l0]) ?_
    rw [e]
    refine Ev.pos (by simp; omega) (Ev.pos (by omega) ?_)
    by_cases h0 : p.f0 < 0
    · refine Ev.pos h0 (Ev.step (fun k => by rw [regletref13_Right.j1]) (Ev.pos rfl (Ev.some ?_)))
      simp [okProd]; omega
    · refine Ev.neg h0 (Ev.step (fun k => by rw [regletref13_Right.j1]) ?_)
      by_cases h5 : p.f0 ≥ (l0.length : Int)
      · refine Ev.pos (decide_eq_true h5) (Ev.some ?_)
        simp [okProd]; omega
      · refine Ev.neg (by simpa using h5) ?_
        have h := refRight_l1_ev l0 l1 a2 a3 (pre ++ p :: qs) (pre.length : Int) p.f0 ((p :: qs).all (okProd l0.length l1.length)) p.f1 [] (by have := h4 p List.mem_cons_self; simpa using this) (fun h => Ev.val ih (by
            have : okProd l0.length l1.length p = true := by simp only [okProd, h, Bool.and_true, Bool.and_eq_true, decide_eq_true_eq]; omega
            rw [List.all_cons, this, Bool.true_and])) (fun h => by
            have : okProd l0.length l1.length p = false := by simp only [okProd, h, Bool.and_false]
            rw [List.all_cons, this, Bool.false_and])
        simpa only [List.nil_append, List.length_nil, Int.natCast_zero] using h
theorem refRight_ev (l0 : List ByteArray) (l1 : List Tok) (a2 a3 : Int) (l4 : List Prod) (h : Small l4) : Ev (fun k => regletref13_Right.f k l0 l1 a2 a3 l4) (l4.all (okProd l0.length l1.length)) :=
  Ev.congr (fun k => by rw [regletref13_Right.f]) (by simpa only [List.nil_append, List.length_nil, Int.natCast_zero] using refRight_l0_ev l0 l1 a2 a3 l4 [] (by have := h.1; simpa using this) h.2)
def cNew (token : Bool) (out : List Bool) (p : Prod) : Bool := !(p.f1.any (oddP token out)) && !(out.getD p.f0.toNat false)
def cStep (token : Bool) (out : List Bool) (p : Prod) : Bool × List Bool := (cNew token out p, if cNew token out p = true then out.set p.f0.toNat true else out)
theorem closedStep_val (token : Bool) (out : List Bool) (p : Prod) : closedStep token out p = some (cStep token out p) := by
  have e : rdOf false out p.f0 = out.getD p.f0.toNat false := rfl
  unfold closedStep cStep cNew
  rw [e]
  cases out.getD p.f0.toNat false <;> cases p.f1.any (oddP token out) <;> rfl
theorem okProd_left {nn nt : Nat} {p : Prod} (h : okProd nn nt p = true) : 0 ≤ p.f0 ∧ p.f0 < (nn : Int) := by
  simp only [okProd, Bool.and_eq_true, decide_eq_true_eq] at h; exact h.1
theorem okProd_right {nn nt : Nat} {p : Prod} (h : okProd nn nt p = true) : p.f1.all (okSym nn nt) = true := by
  simp only [okProd, Bool.and_eq_true, decide_eq_true_eq] at h; exact h.2
theorem cStep_good (nn nt : Nat) (token : Bool) {ps : List Prod} (hps : ps.all (okProd nn nt) = true) : Good (fun out : List Bool => out.length = nn) cf (cStep token) ps := by
  intro st p hI hp
  have hl := okProd_left (List.all_eq_true.1 hps p hp)
  unfold cStep
  simp only
  cases hc : cNew token st p with
  | false => simp [hI]
  | true =>
    have h0 : st.getD p.f0.toNat false = false := by
      simp only [cNew, Bool.and_eq_true, Bool.not_eq_true'] at hc; exact hc.2
    have h := cf_set st p.f0.toNat (by omega) h0
    simp only [if_true]
    exact ⟨by simpa using hI, Nat.le_of_lt h, fun _ => h⟩
def clo (token : Bool) (nn : Nat) (ps : List Prod) : List Bool := gOut (cStep token) ps (cf (List.replicate nn false)) (List.replicate nn false)
theorem clo_length (nn nt : Nat) (token : Bool) {ps : List Prod} (hps : ps.all (okProd nn nt) = true) : (clo token nn ps).length = nn :=
  gOut_I (cStep_good nn nt token hps) _ _ (by simp)
theorem closed_ev (l0 : List ByteArray) (l1 : List Tok) (a2 a3 : Int) (l4 : List Prod) (h : Small l4) (hn : l0.length ≤ 1000000) (token : Bool) : Ev (fun k => firsts_closed.f k l0 l1 a2 a3 l4 token) (if l4.all (okProd l0.length l1.length) = true then clo token l0.length l4 else []) := by
  refine Ev.congr (fun k => by rw [firsts_closed.f]) (Ev.bind0 (firstsRight_val l0 l1 a2 a3 l4 h) ?_)
  cases hr : l4.all (okProd l0.length l1.length) with
  | false => exact Ev.neg (by simp) (Ev.some (by simp))
  | true =>
    rw [if_pos rfl]
    refine Ev.pos rfl (Ev.pos (by omega) ?_)
    exact growOut_ev (cStep_good l0.length l1.length token hr) (fun _ => closedStep token) (fun st p _ _ => Ev.some' (closedStep_val token st p)) _ _ (by simp) (Nat.le_refl _)
theorem any_step (token : Bool) (out : List Bool) (x : Sym) (l : List Sym) (is : Bool) : (is && !((x :: l).any (oddP token out))) = ((is && !(oddP token out x)) && !(l.any (oddP token out))) := by
  cases is <;> simp
theorem empty_ev (l0 : List ByteArray) (l1 : List Tok) (a2 a3 : Int) (l4 : List Prod) (h : Small l4) (hn : l0.length ≤ 1000000) : Ev (fun k => firsts_Empty.f k l0 l1 a2 a3 l4) (if l4.all (okProd l0.length l1.length) = true then clo false l0.length l4 else []) :=
  Ev.congr (fun k => by rw [firsts_Empty.f]) (Ev.bind (closed_ev l0 l1 a2 a3 l4 h hn false) (Ev.some rfl))
theorem useful_ev (l0 : List ByteArray) (l1 : List Tok) (a2 a3 : Int) (l4 : List Prod) (h : Small l4) (hn : l0.length ≤ 1000000) : Ev (fun k => firsts_Useful.f k l0 l1 a2 a3 l4) (if l4.all (okProd l0.length l1.length) = true then clo true l0.length l4 else []) :=
  Ev.congr (fun k => by rw [firsts_Useful.f]) (Ev.bind (closed_ev l0 l1 a2 a3 l4 h hn true) (Ev.some rfl))
theorem refEmpty_l2_ev (l0 : List ByteArray) (l1 : List Tok) (a2 a3 : Int) (l4 : List Prod) (out : List Bool) (more : Bool) (x5 left : Int) (hl0 : 0 ≤ left) (hl1 : left < (out.length : Int)) (h50 : 0 ≤ x5) (h51 : x5 < (l4.length : Int)) (r : List Bool) : ∀ (l pre : List Sym) (is : Bool), rd_T34 l4 x5 = ⟨left, pre ++ l⟩ → l.all (okSym out.length l1.length) = true → pre.length + l.length ≤ 1000000 →
    Ev (fun k => regletref13_Empty.l1 k (if ((is && !(l.any (oddP false out))) && !(out.getD left.toNat false)) = true then out.set left.toNat true else out) (((is && !(l.any (oddP false out))) && !(out.getD left.toNat false)) || more) (wrap64 (x5 + 1)) l0 l1 a2 a3 l4) r → Ev (fun k => regletref13_Empty.l2 k out more x5 is (pre.length : Int) l0 l1 a2 a3 l4) r
  | [], pre, is, e, _, _, hk => by
    refine Ev.step (fun k => by rw [regletref13_Empty.l2]) ?_
    rw [e]
    have e2 : rdOf false out left = out.getD left.toNat false := rfl
    refine Ev.pos h50 (Ev.pos h51 (Ev.neg (by simp) ?_))
    rw [e2]
    cases is with
    | false => exact Ev.neg (by simp) (by simpa using hk)
    | true =>
      refine Ev.pos rfl (Ev.pos hl0 (Ev.pos hl1 ?_))
      cases ho : out.getD left.toNat false with
      | true => exact Ev.pos rfl (by rw [ho] at hk; simpa using hk)
      | false => exact Ev.neg (by simp) (by rw [ho] at hk; simpa using hk)
  | x :: l, pre, is, e, hok, h3, hk => by
    simp only [List.length_cons] at h3
    simp only [List.all_cons, Bool.and_eq_true] at hok
    have ih := fun is => refEmpty_l2_ev l0 l1 a2 a3 l4 out more x5 left hl0 hl1 h50 h51 r l (pre ++ [x]) is (by rw [List.append_assoc]; exact e) hok.2 (by simp; omega)
    simp only [← wrap_next pre _ (show pre.length ≤ 1000000 by omega)] at ih
    rw [any_step] at hk
    have e1 : rd_T49 (pre ++ x :: l) (pre.length : Int) = x := getD_mid _ pre x l _ rfl
    refine Ev.step (fun k => by rw [regletref13_Empty.l2]) ?_
    rw [e]
    simp only [e1]
    refine Ev.pos h50 (Ev.pos h51 (Ev.pos (by simp; omega) (Ev.pos (by omega) ?_)))
    cases is with
    | false => exact Ev.neg (by simp) (ih false (by rw [Bool.false_and] at hk; exact hk))
    | true =>
      refine Ev.pos rfl ?_
      have hb := hok.1
      cases hx : x.f0 with
      | true =>
        have ho : oddP false out x = true := by simp [oddP, hx]
        rw [ho] at hk
        exact Ev.pos rfl (ih false hk)
      | false =>
        have hb := okSym_rule hok.1 hx
        have ho : (true && !oddP false out x) = rdOf false out x.f1 := by simp [oddP, hx]
        rw [ho] at hk
        exact Ev.neg (by simp) (Ev.pos hb.1 (Ev.pos hb.2 (ih _ hk)))
theorem refEmpty_l1_ev (l0 : List ByteArray) (l1 : List Tok) (a2 a3 : Int) (r : List Bool) : ∀ (qs pre : List Prod) (out : List Bool) (more : Bool), out.length = l0.length → qs.all (okProd l0.length l1.length) = true → pre.length + qs.length ≤ 1000000 → (∀ p ∈ qs, p.f1.length ≤ 1000000) → Ev (fun k => regletref13_Empty.l0 k (gIn (cStep false) qs more out).2 (gIn (cStep false) qs more out).1 l0 l1 a2 a3 (pre ++ qs)) r → Ev (fun k => regletref13_Empty.l1 k out more (pre.length : Int) l0 l1 a2 a3 (pre ++ qs)) r
  | [], pre, out, more, _, _, _, _, hk => Ev.step (fun k => by rw [regletref13_Empty.l1]) (Ev.neg (by simp) (by simpa [gIn] using hk))
  | p :: qs, pre, out, more, ho, hok, h3, h4, hk => by
    simp only [List.length_cons] at h3
    simp only [List.all_cons, Bool.and_eq_true] at hok
    have ih := fun out more ho => refEmpty_l1_ev l0 l1 a2 a3 r qs (pre ++ [p]) out more ho hok.2 (by simp; omega) (fun p hp => h4 p (List.mem_cons_of_mem _ hp))
    simp only [← wrap_next pre _ (show pre.length ≤ 1000000 by omega), List.append_assoc, List.singleton_append] at ih
    refine Ev.step (fun k => by rw [regletref13_Empty.l1]) (Ev.pos (by simp; omega) ?_)
    have hl := okProd_left hok.1
    have e : rd_T34 (pre ++ p :: qs) (pre.length : Int) = ⟨p.f0, [] ++ p.f1⟩ := getD_mid _ pre p qs _ rfl
    have h := refEmpty_l2_ev l0 l1 a2 a3 (pre ++ p :: qs) out more (pre.length : Int) p.f0 hl.1 (by omega) (by omega) (by simp; omega) r p.f1 [] true e (by rw [ho]; exact okProd_right hok.1) (by have := h4 p List.mem_cons_self; simpa using this)
    refine h ?_
    rw [gIn] at hk
    have hlen : (cStep false out p).2.length = l0.length := by unfold cStep; simp only; split <;> simp [ho]
    have h2 := ih _ _ hlen hk
    have e2 : ((true && !(p.f1.any (oddP false out))) && !(out.getD p.f0.toNat false)) = cNew false out p := by simp [cNew]
    rw [e2]
    exact h2
theorem refEmpty_l0_ev (l0 : List ByteArray) (l1 : List Tok) (a2 a3 : Int) (l4 : List Prod) (hs : Small l4) (hok : l4.all (okProd l0.length l1.length) = true) : ∀ (n : Nat) (out : List Bool), out.length = l0.length → cf out ≤ n → Ev (fun k => regletref13_Empty.l0 k out true l0 l1 a2 a3 l4) (gOut (cStep false) l4 n out)
  | n, out, ho, hn => by
    obtain ⟨h1, h2, h3⟩ := gIn_good (cStep_good l0.length l1.length false hok) false out ho
    refine Ev.step (fun k => by rw [regletref13_Empty.l0]) (Ev.pos rfl ?_)
    have h := refEmpty_l1_ev l0 l1 a2 a3 (gOut (cStep false) l4 n out) l4 [] out false ho hok (by have := hs.1; simpa using this) hs.2
    simp only [List.nil_append, List.length_nil, Int.natCast_zero] at h
    refine h ?_
    cases hr : (gIn (cStep false) l4 false out).1 with
    | false =>
      refine Ev.step (fun k => by rw [regletref13_Empty.l0]) (Ev.neg (by simp) (Ev.some ?_))
      cases n <;> simp [gOut, hr]
    | true =>
      have hlt := (h3 hr).resolve_left (by simp)
      cases n with
      | zero => omega
      | succ n =>
        refine Ev.val (refEmpty_l0_ev l0 l1 a2 a3 l4 hs hok n _ h1 (by omega)) ?_
        rw [gOut, if_pos hr]
theorem refEmpty_ev (l0 : List ByteArray) (l1 : List Tok) (a2 a3 : Int) (l4 : List Prod) (h : Small l4) (hn : l0.length ≤ 1000000) : Ev (fun k => regletref13_Empty.f k l0 l1 a2 a3 l4) (if l4.all (okProd l0.length l1.length) = true then clo false l0.length l4 else []) := by
  refine Ev.congr (fun k => by rw [regletref13_Empty.f]) (Ev.bind (refRight_ev l0 l1 a2 a3 l4 h) ?_)
  cases hr : l4.all (okProd l0.length l1.length) with
  | false => exact Ev.neg (by simp) (Ev.some (by simp))
  | true =>
    rw [if_pos rfl]
    refine Ev.pos rfl (Ev.pos (by omega) (Ev.pos (by omega) ?_))
    rw [Int.toNat_natCast]
    exact refEmpty_l0_ev l0 l1 a2 a3 l4 h hr _ _ (by simp) (Nat.le_refl _)
theorem refUseful_l2_ev (l0 : List ByteArray) (l1 : List Tok) (a2 a3 : Int) (l4 : List Prod) (out : List Bool) (more : Bool) (x5 left : Int) (hl0 : 0 ≤ left) (hl1 : left < (out.length : Int)) (h50 : 0 ≤ x5) (h51 : x5 < (l4.length : Int)) (r : List Bool) : ∀ (l pre : List Sym) (is : Bool), rd_T34 l4 x5 = ⟨left, pre ++ l⟩ → l.all (okSym out.length l1.length) = true → pre.length + l.length ≤ 1000000 →
    Ev (fun k => regletref13_Useful.l1 k (if ((is && !(l.any (oddP true out))) && !(out.getD left.toNat false)) = true then out.set left.toNat true else out) (((is && !(l.any (oddP true out))) && !(out.getD left.toNat false)) || more) (wrap64 (x5 + 1)) l0 l1 a2 a3 l4) r → Ev (fun k => regletref13_Useful.l2 k out more x5 is (pre.length : Int) l0 l1 a2 a3 l4) r
  | [], pre, is, e, _, _, hk => by
    refine Ev.step (fun k => by rw [regletref13_Useful.l2]) ?_
    rw [e]
    have e2 : rdOf false out left = out.getD left.toNat false := rfl
    refine Ev.pos h50 (Ev.pos h51 (Ev.neg (by simp) ?_))
    rw [e2]
    cases is with
    | false => exact Ev.neg (by simp) (by simpa using hk)
    | true =>
      refine Ev.pos rfl (Ev.pos hl0 (Ev.pos hl1 ?_))
      cases ho : out.getD left.toNat false with
      | true => exact Ev.pos rfl (by rw [ho] at hk; simpa using hk)
      | false => exact Ev.neg (by simp) (by rw [ho] at hk; simpa using hk)
  | x :: l, pre, is, e, hok, h3, hk => by
    simp only [List.length_cons] at h3
    simp only [List.all_cons, Bool.and_eq_true] at hok
    have ih := fun is => refUseful_l2_ev l0 l1 a2 a3 l4 out more x5 left hl0 hl1 h50 h51 r l (pre ++ [x]) is (by rw [List.append_assoc]; exact e) hok.2 (by simp; omega)
    simp only [← wrap_next pre _ (show pre.length ≤ 1000000 by omega)] at ih
    rw [any_step] at hk
    have e1 : rd_T49 (pre ++ x :: l) (pre.length : Int) = x := getD_mid _ pre x l _ rfl
    refine Ev.step (fun k => by rw [regletref13_Useful.l2]) ?_
    rw [e]
    simp only [e1]
    refine Ev.pos h50 (Ev.pos h51 (Ev.pos (by simp; omega) (Ev.pos (by omega) ?_)))
    cases is with
    | false => exact Ev.neg (by simp) (ih false (by rw [Bool.false_and] at hk; exact hk))
    | true =>
      refine Ev.pos rfl ?_
      have hb := hok.1
      cases hx : x.f0 with
      | true =>
        have ho : oddP true out x = false := by simp [oddP, hx]
        rw [ho] at hk
        exact Ev.pos rfl (ih true hk)
      | false =>
        have hb := okSym_rule hok.1 hx
        have ho : (true && !oddP true out x) = rdOf false out x.f1 := by simp [oddP, hx]
        rw [ho] at hk
        exact Ev.neg (by simp) (Ev.pos hb.1 (Ev.pos hb.2 (ih _ hk)))
theorem refUseful_l1_ev (l0 : List ByteArray) (l1 : List Tok) (a2 a3 : Int) (r : List Bool) : ∀ (qs pre : List Prod) (out : List Bool) (more : Bool), out.length = l0.length → qs.all (okProd l0.length l1.length) = true → pre.length + qs.length ≤ 1000000 → (∀ p ∈ qs, p.f1.length ≤ 1000000) → Ev (fun k => regletref13_Useful.l0 k (gIn (cStep true) qs more out).2 (gIn (cStep true) qs more out).1 l0 l1 a2 a3 (pre ++ qs)) r → Ev (fun k => regletref13_Useful.l1 k out more (pre.length : Int) l0 l1 a2 a3 (pre ++ qs)) r
  | [], pre, out, more, _, _, _, _, hk => Ev.step (fun k => by rw [regletref13_Useful.l1]) (Ev.neg (by simp) (by simpa [gIn] using hk))
  | p :: qs, pre, out, more, ho, hok, h3, h4, hk => by
    simp only [List.length_cons] at h3
    simp only [List.all_cons, Bool.and_eq_true] at hok
    have ih := fun out more ho => refUseful_l1_ev l0 l1 a2 a3 r qs (pre ++ [p]) out more ho hok.2 (by simp; omega) (fun p hp => h4 p (List.mem_cons_of_mem _ hp))
    simp only [← wrap_next pre _ (show pre.length ≤ 1000000 by omega), List.append_assoc, List.singleton_append] at ih
    refine Ev.step (fun k => by rw [regletref13_Useful.l1]) (Ev.pos (by simp; omega) ?_)
    have hl := okProd_left hok.1
    have e : rd_T34 (pre ++ p :: qs) (pre.length : Int) = ⟨p.f0, [] ++ p.f1⟩ := getD_mid _ pre p qs _ rfl
    have h := refUseful_l2_ev l0 l1 a2 a3 (pre ++ p :: qs) out more (pre.length : Int) p.f0 hl.1 (by omega) (by omega) (by simp; omega) r p.f1 [] true e (by rw [ho]; exact okProd_right hok.1) (by have := h4 p List.mem_cons_self; simpa using this)
    refine h ?_
    rw [gIn] at hk
    have hlen : (cStep true out p).2.length = l0.length := by unfold cStep; simp only; split <;> simp [ho]
    have h2 := ih _ _ hlen hk
    have e2 : ((true && !(p.f1.any (oddP true out))) && !(out.getD p.f0.toNat false)) = cNew true out p := by simp [cNew]
    rw [e2]
    exact h2
theorem refUseful_l0_ev (l0 : List ByteArray) (l1 : List Tok) (a2 a3 : Int) (l4 : List Prod) (hs : Small l4) (hok : l4.all (okProd l0.length l1.length) = true) : ∀ (n : Nat) (out : List Bool), out.length = l0.length → cf out ≤ n → Ev (fun k => regletref13_Useful.l0 k out true l0 l1 a2 a3 l4) (gOut (cStep true) l4 n out)
  | n, out, ho, hn => by
    obtain ⟨h1, h2, h3⟩ := gIn_good (cStep_good l0.length l1.length true hok) false out ho
    refine Ev.step (fun k => by rw [regletref13_Useful.l0]) (Ev.pos rfl ?_)
    have h := refUseful_l1_ev l0 l1 a2 a3 (gOut (cStep true) l4 n out) l4 [] out false ho hok (by have := hs.1; simpa using this) hs.2
    simp only [List.nil_append, List.length_nil, Int.natCast_zero] at h
    refine h ?_
    cases hr : (gIn (cStep true) l4 false out).1 with
    | false =>
      refine Ev.step (fun k => by rw [regletref13_Useful.l0]) (Ev.neg (by simp) (Ev.some ?_))
      cases n <;> simp [gOut, hr]
    | true =>
      have hlt := (h3 hr).resolve_left (by simp)
      cases n with
      | zero => omega
      | succ n =>
        refine Ev.val (refUseful_l0_ev l0 l1 a2 a3 l4 hs hok n _ h1 (by omega)) ?_
        rw [gOut, if_pos hr]
theorem refUseful_ev (l0 : List ByteArray) (l1 : List Tok) (a2 a3 : Int) (l4 : List Prod) (h : Small l4) (hn : l0.length ≤ 1000000) : Ev (fun k => regletref13_Useful.f k l0 l1 a2 a3 l4) (if l4.all (okProd l0.length l1.length) = true then clo true l0.length l4 else []) := by
  refine Ev.congr (fun k => by rw [regletref13_Useful.f]) (Ev.bind (refRight_ev l0 l1 a2 a3 l4 h) ?_)
  cases hr : l4.all (okProd l0.length l1.length) with
  | false => exact Ev.neg (by simp) (Ev.some (by simp))
  | true =>
    rw [if_pos rfl]
    refine Ev.pos rfl (Ev.pos (by omega) (Ev.pos (by omega) ?_))
    rw [Int.toNat_natCast]
    exact refUseful_l0_ev l0 l1 a2 a3 l4 h hr _ _ (by simp) (Nat.le_refl _)
end Go.Proofs.Ytojdjjbkpbapfaa.M
end

section
namespace Go.Proofs.Ytojdjjbkpbapfaa.M
open Go.RowKit Go.Proofs.YtojdjjbkpbapfaaW.PrintWords Go.Proofs.YtojdjjbkpbapfaaW.PrintLast Go.Proofs.YtojdjjbkpbapfaaW.PrintMore Go.Proofs.Ytojdjjbkpbapfaa.P Go.Proofs.Ytojdjjbkpbapfaa.H
set_option linter.unusedVariables false
set_option linter.unusedSimpArgs false
def rows0 (nn nt : Nat) : List (List Bool) := List.replicate nn (none0 nt)
theorem rows0_sh (nn nt : Nat) : Sh nn nt (rows0 nn nt) := ⟨by simp [rows0], fun r hr => by rw [List.eq_of_mem_replicate hr]; simp [none0]⟩
theorem marks_l0_ev (l0 : List ByteArray) (l1 : List Tok) (a2 a3 : Int) (l4 : List Prod) (h0 : l0.length ≤ 1000000) (h1 : l1.length ≤ 1000000) : ∀ (n : Nat) (out : List (List Bool)), out.length + n = l0.length → Ev (fun k => regletref13_marks.l0 k out (out.length : Int) l0 l1 a2 a3 l4) (out ++ rows0 n l1.length)
  | 0, out, h => Ev.step (fun k => by rw [regletref13_marks.l0]) (Ev.neg (by omega) (Ev.some (by simp [rows0])))
  | n + 1, out, h => by
    have ih := marks_l0_ev l0 l1 a2 a3 l4 h0 h1 n (out ++ [none0 l1.length]) (by simp; omega)
    rw [← wrap_next out _ (show out.length ≤ 1000000 by omega)] at ih
    have e : wrap64 ((l1.length : Int) + 1) = ((l1.length + 1 : Nat) : Int) := by rw [wrap64_id (by omega) (by omega)]; simp
    refine Ev.step (fun k => by rw [regletref13_marks.l0, e]) (Ev.pos (by omega) (Ev.pos (by omega) (Ev.pos (by omega) (Ev.pos (by omega) ?_))))
    rw [Int.toNat_natCast]
    exact Ev.val ih (by simp [rows0, List.replicate_succ])
theorem marks_ev (l0 : List ByteArray) (l1 : List Tok) (a2 a3 : Int) (l4 : List Prod) (h0 : l0.length ≤ 1000000) (h1 : l1.length ≤ 1000000) : Ev (fun k => regletref13_marks.f k l0 l1 a2 a3 l4) (rows0 l0.length l1.length) :=
  Ev.congr (fun k => by rw [regletref13_marks.f]) (by simpa using marks_l0_ev l0 l1 a2 a3 l4 h0 h1 l0.length [] (by simp))
def sStep (nt : Nat) (em : List Bool) (m : List (List Bool)) (p : Prod) : Bool × List (List Bool) :=
  (moreL (m.getD p.f0.toNat []) (bg em m p.f1 (none0 nt)).1, m.set p.f0.toNat (orL (m.getD p.f0.toNat []) (bg em m p.f1 (none0 nt)).1))
theorem none0_length (nt : Nat) : (none0 nt).length = nt + 1 := by simp [none0]
theorem row_step {nn nt : Nat} {m : List (List Bool)} (hs : Sh nn nt m) {i : Nat} (hi : i < nn) {b : List Bool} (hb : b.length = nt + 1) : Sh nn nt (m.set i (orL (m.getD i []) b)) ∧ cfs (m.set i (orL (m.getD i []) b)) ≤ cfs m ∧ (moreL (m.getD i []) b = true → cfs (m.set i (orL (m.getD i []) b)) < cfs m) := by
  have hr := hs.get hi
  have h1 := cf_orL (m.getD i []) b (by rw [hr, hb])
  have h2 := cfs_set m i (orL (m.getD i []) b) (by rw [hs.1]; exact hi) h1.1
  exact ⟨hs.set i (by rw [orL_length (by rw [hr, hb]), hr]), h2.1, fun h => h2.2 (h1.2 h)⟩
theorem sStep_good {nn nt : Nat} (em : List Bool) {ps : List Prod} (hps : ps.all (okProd nn nt) = true) : Good (Sh nn nt) cfs (sStep nt em) ps := by
  intro st p hI hp
  have hok := List.all_eq_true.1 hps p hp
  have hl := okProd_left hok
  exact row_step hI (by omega) (bg_length em hI p.f1 _ (okProd_right hok) (none0_length nt))
def fst (nn nt : Nat) (em : List Bool) (ps : List Prod) : List (List Bool) := gOut (sStep nt em) ps (cfs (rows0 nn nt)) (rows0 nn nt)
theorem fst_sh (nn nt : Nat) (em : List Bool) {ps : List Prod} (hps : ps.all (okProd nn nt) = true) : Sh nn nt (fst nn nt em ps) :=
  gOut_I (sStep_good em hps) _ _ (rows0_sh nn nt)
theorem studiedStep_ev {nn nt : Nat} {em : List Bool} (he : em.length = nn) (hnt : nt ≤ 1000) {m : List (List Bool)} (hs : Sh nn nt m) {p : Prod} (hok : okProd nn nt p = true) (h3 : p.f1.length ≤ 1000000) : Ev (fun k => studiedStep k nt em m p) (sStep nt em m p) := by
  have hl := okProd_left hok
  have hs1 := hs.1
  have hb := bg_length em hs p.f1 _ (okProd_right hok) (none0_length nt)
  have hr := hs.get (i := p.f0.toNat) (by omega)
  refine Ev.congr (fun k => by rw [studiedStep]) (Ev.bind (begins_ev hs he hnt p.f1 (okProd_right hok) h3) ?_)
  refine Ev.pos hl.1 (Ev.pos (by omega) ?_)
  exact Ev.bind (add_ev (m.getD p.f0.toNat []) (bg em m p.f1 (none0 nt)).1 (by rw [hr, hb]) (by omega)) (Ev.some rfl)
theorem studied_ev (l0 : List ByteArray) (l1 : List Tok) (a2 a3 : Int) (l4 : List Prod) (h : Small l4) (h0 : l0.length ≤ 1000000) (h1 : l1.length ≤ 1000) (hok : l4.all (okProd l0.length l1.length) = true) : Ev (fun k => studied_f k l0 l1 a2 a3 l4) (clo false l0.length l4, fst l0.length l1.length (clo false l0.length l4) l4) := by
  refine Ev.congr (fun k => by rw [studied_f, if_pos ⟨by omega, by omega, by have := h.1; omega⟩]) (Ev.bind (Ev.val (empty_ev l0 l1 a2 a3 l4 h h0) (if_pos hok)) ?_)
  have he := clo_length l0.length l1.length false hok
  refine Ev.bind (growOut_ev (sStep_good _ hok) (fun k => studiedStep k l1.length (clo false l0.length l4)) (fun st p hI hp => studiedStep_ev he h1 hI (List.all_eq_true.1 hok p hp) (h.2 p hp)) _ _ (rows0_sh l0.length l1.length) (Nat.le_refl _)) (Ev.some rfl)
theorem refFirst_l1_ev (l0 : List ByteArray) (l1 : List Tok) (a2 a3 : Int) (em : List Bool) (he : em.length = l0.length) (h1 : l1.length ≤ 1000) : ∀ (qs pre : List Prod) (m : List (List Bool)) (more : Bool), Sh l0.length l1.length m → qs.all (okProd l0.length l1.length) = true → pre.length + qs.length ≤ 1000000 → (∀ p ∈ qs, p.f1.length ≤ 1000000) → Ev (fun k => regletref13_first.l1 l0 l1 a2 a3 (pre ++ qs) k m em more (pre.length : Int)) (gIn (sStep l1.length em) qs more m)
  | [], pre, m, more, _, _, _, _ => Ev.step (fun k => by rw [regletref13_first.l1]) (Ev.neg (by simp) (Ev.some (by simp [gIn])))
  | p :: qs, pre, m, more, hs, hok, h3, h4 => by
    simp only [List.length_cons] at h3
    simp only [List.all_cons, Bool.and_eq_true] at hok
    have ih := fun m more hs => refFirst_l1_ev l0 l1 a2 a3 em he h1 qs (pre ++ [p]) m more hs hok.2 (by simp; omega) (fun p hp => h4 p (List.mem_cons_of_mem _ hp))
    simp only [← wrap_next pre _ (show pre.length ≤ 1000000 by omega), List.append_assoc, List.singleton_append] at ih
    have hl := okProd_left hok.1
    have hs1 := hs.1
    have hb := bg_length em hs p.f1 _ (okProd_right hok.1) (none0_length l1.length)
    have hr := hs.get (i := p.f0.toNat) (by omega)
    have hg := (sStep_good em (ps := [p]) (by simp [hok.1])) m p hs (by simp)
    have e : rd_T34 (pre ++ p :: qs) (pre.length : Int) = p := getD_mid _ pre p qs _ rfl
    refine Ev.step (fun k => by rw [regletref13_first.l1]) ?_
    rw [e]
    refine Ev.pos (by simp; omega) (Ev.pos (by omega) (Ev.bind (refBegins_ev l0 l1 a2 a3 _ hs he h1 p.f1 (okProd_right hok.1) (h4 p List.mem_cons_self)) (Ev.pos hl.1 (Ev.pos (by omega) (Ev.bind (join_ev (m.getD p.f0.toNat []) (bg em m p.f1 (none0 l1.length)).1 (by rw [hr, hb]) (by omega)) ?_)))))
    refine Ev.val (ih _ _ hg.1) ?_
    rw [gIn]
    congr 1
    show (if (sStep l1.length em m p).1 = true then true else more) = _
    cases (sStep l1.length em m p).1 <;> rfl
theorem refFirst_l0_ev (l0 : List ByteArray) (l1 : List Tok) (a2 a3 : Int) (l4 : List Prod) (h : Small l4) (em : List Bool) (he : em.length = l0.length) (h1 : l1.length ≤ 1000) (hok : l4.all (okProd l0.length l1.length) = true) : ∀ (n : Nat) (m : List (List Bool)), Sh l0.length l1.length m → cfs m ≤ n → Ev (fun k => regletref13_first.l0 l0 l1 a2 a3 l4 k m em true) (gOut (sStep l1.length em) l4 n m)
  | n, m, hs, hn => by
    obtain ⟨g1, g2, g3⟩ := gIn_good (sStep_good em hok) false m hs
    have h5 := refFirst_l1_ev l0 l1 a2 a3 em he h1 l4 [] m false hs hok (by have := h.1; simpa using this) h.2
    simp only [List.nil_append, List.length_nil, Int.natCast_zero] at h5
    refine Ev.step (fun k => by rw [regletref13_first.l0]) (Ev.pos rfl (Ev.bind h5 ?_))
    cases hr : (gIn (sStep l1.length em) l4 false m).1 with
    | false =>
      refine Ev.step (fun k => by rw [regletref13_first.l0]) (Ev.neg (by simp) (Ev.some ?_))
      cases n <;> simp [gOut, hr]
    | true =>
      have hlt := (g3 hr).resolve_left (by simp)
      cases n with
      | zero => omega
      | succ n =>
        refine Ev.val (refFirst_l0_ev l0 l1 a2 a3 l4 h em he h1 hok n _ g1 (by omega)) ?_
        rw [gOut, if_pos hr]
theorem refFirst_ev (l0 : List ByteArray) (l1 : List Tok) (a2 a3 : Int) (l4 : List Prod) (h : Small l4) (h0 : l0.length ≤ 1000000) (h1 : l1.length ≤ 1000) (hok : l4.all (okProd l0.length l1.length) = true) : Ev (fun k => regletref13_first.f k l0 l1 a2 a3 l4) (fst l0.length l1.length (clo false l0.length l4) l4) := by
  refine Ev.congr (fun k => by rw [regletref13_first.f]) (Ev.bind (marks_ev l0 l1 a2 a3 l4 h0 (by omega)) (Ev.bind (Ev.val (refEmpty_ev l0 l1 a2 a3 l4 h h0) (if_pos hok)) ?_))
  exact refFirst_l0_ev l0 l1 a2 a3 l4 h _ (clo_length l0.length l1.length false hok) h1 hok _ _ (rows0_sh l0.length l1.length) (Nat.le_refl _)
theorem or_self : ∀ a : List Bool, orL a a = a
  | [] => rfl
  | x :: a => by show (x || x) :: orL a a = x :: a; rw [or_self a, Bool.or_self]
theorem more_self : ∀ a : List Bool, moreL a a = false
  | [] => rfl
  | x :: a => by show ((x && !x) || moreL a a) = false; rw [more_self a]; cases x <;> rfl
theorem or_three : ∀ (a b c : List Bool), a.length = b.length → b.length = c.length → orL a (orL b c) = orL (orL a b) c ∧ moreL a (orL b c) = (moreL (orL a b) c || moreL a b)
  | [], [], [], _, _ => ⟨rfl, rfl⟩
  | x :: a, y :: b, z :: c, h1, h2 => by
    obtain ⟨h3, h4⟩ := or_three a b c (by simpa using h1) (by simpa using h2)
    constructor
    · show (x || (y || z)) :: orL a (orL b c) = (x || y || z) :: orL (orL a b) c
      rw [h3, Bool.or_assoc]
    · show (((y || z) && !x) || moreL a (orL b c)) = (((z && !(x || y)) || moreL (orL a b) c) || ((y && !x) || moreL a b))
      rw [h4]
      cases x <;> cases y <;> cases z <;> simp
theorem or_back : ∀ (a b : List Bool), a.length = b.length → orL a (orL b a) = orL a b ∧ moreL a (orL b a) = moreL a b
  | [], [], _ => ⟨rfl, rfl⟩
  | x :: a, y :: b, h1 => by
    obtain ⟨h3, h4⟩ := or_back a b (by simpa using h1)
    constructor
    · show (x || (y || x)) :: orL a (orL b a) = (x || y) :: orL a b
      rw [h3]; cases x <;> cases y <;> rfl
    · show (((y || x) && !x) || moreL a (orL b a)) = ((y && !x) || moreL a b)
      rw [h4]; cases x <;> cases y <;> rfl
def fAdd (nt : Nat) (em : List Bool) (first : List (List Bool)) (left : Nat) (ys : List Sym) (out : List (List Bool)) : List Bool :=
  if (bg em first ys (none0 nt)).2 = true then orL (bg em first ys (none0 nt)).1 (out.getD left []) else (bg em first ys (none0 nt)).1
def fIn (nt : Nat) (em : List Bool) (first : List (List Bool)) (left : Nat) : List Sym → Bool → List (List Bool) → Bool × List (List Bool)
  | [], g, out => (g, out)
  | y :: ys, g, out => if y.f0 = true then fIn nt em first left ys g out else
    fIn nt em first left ys (moreL (out.getD y.f1.toNat []) (fAdd nt em first left ys out) || g) (out.set y.f1.toNat (orL (out.getD y.f1.toNat []) (fAdd nt em first left ys out)))
def fStep (nt : Nat) (em : List Bool) (first : List (List Bool)) (out : List (List Bool)) (p : Prod) : Bool × List (List Bool) := fIn nt em first p.f0.toNat p.f1 false out
theorem fAdd_length {nn nt : Nat} (em : List Bool) {first out : List (List Bool)} (hf : Sh nn nt first) (hs : Sh nn nt out) {left : Nat} (hl : left < nn) {ys : List Sym} (hok : ys.all (okSym nn nt) = true) : (fAdd nt em first left ys out).length = nt + 1 := by
  have hb := bg_length em hf ys _ hok (none0_length nt)
  unfold fAdd
  split
  · rw [orL_length (by rw [hb, hs.get hl]), hb]
  · exact hb
theorem fIn_good {nn nt : Nat} (em : List Bool) {first : List (List Bool)} (hf : Sh nn nt first) {left : Nat} (hl : left < nn) : ∀ (ys : List Sym) (g : Bool) (out : List (List Bool)), ys.all (okSym nn nt) = true → Sh nn nt out → Sh nn nt (fIn nt em first left ys g out).2 ∧ cfs (fIn nt em first left ys g out).2 ≤ cfs out ∧ ((fIn nt em first left ys g out).1 = true → g = true ∨ cfs (fIn nt em first left ys g out).2 < cfs out)
  | [], g, out, _, hs => ⟨hs, Nat.le_refl _, fun h => .inl h⟩
  | y :: ys, g, out, hok, hs => by
    simp only [List.all_cons, Bool.and_eq_true] at hok
    unfold fIn
    cases hy : y.f0 with
    | true => rw [if_pos rfl]; exact fIn_good em hf hl ys g out hok.2 hs
    | false =>
      rw [if_neg (by simp)]
      have hb := okSym_rule hok.1 hy
      obtain ⟨h1, h2, h3⟩ := row_step hs (i := y.f1.toNat) (by omega) (fAdd_length em hf hs hl hok.2)
      obtain ⟨h4, h5, h6⟩ := fIn_good em hf hl ys (moreL (out.getD y.f1.toNat []) (fAdd nt em first left ys out) || g) _ hok.2 h1
      refine ⟨h4, Nat.le_trans h5 h2, fun h => ?_⟩
      rcases h6 h with h7 | h7
      · rcases (Bool.or_eq_true _ _).mp h7 with h8 | h8
        · exact .inr (Nat.lt_of_le_of_lt h5 (h3 h8))
        · exact .inl h8
      · exact .inr (Nat.lt_of_lt_of_le h7 h2)
theorem fStep_good {nn nt : Nat} (em : List Bool) {first : List (List Bool)} (hf : Sh nn nt first) {ps : List Prod} (hps : ps.all (okProd nn nt) = true) : Good (Sh nn nt) cfs (fStep nt em first) ps := by
  intro st p hI hp
  have hok := List.all_eq_true.1 hps p hp
  have hl := okProd_left hok
  obtain ⟨h1, h2, h3⟩ := fIn_good em hf (left := p.f0.toNat) (by omega) p.f1 false st (okProd_right hok) hI
  exact ⟨h1, h2, fun h => (h3 h).resolve_left (by simp)⟩
theorem followAdd_ev {nn nt : Nat} (hnt : nt ≤ 1000) {out : List (List Bool)} (hs : Sh nn nt out) {n : Int} (h0 : 0 ≤ n) (h1 : n < (nn : Int)) {l : List Bool} (hl : l.length = nt + 1) : Ev (fun k => followAdd k n l out) (moreL (out.getD n.toNat []) l, out.set n.toNat (orL (out.getD n.toNat []) l)) := by
  have hr := hs.get (i := n.toNat) (by omega)
  have hs1 := hs.1
  exact Ev.congr (fun k => by rw [followAdd]) (Ev.pos h0 (Ev.pos (by omega) (Ev.bind (add_ev _ _ (by rw [hr, hl]) (by omega)) (Ev.some rfl))))
theorem followIn_ev {nn nt : Nat} {em : List Bool} (he : em.length = nn) (hnt : nt ≤ 1000) {first : List (List Bool)} (hf : Sh nn nt first) {left : Int} (hl0 : 0 ≤ left) (hl1 : left < (nn : Int)) : ∀ (ys : List Sym) (g : Bool) (out : List (List Bool)), ys.all (okSym nn nt) = true → ys.length ≤ 1000000 → Sh nn nt out → Ev (fun k => followIn k nt em first left ys g out) (fIn nt em first left.toNat ys g out)
  | [], g, out, _, _, hs => Ev.congr (fun k => by rw [followIn]) (Ev.some (by rw [fIn]))
  | y :: ys, g, out, hok, h3, hs => by
    simp only [List.all_cons, Bool.and_eq_true] at hok
    simp only [List.length_cons] at h3
    refine Ev.congr (fun k => by rw [followIn]) ?_
    unfold fIn
    cases hy : y.f0 with
    | true => rw [if_pos rfl]; exact Ev.pos rfl (followIn_ev he hnt hf hl0 hl1 ys g out hok.2 (by omega) hs)
    | false =>
      rw [if_neg (by simp)]
      have hb := okSym_rule hok.1 hy
      have hbl := bg_length em hf ys _ hok.2 (none0_length nt)
      have hn : y.f1.toNat < nn := by omega
      have hrow := hs.get hn
      obtain ⟨h1, _, _⟩ := row_step hs hn hbl
      obtain ⟨h1a, _, _⟩ := row_step hs hn (fAdd_length em hf hs (left := left.toNat) (by omega) hok.2)
      refine Ev.neg (by simp) (Ev.bind (begins_ev hf he hnt ys hok.2 (by omega)) (Ev.bind (followAdd_ev hnt hs hb.1 hb.2 hbl) ?_))
      cases hem : (bg em first ys (none0 nt)).2 with
      | false =>
        have e : fAdd nt em first left.toNat ys out = (bg em first ys (none0 nt)).1 := by rw [fAdd, hem, if_neg (by simp)]
        rw [e] at h1a ⊢
        exact Ev.neg (by simp) (followIn_ev he hnt hf hl0 hl1 ys _ _ hok.2 (by omega) h1a)
      | true =>
        have e : fAdd nt em first left.toNat ys out = orL (bg em first ys (none0 nt)).1 (out.getD left.toNat []) := by rw [fAdd, hem, if_pos rfl]
        rw [e] at h1a ⊢
        have hs1 := h1.1
        have hlr := hs.get (i := left.toNat) (by omega)
        have hlr2 := h1.get (i := left.toNat) (by omega)
        refine Ev.pos rfl (Ev.pos hl0 (Ev.pos (by simp only; rw [hs1]; exact hl1) (Ev.bind (followAdd_ev hnt h1 hb.1 hb.2 hlr2) ?_)))
        have hrow2 : (out.set y.f1.toNat (orL (out.getD y.f1.toNat []) (bg em first ys (none0 nt)).1)).getD y.f1.toNat [] = orL (out.getD y.f1.toNat []) (bg em first ys (none0 nt)).1 := by
          rw [List.getD_eq_getElem?_getD, List.getElem?_set_self (by rw [hs.1]; exact hn)]; rfl
        by_cases hyl : y.f1.toNat = left.toNat
        · rw [← hyl] at h1a ⊢
          dsimp only
          rw [hrow2, or_self, more_self, List.set_set]
          obtain ⟨e1, e2⟩ := or_back (out.getD y.f1.toNat []) (bg em first ys (none0 nt)).1 (by rw [hrow, hbl])
          rw [e1] at h1a ⊢
          rw [e2]
          have hres := followIn_ev he hnt hf hl0 hl1 ys (moreL (out.getD y.f1.toNat []) (bg em first ys (none0 nt)).1 || g) _ hok.2 (by omega) h1a
          rw [← hyl] at hres
          rw [Bool.false_or]
          exact hres
        · have hl2 : (out.set y.f1.toNat (orL (out.getD y.f1.toNat []) (bg em first ys (none0 nt)).1)).getD left.toNat [] = out.getD left.toNat [] := by
            rw [List.getD_eq_getElem?_getD, List.getElem?_set_ne hyl, List.getD_eq_getElem?_getD]
          dsimp only
          rw [hrow2, hl2, List.set_set]
          obtain ⟨e1, e2⟩ := or_three (out.getD y.f1.toNat []) (bg em first ys (none0 nt)).1 (out.getD left.toNat []) (by rw [hrow, hbl]) (by rw [hlr, hbl])
          rw [e1] at h1a ⊢
          rw [e2, Bool.or_assoc]
          exact followIn_ev he hnt hf hl0 hl1 ys _ _ hok.2 (by omega) h1a
end Go.Proofs.Ytojdjjbkpbapfaa.M
end

section
namespace Go.Proofs.Ytojdjjbkpbapfaa.M
open Go.RowKit Go.Proofs.YtojdjjbkpbapfaaW.PrintWords Go.Proofs.YtojdjjbkpbapfaaW.PrintLast Go.Proofs.YtojdjjbkpbapfaaW.PrintMore Go.Proofs.Ytojdjjbkpbapfaa.P Go.Proofs.Ytojdjjbkpbapfaa.H
set_option linter.unusedVariables false
set_option linter.unusedSimpArgs false
def fol0 (nn nt : Nat) : List (List Bool) := if 0 < nn then (rows0 nn nt).set 0 ((none0 nt).set nt true) else []
theorem fol0_sh (nn nt : Nat) : Sh nn nt (fol0 nn nt) := by
  unfold fol0
  split
  · exact (rows0_sh nn nt).set 0 (by simp [none0_length])
  · obtain rfl : nn = 0 := by omega
    exact ⟨rfl, fun r hr => by simp at hr⟩
def fol (nn nt : Nat) (em : List Bool) (first : List (List Bool)) (ps : List Prod) : List (List Bool) := gOut (fStep nt em first) ps (cfs (fol0 nn nt)) (fol0 nn nt)
theorem fol_sh {nn nt : Nat} (em : List Bool) {first : List (List Bool)} (hf : Sh nn nt first) {ps : List Prod} (hps : ps.all (okProd nn nt) = true) : Sh nn nt (fol nn nt em first ps) :=
  gOut_I (fStep_good em hf hps) _ _ (fol0_sh nn nt)
theorem refFollowIn_ev (l0 : List ByteArray) (l1 : List Tok) (a2 a3 : Int) (l4 : List Prod) {em : List Bool} (he : em.length = l0.length) (hnt : l1.length ≤ 1000) {first : List (List Bool)} (hf : Sh l0.length l1.length first) {left : Int} (hl0 : 0 ≤ left) (hl1 : left < (l0.length : Int)) : ∀ (ys : List Sym) (g : Bool) (out : List (List Bool)), ys.all (okSym l0.length l1.length) = true → ys.length ≤ 1000000 → Sh l0.length l1.length out → Ev (fun k => rFollowIn k l0 l1 a2 a3 l4 first em left ys g out) (fIn l1.length em first left.toNat ys g out)
  | [], g, out, _, _, hs => Ev.congr (fun k => by rw [rFollowIn]) (Ev.some (by rw [fIn]))
  | y :: ys, g, out, hok, h3, hs => by
    simp only [List.all_cons, Bool.and_eq_true] at hok
    simp only [List.length_cons] at h3
    refine Ev.congr (fun k => by rw [rFollowIn]) ?_
    unfold fIn
    cases hy : y.f0 with
    | true => rw [if_pos rfl]; exact Ev.pos rfl (refFollowIn_ev l0 l1 a2 a3 l4 he hnt hf hl0 hl1 ys g out hok.2 (by omega) hs)
    | false =>
      rw [if_neg (by simp)]
      have hb := okSym_rule hok.1 hy
      have hbl := bg_length em hf ys _ hok.2 (none0_length l1.length)
      have hn : y.f1.toNat < l0.length := by omega
      have hrow := hs.get hn
      have hs1 := hs.1
      have hfl := fAdd_length em hf hs (left := left.toNat) (by omega) hok.2
      obtain ⟨h1a, _, _⟩ := row_step hs hn hfl
      have hlr := hs.get (i := left.toNat) (by omega)
      refine Ev.neg (by simp) (Ev.bind (refBegins_ev l0 l1 a2 a3 l4 hf he hnt ys hok.2 (by omega)) ?_)
      refine Ev.bind (a := fAdd l1.length em first left.toNat ys out) ?_ ?_
      · refine Ev.congr (fun k => by rw [rJoinFrom]) ?_
        unfold fAdd
        cases hem : (bg em first ys (none0 l1.length)).2 with
        | false => exact Ev.neg (by simp) (Ev.some (by simp))
        | true =>
          refine Ev.pos rfl (Ev.pos hl0 (Ev.pos (by omega) ?_))
          exact Ev.bind (join_ev _ _ (by rw [hbl, hlr]) (by omega)) (Ev.some (by simp))
      · refine Ev.bind (a := (moreL (out.getD y.f1.toNat []) (fAdd l1.length em first left.toNat ys out), out.set y.f1.toNat (orL (out.getD y.f1.toNat []) (fAdd l1.length em first left.toNat ys out)))) ?_ ?_
        · refine Ev.congr (fun k => by rw [rJoinRow]) (Ev.pos hb.1 (Ev.pos (by omega) ?_))
          exact Ev.bind (join_ev _ _ (by rw [hrow, hfl]) (by omega)) (Ev.some rfl)
        · refine Ev.val (refFollowIn_ev l0 l1 a2 a3 l4 he hnt hf hl0 hl1 ys _ _ hok.2 (by omega) h1a) ?_
          congr 1
          cases moreL (out.getD y.f1.toNat []) (fAdd l1.length em first left.toNat ys out) <;> rfl
theorem fIn_more (nt : Nat) (em : List Bool) (first : List (List Bool)) (left : Nat) : ∀ (ys : List Sym) (g : Bool) (out : List (List Bool)), fIn nt em first left ys g out = ((fIn nt em first left ys false out).1 || g, (fIn nt em first left ys false out).2)
  | [], g, out => by simp [fIn]
  | y :: ys, g, out => by
    unfold fIn
    split
    · exact fIn_more nt em first left ys g out
    · rw [fIn_more nt em first left ys (_ || g), fIn_more nt em first left ys (_ || false)]
      simp [Bool.or_assoc]
theorem refFollowPs_ev (l0 : List ByteArray) (l1 : List Tok) (a2 a3 : Int) (l4 : List Prod) {em : List Bool} (he : em.length = l0.length) (hnt : l1.length ≤ 1000) {first : List (List Bool)} (hf : Sh l0.length l1.length first) : ∀ (qs : List Prod) (g : Bool) (out : List (List Bool)), qs.all (okProd l0.length l1.length) = true → (∀ p ∈ qs, p.f1.length ≤ 1000000) → Sh l0.length l1.length out → Ev (fun k => rFollowPs k l0 l1 a2 a3 l4 first em qs g out) (gIn (fStep l1.length em first) qs g out)
  | [], g, out, _, _, hs => Ev.congr (fun k => by rw [rFollowPs]) (Ev.some (by rw [gIn]))
  | p :: qs, g, out, hok, h3, hs => by
    simp only [List.all_cons, Bool.and_eq_true] at hok
    have hl := okProd_left hok.1
    have hg := fIn_good em hf (left := p.f0.toNat) (by omega) p.f1 g out (okProd_right hok.1) hs
    refine Ev.congr (fun k => by rw [rFollowPs]) (Ev.bind (refFollowIn_ev l0 l1 a2 a3 l4 he hnt hf hl.1 hl.2 p.f1 g out (okProd_right hok.1) (h3 p List.mem_cons_self) hs) ?_)
    refine Ev.val (refFollowPs_ev l0 l1 a2 a3 l4 he hnt hf qs _ _ hok.2 (fun p hp => h3 p (List.mem_cons_of_mem _ hp)) hg.1) ?_
    rw [gIn, fStep, fIn_more]
theorem refFollowOut_ev (l0 : List ByteArray) (l1 : List Tok) (a2 a3 : Int) (l4 : List Prod) (h : Small l4) {em : List Bool} (he : em.length = l0.length) (hnt : l1.length ≤ 1000) {first : List (List Bool)} (hf : Sh l0.length l1.length first) (hok : l4.all (okProd l0.length l1.length) = true) : ∀ (n : Nat) (out : List (List Bool)), Sh l0.length l1.length out → cfs out ≤ n → ∃ K, ∀ kk, K ≤ kk → ∀ k, K ≤ k → rFollowOut kk l0 l1 a2 a3 l4 first em k out true = some (gOut (fStep l1.length em first) l4 n out)
  | n, out, hs, hn => by
    obtain ⟨g1, g2, g3⟩ := gIn_good (fStep_good em hf hok) false out hs
    obtain ⟨K1, hK1⟩ := refFollowPs_ev l0 l1 a2 a3 l4 he hnt hf l4 false out hok h.2 hs
    have hK1' : ∀ k, K1 ≤ k → rFollowPs k l0 l1 a2 a3 l4 first em l4 false out = some (gIn (fStep l1.length em first) l4 false out) := hK1
    cases hr : (gIn (fStep l1.length em first) l4 false out).1 with
    | false =>
      refine ⟨K1 + 2, fun kk hkk k hk => ?_⟩
      obtain ⟨k', rfl⟩ : ∃ k', k = k' + 2 := ⟨k - 2, by omega⟩
      rw [rFollowOut, if_pos rfl, hK1' kk (by omega)]
      simp only [Option.bind_some, hr]
      rw [rFollowOut, if_neg (by simp)]
      cases n <;> simp [gOut, hr]
    | true =>
      have hlt := (g3 hr).resolve_left (by simp)
      cases n with
      | zero => omega
      | succ n =>
        obtain ⟨K2, hK2⟩ := refFollowOut_ev l0 l1 a2 a3 l4 h he hnt hf hok n _ g1 (by omega)
        refine ⟨max K1 K2 + 1, fun kk hkk k hk => ?_⟩
        obtain ⟨k', rfl⟩ : ∃ k', k = k' + 1 := ⟨k - 1, by omega⟩
        rw [rFollowOut, if_pos rfl, hK1' kk (by omega)]
        simp only [Option.bind_some, hr]
        rw [hK2 kk (by omega) k' (by omega), gOut, if_pos hr]
theorem Sh.small {nn nt : Nat} {m : List (List Bool)} (h : Sh nn nt m) (h1 : nt ≤ 1000) : ∀ r ∈ m, r.length ≤ 1000000 := fun r hr => by rw [h.2 r hr]; omega
section
variable (l0 : List ByteArray) (l1 : List Tok) (a2 a3 : Int) (l4 : List Prod)
def dEmpty (nn : Nat) (nt : Nat) (ps : List Prod) : List Bool := if ps.all (okProd nn nt) = true then clo false nn ps else []
def dUseful (nn : Nat) (nt : Nat) (ps : List Prod) : List Bool := if ps.all (okProd nn nt) = true then clo true nn ps else []
def dFirst (nn nt : Nat) (ps : List Prod) : List (List Int) := if ps.all (okProd nn nt) = true then idxs (fst nn nt (clo false nn ps) ps) else []
def dFollow (nn nt : Nat) (ps : List Prod) : List (List Int) := if ps.all (okProd nn nt) = true then idxs (fol nn nt (clo false nn ps) (fst nn nt (clo false nn ps) ps) ps) else []
def dOf (nn nt : Nat) (ps : List Prod) (l : List Sym) : List Int × Bool := if ps.all (okProd nn nt) = true ∧ nn ≠ 0 ∧ l.all (okSym nn nt) = true then
  (idx 0 (bg (clo false nn ps) (fst nn nt (clo false nn ps) ps) l (none0 nt)).1, (bg (clo false nn ps) (fst nn nt (clo false nn ps) ps) l (none0 nt)).2) else ([], false)
variable (h : Small l4) (h0 : l0.length ≤ 1000000) (h1 : l1.length ≤ 1000)
include h h0 h1
theorem first_ev : Ev (fun k => firsts_First.f k l0 l1 a2 a3 l4) (dFirst l0.length l1.length l4) := by
  refine Ev.congr (fun k => by rw [firsts_First.f]) (Ev.bind0 (firstsRight_val l0 l1 a2 a3 l4 h) ?_)
  unfold dFirst
  cases hr : l4.all (okProd l0.length l1.length) with
  | false => exact Ev.neg (by simp) (Ev.some (by simp))
  | true =>
    have hs := fst_sh l0.length l1.length (clo false l0.length l4) hr
    rw [if_pos rfl]
    exact Ev.pos rfl (Ev.bind (studied_ev l0 l1 a2 a3 l4 h h0 h1 hr) (all_ev _ (by rw [hs.1]; exact h0) (hs.small h1)))
theorem refFirst2_ev : Ev (fun k => regletref13_First.f k l0 l1 a2 a3 l4) (dFirst l0.length l1.length l4) := by
  refine Ev.congr (fun k => by rw [regletref13_First.f]) (Ev.bind (refRight_ev l0 l1 a2 a3 l4 h) ?_)
  unfold dFirst
  cases hr : l4.all (okProd l0.length l1.length) with
  | false => exact Ev.neg (by simp) (Ev.some (by simp))
  | true =>
    have hs := fst_sh l0.length l1.length (clo false l0.length l4) hr
    rw [if_pos rfl]
    exact Ev.pos rfl (Ev.bind (refFirst_ev l0 l1 a2 a3 l4 h h0 h1 hr) (Ev.bind (lists_ev _ (by rw [hs.1]; exact h0) (hs.small h1)) (Ev.some rfl)))
theorem follow_ev : Ev (fun k => firsts_Follow.f k l0 l1 a2 a3 l4) (dFollow l0.length l1.length l4) := by
  refine Ev.congr (fun k => by rw [firsts_Follow.f]) (Ev.bind0 (firstsRight_val l0 l1 a2 a3 l4 h) ?_)
  unfold dFollow
  cases hr : l4.all (okProd l0.length l1.length) with
  | false => exact Ev.neg (by simp) (Ev.some (by simp))
  | true =>
    have hs := fst_sh l0.length l1.length (clo false l0.length l4) hr
    have hs2 := fol_sh (clo false l0.length l4) hs hr
    have he := clo_length l0.length l1.length false hr
    rw [if_pos rfl]
    refine Ev.pos rfl (Ev.bind (studied_ev l0 l1 a2 a3 l4 h h0 h1 hr) ?_)
    refine Ev.bind (growOut_ev (fStep_good _ hs hr) (fun k => followStep k l1.length (clo false l0.length l4) (fst l0.length l1.length (clo false l0.length l4) l4)) (fun st p hI hp => ?_) (cfs (fol0 l0.length l1.length)) (fol0 l0.length l1.length) (fol0_sh _ _) (Nat.le_refl _)) (all_ev _ (by have := hs2.1; exact Nat.le_trans (Nat.le_of_eq this) h0) (hs2.small h1))
    have hok := List.all_eq_true.1 hr p hp
    have hl := okProd_left hok
    exact Ev.congr (fun k => by rw [followStep]) (followIn_ev he h1 hs hl.1 hl.2 p.f1 false st (okProd_right hok) (h.2 p hp) hI)
theorem refFollow_ev : Ev (fun k => regletref13_Follow.f k l0 l1 a2 a3 l4) (dFollow l0.length l1.length l4) := by
  refine Ev.congr (fun k => by rw [regletref13_Follow.f, if_pos ⟨by have := h.1; omega, by rw [List.all_eq_true]; intro p hp; have := h.2 p hp; exact decide_eq_true (by omega)⟩]) (Ev.bind (refRight_ev l0 l1 a2 a3 l4 h) ?_)
  unfold dFollow
  cases hr : l4.all (okProd l0.length l1.length) with
  | false => exact Ev.neg (by simp) (Ev.some (by simp))
  | true =>
    have hs := fst_sh l0.length l1.length (clo false l0.length l4) hr
    have hs2 := fol_sh (clo false l0.length l4) hs hr
    have he := clo_length l0.length l1.length false hr
    rw [if_pos rfl]
    refine Ev.pos rfl (Ev.bind (marks_ev l0 l1 a2 a3 l4 h0 (by omega)) (Ev.bind (refFirst_ev l0 l1 a2 a3 l4 h h0 h1 hr) (Ev.bind (Ev.val (refEmpty_ev l0 l1 a2 a3 l4 h h0) (if_pos hr)) (Ev.bind (a := fol0 l0.length l1.length) ?_ (Ev.bind (a := fol l0.length l1.length (clo false l0.length l4) (fst l0.length l1.length (clo false l0.length l4) l4) l4) ?_ (lists_ev _ (by have := hs2.1; exact Nat.le_trans (Nat.le_of_eq this) h0) (hs2.small h1)))))))
    · refine Ev.some' ?_
      unfold rFollow0 fol0
      by_cases hn : 0 < l0.length
      · have hrow : (rows0 l0.length l1.length).getD 0 [] = none0 l1.length := by
          obtain ⟨n, hn'⟩ : ∃ n, l0.length = n + 1 := ⟨l0.length - 1, by omega⟩
          rw [hn', rows0, List.replicate_succ]; rfl
        rw [if_pos (by rw [(rows0_sh _ _).1]; exact hn), hrow, if_pos (by rw [none0_length]; omega), if_pos hn]
      · rw [if_neg (by rw [(rows0_sh _ _).1]; exact hn), if_neg hn]
        have : l0.length = 0 := by omega
        rw [this]; rfl
    · obtain ⟨K, hK⟩ := refFollowOut_ev l0 l1 a2 a3 l4 h he h1 hs hr (cfs (fol0 l0.length l1.length)) (fol0 l0.length l1.length) (fol0_sh _ _) (Nat.le_refl _)
      exact ⟨K, fun k hk => hK k hk k hk⟩
theorem of_ev (l : List Sym) (hl : l.length ≤ 1000000) : Ev (fun k => firsts_Of.f k l0 l1 a2 a3 l4 l) (dOf l0.length l1.length l4 l) := by
  refine Ev.congr (fun k => by rw [firsts_Of.f]) (Ev.bind0 (firstsRight_val l0 l1 a2 a3 l4 h) ?_)
  unfold dOf
  cases hr : l4.all (okProd l0.length l1.length) with
  | false => exact Ev.neg (by simp) (Ev.some (by simp))
  | true =>
    refine Ev.pos rfl (Ev.bind0 (a := l.all (okSym l0.length l1.length)) (by rw [firsts_symbols.f, if_pos (by omega)]) ?_)
    cases hs : l.all (okSym l0.length l1.length) with
    | false => exact Ev.neg (by simp) (Ev.some (by simp))
    | true =>
      refine Ev.pos rfl ?_
      by_cases hn : (l0.length : Int) = 0
      · exact Ev.pos hn (Ev.some (if_neg (fun hc => hc.2.1 (Int.ofNat_eq_zero.1 hn))).symm)
      · refine Ev.neg hn (Ev.bind (studied_ev l0 l1 a2 a3 l4 h h0 h1 hr) ?_)
        have hsh := fst_sh l0.length l1.length (clo false l0.length l4) hr
        have hb := bg_length (clo false l0.length l4) hsh l _ hs (none0_length l1.length)
        refine Ev.bind (begins_ev hsh (clo_length l0.length l1.length false hr) h1 l hs hl) (Ev.bind (rising_ev _ (by rw [hb]; omega)) (Ev.some ?_))
        have hc : true = true ∧ l0.length ≠ 0 ∧ true = true := ⟨rfl, by omega, rfl⟩
        rw [if_pos hc]
theorem refOf_ev (l : List Sym) (hl : l.length ≤ 1000000) : Ev (fun k => regletref13_Of.f k l0 l1 a2 a3 l4 l) (dOf l0.length l1.length l4 l) := by
  refine Ev.congr (fun k => by rw [regletref13_Of.f]) (Ev.bind (refRight_ev l0 l1 a2 a3 l4 h) ?_)
  unfold dOf
  cases hr : l4.all (okProd l0.length l1.length) with
  | false => exact Ev.neg (by simp) (Ev.some (by simp))
  | true =>
    refine Ev.pos rfl ?_
    by_cases hn : (l0.length : Int) = 0
    · exact Ev.pos hn (Ev.some (if_neg (fun hc => hc.2.1 (Int.ofNat_eq_zero.1 hn))).symm)
    · refine Ev.neg hn (Ev.bind (Ev.val (refRight_ev l0 l1 a2 a3 [⟨0, l⟩] ⟨by simp, by simpa using hl⟩) (s := l.all (okSym l0.length l1.length)) ?_) ?_)
      · simp [okProd]; intro _; omega
      cases hs : l.all (okSym l0.length l1.length) with
      | false => exact Ev.neg (by simp) (Ev.some (by simp))
      | true =>
        have hsh := fst_sh l0.length l1.length (clo false l0.length l4) hr
        have hb := bg_length (clo false l0.length l4) hsh l _ hs (none0_length l1.length)
        refine Ev.pos rfl (Ev.bind (refFirst_ev l0 l1 a2 a3 l4 h h0 h1 hr) (Ev.bind (Ev.val (refEmpty_ev l0 l1 a2 a3 l4 h h0) (if_pos hr)) ?_))
        refine Ev.bind (refBegins_ev l0 l1 a2 a3 l4 hsh (clo_length l0.length l1.length false hr) h1 l hs hl) (Ev.bind (list_ev _ (by rw [hb]; omega)) (Ev.some ?_))
        have hc : true = true ∧ l0.length ≠ 0 ∧ true = true := ⟨rfl, by omega, rfl⟩
        rw [if_pos hc]
theorem same_ev (l : List Sym) (hl : l.length ≤ 1000000) : Ev (fun k => regletlaw13_same.f k l0 l1 a2 a3 l4 l) true := by
  have hsz : (dEmpty l0.length l1.length l4).length ≤ 1000000 ∧ (dUseful l0.length l1.length l4).length ≤ 1000000 ∧ ((dFirst l0.length l1.length l4).length ≤ 1000000 ∧ ∀ r ∈ dFirst l0.length l1.length l4, r.length ≤ 1000000) ∧ ((dFollow l0.length l1.length l4).length ≤ 1000000 ∧ ∀ r ∈ dFollow l0.length l1.length l4, r.length ≤ 1000000) ∧ (dOf l0.length l1.length l4 l).1.length ≤ 1000000 := by
    unfold dEmpty dUseful dFirst dFollow dOf
    cases hr : l4.all (okProd l0.length l1.length) with
    | false => simp
    | true =>
      have hs := fst_sh l0.length l1.length (clo false l0.length l4) hr
      have hs2 := fol_sh (clo false l0.length l4) hs hr
      have hidx : ∀ {m : List (List Bool)}, Sh l0.length l1.length m → (idxs m).length ≤ 1000000 ∧ ∀ r ∈ idxs m, r.length ≤ 1000000 := fun {m} hm => ⟨by rw [idxs, List.length_map, hm.1]; exact h0, fun r hr => by
        obtain ⟨a, ha, rfl⟩ := List.mem_map.1 hr
        have := idx_length 0 a
        have := hm.2 a ha
        omega⟩
      simp only [if_pos]
      refine ⟨by rw [clo_length l0.length l1.length false hr]; exact h0, by rw [clo_length l0.length l1.length true hr]; exact h0, hidx hs, hidx hs2, ?_⟩
      split
      · rename_i hc
        have hb := bg_length (clo false l0.length l4) hs l _ hc.2.2 (none0_length l1.length)
        have := idx_length 0 (bg (clo false l0.length l4) (fst l0.length l1.length (clo false l0.length l4) l4) l (none0 l1.length)).1
        simp only
        omega
      · simp
  obtain ⟨z1, z2, z3, z4, z5⟩ := hsz
  refine Ev.congr (fun k => by rw [regletlaw13_same.f]) (Ev.bind (of_ev l0 l1 a2 a3 l4 h h0 h1 l hl) (Ev.bind (refOf_ev l0 l1 a2 a3 l4 h h0 h1 l hl) ?_))
  refine Ev.bind0 (firstsRight_val l0 l1 a2 a3 l4 h) (Ev.bind (refRight_ev l0 l1 a2 a3 l4 h) (Ev.pos (by simp) ?_))
  refine Ev.bind (empty_ev l0 l1 a2 a3 l4 h h0) (Ev.bind (refEmpty_ev l0 l1 a2 a3 l4 h h0) (Ev.bind (sameBools_ev _ z1) (Ev.pos rfl ?_)))
  refine Ev.bind (useful_ev l0 l1 a2 a3 l4 h h0) (Ev.bind (refUseful_ev l0 l1 a2 a3 l4 h h0) (Ev.bind (sameBools_ev _ z2) (Ev.pos rfl ?_)))
  refine Ev.bind (first_ev l0 l1 a2 a3 l4 h h0 h1) (Ev.bind (refFirst2_ev l0 l1 a2 a3 l4 h h0 h1) (Ev.bind (sameLists_ev _ z3.1 z3.2) (Ev.pos rfl ?_)))
  refine Ev.bind (follow_ev l0 l1 a2 a3 l4 h h0 h1) (Ev.bind (refFollow_ev l0 l1 a2 a3 l4 h h0 h1) (Ev.bind (sameLists_ev _ z4.1 z4.2) (Ev.pos rfl ?_)))
  exact Ev.bind (sameInts_ev _ z5) (Ev.pos rfl (Ev.some (by simp)))
end
end Go.Proofs.Ytojdjjbkpbapfaa.M
end

section
namespace Go.Proofs.Ytojdjjbkpbapfaa.M
open Go.RowKit Go.Proofs.YtojdjjbkpbapfaaW.PrintWords Go.Proofs.YtojdjjbkpbapfaaW.PrintLast Go.Proofs.YtojdjjbkpbapfaaW.PrintMore Go.Proofs.Ytojdjjbkpbapfaa.P Go.Proofs.Ytojdjjbkpbapfaa.H
set_option linter.unusedVariables false
set_option linter.unusedSimpArgs false
set_option maxRecDepth 100000 in
theorem awake_some : regletlaw13_awake.f 40 = some true := by kernel_rfl
theorem awake_ev : Ev (fun k => regletlaw13_awake.f k) true := Ev.of regletlaw13_awake.mono awake_some
theorem mRight_ok {l : List Int} (hu : ∀ x ∈ l, 0 ≤ x ∧ x ≤ 255) {n t : Nat} (hn : 0 < n) (ht : 0 < t) : ∀ (c at_ : Nat) (acc : List Sym), acc.all (okSym n t) = true → (mRight l n t c at_ acc).1.all (okSym n t) = true ∧ (mRight l n t c at_ acc).1.length = acc.length + c
  | 0, at_, acc, h => ⟨h, rfl⟩
  | c + 1, at_, acc, h => by
    unfold mRight
    obtain ⟨h1, h2⟩ := mRight_ok hu hn ht c (at_ + 2) (acc ++ [if mPick l at_ 2 = 0 then ⟨true, mPick l (at_ + 1) t⟩ else ⟨false, mPick l (at_ + 1) n⟩]) (by
      rw [List.all_append, h, Bool.true_and]
      have h3 := mPick_lt hu (at_ + 1) (n := (t : Int)) (by omega)
      have h4 := mPick_lt hu (at_ + 1) (n := (n : Int)) (by omega)
      split
      · simp only [List.all_cons, List.all_nil, Bool.and_true, okSym, if_true, Bool.and_eq_true, decide_eq_true_eq]
        exact h3
      · simp only [List.all_cons, List.all_nil, Bool.and_true, okSym, Bool.and_eq_true, decide_eq_true_eq]
        exact ⟨h4.1, by simpa using h4.2⟩)
    exact ⟨h1, by rw [h2]; simp; omega⟩
theorem mProds_ok {l : List Int} (hu : ∀ x ∈ l, 0 ≤ x ∧ x ≤ 255) {n t : Nat} (hn : 0 < n) (ht : 0 < t) : ∀ (i at_ : Nat) (acc : List Prod), acc.all (okProd n t) = true → (∀ p ∈ acc, p.f1.length ≤ 3) → (mProds l n t i at_ acc).all (okProd n t) = true ∧ (mProds l n t i at_ acc).length = acc.length + i ∧ ∀ p ∈ mProds l n t i at_ acc, p.f1.length ≤ 3
  | 0, at_, acc, h, h3 => ⟨h, rfl, h3⟩
  | i + 1, at_, acc, h, h3 => by
    unfold mProds
    obtain ⟨h1, h2⟩ := mRight_ok hu hn ht (mPick l (at_ + 1) 4).toNat (at_ + 2) [] rfl
    have h4 := mPick_lt hu at_ (n := (n : Int)) (by omega)
    have h5 := mPick_lt hu (at_ + 1) (n := 4) (by omega)
    obtain ⟨h6, h7, h8⟩ := mProds_ok hu hn ht i (mRight l n t (mPick l (at_ + 1) 4).toNat (at_ + 2) []).2 (acc ++ [⟨mPick l at_ n, (mRight l n t (mPick l (at_ + 1) 4).toNat (at_ + 2) []).1⟩]) (by
      rw [List.all_append, h, Bool.true_and]
      simp only [List.all_cons, List.all_nil, Bool.and_true, okProd, Bool.and_eq_true, decide_eq_true_eq]
      exact ⟨h4, h1⟩) (by
      intro p hp
      rcases List.mem_append.1 hp with hp | hp
      · exact h3 p hp
      · obtain rfl := List.mem_singleton.1 hp
        simp only
        rw [h2]; simp; omega)
    exact ⟨h6, by rw [h7]; simp; omega, h8⟩
structure MadeOk (ns : List ByteArray) (ts : List Tok) (ps : List Prod) : Prop where
  n1 : 0 < ns.length
  n5 : ns.length ≤ 5
  t1 : 0 < ts.length
  t4 : ts.length ≤ 4
  p1 : 0 < ps.length
  p10 : ps.length ≤ 10
  ok : ps.all (okProd ns.length ts.length) = true
  r3 : ∀ p ∈ ps, p.f1.length ≤ 3
theorem MadeOk.small {ns : List ByteArray} {ts : List Tok} {ps : List Prod} (h : MadeOk ns ts ps) : Small ps := ⟨by have := h.p10; omega, fun p hp => by have := h.r3 p hp; omega⟩
theorem made_ev {l : List Int} (hw : ∀ x ∈ l, (Lit.int .u8 x).wf = true) : ∃ ns ts ps, MadeOk ns ts ps ∧ Ev (fun k => regletlaw13_Made.f k l) (ns, ts, 0, 0, ps) := by
  have hu : ∀ x ∈ l, 0 ≤ x ∧ x ≤ 255 := fun x hx => wf_u8 (hw x hx)
  have h0 := mPick_lt hu 0 (n := 5) (by decide)
  have h1 := mPick_lt hu 1 (n := 4) (by decide)
  have h2 := mPick_lt hu 2 (n := 10) (by decide)
  obtain ⟨n, en⟩ : ∃ n : Nat, 1 + mPick l 0 5 = (n : Int) := ⟨(1 + mPick l 0 5).toNat, by omega⟩
  obtain ⟨t, et⟩ : ∃ n : Nat, 1 + mPick l 1 4 = (n : Int) := ⟨(1 + mPick l 1 4).toNat, by omega⟩
  obtain ⟨c, ec⟩ : ∃ n : Nat, 1 + mPick l 2 10 = (n : Int) := ⟨(1 + mPick l 2 10).toNat, by omega⟩
  obtain ⟨h3, h4, h5⟩ := mProds_ok hu (n := n) (t := t) (by omega) (by omega) c 3 [] rfl (fun p hp => by simp at hp)
  have ln : (mNames.take n).length = n := by rw [List.length_take]; show min n 5 = n; omega
  have lt : ((mTexts.map mTok).take t).length = t := by rw [List.length_take]; show min t 4 = t; omega
  refine ⟨mNames.take n, (mTexts.map mTok).take t, mProds l n t c 3 [], ⟨by omega, by omega, by omega, by omega, by simp at h4; omega, by simp at h4; omega, by rw [ln, lt]; exact h3, h5⟩, Ev.some' ?_⟩
  have h7 : l.all (fun x => decide (0 ≤ x ∧ x ≤ 255)) = true := List.all_eq_true.2 (fun x hx => decide_eq_true (hu x hx))
  show (if l.all (fun x => decide (0 ≤ x ∧ x ≤ 255)) = true then _ else none) = _
  rw [if_pos h7, en, et, ec]
  rfl
theorem rd_mem (ps : List Prod) (i : Int) (h0 : 0 ≤ i) (h1 : i < (ps.length : Int)) : rd_T34 ps i ∈ ps := by
  have h2 : i.toNat < ps.length := by omega
  show ps.getD i.toNat _ ∈ ps
  rw [List.getD_eq_getElem?_getD, List.getElem?_eq_getElem h2]
  exact List.getElem_mem h2
theorem wrap_u8' {x : Int} (h : (Lit.int .u8 x).wf = true) : wrap64 x = x ∧ 0 ≤ x := by
  have := wf_u8 h
  exact ⟨wrap64_id (by omega) (by omega), this.1⟩
end Go.Proofs.Ytojdjjbkpbapfaa.M
end

section
namespace Go.Proofs.Ytojdjjbkpbapfaa.Pure
open Go.RowKit Go.Proofs.Ytojdjjbkpbapfaa.P Go.Proofs.YtojdjjbkpbapfaaW.PrintWords Go.Proofs.YtojdjjbkpbapfaaW.PrintLast Go.Proofs.YtojdjjbkpbapfaaW.PrintMore Go.Proofs.Ytojdjjbkpbapfaa.H Go.Proofs.Ytojdjjbkpbapfaa.M
theorem FirstsMade : regletlaw13_FirstsMade.Pure := by
  intro l0 a1 _ _ hw h1
  obtain ⟨ns, ts, ps, hm, hM⟩ := made_ev hw
  obtain ⟨e1, hp1⟩ := wrap_u8' h1
  have hl : (0 : Int) < (ps.length : Int) := by have := hm.p1; omega
  have hi0 : 0 ≤ Int.tmod (wrap64 a1) (ps.length : Int) := Int.tmod_nonneg _ (by rw [e1]; exact hp1)
  have hi1 : Int.tmod (wrap64 a1) (ps.length : Int) < (ps.length : Int) := Int.tmod_lt_of_pos _ hl
  apply Ev.rounds
  unfold regletlaw13_FirstsMade.f
  refine Ev.bind hM (Ev.bind awake_ev (Ev.pos rfl (Ev.neg (by simp only; omega) (Ev.pos hi0 (Ev.pos hi1 ?_)))))
  refine Ev.bind (same_ev ns ts 0 0 ps hm.small (by have := hm.n5; omega) (by have := hm.t4; omega) _ ?_) (Ev.some rfl)
  exact Nat.le_trans (hm.r3 _ (rd_mem ps _ hi0 hi1)) (by omega)
end Go.Proofs.Ytojdjjbkpbapfaa.Pure
end
