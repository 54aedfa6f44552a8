/- Packed texts of this claim: the walks of the functions, and their plain laws; see the claim's last text. -/
import Derived.Deep.Cut
import Derived.Deep.CutRange
import Derived.Shelf.Abstract
import Derived.Deep.RegionHeld3
import Derived.Test.YtojdjjbkpbapfaaKFirstsMore4
section
namespace Go.Proofs.Ytojdjjbkpbapfaa.P
open Go.RowKit Go.Proofs.YtojdjjbkpbapfaaW.PrintWords Go.Proofs.YtojdjjbkpbapfaaW.PrintLast Go.Proofs.YtojdjjbkpbapfaaW.PrintMore Go.Proofs.Ytojdjjbkpbapfaa.H Go.Proofs.Ytojdjjbkpbapfaa.M
set_option linter.unusedVariables false
set_option linter.unusedSimpArgs false
theorem F_of_S {α : Type} {d : Kd α} {e : Nat} {W : World} {base : Nat} {A : Option Addr} {n c : Nat} {xs : List α} (h : Kd.S d e W base (fun _ => True) (.slice A n c) xs) : Kd.F d W (fun _ => True) A xs.length xs := fun W' hm => (Kd.S_reads' (Kd.S_step h (fun k _ hk => hm k trivial hk))).2.2
theorem F_of_R {α : Type} {d : Kd α} {e : Nat} {W : World} {base : Nat} {A : Option Addr} {n c : Nat} {xs : List α} (h : Kd.R d e W base (fun _ => True) (.slice A n c) xs) : Kd.F d W (fun _ => True) A xs.length xs := fun W' hm => (Kd.R_reads' (Kd.R_step h (fun k _ hk => hm k trivial hk))).2.2
theorem F_one {W : World} {b : Nat} {ok : Nat → Prop} {q : S34} {u0 u1 : Value} (hb : W.heap[b]? = some (.cells #[u0, u1] 34 (0, 0))) (hf : Kd.FK k34 W ok q [u0, u1]) : Kd.F k34 W (fun k => ok k ∨ k = b) (some ⟨b, 0, none⟩) [q].length [q] := fun W' hm => by
  have hb' : W'.heap[b]? = some (.cells #[u0, u1] 34 (0, 0)) := (hm b (.inr rfl) (blk_lt hb)).trans hb
  refine ⟨rfl, by show 1 ≤ 9223372036854775807; decide, fun _ => ⟨_, rfl, fun j p hj => ?_⟩⟩
  have hj0 : j = 0 := by
    have := (List.getElem?_eq_some_iff.1 hj).1
    simp at this
    exact this
  subst hj0
  obtain rfl : q = p := by simpa using hj
  refine ⟨[u0, u1], rfl, hf W' (fun k hk hl => hm k (.inl hk) hl), fun i u hi => ?_⟩
  have hi2 : i < 2 := (List.getElem?_eq_some_iff.1 hi).1
  have e : (⟨b, 0, none⟩ : Addr).add (0 * k34.sz + i) = ⟨b, i, none⟩ := by
    show (⟨b, 0, none⟩ : Addr).add (0 * 2 + i) = ⟨b, i, none⟩
    simp [Addr.add]
    intro h; omega
  rw [e, blk_cell hb' i]
  rw [← hi]
  match i, hi2 with
  | 0, _ => rfl
  | 1, _ => rfl
set_option maxHeartbeats 4000000 in
set_option maxRecDepth 100000 in
theorem more_walk (l m : List Int) (A0 : Option Addr) (c0 : Nat) (A1 : Option Addr) (c1 : Nat) (w : World) (hl : Kd.C (Kd.int .u8) w A0 l.length l) (hlc : l.length ≤ c0) (hmm : Kd.C (Kd.int .u8) w A1 m.length m) (hmc : m.length ≤ c1) (hwl : ∀ x ∈ l, (Lit.int .u8 x).wf = true) (hwm : ∀ x ∈ m, (Lit.int .u8 x).wf = true) :
    Calls Try.prog 7 #[.slice A0 l.length c0, .slice A1 m.length c1] w fun e w' => e = .returned (.bool true) ∧ Below w.heap.size w w' := by
  obtain ⟨ns, ts, ps, hm, hM⟩ := made_ev0 hwl
  obtain ⟨ns2, ts2, qs, hm2, hM2⟩ := made_ev0 hwm
  have HM := Aside0.mk hM
  have HMO := Aside0.mk hm
  have HM2 := Aside0.mk hM2
  have HMO2 := Aside0.mk hm2
  have HL := Aside0.mk hl
  have HMM := Aside0.mk hmm
  have HLC := Aside0.mk hlc
  have HMC := Aside0.mk hmc
  clear hM hm hM2 hm2 hl hmm hlc hmc hwl hwm
  go_enter Try.func7, Try.ntmps7
  go_upto_region 4 with (go_at_call 9; (with_reducible refine (regletlaw13_awake.calls 40 true _ awake_some).mono ?_); rintro e w1 ⟨rfl, hb1⟩; have HB1 := Aside0.mk hb1; have P2 := Aside0.mk (regletlaw13_Made.calls 0 A0 c0 l ns ts 0 0 ps w1 (Kd.C_below HL.out hb1) HLC.out (HM.out 0)); clear hb1)
  go_upto_region 6 with (first
    | (go_at_call 12; (with_reducible refine P2.out.mono ?_); rintro e w2 ⟨v0, v1, v2, rfl, ho0, ho1, ho2, hb2⟩; obtain ⟨An, kn, rfl⟩ := Kd.R_slice ho0; obtain ⟨At, kt, rfl⟩ := Kd.R_slice ho1; obtain ⟨Ap, kp, rfl⟩ := Kd.S_slice ho2; have HB2 : Aside0 (Below w.heap.size w w2) := ⟨HB1.out.trans (hb2.mono HB1.out.size)⟩; have HKL := Aside0.mk (And.intro (Kd.R_reads' ho0).2.1 (And.intro (Kd.R_reads' ho1).2.1 (Kd.S_reads' ho2).2.1)); have FN2 := Aside0.mk (F_of_R ho0); have FT2 := Aside0.mk (F_of_R ho1); have FP2 := Aside0.mk (F_of_S ho2); clear ho0 ho1 ho2 hb2 P2; have P3 := Aside0.mk (regletlaw13_Made.calls 0 A1 c1 m ns2 ts2 0 0 qs w2 (Kd.C_below HMM.out HB2.out) HMC.out (HM2.out 0)))
    | (go_at_call 12; (with_reducible refine P3.out.mono ?_); rintro e w3 ⟨v0, v1, v2, rfl, ho0, ho1, ho2, hb3⟩; obtain ⟨Bn, jn, rfl⟩ := Kd.R_slice ho0; obtain ⟨Bt, jt, rfl⟩ := Kd.R_slice ho1; obtain ⟨Bp, jp, rfl⟩ := Kd.S_slice ho2; have HB3 : Aside0 (Below w.heap.size w w3) := ⟨HB2.out.trans (hb3.mono HB2.out.size)⟩; have FN3 := Aside0.mk (Kd.F_bound (Kd.F_below FN2.out hb3)); have FT3 := Aside0.mk (Kd.F_bound (Kd.F_below FT2.out hb3)); have FP3 := Aside0.mk (Kd.F_bound (Kd.F_below FP2.out hb3)); have FQ3 := Aside0.mk (Kd.F_bound (F_of_S ho2)); clear ho0 ho1 ho2 hb3 P3 FN2 FT2 FP2))
  obtain ⟨w4, ew4⟩ : ∃ W4 : World, W4 = ((w3.alloc (.cells #[.slice An ns.length kn, .slice At ts.length kt, .int .i64 0, .int .i64 0, .slice Ap ps.length kp] 26)).alloc (.cells #[.slice Bn ns2.length jn, .slice Bt ts2.length jt, .int .i64 0, .int .i64 0, .slice Bp qs.length jp] 26)).alloc (.cells #[.slice An ns.length kn, .slice At ts.length kt, .int .i64 0, .int .i64 0, .slice Ap ps.length kp] 26) := ⟨_, rfl⟩
  have h4 : w4.heap[w3.heap.size]? = some (.cells #[.slice An ns.length kn, .slice At ts.length kt, .int .i64 0, .int .i64 0, .slice Ap ps.length kp] 26 (0, 0)) ∧ w4.heap[w3.heap.size + 1]? = some (.cells #[.slice Bn ns2.length jn, .slice Bt ts2.length jt, .int .i64 0, .int .i64 0, .slice Bp qs.length jp] 26 (0, 0)) ∧ w4.heap[w3.heap.size + 1 + 1]? = some (.cells #[.slice An ns.length kn, .slice At ts.length kt, .int .i64 0, .int .i64 0, .slice Ap ps.length kp] 26 (0, 0)) := by
    have z1 := World.size_alloc w3 (.cells #[.slice An ns.length kn, .slice At ts.length kt, .int .i64 0, .int .i64 0, .slice Ap ps.length kp] 26)
    have z2 := World.size_alloc (w3.alloc (.cells #[.slice An ns.length kn, .slice At ts.length kt, .int .i64 0, .int .i64 0, .slice Ap ps.length kp] 26)) (.cells #[.slice Bn ns2.length jn, .slice Bt ts2.length jt, .int .i64 0, .int .i64 0, .slice Bp qs.length jp] 26)
    refine ⟨?_, ?_, ?_⟩
    · rw [ew4]; exact blk_alloc (blk_alloc (blk_new w3 _) _) _
    · rw [ew4, ← z1]; exact blk_alloc (blk_new _ _) _
    · rw [ew4, ← z1, ← z2]; exact blk_new _ _
  have hb34 : Below w3.heap.size w3 w4 := by rw [ew4]; exact below_alloc (below_alloc (below_alloc (Below.refl _ _) _) _) _
  rw [← ew4]
  clear ew4
  have HB4 : Aside0 (Below w.heap.size w w4) := ⟨HB3.out.trans (hb34.mono HB3.out.size)⟩
  have hs68 : w3.heap.size < w3.heap.size + 1 ∧ w3.heap.size + 1 < w3.heap.size + 1 + 1 ∧ w.heap.size ≤ w3.heap.size := ⟨by omega, by omega, HB3.out.size⟩
  have FN4 := Aside0.mk (Kd.F_below FN3.out hb34)
  have FT4 := Aside0.mk (Kd.F_below FT3.out hb34)
  have FP4 := Aside0.mk (Kd.F_below FP3.out hb34)
  have FQ4 := Aside0.mk (Kd.F_below FQ3.out hb34)
  have HMW : Aside0 (∀ k : Nat, True ∧ k < w3.heap.size → k < w3.heap.size) := ⟨fun k hk => hk.2⟩
  generalize w3.heap.size = S6 at h4 hs68 HMW FN4 FT4 FP4 FQ4 ⊢
  obtain ⟨h6, h7, h8⟩ := h4
  have H6 := Aside0.mk h6
  have H7 := Aside0.mk h7
  have H8 := Aside0.mk h8
  have HS64 : Aside0 (S6 < w4.heap.size) := ⟨blk_lt h6⟩
  have HS84 : Aside0 (S6 + 1 + 1 < w4.heap.size) := ⟨blk_lt h8⟩
  have HSW : Aside0 (w.heap.size ≤ S6) := ⟨hs68.2.2⟩
  clear hs68 h6 h7 h8 hb34
  have FPd : Aside0 (Kd.F k34 w4.drew (fun k => k < S6) Ap ps.length ps) := ⟨Kd.F_drew (Kd.F_mono FP4.out HMW.out)⟩
  have HQ0 := HMO2.out.p1
  obtain ⟨q, eq⟩ : ∃ q, q = qs.getD 0 z34 := ⟨_, rfl⟩
  have hqm : q ∈ qs := by rw [eq, List.getD_eq_getElem?_getD, List.getElem?_eq_getElem HQ0]; exact List.getElem_mem HQ0
  obtain ⟨adq, cq, eaq, hclq, hfq, hcq, _⟩ := Kd.F_get FQ4.out z34 0 (by omega) (by omega)
  rw [show (0 : Int).toNat = 0 from rfl, ← eq] at hfq
  obtain ⟨A5, c5, rfl, hle5, _⟩ := k34_openF hfq
  have hcq0 : w4.cell? adq = some (.int .i64 q.f0) := by have h := hcq 0 _ rfl; rw [show (0 : Int).toNat * k34.sz + 0 = 0 from rfl, Addr.add_zero'] at h; exact h
  have hcq1 : w4.cell? ⟨adq.block, adq.off + 1, none⟩ = some (.slice A5 q.f1.length c5) := by have h := hcq 1 _ rfl; rw [show (0 : Int).toNat * k34.sz + 1 = 1 from rfl] at h; exact h
  have FKQ : Aside0 (Kd.FK k34 w4 (fun k => k < S6) q [.int .i64 q.f0, .slice A5 q.f1.length c5]) := ⟨Kd.FK_mono hfq HMW.out⟩
  cases eaq
  have HCS : Aside0 (∀ W, Below w4.heap.size w4 W → W.cell? ⟨S6, 4, none⟩ = some (.slice Ap ps.length kp) ∧ W.cell? ⟨S6 + 1, 4, none⟩ = some (.slice (some adq) qs.length jp) ∧ W.cell? adq = some (.int .i64 q.f0) ∧ W.cell? ⟨adq.block, adq.off + 1, none⟩ = some (.slice A5 q.f1.length c5)) := ⟨fun W hW => ⟨(blk_cell ((hW.block _ (blk_lt H6.out)).trans H6.out) 4).trans rfl, (blk_cell ((hW.block _ (blk_lt H7.out)).trans H7.out) 4).trans rfl, pw_cell_below hW hcq0, pw_cell_below hW hcq1⟩⟩
  have HBd : Aside0 (Below w4.heap.size w4 w4.drew) := ⟨below_drew1 (Below.refl _ _)⟩
  have HQM := Aside0.mk hqm
  have qp : (0 < qs.length) = True := eq_true HQ0
  have qp2 : ((0 : Int) < (qs.length : Int)) = True := eq_true (by omega)
  clear hqm hfq hcq hcq0 hcq1 HQ0 hclq hle5 eq
  refine start_ (n := 11) (S := fun w' => w'.cell? ⟨S6, 4, none⟩ = some (.slice Ap ps.length kp) ∧ w'.cell? ⟨S6 + 1, 4, none⟩ = some (.slice (some adq) qs.length jp) ∧ w'.cell? adq = some (.int .i64 q.f0) ∧ w'.cell? ⟨adq.block, adq.off + 1, none⟩ = some (.slice A5 q.f1.length c5)) (ds := [10]) #[false, false, false, false, false, false, false, false, false, false, false] (by kernel_rfl) rfl rfl ⟨(HCS.out _ HBd.out).1, (HCS.out _ HBd.out).2.1, (HCS.out _ HBd.out).2.2.1, (HCS.out _ HBd.out).2.2.2⟩ (fun hHeld => ?_)
  refine pure_ (i := 0) (N := some 26) (v := ?_) (a' := ?_) #[true, false, false, false, false, false, false, false, false, false, false] rfl rfl (by kernel_rfl) (fun _ _ _ h => h) (Or.inl ⟨by rfl, ?_⟩) ?_ ?_
  rotate_left
  · intro w'
    go_simp
    with_reducible rfl
  rotate_left
  · simp only [Act.put, List.setIfInBounds_toArray, List.set_cons_zero, List.set_cons_succ, i64_w, i32_w]
    rfl
  refine pure_ (i := 3) (N := some 29) (v := ?_) (a' := ?_) #[true, false, false, true, false, false, false, false, false, false, false] rfl rfl (by kernel_rfl) (fun _ _ _ h => h) (Or.inl ⟨by rfl, ?_⟩) ?_ ?_
  rotate_left
  · intro w'
    go_simp
    with_reducible rfl
  rotate_left
  · simp only [Act.put, List.setIfInBounds_toArray, List.set_cons_zero, List.set_cons_succ, i64_w, i32_w]
    rfl
  refine take_ (i := 1) (N := some 27) (v := ?_) (a' := ?_) #[true, true, false, true, false, false, false, false, false, false, false] rfl rfl (by kernel_rfl) (fun _ _ _ h => h) (Or.inl ⟨by rfl, ?_⟩) hHeld ?_ ?_
  rotate_left
  · rintro w' ⟨s0, s1, s2, s3⟩
    go_simp
    with_reducible rfl
  rotate_left
  · simp only [Act.put, List.setIfInBounds_toArray, List.set_cons_zero, List.set_cons_succ, i64_w, i32_w]
    rfl
  refine take_ (i := 4) (N := some 30) (v := ?_) (a' := ?_) #[true, true, false, true, true, false, false, false, false, false, false] rfl rfl (by kernel_rfl) (fun _ _ _ h => h) (Or.inl ⟨by rfl, ?_⟩) hHeld ?_ ?_
  rotate_left
  · rintro w' ⟨s0, s1, s2, s3⟩
    go_simp
    with_reducible rfl
  rotate_left
  · simp only [Act.put, List.setIfInBounds_toArray, List.set_cons_zero, List.set_cons_succ, i64_w, i32_w]
    rfl
  refine pure_ (i := 5) (N := some 31) (v := ?_) (a' := ?_) #[true, true, false, true, true, true, false, false, false, false, false] rfl rfl (by kernel_rfl) (fun _ _ _ h => h) (Or.inl ⟨by rfl, ?_⟩) ?_ ?_
  rotate_left
  · intro w'
    go_simp
    with_reducible rfl
  rotate_left
  · simp only [Act.put, List.setIfInBounds_toArray, List.set_cons_zero, List.set_cons_succ, i64_w, i32_w]
    rfl
  refine take_ (i := 6) (N := some 32) (v := ?_) (a' := ?_) #[true, true, false, true, true, true, true, false, false, false, false] rfl rfl (by kernel_rfl) (fun _ _ _ h => h) (Or.inl ⟨by rfl, ?_⟩) hHeld ?_ ?_
  rotate_left
  · rintro w' ⟨s0, s1, s2, s3⟩
    go_simp
    with_reducible rfl
  rotate_left
  · simp only [Act.put, List.setIfInBounds_toArray, List.set_cons_zero, List.set_cons_succ, i64_w, i32_w]
    rfl
  refine join_ (σ := Value × Nat) 3 #[true, true, true, true, true, true, true, true, false, false, false] (fun s => [(28, s.1), (33, .slice (some ⟨s.2, 0, none⟩) 1 1)]) (fun s w' => Kd.N k34 34 w' w4.heap.size (fun k => k ≠ S6 + 1 + 1) s.1 ps ∧ Kd.F k34 w' (fun k => k < S6 ∨ k = s.2) (some ⟨s.2, 0, none⟩) [q].length [q] ∧ (∀ k, (k < S6 ∨ k = s.2) → k ≠ S6 + 1 + 1 ∧ some k ≠ s.1.ownBlock) ∧ Below w4.heap.size w4 w' ∧ (w'.cell? ⟨S6, 4, none⟩ = some (.slice Ap ps.length kp) ∧ w'.cell? ⟨S6 + 1, 4, none⟩ = some (.slice (some adq) qs.length jp) ∧ w'.cell? adq = some (.int .i64 q.f0) ∧ w'.cell? ⟨adq.block, adq.off + 1, none⟩ = some (.slice A5 q.f1.length c5))) ?_ ?_
  rotate_left
  · intro hCont
    refine two_ (i := 2) (j := 7) (Ni := some 28) (Nj := some 33) #[true, true, true, true, true, true, true, false, false, false, false] #[true, true, false, true, true, true, true, true, false, false, false] rfl rfl rfl rfl (by kernel_rfl) (by decide) (by decide) (fun K hK => ?_) (fun K hK => ?_)
    · skip
      refine Kd.N_append_rows_step k34 (w0 := w4) w4.heap.size (by rfl) (.const (.slice none 0 0)) (.tmp 27) 24 34 (.agg #[.int .i64 0, .slice none 0 0]) 32 rfl Try.underlying24 info34 rfl (by decide) (by decide) (.slice none 0 0) [] ps Ap ps.length kp (fun k => k ≠ S6 + 1 + 1) (fun k => k < S6) rfl rfl (Kd.N_nil _ _ _ _ _) FPd.out (fun k hk => ⟨by omega, by simp [Value.ownBlock]⟩) (fun k hk => by have h3 := HS84.out; have h4 := Nat.le_trans (Nat.le_refl w4.heap.size) hk; omega) HBd.out (Nat.le_refl _) (by have := HMO.out.p10; simp; omega) ?_
      intro v1 w5 hn hb hg hat
      rw [List.nil_append] at hn
      refine hK.out _ _ ⟨(HCS.out _ hb).1, (HCS.out _ hb).2.1, (HCS.out _ hb).2.2.1, (HCS.out _ hb).2.2.2⟩ (fun hHeld => ?_)
      clear hK K
      refine norm_ (a' := ?_) ?_ ?_
      rotate_left
      · show Act.put _ (some 28) _ = _
        simp only [Act.put, List.setIfInBounds_toArray, List.set_cons_zero, List.set_cons_succ, i64_w, i32_w]
        rfl
      refine one_ (i := 7) (N := some 33) #[true, true, true, true, true, true, true, true, false, false, false] rfl rfl (by kernel_rfl) (by decide) (fun K hK => ?_)
      refine value_ (w1 := ?_) (v := ?_) (by rfl) rfl ?_ ?_
      rotate_left 2
      · go_simp
        constructor
        · rfl
        · rfl
      refine hK.out _ _ ⟨(HCS.out _ (below_alloc hb _)).1, (HCS.out _ (below_alloc hb _)).2.1, (HCS.out _ (below_alloc hb _)).2.2.1, (HCS.out _ (below_alloc hb _)).2.2.2⟩ (fun hHeld => ?_)
      clear hK K
      refine norm_ (a' := ?_) ?_ ?_
      rotate_left
      · show Act.put _ (some 33) _ = _
        simp only [Act.put, List.setIfInBounds_toArray, List.set_cons_zero, List.set_cons_succ, i64_w, i32_w]
        rfl
      exact norm_ (by simp only [putAll, Act.put, List.setIfInBounds_toArray, List.set_cons_zero, List.set_cons_succ]) (hCont (v1, w5.heap.size) _ ⟨Kd.N_below hn (below_alloc (Below.refl _ _) _), F_one (blk_new _ _) (Kd.FK_below FKQ.out (below_alloc hb _)), (fun k hk => ⟨by have h3 := HS84.out; have h4 := hb.size; simp only at hk; omega, fun he => by have h1 := Kd.N_base hn k he.symm; have h2 := Kd.N_lt hn k he.symm; have h3 := HS64.out; simp only at hk; omega⟩), below_alloc hb _, ⟨(HCS.out _ (below_alloc hb _)).1, (HCS.out _ (below_alloc hb _)).2.1, (HCS.out _ (below_alloc hb _)).2.2.1, (HCS.out _ (below_alloc hb _)).2.2.2⟩⟩)
    · skip
      refine value_ (w1 := ?_) (v := ?_) (by rfl) rfl ?_ ?_
      rotate_left 2
      · go_simp
        constructor
        · rfl
        · rfl
      refine hK.out _ _ ⟨(HCS.out _ (below_alloc HBd.out _)).1, (HCS.out _ (below_alloc HBd.out _)).2.1, (HCS.out _ (below_alloc HBd.out _)).2.2.1, (HCS.out _ (below_alloc HBd.out _)).2.2.2⟩ (fun hHeld => ?_)
      clear hK K
      refine norm_ (a' := ?_) ?_ ?_
      rotate_left
      · show Act.put _ (some 33) _ = _
        simp only [Act.put, List.setIfInBounds_toArray, List.set_cons_zero, List.set_cons_succ, i64_w, i32_w]
        rfl
      refine one_ (i := 2) (N := some 28) #[true, true, true, true, true, true, true, true, false, false, false] rfl rfl (by kernel_rfl) (by decide) (fun K hK => ?_)
      refine Kd.N_append_rows_step k34 (w0 := w4) w4.heap.size (by rfl) (.const (.slice none 0 0)) (.tmp 27) 24 34 (.agg #[.int .i64 0, .slice none 0 0]) 32 rfl Try.underlying24 info34 rfl (by decide) (by decide) (.slice none 0 0) [] ps Ap ps.length kp (fun k => k ≠ S6 + 1 + 1) (fun k => k < S6) rfl rfl (Kd.N_nil _ _ _ _ _) (Kd.F_alloc FPd.out _) (fun k hk => ⟨by omega, by simp [Value.ownBlock]⟩) (fun k hk => by have h3 := HS84.out; have h4 := Nat.le_trans (show w4.heap.size ≤ (w4.alloc (.cells #[.int .i64 q.f0, .slice A5 q.f1.length c5] 34)).heap.size by rw [World.size_alloc]; exact Nat.le_succ _) hk; omega) (below_alloc HBd.out _) (by show w4.heap.size ≤ (w4.alloc (.cells #[.int .i64 q.f0, .slice A5 q.f1.length c5] 34)).heap.size; rw [World.size_alloc]; exact Nat.le_succ _) (by have := HMO.out.p10; simp; omega) ?_
      intro v1 w5 hn hb hg hat
      rw [List.nil_append] at hn
      refine hK.out _ _ ⟨(HCS.out _ hb).1, (HCS.out _ hb).2.1, (HCS.out _ hb).2.2.1, (HCS.out _ hb).2.2.2⟩ (fun hHeld => ?_)
      clear hK K
      refine norm_ (a' := ?_) ?_ ?_
      rotate_left
      · show Act.put _ (some 28) _ = _
        simp only [Act.put, List.setIfInBounds_toArray, List.set_cons_zero, List.set_cons_succ, i64_w, i32_w]
        rfl
      exact norm_ (by simp only [putAll, Act.put, List.setIfInBounds_toArray, List.set_cons_zero, List.set_cons_succ]) (hCont (v1, w4.heap.size) _ ⟨hn, Kd.F_grown (row := none) (F_one (W := (w4.alloc (.cells #[.int .i64 q.f0, .slice A5 q.f1.length c5] 34)).drew) (blk_drew (blk_new _ _)) (Kd.FK_below FKQ.out (below_drew1 (below_alloc (Below.refl _ _) _)))) hg (fun k _ => by simp), (fun k hk => ⟨by have h3 := HS84.out; simp only at hk; omega, fun he => by have h6 : w4.drew.heap.size = w4.heap.size := rfl; rcases hat with h | ⟨b, h, h4⟩ <;> (simp only at he; rw [h] at he) <;> first | (simp [Value.ownBlock] at he; done) | (have h5 := Option.some.inj he; have h7 : (w4.alloc (.cells #[.int .i64 q.f0, .slice A5 q.f1.length c5] 34)).heap.size = w4.heap.size + 1 := World.size_alloc _ _; have h8 : (w4.alloc (.cells #[.int .i64 q.f0, .slice A5 q.f1.length c5] 34)).heap.size ≤ b := h4; have h3 := HS64.out; simp only at hk; omega)⟩), hb, ⟨(HCS.out _ hb).1, (HCS.out _ hb).2.1, (HCS.out _ hb).2.2.1, (HCS.out _ hb).2.2.2⟩⟩)
  rintro ⟨v28, b33⟩ w5 ⟨hN, hF, hne, hb5, hHeld⟩
  have HN5 : Aside0 (Kd.N k34 34 w5 w4.heap.size (fun k => k ≠ S6 + 1 + 1) v28 ps) := ⟨hN⟩
  have HF5 : Aside0 (Kd.F k34 w5 (fun k => k < S6 ∨ k = b33) (some ⟨b33, 0, none⟩) [q].length [q]) := ⟨hF⟩
  have HNE5 : Aside0 (∀ k, (k < S6 ∨ k = b33) → k ≠ S6 + 1 + 1 ∧ some k ≠ v28.ownBlock) := ⟨hne⟩
  have HB5 : Aside0 (Below w4.heap.size w4 w5) := ⟨hb5⟩
  clear hN hF hne hb5
  refine norm_ (a' := ?_) ?_ ?_
  rotate_left
  · simp only [putAll, Act.put, List.setIfInBounds_toArray, List.set_cons_zero, List.set_cons_succ]
    rfl
  refine one_ (i := 8) (N := some 34) #[true, true, true, true, true, true, true, true, true, false, false] rfl rfl (by kernel_rfl) (by decide) (fun K hK => ?_)
  refine Kd.N_append_rows_step k34 (w0 := w4) w4.heap.size (by rfl) (.tmp 28) (.tmp 33) 24 34 (.agg #[.int .i64 0, .slice none 0 0]) 32 rfl Try.underlying24 info34 rfl (by decide) (by decide) v28 ps [q] (some ⟨b33, 0, none⟩) 1 1 (fun k => k ≠ S6 + 1 + 1) (fun k => k < S6 ∨ k = b33) rfl rfl HN5.out HF5.out (fun k hk => HNE5.out k hk) (fun k hk => by have h3 := HS84.out; have h4 := HB5.out.size; omega) HB5.out HB5.out.size (by have := HMO.out.p10; omega) ?_
  intro v34 w6 hn hb hg hat
  obtain ⟨A6, n6, c6, rfl⟩ : ∃ A n c, v34 = .slice A n c := by obtain ⟨A, c, e, _⟩ := Kd.N_reads hn; exact ⟨A, _, c, e⟩
  have HN6 := Aside0.mk hn
  have HB6 := Aside0.mk hb
  clear hn hb hg hat
  refine hK.out _ _ ⟨(HCS.out _ HB6.out).1, (HCS.out _ HB6.out).2.1, (HCS.out _ HB6.out).2.2.1, (HCS.out _ HB6.out).2.2.2⟩ (fun hHeld => ?_)
  clear hK K
  refine norm_ (a' := ?_) ?_ ?_
  rotate_left
  · show Act.put _ (some 34) _ = _
    simp only [Act.put, List.setIfInBounds_toArray, List.set_cons_zero, List.set_cons_succ, i64_w, i32_w]
    rfl
  refine pure_ (i := 9) (N := some 35) (v := ?_) (a' := ?_) #[true, true, true, true, true, true, true, true, true, true, false] rfl rfl (by kernel_rfl) (fun _ _ _ h => h) (Or.inl ⟨by rfl, ?_⟩) ?_ ?_
  rotate_left
  · intro w'
    go_simp
    with_reducible rfl
  rotate_left
  · simp only [Act.put, List.setIfInBounds_toArray, List.set_cons_zero, List.set_cons_succ, i64_w, i32_w]
    rfl
  refine last_ (i := 10) (N := none) #[true, true, true, true, true, true, true, true, true, true, true] rfl rfl (by kernel_rfl) (by decide) (fun K hK => ?_)
  have hb8 := (HB6.out.block _ (blk_lt H8.out)).trans H8.out
  have u4 := (blk_cell hb8 4).trans rfl
  have u5 := blk_frozen hb8 4
  refine skip_ (w1 := ?_) (by rfl) rfl ?_ ?_
  rotate_left
  · go_simp
    rfl
  refine hK.out _ _ ?_
  clear hK K
  refine done_ (by kernel_rfl) ?_
  have hn6 : n6 = (ps ++ [q]).length := (Kd.N_reads' HN6.out).1
  obtain ⟨us, eus⟩ : ∃ us, us = ps ++ [q] := ⟨_, rfl⟩
  have HN7 : Aside0 (Kd.N k34 34 w6 w4.heap.size (fun k => k ≠ S6 + 1 + 1) (.slice A6 n6 c6) us) := ⟨by rw [eus]; exact HN6.out⟩
  rw [← eus] at hn6
  subst hn6
  have EUS := Aside0.mk eus
  clear eus HN6 HN5 HF5 HNE5 HB5 HCS FKQ FPd HBd qp qp2 hb8 u4 u5
  have HLE : Aside0 (us.length ≤ c6) := ⟨(Kd.N_reads' HN7.out).2.1⟩
  have HX8 : Aside0 ((w6.setCell ⟨S6 + 1 + 1, 4, none⟩ (.slice A6 us.length c6)).heap[S6 + 1 + 1]? = some (.cells #[.slice An ns.length kn, .slice At ts.length kt, .int .i64 0, .int .i64 0, .slice A6 us.length c6] 26 (0, 0))) := ⟨blk_set ((HB6.out.block _ (blk_lt H8.out)).trans H8.out) 4 _⟩
  have HX6 : Aside0 ((w6.setCell ⟨S6 + 1 + 1, 4, none⟩ (.slice A6 us.length c6)).heap[S6]? = some (.cells #[.slice An ns.length kn, .slice At ts.length kt, .int .i64 0, .int .i64 0, .slice Ap ps.length kp] 26 (0, 0))) := ⟨blk_far ((HB6.out.block _ (blk_lt H6.out)).trans H6.out) (by show S6 ≠ S6 + 1 + 1; omega) _⟩
  have CN : Aside0 (Kd.string.C (w6.setCell ⟨S6 + 1 + 1, 4, none⟩ (.slice A6 us.length c6)) An ns.length ns) := ⟨Kd.F_now (Kd.F_far (Kd.F_below (Kd.F_mono FN4.out HMW.out) HB6.out) (fun k hk => by show k ≠ S6 + 1 + 1; omega) _)⟩
  have CT : Aside0 (k62.C (w6.setCell ⟨S6 + 1 + 1, 4, none⟩ (.slice A6 us.length c6)) At ts.length ts) := ⟨Kd.F_now (Kd.F_far (Kd.F_below (Kd.F_mono FT4.out HMW.out) HB6.out) (fun k hk => by show k ≠ S6 + 1 + 1; omega) _)⟩
  have CP : Aside0 (k34.C (w6.setCell ⟨S6 + 1 + 1, 4, none⟩ (.slice A6 us.length c6)) Ap ps.length ps) := ⟨Kd.F_now (Kd.F_far (Kd.F_below (Kd.F_mono FP4.out HMW.out) HB6.out) (fun k hk => by show k ≠ S6 + 1 + 1; omega) _)⟩
  have CU : Aside0 (k34.C (w6.setCell ⟨S6 + 1 + 1, 4, none⟩ (.slice A6 us.length c6)) A6 us.length us) := ⟨(Kd.N_reads' (Kd.N_far HN7.out (fun k hk => hk) _)).2.2⟩
  have HW7 : Aside0 (Below w.heap.size w (w6.setCell ⟨S6 + 1 + 1, 4, none⟩ (.slice A6 us.length c6))) := ⟨below_set (HB4.out.trans (HB6.out.mono HB4.out.size)) (by have := HSW.out; omega)⟩
  generalize (w6.setCell ⟨S6 + 1 + 1, 4, none⟩ (.slice A6 us.length c6)) = w7 at HX8 HX6 CN CT CP CU HW7 ⊢
  clear HN7 HB6 H6 H7 H8 FN4 FT4 FP4 FQ4 HMW HB4 FN3 FT3 FP3 FQ3 HS64 HS84
  have HC6 : Aside0 (∀ W, Below w7.heap.size w7 W → W.cell? ⟨S6, 0, none⟩ = some (.slice An ns.length kn) ∧ W.cell? ⟨S6, 1, none⟩ = some (.slice At ts.length kt) ∧ W.cell? ⟨S6, 2, none⟩ = some (.int .i64 0) ∧ W.cell? ⟨S6, 3, none⟩ = some (.int .i64 0) ∧ W.cell? ⟨S6, 4, none⟩ = some (.slice Ap ps.length kp)) := ⟨fun W hW => by
    have hb := (hW.block _ (blk_lt HX6.out)).trans HX6.out
    exact ⟨(blk_cell hb 0).trans rfl, (blk_cell hb 1).trans rfl, (blk_cell hb 2).trans rfl, (blk_cell hb 3).trans rfl, (blk_cell hb 4).trans rfl⟩⟩
  have HC8 : Aside0 (∀ W, Below w7.heap.size w7 W → W.cell? ⟨S6 + 1 + 1, 0, none⟩ = some (.slice An ns.length kn) ∧ W.cell? ⟨S6 + 1 + 1, 1, none⟩ = some (.slice At ts.length kt) ∧ W.cell? ⟨S6 + 1 + 1, 2, none⟩ = some (.int .i64 0) ∧ W.cell? ⟨S6 + 1 + 1, 3, none⟩ = some (.int .i64 0) ∧ W.cell? ⟨S6 + 1 + 1, 4, none⟩ = some (.slice A6 us.length c6)) := ⟨fun W hW => by
    have hb := (hW.block _ (blk_lt HX8.out)).trans HX8.out
    exact ⟨(blk_cell hb 0).trans rfl, (blk_cell hb 1).trans rfl, (blk_cell hb 2).trans rfl, (blk_cell hb 3).trans rfl, (blk_cell hb 4).trans rfl⟩⟩
  have hq3 := HMO2.out.r3 q HQM.out
  have hsm : Small us := ⟨by rw [EUS.out]; have := HMO.out.p10; simp; omega, fun p hp => by
    rw [EUS.out] at hp
    rcases List.mem_append.1 hp with h | h
    · have := HMO.out.r3 p h; omega
    · obtain rfl := List.mem_singleton.1 h; omega⟩
  have HSM := Aside0.mk hsm
  obtain ⟨kR, hR⟩ := (refRight_ev ns ts 0 0 us hsm).rounds
  obtain ⟨rb, erb⟩ : ∃ rb, rb = us.all (okProd ns.length ts.length) := ⟨_, rfl⟩
  rw [← erb] at hR
  have ERB := Aside0.mk erb
  have PR := Aside0.mk (regletref13_Right.calls kR An kn ns At kt ts 0 0 A6 c6 us rb w7 CN.out HKL.out.1 CT.out HKL.out.2.1 CU.out HLE.out hR)
  clear hq3 hsm hR erb
  obtain ⟨q0, q1, q2, q3, q4⟩ := HC8.out w7 (Below.refl _ _)
  cases rb with
  | false =>
    go_wp2_with (go_at_call 19; (with_reducible refine PR.out.mono ?_); rintro e w8 ⟨rfl, hb8⟩; have HB8 : Aside0 (Below w.heap.size w w8) := ⟨HW7.out.trans (hb8.mono HW7.out.size)⟩; clear hb8)
    go_ret
    exact ⟨rfl, HB8.out⟩
  | true =>
    go_upto_region 9 with (go_at_call 19; (with_reducible refine PR.out.mono ?_); rintro e w8 ⟨rfl, hb8⟩; have HB8 := Aside0.mk hb8; clear hb8)
    clear PR q0 q1 q2 q3 q4
    have hok := HMO.out.ok
    have huok : us.all (okProd ns.length ts.length) = true := ERB.out.symm
    have hsub : ∀ p ∈ ps, p ∈ us := fun p hp => by rw [EUS.out]; exact List.mem_append_left _ hp
    have hnn : 0 < ns.length := HMO.out.n1
    have hn5 := HMO.out.n5
    have ht4 := HMO.out.t4
    obtain ⟨kA, hA⟩ := (Ev.val (first_ev ns ts 0 0 ps HMO.out.small (by omega) (by omega)) (if_pos hok)).rounds
    obtain ⟨kB, hB⟩ := (Ev.val (first_ev ns ts 0 0 us HSM.out (by omega) (by omega)) (if_pos huok)).rounds
    obtain ⟨kC, hC⟩ := (Ev.val (follow_ev ns ts 0 0 ps HMO.out.small (by omega) (by omega)) (if_pos hok)).rounds
    obtain ⟨kD, hD⟩ := (Ev.val (follow_ev ns ts 0 0 us HSM.out (by omega) (by omega)) (if_pos huok)).rounds
    obtain ⟨kE, hE⟩ := (Ev.val (empty_ev ns ts 0 0 ps HMO.out.small (by omega)) (if_pos hok)).rounds
    obtain ⟨kF, hF⟩ := (Ev.val (empty_ev ns ts 0 0 us HSM.out (by omega)) (if_pos huok)).rounds
    obtain ⟨kG, hG⟩ := (Ev.val (useful_ev ns ts 0 0 us HSM.out (by omega)) (if_pos huok)).rounds
    have hsa := fst_sh ns.length ts.length (clo false ns.length ps) hok
    have hsb := fst_sh ns.length ts.length (clo false ns.length us) huok
    have hsc := fol_sh (clo false ns.length ps) hsa hok
    have hsd := fol_sh (clo false ns.length us) hsb huok
    have hle := clo_le (t1 := false) (t2 := false) hok huok hsub (fun h => h)
    have hlg := clo_le (t1 := false) (t2 := true) huok huok (fun _ h => h) (fun h => by simp at h)
    have hlf := fst_le hok huok hsub hle
    have hlo := fol_le hok huok hsub hnn hle hsa hsb hlf
    have hel := clo_length ns.length ts.length false hok
    have hfl := clo_length ns.length ts.length false huok
    have hgl := clo_length ns.length ts.length true huok
    generalize fol ns.length ts.length (clo false ns.length us) (fst ns.length ts.length (clo false ns.length us) us) us = fd at hD hsd hlo
    generalize fol ns.length ts.length (clo false ns.length ps) (fst ns.length ts.length (clo false ns.length ps) ps) ps = fc at hC hsc hlo
    generalize fst ns.length ts.length (clo false ns.length us) us = fb at hB hsb hlf
    generalize fst ns.length ts.length (clo false ns.length ps) ps = fa at hA hsa hlf
    generalize clo true ns.length us = gs at hG hlg hgl
    generalize clo false ns.length us = gf at hF hle hlg hfl
    generalize clo false ns.length ps = ge at hE hle hel
    have XA := Aside0.mk hA
    have XB := Aside0.mk hB
    have XC := Aside0.mk hC
    have XD := Aside0.mk hD
    have XE := Aside0.mk hE
    have XF := Aside0.mk hF
    have XG := Aside0.mk hG
    have HSA := Aside0.mk hsa
    have HSB := Aside0.mk hsb
    have HSC := Aside0.mk hsc
    have HSD := Aside0.mk hsd
    have HLG := Aside0.mk hlg
    have HLEM := Aside0.mk hle
    have HLF := Aside0.mk hlf
    have HLO := Aside0.mk hlo
    have HLN := Aside0.mk (And.intro hel (And.intro hfl hgl))
    have HN := Aside0.mk (And.intro hnn (And.intro hn5 ht4))
    clear hok huok hsub hnn hn5 ht4 hA hB hC hD hE hF hG hsa hsb hsc hsd hle hlg hlf hlo hel hfl hgl
    have HB8d : Aside0 (Below w7.heap.size w7 w8.drew) := ⟨below_drew1 HB8.out⟩
    have PA : Aside0 (∀ W, Below w7.heap.size w7 W → Calls Try.prog 14 #[.agg #[.slice An ns.length kn, .slice At ts.length kt, .int .i64 0, .int .i64 0, .slice Ap ps.length kp]] W fun e w' => ∃ v0_ : Value, e = .returned (v0_) ∧ Kd.S (Kd.slice 3 (Kd.int .i64)) 39 w' W.heap.size (fun _ => True) v0_ (idxs fa) ∧ Below W.heap.size W w') := ⟨fun W hb => firsts_First.calls kA An kn ns At kt ts 0 0 Ap kp ps (idxs fa) W (Kd.C_below CN.out hb) HKL.out.1 (Kd.C_below CT.out hb) HKL.out.2.1 (Kd.C_below CP.out hb) HKL.out.2.2 XA.out⟩
    have PB : Aside0 (∀ W, Below w7.heap.size w7 W → Calls Try.prog 14 #[.agg #[.slice An ns.length kn, .slice At ts.length kt, .int .i64 0, .int .i64 0, .slice A6 us.length c6]] W fun e w' => ∃ v0_ : Value, e = .returned (v0_) ∧ Kd.S (Kd.slice 3 (Kd.int .i64)) 39 w' W.heap.size (fun _ => True) v0_ (idxs fb) ∧ Below W.heap.size W w') := ⟨fun W hb => firsts_First.calls kB An kn ns At kt ts 0 0 A6 c6 us (idxs fb) W (Kd.C_below CN.out hb) HKL.out.1 (Kd.C_below CT.out hb) HKL.out.2.1 (Kd.C_below CU.out hb) HLE.out XB.out⟩
    have PC : Aside0 (∀ W, Below w7.heap.size w7 W → Calls Try.prog 18 #[.agg #[.slice An ns.length kn, .slice At ts.length kt, .int .i64 0, .int .i64 0, .slice Ap ps.length kp]] W fun e w' => ∃ v0_ : Value, e = .returned (v0_) ∧ Kd.S (Kd.slice 3 (Kd.int .i64)) 39 w' W.heap.size (fun _ => True) v0_ (idxs fc) ∧ Below W.heap.size W w') := ⟨fun W hb => firsts_Follow.calls kC An kn ns At kt ts 0 0 Ap kp ps (idxs fc) W (Kd.C_below CN.out hb) HKL.out.1 (Kd.C_below CT.out hb) HKL.out.2.1 (Kd.C_below CP.out hb) HKL.out.2.2 XC.out⟩
    have PD : Aside0 (∀ W, Below w7.heap.size w7 W → Calls Try.prog 18 #[.agg #[.slice An ns.length kn, .slice At ts.length kt, .int .i64 0, .int .i64 0, .slice A6 us.length c6]] W fun e w' => ∃ v0_ : Value, e = .returned (v0_) ∧ Kd.S (Kd.slice 3 (Kd.int .i64)) 39 w' W.heap.size (fun _ => True) v0_ (idxs fd) ∧ Below W.heap.size W w') := ⟨fun W hb => firsts_Follow.calls kD An kn ns At kt ts 0 0 A6 c6 us (idxs fd) W (Kd.C_below CN.out hb) HKL.out.1 (Kd.C_below CT.out hb) HKL.out.2.1 (Kd.C_below CU.out hb) HLE.out XD.out⟩
    have PE : Aside0 (∀ W, Below w7.heap.size w7 W → Calls Try.prog 15 #[.agg #[.slice An ns.length kn, .slice At ts.length kt, .int .i64 0, .int .i64 0, .slice Ap ps.length kp]] W fun e w' => ∃ v0_ : Value, e = .returned (v0_) ∧ Kd.R Kd.bool 4 w' W.heap.size (fun _ => True) v0_ ge ∧ Below W.heap.size W w') := ⟨fun W hb => firsts_Empty.calls kE An kn ns At kt ts 0 0 Ap kp ps ge W (Kd.C_below CN.out hb) HKL.out.1 (Kd.C_below CT.out hb) HKL.out.2.1 (Kd.C_below CP.out hb) HKL.out.2.2 XE.out⟩
    have PF : Aside0 (∀ W, Below w7.heap.size w7 W → Calls Try.prog 15 #[.agg #[.slice An ns.length kn, .slice At ts.length kt, .int .i64 0, .int .i64 0, .slice A6 us.length c6]] W fun e w' => ∃ v0_ : Value, e = .returned (v0_) ∧ Kd.R Kd.bool 4 w' W.heap.size (fun _ => True) v0_ gf ∧ Below W.heap.size W w') := ⟨fun W hb => firsts_Empty.calls kF An kn ns At kt ts 0 0 A6 c6 us gf W (Kd.C_below CN.out hb) HKL.out.1 (Kd.C_below CT.out hb) HKL.out.2.1 (Kd.C_below CU.out hb) HLE.out XF.out⟩
    have PG : Aside0 (∀ W, Below w7.heap.size w7 W → Calls Try.prog 16 #[.agg #[.slice An ns.length kn, .slice At ts.length kt, .int .i64 0, .int .i64 0, .slice A6 us.length c6]] W fun e w' => ∃ v0_ : Value, e = .returned (v0_) ∧ Kd.R Kd.bool 4 w' W.heap.size (fun _ => True) v0_ gs ∧ Below W.heap.size W w') := ⟨fun W hb => firsts_Useful.calls kG An kn ns At kt ts 0 0 A6 c6 us gs W (Kd.C_below CN.out hb) HKL.out.1 (Kd.C_below CT.out hb) HKL.out.2.1 (Kd.C_below CU.out hb) HLE.out XG.out⟩
    refine start_ (n := 6) (S := fun w' => w'.cell? ⟨S6, 0, none⟩ = some (.slice An ns.length kn) ∧ w'.cell? ⟨S6, 1, none⟩ = some (.slice At ts.length kt) ∧ w'.cell? ⟨S6, 2, none⟩ = some (.int .i64 0) ∧ w'.cell? ⟨S6, 3, none⟩ = some (.int .i64 0) ∧ w'.cell? ⟨S6, 4, none⟩ = some (.slice Ap ps.length kp) ∧ w'.cell? ⟨S6 + 1 + 1, 0, none⟩ = some (.slice An ns.length kn) ∧ w'.cell? ⟨S6 + 1 + 1, 1, none⟩ = some (.slice At ts.length kt) ∧ w'.cell? ⟨S6 + 1 + 1, 2, none⟩ = some (.int .i64 0) ∧ w'.cell? ⟨S6 + 1 + 1, 3, none⟩ = some (.int .i64 0) ∧ w'.cell? ⟨S6 + 1 + 1, 4, none⟩ = some (.slice A6 us.length c6)) (ds := []) #[false, false, false, false, false, false] (by kernel_rfl) rfl rfl ⟨(HC6.out _ HB8d.out).1, (HC6.out _ HB8d.out).2.1, (HC6.out _ HB8d.out).2.2.1, (HC6.out _ HB8d.out).2.2.2.1, (HC6.out _ HB8d.out).2.2.2.2, (HC8.out _ HB8d.out).1, (HC8.out _ HB8d.out).2.1, (HC8.out _ HB8d.out).2.2.1, (HC8.out _ HB8d.out).2.2.2.1, (HC8.out _ HB8d.out).2.2.2.2⟩ (fun hHeld => ?_)
    refine take_ (i := 0) (N := some 40) (v := ?_) (a' := ?_) #[true, false, false, false, false, false] rfl rfl (by kernel_rfl) (fun _ _ _ h => h) (Or.inl ⟨by rfl, ?_⟩) hHeld ?_ ?_
    rotate_left
    · rintro w' ⟨s0, s1, s2, s3, s4, s5, s6, s7, s8, s9⟩
      go_simp
      with_reducible rfl
    rotate_left
    · simp only [Act.put, List.setIfInBounds_toArray, List.set_cons_zero, List.set_cons_succ, i64_w, i32_w]
      rfl
    refine take_ (i := 2) (N := some 42) (v := ?_) (a' := ?_) #[true, false, true, false, false, false] rfl rfl (by kernel_rfl) (fun _ _ _ h => h) (Or.inl ⟨by rfl, ?_⟩) hHeld ?_ ?_
    rotate_left
    · rintro w' ⟨s0, s1, s2, s3, s4, s5, s6, s7, s8, s9⟩
      go_simp
      with_reducible rfl
    rotate_left
    · simp only [Act.put, List.setIfInBounds_toArray, List.set_cons_zero, List.set_cons_succ, i64_w, i32_w]
      rfl
    refine one_ (i := 1) (N := some 41) #[true, true, true, false, false, false] rfl rfl (by kernel_rfl) (by decide) (fun K hK => ?_)
    refine goes_ Try.func14 (by kernel_rfl) rfl #[.agg #[.slice An ns.length kn, .slice At ts.length kt, .int .i64 0, .int .i64 0, .slice Ap ps.length kp]] (by rfl) rfl rfl (by simp only [List.map_toArray, List.map_cons, List.map_nil]; rfl) ?_
    with_reducible refine (PA.out _ HB8d.out).mono ?_
    rintro e w9 ⟨v9, rfl, hS9, hb9⟩
    refine ⟨_, rfl, ?_⟩
    have HS9 := Aside0.mk hS9
    have HBS9 := Aside0.mk hb9
    have HB9 : Aside0 (Below w7.heap.size w7 w9) := ⟨(HB8d.out).trans (hb9.mono (HB8d.out).size)⟩
    clear hS9 hb9
    refine hK.out _ _ ⟨(HC6.out _ HB9.out).1, (HC6.out _ HB9.out).2.1, (HC6.out _ HB9.out).2.2.1, (HC6.out _ HB9.out).2.2.2.1, (HC6.out _ HB9.out).2.2.2.2, (HC8.out _ HB9.out).1, (HC8.out _ HB9.out).2.1, (HC8.out _ HB9.out).2.2.1, (HC8.out _ HB9.out).2.2.2.1, (HC8.out _ HB9.out).2.2.2.2⟩ (fun hHeld => ?_)
    clear hK K
    refine norm_ (a' := ?_) ?_ ?_
    rotate_left
    · show Act.put _ (some 41) _ = _
      simp only [Act.put, List.setIfInBounds_toArray, List.set_cons_zero, List.set_cons_succ, i64_w, i32_w]
      rfl
    refine one_ (i := 3) (N := some 43) #[true, true, true, true, false, false] rfl rfl (by kernel_rfl) (by decide) (fun K hK => ?_)
    refine goes_ Try.func14 (by kernel_rfl) rfl #[.agg #[.slice An ns.length kn, .slice At ts.length kt, .int .i64 0, .int .i64 0, .slice A6 us.length c6]] (by rfl) rfl rfl (by simp only [List.map_toArray, List.map_cons, List.map_nil]; rfl) ?_
    with_reducible refine (PB.out _ HB9.out).mono ?_
    rintro e w10 ⟨v10, rfl, hS10, hb10⟩
    refine ⟨_, rfl, ?_⟩
    have HS10 := Aside0.mk hS10
    have HBS10 := Aside0.mk hb10
    have HB10 : Aside0 (Below w7.heap.size w7 w10) := ⟨(HB9.out).trans (hb10.mono (HB9.out).size)⟩
    clear hS10 hb10
    refine hK.out _ _ ⟨(HC6.out _ HB10.out).1, (HC6.out _ HB10.out).2.1, (HC6.out _ HB10.out).2.2.1, (HC6.out _ HB10.out).2.2.2.1, (HC6.out _ HB10.out).2.2.2.2, (HC8.out _ HB10.out).1, (HC8.out _ HB10.out).2.1, (HC8.out _ HB10.out).2.2.1, (HC8.out _ HB10.out).2.2.2.1, (HC8.out _ HB10.out).2.2.2.2⟩ (fun hHeld => ?_)
    clear hK K
    refine norm_ (a' := ?_) ?_ ?_
    rotate_left
    · show Act.put _ (some 43) _ = _
      simp only [Act.put, List.setIfInBounds_toArray, List.set_cons_zero, List.set_cons_succ, i64_w, i32_w]
      rfl
    refine pure_ (i := 4) (N := some 9) (v := ?_) (a' := ?_) #[true, true, true, true, true, false] rfl rfl (by kernel_rfl) (fun _ _ _ h => h) (Or.inl ⟨by rfl, ?_⟩) ?_ ?_
    rotate_left
    · intro w'
      go_simp
      with_reducible rfl
    rotate_left
    · simp only [Act.put, List.setIfInBounds_toArray, List.set_cons_zero, List.set_cons_succ, i64_w, i32_w]
      rfl
    refine pure_ (i := 5) (N := some 10) (v := ?_) (a' := ?_) #[true, true, true, true, true, true] rfl rfl (by kernel_rfl) (fun _ _ _ h => h) (Or.inl ⟨by rfl, ?_⟩) ?_ ?_
    rotate_left
    · intro w'
      go_simp
      with_reducible rfl
    rotate_left
    · simp only [Act.put, List.setIfInBounds_toArray, List.set_cons_zero, List.set_cons_succ, i64_w, i32_w]
      rfl
    refine done_ (by kernel_rfl) ?_
    clear HX6 HX8
    go_upto_region 10 with fail
    have HBd10 : Aside0 (Below w7.heap.size w7 w10.drew) := ⟨below_drew1 HB10.out⟩
    refine start_ (n := 6) (S := fun w' => w'.cell? ⟨S6, 0, none⟩ = some (.slice An ns.length kn) ∧ w'.cell? ⟨S6, 1, none⟩ = some (.slice At ts.length kt) ∧ w'.cell? ⟨S6, 2, none⟩ = some (.int .i64 0) ∧ w'.cell? ⟨S6, 3, none⟩ = some (.int .i64 0) ∧ w'.cell? ⟨S6, 4, none⟩ = some (.slice Ap ps.length kp) ∧ w'.cell? ⟨S6 + 1 + 1, 0, none⟩ = some (.slice An ns.length kn) ∧ w'.cell? ⟨S6 + 1 + 1, 1, none⟩ = some (.slice At ts.length kt) ∧ w'.cell? ⟨S6 + 1 + 1, 2, none⟩ = some (.int .i64 0) ∧ w'.cell? ⟨S6 + 1 + 1, 3, none⟩ = some (.int .i64 0) ∧ w'.cell? ⟨S6 + 1 + 1, 4, none⟩ = some (.slice A6 us.length c6)) (ds := []) #[false, false, false, false, false, false] (by kernel_rfl) rfl rfl ⟨(HC6.out _ HBd10.out).1, (HC6.out _ HBd10.out).2.1, (HC6.out _ HBd10.out).2.2.1, (HC6.out _ HBd10.out).2.2.2.1, (HC6.out _ HBd10.out).2.2.2.2, (HC8.out _ HBd10.out).1, (HC8.out _ HBd10.out).2.1, (HC8.out _ HBd10.out).2.2.1, (HC8.out _ HBd10.out).2.2.2.1, (HC8.out _ HBd10.out).2.2.2.2⟩ (fun hHeld => ?_)
    refine take_ (i := 0) (N := some 44) (v := ?_) (a' := ?_) #[true, false, false, false, false, false] rfl rfl (by kernel_rfl) (fun _ _ _ h => h) (Or.inl ⟨by rfl, ?_⟩) hHeld ?_ ?_
    rotate_left
    · rintro w' ⟨s0, s1, s2, s3, s4, s5, s6, s7, s8, s9⟩
      go_simp
      with_reducible rfl
    rotate_left
    · simp only [Act.put, List.setIfInBounds_toArray, List.set_cons_zero, List.set_cons_succ, i64_w, i32_w]
      rfl
    refine take_ (i := 2) (N := some 46) (v := ?_) (a' := ?_) #[true, false, true, false, false, false] rfl rfl (by kernel_rfl) (fun _ _ _ h => h) (Or.inl ⟨by rfl, ?_⟩) hHeld ?_ ?_
    rotate_left
    · rintro w' ⟨s0, s1, s2, s3, s4, s5, s6, s7, s8, s9⟩
      go_simp
      with_reducible rfl
    rotate_left
    · simp only [Act.put, List.setIfInBounds_toArray, List.set_cons_zero, List.set_cons_succ, i64_w, i32_w]
      rfl
    refine one_ (i := 1) (N := some 45) #[true, true, true, false, false, false] rfl rfl (by kernel_rfl) (by decide) (fun K hK => ?_)
    refine goes_ Try.func18 (by kernel_rfl) rfl #[.agg #[.slice An ns.length kn, .slice At ts.length kt, .int .i64 0, .int .i64 0, .slice Ap ps.length kp]] (by rfl) rfl rfl (by simp only [List.map_toArray, List.map_cons, List.map_nil]; rfl) ?_
    with_reducible refine (PC.out _ HBd10.out).mono ?_
    rintro e w11 ⟨v11, rfl, hS11, hb11⟩
    refine ⟨_, rfl, ?_⟩
    have HS11 := Aside0.mk hS11
    have HBS11 := Aside0.mk hb11
    have HB11 : Aside0 (Below w7.heap.size w7 w11) := ⟨(HBd10.out).trans (hb11.mono (HBd10.out).size)⟩
    clear hS11 hb11
    refine hK.out _ _ ⟨(HC6.out _ HB11.out).1, (HC6.out _ HB11.out).2.1, (HC6.out _ HB11.out).2.2.1, (HC6.out _ HB11.out).2.2.2.1, (HC6.out _ HB11.out).2.2.2.2, (HC8.out _ HB11.out).1, (HC8.out _ HB11.out).2.1, (HC8.out _ HB11.out).2.2.1, (HC8.out _ HB11.out).2.2.2.1, (HC8.out _ HB11.out).2.2.2.2⟩ (fun hHeld => ?_)
    clear hK K
    refine norm_ (a' := ?_) ?_ ?_
    rotate_left
    · show Act.put _ (some 45) _ = _
      simp only [Act.put, List.setIfInBounds_toArray, List.set_cons_zero, List.set_cons_succ, i64_w, i32_w]
      rfl
    refine one_ (i := 3) (N := some 47) #[true, true, true, true, false, false] rfl rfl (by kernel_rfl) (by decide) (fun K hK => ?_)
    refine goes_ Try.func18 (by kernel_rfl) rfl #[.agg #[.slice An ns.length kn, .slice At ts.length kt, .int .i64 0, .int .i64 0, .slice A6 us.length c6]] (by rfl) rfl rfl (by simp only [List.map_toArray, List.map_cons, List.map_nil]; rfl) ?_
    with_reducible refine (PD.out _ HB11.out).mono ?_
    rintro e w12 ⟨v12, rfl, hS12, hb12⟩
    refine ⟨_, rfl, ?_⟩
    have HS12 := Aside0.mk hS12
    have HBS12 := Aside0.mk hb12
    have HB12 : Aside0 (Below w7.heap.size w7 w12) := ⟨(HB11.out).trans (hb12.mono (HB11.out).size)⟩
    clear hS12 hb12
    refine hK.out _ _ ⟨(HC6.out _ HB12.out).1, (HC6.out _ HB12.out).2.1, (HC6.out _ HB12.out).2.2.1, (HC6.out _ HB12.out).2.2.2.1, (HC6.out _ HB12.out).2.2.2.2, (HC8.out _ HB12.out).1, (HC8.out _ HB12.out).2.1, (HC8.out _ HB12.out).2.2.1, (HC8.out _ HB12.out).2.2.2.1, (HC8.out _ HB12.out).2.2.2.2⟩ (fun hHeld => ?_)
    clear hK K
    refine norm_ (a' := ?_) ?_ ?_
    rotate_left
    · show Act.put _ (some 47) _ = _
      simp only [Act.put, List.setIfInBounds_toArray, List.set_cons_zero, List.set_cons_succ, i64_w, i32_w]
      rfl
    refine pure_ (i := 4) (N := some 11) (v := ?_) (a' := ?_) #[true, true, true, true, true, false] rfl rfl (by kernel_rfl) (fun _ _ _ h => h) (Or.inl ⟨by rfl, ?_⟩) ?_ ?_
    rotate_left
    · intro w'
      go_simp
      with_reducible rfl
    rotate_left
    · simp only [Act.put, List.setIfInBounds_toArray, List.set_cons_zero, List.set_cons_succ, i64_w, i32_w]
      rfl
    refine pure_ (i := 5) (N := some 12) (v := ?_) (a' := ?_) #[true, true, true, true, true, true] rfl rfl (by kernel_rfl) (fun _ _ _ h => h) (Or.inl ⟨by rfl, ?_⟩) ?_ ?_
    rotate_left
    · intro w'
      go_simp
      with_reducible rfl
    rotate_left
    · simp only [Act.put, List.setIfInBounds_toArray, List.set_cons_zero, List.set_cons_succ, i64_w, i32_w]
      rfl
    refine done_ (by kernel_rfl) ?_
    go_upto_region 11 with fail
    have HBd11 : Aside0 (Below w7.heap.size w7 w12.drew) := ⟨below_drew1 HB12.out⟩
    refine start_ (n := 9) (S := fun w' => w'.cell? ⟨S6, 0, none⟩ = some (.slice An ns.length kn) ∧ w'.cell? ⟨S6, 1, none⟩ = some (.slice At ts.length kt) ∧ w'.cell? ⟨S6, 2, none⟩ = some (.int .i64 0) ∧ w'.cell? ⟨S6, 3, none⟩ = some (.int .i64 0) ∧ w'.cell? ⟨S6, 4, none⟩ = some (.slice Ap ps.length kp) ∧ w'.cell? ⟨S6 + 1 + 1, 0, none⟩ = some (.slice An ns.length kn) ∧ w'.cell? ⟨S6 + 1 + 1, 1, none⟩ = some (.slice At ts.length kt) ∧ w'.cell? ⟨S6 + 1 + 1, 2, none⟩ = some (.int .i64 0) ∧ w'.cell? ⟨S6 + 1 + 1, 3, none⟩ = some (.int .i64 0) ∧ w'.cell? ⟨S6 + 1 + 1, 4, none⟩ = some (.slice A6 us.length c6)) (ds := []) #[false, false, false, false, false, false, false, false, false] (by kernel_rfl) rfl rfl ⟨(HC6.out _ HBd11.out).1, (HC6.out _ HBd11.out).2.1, (HC6.out _ HBd11.out).2.2.1, (HC6.out _ HBd11.out).2.2.2.1, (HC6.out _ HBd11.out).2.2.2.2, (HC8.out _ HBd11.out).1, (HC8.out _ HBd11.out).2.1, (HC8.out _ HBd11.out).2.2.1, (HC8.out _ HBd11.out).2.2.2.1, (HC8.out _ HBd11.out).2.2.2.2⟩ (fun hHeld => ?_)
    refine take_ (i := 0) (N := some 48) (v := ?_) (a' := ?_) #[true, false, false, false, false, false, false, false, false] rfl rfl (by kernel_rfl) (fun _ _ _ h => h) (Or.inl ⟨by rfl, ?_⟩) hHeld ?_ ?_
    rotate_left
    · rintro w' ⟨s0, s1, s2, s3, s4, s5, s6, s7, s8, s9⟩
      go_simp
      with_reducible rfl
    rotate_left
    · simp only [Act.put, List.setIfInBounds_toArray, List.set_cons_zero, List.set_cons_succ, i64_w, i32_w]
      rfl
    refine take_ (i := 2) (N := some 50) (v := ?_) (a' := ?_) #[true, false, true, false, false, false, false, false, false] rfl rfl (by kernel_rfl) (fun _ _ _ h => h) (Or.inl ⟨by rfl, ?_⟩) hHeld ?_ ?_
    rotate_left
    · rintro w' ⟨s0, s1, s2, s3, s4, s5, s6, s7, s8, s9⟩
      go_simp
      with_reducible rfl
    rotate_left
    · simp only [Act.put, List.setIfInBounds_toArray, List.set_cons_zero, List.set_cons_succ, i64_w, i32_w]
      rfl
    refine take_ (i := 4) (N := some 52) (v := ?_) (a' := ?_) #[true, false, true, false, true, false, false, false, false] rfl rfl (by kernel_rfl) (fun _ _ _ h => h) (Or.inl ⟨by rfl, ?_⟩) hHeld ?_ ?_
    rotate_left
    · rintro w' ⟨s0, s1, s2, s3, s4, s5, s6, s7, s8, s9⟩
      go_simp
      with_reducible rfl
    rotate_left
    · simp only [Act.put, List.setIfInBounds_toArray, List.set_cons_zero, List.set_cons_succ, i64_w, i32_w]
      rfl
    refine one_ (i := 1) (N := some 49) #[true, true, true, false, true, false, false, false, false] rfl rfl (by kernel_rfl) (by decide) (fun K hK => ?_)
    refine goes_ Try.func15 (by kernel_rfl) rfl #[.agg #[.slice An ns.length kn, .slice At ts.length kt, .int .i64 0, .int .i64 0, .slice Ap ps.length kp]] (by rfl) rfl rfl (by simp only [List.map_toArray, List.map_cons, List.map_nil]; rfl) ?_
    with_reducible refine (PE.out _ HBd11.out).mono ?_
    rintro e w13 ⟨v13, rfl, hS13, hb13⟩
    refine ⟨_, rfl, ?_⟩
    have HS13 := Aside0.mk hS13
    have HBS13 := Aside0.mk hb13
    have HB13 : Aside0 (Below w7.heap.size w7 w13) := ⟨(HBd11.out).trans (hb13.mono (HBd11.out).size)⟩
    clear hS13 hb13
    refine hK.out _ _ ⟨(HC6.out _ HB13.out).1, (HC6.out _ HB13.out).2.1, (HC6.out _ HB13.out).2.2.1, (HC6.out _ HB13.out).2.2.2.1, (HC6.out _ HB13.out).2.2.2.2, (HC8.out _ HB13.out).1, (HC8.out _ HB13.out).2.1, (HC8.out _ HB13.out).2.2.1, (HC8.out _ HB13.out).2.2.2.1, (HC8.out _ HB13.out).2.2.2.2⟩ (fun hHeld => ?_)
    clear hK K
    refine norm_ (a' := ?_) ?_ ?_
    rotate_left
    · show Act.put _ (some 49) _ = _
      simp only [Act.put, List.setIfInBounds_toArray, List.set_cons_zero, List.set_cons_succ, i64_w, i32_w]
      rfl
    refine one_ (i := 3) (N := some 51) #[true, true, true, true, true, false, false, false, false] rfl rfl (by kernel_rfl) (by decide) (fun K hK => ?_)
    refine goes_ Try.func15 (by kernel_rfl) rfl #[.agg #[.slice An ns.length kn, .slice At ts.length kt, .int .i64 0, .int .i64 0, .slice A6 us.length c6]] (by rfl) rfl rfl (by simp only [List.map_toArray, List.map_cons, List.map_nil]; rfl) ?_
    with_reducible refine (PF.out _ HB13.out).mono ?_
    rintro e w14 ⟨v14, rfl, hS14, hb14⟩
    refine ⟨_, rfl, ?_⟩
    have HS14 := Aside0.mk hS14
    have HBS14 := Aside0.mk hb14
    have HB14 : Aside0 (Below w7.heap.size w7 w14) := ⟨(HB13.out).trans (hb14.mono (HB13.out).size)⟩
    clear hS14 hb14
    refine hK.out _ _ ⟨(HC6.out _ HB14.out).1, (HC6.out _ HB14.out).2.1, (HC6.out _ HB14.out).2.2.1, (HC6.out _ HB14.out).2.2.2.1, (HC6.out _ HB14.out).2.2.2.2, (HC8.out _ HB14.out).1, (HC8.out _ HB14.out).2.1, (HC8.out _ HB14.out).2.2.1, (HC8.out _ HB14.out).2.2.2.1, (HC8.out _ HB14.out).2.2.2.2⟩ (fun hHeld => ?_)
    clear hK K
    refine norm_ (a' := ?_) ?_ ?_
    rotate_left
    · show Act.put _ (some 51) _ = _
      simp only [Act.put, List.setIfInBounds_toArray, List.set_cons_zero, List.set_cons_succ, i64_w, i32_w]
      rfl
    refine one_ (i := 5) (N := some 53) #[true, true, true, true, true, true, false, false, false] rfl rfl (by kernel_rfl) (by decide) (fun K hK => ?_)
    refine goes_ Try.func16 (by kernel_rfl) rfl #[.agg #[.slice An ns.length kn, .slice At ts.length kt, .int .i64 0, .int .i64 0, .slice A6 us.length c6]] (by rfl) rfl rfl (by simp only [List.map_toArray, List.map_cons, List.map_nil]; rfl) ?_
    with_reducible refine (PG.out _ HB14.out).mono ?_
    rintro e w15 ⟨v15, rfl, hS15, hb15⟩
    refine ⟨_, rfl, ?_⟩
    have HS15 := Aside0.mk hS15
    have HBS15 := Aside0.mk hb15
    have HB15 : Aside0 (Below w7.heap.size w7 w15) := ⟨(HB14.out).trans (hb15.mono (HB14.out).size)⟩
    clear hS15 hb15
    refine hK.out _ _ ⟨(HC6.out _ HB15.out).1, (HC6.out _ HB15.out).2.1, (HC6.out _ HB15.out).2.2.1, (HC6.out _ HB15.out).2.2.2.1, (HC6.out _ HB15.out).2.2.2.2, (HC8.out _ HB15.out).1, (HC8.out _ HB15.out).2.1, (HC8.out _ HB15.out).2.2.1, (HC8.out _ HB15.out).2.2.2.1, (HC8.out _ HB15.out).2.2.2.2⟩ (fun hHeld => ?_)
    clear hK K
    refine norm_ (a' := ?_) ?_ ?_
    rotate_left
    · show Act.put _ (some 53) _ = _
      simp only [Act.put, List.setIfInBounds_toArray, List.set_cons_zero, List.set_cons_succ, i64_w, i32_w]
      rfl
    refine pure_ (i := 6) (N := some 13) (v := ?_) (a' := ?_) #[true, true, true, true, true, true, true, false, false] rfl rfl (by kernel_rfl) (fun _ _ _ h => h) (Or.inl ⟨by rfl, ?_⟩) ?_ ?_
    rotate_left
    · intro w'
      go_simp
      with_reducible rfl
    rotate_left
    · simp only [Act.put, List.setIfInBounds_toArray, List.set_cons_zero, List.set_cons_succ, i64_w, i32_w]
      rfl
    refine pure_ (i := 7) (N := some 14) (v := ?_) (a' := ?_) #[true, true, true, true, true, true, true, true, false] rfl rfl (by kernel_rfl) (fun _ _ _ h => h) (Or.inl ⟨by rfl, ?_⟩) ?_ ?_
    rotate_left
    · intro w'
      go_simp
      with_reducible rfl
    rotate_left
    · simp only [Act.put, List.setIfInBounds_toArray, List.set_cons_zero, List.set_cons_succ, i64_w, i32_w]
      rfl
    refine pure_ (i := 8) (N := some 15) (v := ?_) (a' := ?_) #[true, true, true, true, true, true, true, true, true] rfl rfl (by kernel_rfl) (fun _ _ _ h => h) (Or.inl ⟨by rfl, ?_⟩) ?_ ?_
    rotate_left
    · intro w'
      go_simp
      with_reducible rfl
    rotate_left
    · simp only [Act.put, List.setIfInBounds_toArray, List.set_cons_zero, List.set_cons_succ, i64_w, i32_w]
      rfl
    refine done_ (by kernel_rfl) ?_
    have HB15_14 := HBS15
    have HB15_13 : Aside0 (Below w13.heap.size w13 w15) := ⟨HBS14.out.trans (HBS15.out.mono HBS14.out.size)⟩
    have HB15_12 : Aside0 (Below w12.heap.size w12 w15) := ⟨(below_drew1 (Below.refl _ _)).trans ((HBS13.out.trans (HB15_13.out.mono HBS13.out.size)).mono (Nat.le_refl _))⟩
    have HB15_11 : Aside0 (Below w11.heap.size w11 w15) := ⟨HBS12.out.trans (HB15_12.out.mono HBS12.out.size)⟩
    have HB15_10 : Aside0 (Below w10.heap.size w10 w15) := ⟨(below_drew1 (Below.refl _ _)).trans ((HBS11.out.trans (HB15_11.out.mono HBS11.out.size)).mono (Nat.le_refl _))⟩
    have HB15_9 : Aside0 (Below w9.heap.size w9 w15) := ⟨HBS10.out.trans (HB15_10.out.mono HBS10.out.size)⟩
    have HL9 : Aside0 ((idxs fa).length = ns.length) := ⟨by rw [idxs, List.length_map, HSA.out.1]⟩
    obtain ⟨A9_, C9_, rfl⟩ : ∃ A c, v9 = .slice A ns.length c := by obtain ⟨A, c, e⟩ := Kd.S_slice HS9.out; rw [HL9.out] at e; exact ⟨A, c, e⟩
    have CX9 : Aside0 (Kd.C (Kd.slice 3 (Kd.int .i64)) w15 A9_ ns.length (idxs fa)) := ⟨by have h := Kd.C_below (Kd.S_reads' HS9.out).2.2 HB15_9.out; rw [HL9.out] at h; exact h⟩
    have HL10 : Aside0 ((idxs fb).length = ns.length) := ⟨by rw [idxs, List.length_map, HSB.out.1]⟩
    obtain ⟨A10_, C10_, rfl⟩ : ∃ A c, v10 = .slice A ns.length c := by obtain ⟨A, c, e⟩ := Kd.S_slice HS10.out; rw [HL10.out] at e; exact ⟨A, c, e⟩
    have CX10 : Aside0 (Kd.C (Kd.slice 3 (Kd.int .i64)) w15 A10_ ns.length (idxs fb)) := ⟨by have h := Kd.C_below (Kd.S_reads' HS10.out).2.2 HB15_10.out; rw [HL10.out] at h; exact h⟩
    have HL11 : Aside0 ((idxs fc).length = ns.length) := ⟨by rw [idxs, List.length_map, HSC.out.1]⟩
    obtain ⟨A11_, C11_, rfl⟩ : ∃ A c, v11 = .slice A ns.length c := by obtain ⟨A, c, e⟩ := Kd.S_slice HS11.out; rw [HL11.out] at e; exact ⟨A, c, e⟩
    have CX11 : Aside0 (Kd.C (Kd.slice 3 (Kd.int .i64)) w15 A11_ ns.length (idxs fc)) := ⟨by have h := Kd.C_below (Kd.S_reads' HS11.out).2.2 HB15_11.out; rw [HL11.out] at h; exact h⟩
    have HL12 : Aside0 ((idxs fd).length = ns.length) := ⟨by rw [idxs, List.length_map, HSD.out.1]⟩
    obtain ⟨A12_, C12_, rfl⟩ : ∃ A c, v12 = .slice A ns.length c := by obtain ⟨A, c, e⟩ := Kd.S_slice HS12.out; rw [HL12.out] at e; exact ⟨A, c, e⟩
    have CX12 : Aside0 (Kd.C (Kd.slice 3 (Kd.int .i64)) w15 A12_ ns.length (idxs fd)) := ⟨by have h := Kd.C_below (Kd.S_reads' HS12.out).2.2 HB15_12.out; rw [HL12.out] at h; exact h⟩
    obtain ⟨A13_, C13_, rfl⟩ : ∃ A c, v13 = .slice A ns.length c := by obtain ⟨A, c, e⟩ := Kd.R_slice HS13.out; rw [HLN.out.1] at e; exact ⟨A, c, e⟩
    have CX13 : Aside0 (Kd.bool.C w15 A13_ ns.length ge) := ⟨by have h := Kd.C_below (Kd.R_reads' HS13.out).2.2 HB15_13.out; rw [HLN.out.1] at h; exact h⟩
    obtain ⟨A14_, C14_, rfl⟩ : ∃ A c, v14 = .slice A ns.length c := by obtain ⟨A, c, e⟩ := Kd.R_slice HS14.out; rw [HLN.out.2.1] at e; exact ⟨A, c, e⟩
    have CX14 : Aside0 (Kd.bool.C w15 A14_ ns.length gf) := ⟨by have h := Kd.C_below (Kd.R_reads' HS14.out).2.2 HB15_14.out; rw [HLN.out.2.1] at h; exact h⟩
    obtain ⟨A15_, C15_, rfl⟩ : ∃ A c, v15 = .slice A ns.length c := by obtain ⟨A, c, e⟩ := Kd.R_slice HS15.out; rw [HLN.out.2.2] at e; exact ⟨A, c, e⟩
    have CX15 : Aside0 (Kd.bool.C w15 A15_ ns.length gs) := ⟨by have h := Kd.C_below (Kd.R_reads' HS15.out).2.2 (Below.refl _ _); rw [HLN.out.2.2] at h; exact h⟩
    have HW15 : Aside0 (Below w.heap.size w w15) := ⟨HW7.out.trans (HB15.out.mono HW7.out.size)⟩
    clear HS9 HS10 HS11 HS12 HS13 HS14 HS15 HBS9 HBS10 HBS11 HBS12 HBS13 HBS14 HBS15 HB15_14 HB15_13 HB15_12 HB15_11 HB15_10 HB15_9 HB9 HB10 HB11 HB12 HB13 HB14 HB15 HBd10 HBd11 PA PB PC PD PE PF PG XA XB XC XD XE XF XG CN CT CP CU HB8 HB8d HL9 HL10 HL11 HL12
    obtain ⟨q0, q1, q2, q3, q4⟩ : w15.cell? ⟨S6, 0, none⟩ = some (.slice An ns.length kn) ∧ True ∧ True ∧ True ∧ True := ⟨hHeld.1, trivial, trivial, trivial, trivial⟩
    clear q1 q2 q3 q4
    have b1 : (ns.length == ns.length) = true := by simp
    have b2 : ((ns.length : Int) != (ns.length : Int)) = false := by simp
    have b3 : ((ns.length : Int) == (ns.length : Int)) = true := by simp
    go_wp2
    go_loopg [17] ns.length (fun kq v17 wr => ∃ i : Nat, v17 = .int .i64 (i : Int) ∧ i ≤ ns.length ∧ ns.length - i ≤ kq ∧ Aside0 (Below w15.heap.size w15 wr))
    case atStart => exact ⟨0, rfl, by omega, by omega, ⟨Below.refl _ _⟩⟩
    case round =>
      obtain ⟨i, rfl, hi, hkq, HBI⟩ := hrel
      have hwi : IntKind.i64.wrap ((i : Int) + 1) = (i : Int) + 1 := by rw [IntKind.wrap_i64]; have := HN.out.2.1; omega
      by_cases hlt : i < ns.length
      · have d2 : decide ((i : Int) < (ns.length : Int)) = true := decide_eq_true (by omega)
        have d3 : decide (i < ns.length) = true := decide_eq_true hlt
        have HK := Aside0.mk hlt
        have HKQ := Aside0.mk hkq
        clear hlt hkq hi
        have hk0 := HK.out
        obtain ⟨adv9, csv9, eav9, _, ⟨R9, r9, rfl, hle9, hC9⟩, hcv9⟩ := ReadsRow.get_ (Kd.C_below CX9.out HBI.out) ([] : List Int) (i : Int) (by omega) (by omega)
        have hcw9 := hcv9 0 _ rfl
        rw [show (i : Int).toNat * (Kd.slice 3 (Kd.int .i64)).sz + 0 = i from by show (i : Int).toNat * 1 + 0 = i; omega] at hcw9
        rw [show (i : Int).toNat = i from rfl, idxs_getD HSA.out hk0] at hcw9 hle9 hC9
        clear hcv9
        obtain ⟨adv10, csv10, eav10, _, ⟨R10, r10, rfl, hle10, hC10⟩, hcv10⟩ := ReadsRow.get_ (Kd.C_below CX10.out HBI.out) ([] : List Int) (i : Int) (by omega) (by omega)
        have hcw10 := hcv10 0 _ rfl
        rw [show (i : Int).toNat * (Kd.slice 3 (Kd.int .i64)).sz + 0 = i from by show (i : Int).toNat * 1 + 0 = i; omega] at hcw10
        rw [show (i : Int).toNat = i from rfl, idxs_getD HSB.out hk0] at hcw10 hle10 hC10
        clear hcv10
        obtain ⟨adv11, csv11, eav11, _, ⟨R11, r11, rfl, hle11, hC11⟩, hcv11⟩ := ReadsRow.get_ (Kd.C_below CX11.out HBI.out) ([] : List Int) (i : Int) (by omega) (by omega)
        have hcw11 := hcv11 0 _ rfl
        rw [show (i : Int).toNat * (Kd.slice 3 (Kd.int .i64)).sz + 0 = i from by show (i : Int).toNat * 1 + 0 = i; omega] at hcw11
        rw [show (i : Int).toNat = i from rfl, idxs_getD HSC.out hk0] at hcw11 hle11 hC11
        clear hcv11
        obtain ⟨adv12, csv12, eav12, _, ⟨R12, r12, rfl, hle12, hC12⟩, hcv12⟩ := ReadsRow.get_ (Kd.C_below CX12.out HBI.out) ([] : List Int) (i : Int) (by omega) (by omega)
        have hcw12 := hcv12 0 _ rfl
        rw [show (i : Int).toNat * (Kd.slice 3 (Kd.int .i64)).sz + 0 = i from by show (i : Int).toNat * 1 + 0 = i; omega] at hcw12
        rw [show (i : Int).toNat = i from rfl, idxs_getD HSD.out hk0] at hcw12 hle12 hC12
        clear hcv12
        have la := HSA.out.get (i := i) hk0
        have lb := HSB.out.get (i := i) hk0
        have lc := HSC.out.get (i := i) hk0
        have ld := HSD.out.get (i := i) hk0
        have lea := idx_length 0 (fa.getD i [])
        have leb := idx_length 0 (fb.getD i [])
        have lec := idx_length 0 (fc.getD i [])
        have led := idx_length 0 (fd.getD i [])
        have ht4 := HN.out.2.2
        obtain ⟨k1, hk1⟩ := (within_ev (idx 0 (fa.getD i [])) (idx 0 (fb.getD i [])) (by omega) (by omega) (idx_le (HLF.out i))).rounds
        obtain ⟨k2, hk2⟩ := (within_ev (idx 0 (fc.getD i [])) (idx 0 (fd.getD i [])) (by omega) (by omega) (idx_le (HLO.out i))).rounds
        have hef := HLEM.out i
        have hfg := HLG.out i
        obtain ⟨ade, ee, hce⟩ := Kd.at_bool (Kd.C_below CX13.out HBI.out) (i : Int) (by omega) (by omega)
        obtain ⟨adf, ef, hcf⟩ := Kd.at_bool (Kd.C_below CX14.out HBI.out) (i : Int) (by omega) (by omega)
        obtain ⟨adg, eg, hcg⟩ := Kd.at_bool (Kd.C_below CX15.out HBI.out) (i : Int) (by omega) (by omega)
        have re : rdOf false ge (i : Int) = ge.getD i false := by simp [rdOf]
        have rf : rdOf false gf (i : Int) = gf.getD i false := by simp [rdOf]
        have rg : rdOf false gs (i : Int) = gs.getD i false := by simp [rdOf]
        rw [re, show (i : Int).toNat = i from rfl] at hce
        rw [rf, show (i : Int).toNat = i from rfl] at hcf
        rw [rg, show (i : Int).toNat = i from rfl] at hcg
        have P1 : Aside0 (∀ W, Below wr.heap.size wr W → Calls Try.prog 20 #[.slice R9 (idx 0 (fa.getD i [])).length r9, .slice R10 (idx 0 (fb.getD i [])).length r10] W fun e w' => e = .returned (.bool true) ∧ Drawn0 W w') := ⟨fun W hb => regletlaw13_within.calls k1 R9 r9 _ R10 r10 _ true W (Kd.C_below hC9 hb) hle9 (Kd.C_below hC10 hb) hle10 hk1⟩
        have P2 : Aside0 (∀ W, Below wr.heap.size wr W → Calls Try.prog 20 #[.slice R11 (idx 0 (fc.getD i [])).length r11, .slice R12 (idx 0 (fd.getD i [])).length r12] W fun e w' => e = .returned (.bool true) ∧ Drawn0 W w') := ⟨fun W hb => regletlaw13_within.calls k2 R11 r11 _ R12 r12 _ true W (Kd.C_below hC11 hb) hle11 (Kd.C_below hC12 hb) hle12 hk2⟩
        have HC9 := Aside0.mk hcw9
        have HC10 := Aside0.mk hcw10
        have HC11 := Aside0.mk hcw11
        have HC12 := Aside0.mk hcw12
        have HBd : Aside0 (Below wr.heap.size wr wr.drew) := ⟨below_drew1 (Below.refl _ _)⟩
        have z0 : (0 ≤ (i : Int)) = True := eq_true (by omega)
        have z1 : ((i : Int) < (ns.length : Int)) = True := eq_true (by omega)
        have z2 : (i < ns.length) = True := eq_true hk0
        generalize (idx 0 (fa.getD i [])).length = n9 at *
        generalize (idx 0 (fb.getD i [])).length = n10 at *
        generalize (idx 0 (fc.getD i [])).length = n11 at *
        generalize (idx 0 (fd.getD i [])).length = n12 at *
        cases eav9; cases eav10; cases eav11; cases eav12; cases ee; cases ef; cases eg
        generalize ge.getD i false = xe at hce hef
        generalize gf.getD i false = xf at hcf hef hfg
        generalize gs.getD i false = xg at hcg hfg
        have HCE := Aside0.mk hce
        have HCF := Aside0.mk hcf
        have HCG := Aside0.mk hcg
        clear re rf rg la lb lc ld lea leb lec led ht4 hk1 hk2 hcw9 hcw10 hcw11 hcw12 hC9 hC10 hC11 hC12 hle9 hle10 hle11 hle12 hk0 hce hcf hcg
        cases xf with
        | false =>
          have he : xe = false := by cases xe with
            | false => rfl
            | true => exact absurd (hef rfl) (by simp)
          subst he
          clear hef hfg
          go_upto_region 18 with fail
          refine start_ (n := 48) (S := fun w' => w'.cell? (adv9.add i) = some (.slice R9 n9 r9) ∧ w'.cell? (adv10.add i) = some (.slice R10 n10 r10) ∧ w'.cell? (adv11.add i) = some (.slice R11 n11 r11) ∧ w'.cell? (adv12.add i) = some (.slice R12 n12 r12) ∧ w'.cell? (ade.add i) = some (.bool false) ∧ w'.cell? (adf.add i) = some (.bool false) ∧ w'.cell? (adg.add i) = some (.bool xg)) (ds := []) #[false, false, false, false, false, false, false, false, false, false, false, false, false, false, false, false, false, false, false, false, false, false, false, false, false, false, false, false, false, false, false, false, false, false, false, false, false, false, false, false, false, false, false, false, false, false, false, false] (by kernel_rfl) rfl rfl ⟨HC9.out, HC10.out, HC11.out, HC12.out, HCE.out, HCF.out, HCG.out⟩ (fun hHeld => ?_)
          refine pure_ (i := 0) (N := some 102) (v := ?_) (a' := ?_) #[true, false, false, false, false, false, false, false, false, false, false, false, false, false, false, false, false, false, false, false, false, false, false, false, false, false, false, false, false, false, false, false, false, false, false, false, false, false, false, false, false, false, false, false, false, false, false, false] rfl rfl (by kernel_rfl) (fun _ _ _ h => h) (Or.inl ⟨by rfl, ?_⟩) ?_ ?_
          rotate_left
          · intro w'
            go_simp
            with_reducible rfl
          rotate_left
          · simp only [Act.put, List.setIfInBounds_toArray, List.set_cons_zero, List.set_cons_succ, i64_w, i32_w]
            rfl
          refine pure_ (i := 1) (N := some 103) (v := ?_) (a' := ?_) #[true, true, false, false, false, false, false, false, false, false, false, false, false, false, false, false, false, false, false, false, false, false, false, false, false, false, false, false, false, false, false, false, false, false, false, false, false, false, false, false, false, false, false, false, false, false, false, false] rfl rfl (by kernel_rfl) (fun _ _ _ h => h) (Or.inl ⟨by rfl, ?_⟩) ?_ ?_
          rotate_left
          · intro w'
            go_simp
            with_reducible rfl
          rotate_left
          · simp only [Act.put, List.setIfInBounds_toArray, List.set_cons_zero, List.set_cons_succ, i64_w, i32_w]
            rfl
          refine pure_ (i := 2) (N := some 104) (v := ?_) (a' := ?_) #[true, true, true, false, false, false, false, false, false, false, false, false, false, false, false, false, false, false, false, false, false, false, false, false, false, false, false, false, false, false, false, false, false, false, false, false, false, false, false, false, false, false, false, false, false, false, false, false] rfl rfl (by kernel_rfl) (fun _ _ _ h => h) (Or.inl ⟨by rfl, ?_⟩) ?_ ?_
          rotate_left
          · intro w'
            go_simp
            with_reducible rfl
          rotate_left
          · simp only [Act.put, List.setIfInBounds_toArray, List.set_cons_zero, List.set_cons_succ, i64_w, i32_w]
            rfl
          refine pure_ (i := 4) (N := some 106) (v := ?_) (a' := ?_) #[true, true, true, false, true, false, false, false, false, false, false, false, false, false, false, false, false, false, false, false, false, false, false, false, false, false, false, false, false, false, false, false, false, false, false, false, false, false, false, false, false, false, false, false, false, false, false, false] rfl rfl (by kernel_rfl) (fun _ _ _ h => h) (Or.inl ⟨by rfl, ?_⟩) ?_ ?_
          rotate_left
          · intro w'
            go_simp
            with_reducible rfl
          rotate_left
          · simp only [Act.put, List.setIfInBounds_toArray, List.set_cons_zero, List.set_cons_succ, i64_w, i32_w]
            rfl
          refine pure_ (i := 5) (N := some 107) (v := ?_) (a' := ?_) #[true, true, true, false, true, true, false, false, false, false, false, false, false, false, false, false, false, false, false, false, false, false, false, false, false, false, false, false, false, false, false, false, false, false, false, false, false, false, false, false, false, false, false, false, false, false, false, false] rfl rfl (by kernel_rfl) (fun _ _ _ h => h) (Or.inl ⟨by rfl, ?_⟩) ?_ ?_
          rotate_left
          · intro w'
            go_simp
            with_reducible rfl
          rotate_left
          · simp only [Act.put, List.setIfInBounds_toArray, List.set_cons_zero, List.set_cons_succ, i64_w, i32_w]
            rfl
          refine pure_ (i := 6) (N := some 108) (v := ?_) (a' := ?_) #[true, true, true, false, true, true, true, false, false, false, false, false, false, false, false, false, false, false, false, false, false, false, false, false, false, false, false, false, false, false, false, false, false, false, false, false, false, false, false, false, false, false, false, false, false, false, false, false] rfl rfl (by kernel_rfl) (fun _ _ _ h => h) (Or.inl ⟨by rfl, ?_⟩) ?_ ?_
          rotate_left
          · intro w'
            go_simp
            with_reducible rfl
          rotate_left
          · simp only [Act.put, List.setIfInBounds_toArray, List.set_cons_zero, List.set_cons_succ, i64_w, i32_w]
            rfl
          refine take_ (i := 3) (N := some 105) (v := ?_) (a' := ?_) #[true, true, true, true, true, true, true, false, false, false, false, false, false, false, false, false, false, false, false, false, false, false, false, false, false, false, false, false, false, false, false, false, false, false, false, false, false, false, false, false, false, false, false, false, false, false, false, false] rfl rfl (by kernel_rfl) (fun _ _ _ h => h) (Or.inl ⟨by rfl, ?_⟩) hHeld ?_ ?_
          rotate_left
          · rintro w' ⟨s0, s1, s2, s3, s4, s5, s6⟩
            go_simp
            with_reducible rfl
          rotate_left
          · simp only [Act.put, List.setIfInBounds_toArray, List.set_cons_zero, List.set_cons_succ, i64_w, i32_w]
            rfl
          refine take_ (i := 7) (N := some 109) (v := ?_) (a' := ?_) #[true, true, true, true, true, true, true, true, false, false, false, false, false, false, false, false, false, false, false, false, false, false, false, false, false, false, false, false, false, false, false, false, false, false, false, false, false, false, false, false, false, false, false, false, false, false, false, false] rfl rfl (by kernel_rfl) (fun _ _ _ h => h) (Or.inl ⟨by rfl, ?_⟩) hHeld ?_ ?_
          rotate_left
          · rintro w' ⟨s0, s1, s2, s3, s4, s5, s6⟩
            go_simp
            with_reducible rfl
          rotate_left
          · simp only [Act.put, List.setIfInBounds_toArray, List.set_cons_zero, List.set_cons_succ, i64_w, i32_w]
            rfl
          refine one_ (i := 8) (N := some 110) #[true, true, true, true, true, true, true, true, true, false, false, false, false, false, false, false, false, false, false, false, false, false, false, false, false, false, false, false, false, false, false, false, false, false, false, false, false, false, false, false, false, false, false, false, false, false, false, false] rfl rfl (by kernel_rfl) (by decide) (fun K hK => ?_)
          refine goes_ Try.func20 (by kernel_rfl) rfl #[.slice R9 n9 r9, .slice R10 n10 r10] (by rfl) rfl rfl (by simp only [List.map_toArray, List.map_cons, List.map_nil]; rfl) ?_
          with_reducible refine (P1.out _ HBd.out).mono ?_
          rintro e w9 ⟨rfl, nd, rfl⟩
          refine ⟨_, rfl, ?_⟩
          refine hK.out _ _ ⟨hHeld.1, hHeld.2.1, hHeld.2.2.1, hHeld.2.2.2.1, hHeld.2.2.2.2.1, hHeld.2.2.2.2.2.1, hHeld.2.2.2.2.2.2⟩ (fun hHeld => ?_)
          clear hK K
          refine norm_ (a' := ?_) ?_ ?_
          rotate_left
          · show Act.put _ (some 110) _ = _
            simp only [Act.put, List.setIfInBounds_toArray, List.set_cons_zero, List.set_cons_succ, i64_w, i32_w]
            rfl
          refine pure_ (i := 9) (N := some 111) (v := ?_) (a' := ?_) #[true, true, true, true, true, true, true, true, true, true, false, false, false, false, false, false, false, false, false, false, false, false, false, false, false, false, false, false, false, false, false, false, false, false, false, false, false, false, false, false, false, false, false, false, false, false, false, false] rfl rfl (by kernel_rfl) (fun _ _ _ h => h) (Or.inl ⟨by rfl, ?_⟩) ?_ ?_
          rotate_left
          · intro w'
            go_simp
            with_reducible rfl
          rotate_left
          · simp only [Act.put, List.setIfInBounds_toArray, List.set_cons_zero, List.set_cons_succ, i64_w, i32_w]
            rfl
          refine pure_ (i := 10) (N := some 112) (v := ?_) (a' := ?_) #[true, true, true, true, true, true, true, true, true, true, true, false, false, false, false, false, false, false, false, false, false, false, false, false, false, false, false, false, false, false, false, false, false, false, false, false, false, false, false, false, false, false, false, false, false, false, false, false] rfl rfl (by kernel_rfl) (fun _ _ _ h => h) (Or.inl ⟨by rfl, ?_⟩) ?_ ?_
          rotate_left
          · intro w'
            go_simp
            with_reducible rfl
          rotate_left
          · simp only [Act.put, List.setIfInBounds_toArray, List.set_cons_zero, List.set_cons_succ, i64_w, i32_w]
            rfl
          refine pure_ (i := 11) (N := some 113) (v := ?_) (a' := ?_) #[true, true, true, true, true, true, true, true, true, true, true, true, false, false, false, false, false, false, false, false, false, false, false, false, false, false, false, false, false, false, false, false, false, false, false, false, false, false, false, false, false, false, false, false, false, false, false, false] rfl rfl (by kernel_rfl) (fun _ _ _ h => h) (Or.inl ⟨by rfl, ?_⟩) ?_ ?_
          rotate_left
          · intro w'
            go_simp
            with_reducible rfl
          rotate_left
          · simp only [Act.put, List.setIfInBounds_toArray, List.set_cons_zero, List.set_cons_succ, i64_w, i32_w]
            rfl
          refine pure_ (i := 12) (N := some 114) (v := ?_) (a' := ?_) #[true, true, true, true, true, true, true, true, true, true, true, true, true, false, false, false, false, false, false, false, false, false, false, false, false, false, false, false, false, false, false, false, false, false, false, false, false, false, false, false, false, false, false, false, false, false, false, false] rfl rfl (by kernel_rfl) (fun _ _ _ h => h) (Or.inl ⟨by rfl, ?_⟩) ?_ ?_
          rotate_left
          · intro w'
            go_simp
            with_reducible rfl
          rotate_left
          · simp only [Act.put, List.setIfInBounds_toArray, List.set_cons_zero, List.set_cons_succ, i64_w, i32_w]
            rfl
          refine pure_ (i := 13) (N := some 115) (v := ?_) (a' := ?_) #[true, true, true, true, true, true, true, true, true, true, true, true, true, true, false, false, false, false, false, false, false, false, false, false, false, false, false, false, false, false, false, false, false, false, false, false, false, false, false, false, false, false, false, false, false, false, false, false] rfl rfl (by kernel_rfl) (fun _ _ _ h => h) (Or.inl ⟨by rfl, ?_⟩) ?_ ?_
          rotate_left
          · intro w'
            go_simp
            with_reducible rfl
          rotate_left
          · simp only [Act.put, List.setIfInBounds_toArray, List.set_cons_zero, List.set_cons_succ, i64_w, i32_w]
            rfl
          refine pure_ (i := 15) (N := some 117) (v := ?_) (a' := ?_) #[true, true, true, true, true, true, true, true, true, true, true, true, true, true, false, true, false, false, false, false, false, false, false, false, false, false, false, false, false, false, false, false, false, false, false, false, false, false, false, false, false, false, false, false, false, false, false, false] rfl rfl (by kernel_rfl) (fun _ _ _ h => h) (Or.inl ⟨by rfl, ?_⟩) ?_ ?_
          rotate_left
          · intro w'
            go_simp
            with_reducible rfl
          rotate_left
          · simp only [Act.put, List.setIfInBounds_toArray, List.set_cons_zero, List.set_cons_succ, i64_w, i32_w]
            rfl
          refine pure_ (i := 16) (N := some 118) (v := ?_) (a' := ?_) #[true, true, true, true, true, true, true, true, true, true, true, true, true, true, false, true, true, false, false, false, false, false, false, false, false, false, false, false, false, false, false, false, false, false, false, false, false, false, false, false, false, false, false, false, false, false, false, false] rfl rfl (by kernel_rfl) (fun _ _ _ h => h) (Or.inl ⟨by rfl, ?_⟩) ?_ ?_
          rotate_left
          · intro w'
            go_simp
            with_reducible rfl
          rotate_left
          · simp only [Act.put, List.setIfInBounds_toArray, List.set_cons_zero, List.set_cons_succ, i64_w, i32_w]
            rfl
          refine pure_ (i := 17) (N := some 119) (v := ?_) (a' := ?_) #[true, true, true, true, true, true, true, true, true, true, true, true, true, true, false, true, true, true, false, false, false, false, false, false, false, false, false, false, false, false, false, false, false, false, false, false, false, false, false, false, false, false, false, false, false, false, false, false] rfl rfl (by kernel_rfl) (fun _ _ _ h => h) (Or.inl ⟨by rfl, ?_⟩) ?_ ?_
          rotate_left
          · intro w'
            go_simp
            with_reducible rfl
          rotate_left
          · simp only [Act.put, List.setIfInBounds_toArray, List.set_cons_zero, List.set_cons_succ, i64_w, i32_w]
            rfl
          refine take_ (i := 14) (N := some 116) (v := ?_) (a' := ?_) #[true, true, true, true, true, true, true, true, true, true, true, true, true, true, true, true, true, true, false, false, false, false, false, false, false, false, false, false, false, false, false, false, false, false, false, false, false, false, false, false, false, false, false, false, false, false, false, false] rfl rfl (by kernel_rfl) (fun _ _ _ h => h) (Or.inl ⟨by rfl, ?_⟩) hHeld ?_ ?_
          rotate_left
          · rintro w' ⟨s0, s1, s2, s3, s4, s5, s6⟩
            go_simp
            with_reducible rfl
          rotate_left
          · simp only [Act.put, List.setIfInBounds_toArray, List.set_cons_zero, List.set_cons_succ, i64_w, i32_w]
            rfl
          refine take_ (i := 18) (N := some 120) (v := ?_) (a' := ?_) #[true, true, true, true, true, true, true, true, true, true, true, true, true, true, true, true, true, true, true, false, false, false, false, false, false, false, false, false, false, false, false, false, false, false, false, false, false, false, false, false, false, false, false, false, false, false, false, false] rfl rfl (by kernel_rfl) (fun _ _ _ h => h) (Or.inl ⟨by rfl, ?_⟩) hHeld ?_ ?_
          rotate_left
          · rintro w' ⟨s0, s1, s2, s3, s4, s5, s6⟩
            go_simp
            with_reducible rfl
          rotate_left
          · simp only [Act.put, List.setIfInBounds_toArray, List.set_cons_zero, List.set_cons_succ, i64_w, i32_w]
            rfl
          refine one_ (i := 19) (N := some 121) #[true, true, true, true, true, true, true, true, true, true, true, true, true, true, true, true, true, true, true, true, false, false, false, false, false, false, false, false, false, false, false, false, false, false, false, false, false, false, false, false, false, false, false, false, false, false, false, false] rfl rfl (by kernel_rfl) (by decide) (fun K hK => ?_)
          refine goes_ Try.func20 (by kernel_rfl) rfl #[.slice R11 n11 r11, .slice R12 n12 r12] (by rfl) rfl rfl (by simp only [List.map_toArray, List.map_cons, List.map_nil]; rfl) ?_
          with_reducible refine (P2.out _ (pw_below_drewN HBd.out nd)).mono ?_
          rintro e w9 ⟨rfl, nd2, rfl⟩
          refine ⟨_, rfl, ?_⟩
          refine hK.out _ _ ⟨hHeld.1, hHeld.2.1, hHeld.2.2.1, hHeld.2.2.2.1, hHeld.2.2.2.2.1, hHeld.2.2.2.2.2.1, hHeld.2.2.2.2.2.2⟩ (fun hHeld => ?_)
          clear hK K
          refine norm_ (a' := ?_) ?_ ?_
          rotate_left
          · show Act.put _ (some 121) _ = _
            simp only [Act.put, List.setIfInBounds_toArray, List.set_cons_zero, List.set_cons_succ, i64_w, i32_w]
            rfl
          refine pure_ (i := 20) (N := some 122) (v := ?_) (a' := ?_) #[true, true, true, true, true, true, true, true, true, true, true, true, true, true, true, true, true, true, true, true, true, false, false, false, false, false, false, false, false, false, false, false, false, false, false, false, false, false, false, false, false, false, false, false, false, false, false, false] rfl rfl (by kernel_rfl) (fun _ _ _ h => h) (Or.inl ⟨by rfl, ?_⟩) ?_ ?_
          rotate_left
          · intro w'
            go_simp
            with_reducible rfl
          rotate_left
          · simp only [Act.put, List.setIfInBounds_toArray, List.set_cons_zero, List.set_cons_succ, i64_w, i32_w]
            rfl
          refine pure_ (i := 21) (N := some 123) (v := ?_) (a' := ?_) #[true, true, true, true, true, true, true, true, true, true, true, true, true, true, true, true, true, true, true, true, true, true, false, false, false, false, false, false, false, false, false, false, false, false, false, false, false, false, false, false, false, false, false, false, false, false, false, false] rfl rfl (by kernel_rfl) (fun _ _ _ h => h) (Or.inl ⟨by rfl, ?_⟩) ?_ ?_
          rotate_left
          · intro w'
            go_simp
            with_reducible rfl
          rotate_left
          · simp only [Act.put, List.setIfInBounds_toArray, List.set_cons_zero, List.set_cons_succ, i64_w, i32_w]
            rfl
          refine pure_ (i := 22) (N := some 124) (v := ?_) (a' := ?_) #[true, true, true, true, true, true, true, true, true, true, true, true, true, true, true, true, true, true, true, true, true, true, true, false, false, false, false, false, false, false, false, false, false, false, false, false, false, false, false, false, false, false, false, false, false, false, false, false] rfl rfl (by kernel_rfl) (fun _ _ _ h => h) (Or.inl ⟨by rfl, ?_⟩) ?_ ?_
          rotate_left
          · intro w'
            go_simp
            with_reducible rfl
          rotate_left
          · simp only [Act.put, List.setIfInBounds_toArray, List.set_cons_zero, List.set_cons_succ, i64_w, i32_w]
            rfl
          refine pure_ (i := 23) (N := some 125) (v := ?_) (a' := ?_) #[true, true, true, true, true, true, true, true, true, true, true, true, true, true, true, true, true, true, true, true, true, true, true, true, false, false, false, false, false, false, false, false, false, false, false, false, false, false, false, false, false, false, false, false, false, false, false, false] rfl rfl (by kernel_rfl) (fun _ _ _ h => h) (Or.inl ⟨by rfl, ?_⟩) ?_ ?_
          rotate_left
          · intro w'
            go_simp
            with_reducible rfl
          rotate_left
          · simp only [Act.put, List.setIfInBounds_toArray, List.set_cons_zero, List.set_cons_succ, i64_w, i32_w]
            rfl
          refine pure_ (i := 24) (N := some 126) (v := ?_) (a' := ?_) #[true, true, true, true, true, true, true, true, true, true, true, true, true, true, true, true, true, true, true, true, true, true, true, true, true, false, false, false, false, false, false, false, false, false, false, false, false, false, false, false, false, false, false, false, false, false, false, false] rfl rfl (by kernel_rfl) (fun _ _ _ h => h) (Or.inl ⟨by rfl, ?_⟩) ?_ ?_
          rotate_left
          · intro w'
            go_simp
            with_reducible rfl
          rotate_left
          · simp only [Act.put, List.setIfInBounds_toArray, List.set_cons_zero, List.set_cons_succ, i64_w, i32_w]
            rfl
          refine pure_ (i := 25) (N := some 127) (v := ?_) (a' := ?_) #[true, true, true, true, true, true, true, true, true, true, true, true, true, true, true, true, true, true, true, true, true, true, true, true, true, true, false, false, false, false, false, false, false, false, false, false, false, false, false, false, false, false, false, false, false, false, false, false] rfl rfl (by kernel_rfl) (fun _ _ _ h => h) (Or.inl ⟨by rfl, ?_⟩) ?_ ?_
          rotate_left
          · intro w'
            go_simp
            with_reducible rfl
          rotate_left
          · simp only [Act.put, List.setIfInBounds_toArray, List.set_cons_zero, List.set_cons_succ, i64_w, i32_w]
            rfl
          refine take_ (i := 26) (N := some 128) (v := ?_) (a' := ?_) #[true, true, true, true, true, true, true, true, true, true, true, true, true, true, true, true, true, true, true, true, true, true, true, true, true, true, true, false, false, false, false, false, false, false, false, false, false, false, false, false, false, false, false, false, false, false, false, false] rfl rfl (by kernel_rfl) (fun _ _ _ h => h) (Or.inl ⟨by rfl, ?_⟩) hHeld ?_ ?_
          rotate_left
          · rintro w' ⟨s0, s1, s2, s3, s4, s5, s6⟩
            go_simp
            with_reducible rfl
          rotate_left
          · simp only [Act.put, List.setIfInBounds_toArray, List.set_cons_zero, List.set_cons_succ, i64_w, i32_w]
            rfl
          refine pure_ (i := 27) (N := some 129) (v := ?_) (a' := ?_) #[true, true, true, true, true, true, true, true, true, true, true, true, true, true, true, true, true, true, true, true, true, true, true, true, true, true, true, true, false, false, false, false, false, false, false, false, false, false, false, false, false, false, false, false, false, false, false, false] rfl rfl (by kernel_rfl) (fun _ _ _ h => h) (Or.inl ⟨by rfl, ?_⟩) ?_ ?_
          rotate_left
          · intro w'
            go_simp
            with_reducible rfl
          rotate_left
          · simp only [Act.put, List.setIfInBounds_toArray, List.set_cons_zero, List.set_cons_succ, i64_w, i32_w]
            rfl
          refine pure_ (i := 28) (N := some 130) (v := undef) (a' := ?_) #[true, true, true, true, true, true, true, true, true, true, true, true, true, true, true, true, true, true, true, true, true, true, true, true, true, true, true, true, true, false, false, false, false, false, false, false, false, false, false, false, false, false, false, false, false, false, false, false] rfl rfl (by kernel_rfl) (fun _ _ _ h => h) (Or.inr ⟨by rfl, rfl⟩) ?_ ?_
          rotate_left
          · simp only [Act.put, List.setIfInBounds_toArray, List.set_cons_zero, List.set_cons_succ, i64_w, i32_w]
            rfl
          refine pure_ (i := 29) (N := some 131) (v := undef) (a' := ?_) #[true, true, true, true, true, true, true, true, true, true, true, true, true, true, true, true, true, true, true, true, true, true, true, true, true, true, true, true, true, true, false, false, false, false, false, false, false, false, false, false, false, false, false, false, false, false, false, false] rfl rfl (by kernel_rfl) (fun _ _ _ h => h) (Or.inr ⟨by rfl, rfl⟩) ?_ ?_
          rotate_left
          · simp only [Act.put, List.setIfInBounds_toArray, List.set_cons_zero, List.set_cons_succ, i64_w, i32_w]
            rfl
          refine pure_ (i := 30) (N := some 132) (v := undef) (a' := ?_) #[true, true, true, true, true, true, true, true, true, true, true, true, true, true, true, true, true, true, true, true, true, true, true, true, true, true, true, true, true, true, true, false, false, false, false, false, false, false, false, false, false, false, false, false, false, false, false, false] rfl rfl (by kernel_rfl) (fun _ _ _ h => h) (Or.inr ⟨by rfl, rfl⟩) ?_ ?_
          rotate_left
          · simp only [Act.put, List.setIfInBounds_toArray, List.set_cons_zero, List.set_cons_succ, i64_w, i32_w]
            rfl
          refine pure_ (i := 31) (N := some 133) (v := undef) (a' := ?_) #[true, true, true, true, true, true, true, true, true, true, true, true, true, true, true, true, true, true, true, true, true, true, true, true, true, true, true, true, true, true, true, true, false, false, false, false, false, false, false, false, false, false, false, false, false, false, false, false] rfl rfl (by kernel_rfl) (fun _ _ _ h => h) (Or.inr ⟨by rfl, rfl⟩) ?_ ?_
          rotate_left
          · simp only [Act.put, List.setIfInBounds_toArray, List.set_cons_zero, List.set_cons_succ, i64_w, i32_w]
            rfl
          refine pure_ (i := 32) (N := some 134) (v := undef) (a' := ?_) #[true, true, true, true, true, true, true, true, true, true, true, true, true, true, true, true, true, true, true, true, true, true, true, true, true, true, true, true, true, true, true, true, true, false, false, false, false, false, false, false, false, false, false, false, false, false, false, false] rfl rfl (by kernel_rfl) (fun _ _ _ h => h) (Or.inr ⟨by rfl, rfl⟩) ?_ ?_
          rotate_left
          · simp only [Act.put, List.setIfInBounds_toArray, List.set_cons_zero, List.set_cons_succ, i64_w, i32_w]
            rfl
          refine pure_ (i := 33) (N := some 135) (v := ?_) (a' := ?_) #[true, true, true, true, true, true, true, true, true, true, true, true, true, true, true, true, true, true, true, true, true, true, true, true, true, true, true, true, true, true, true, true, true, true, false, false, false, false, false, false, false, false, false, false, false, false, false, false] rfl rfl (by kernel_rfl) (fun _ _ _ h => h) (Or.inl ⟨by rfl, ?_⟩) ?_ ?_
          rotate_left
          · intro w'
            go_simp
            with_reducible rfl
          rotate_left
          · simp only [Act.put, List.setIfInBounds_toArray, List.set_cons_zero, List.set_cons_succ, i64_w, i32_w]
            rfl
          refine pure_ (i := 34) (N := some 136) (v := ?_) (a' := ?_) #[true, true, true, true, true, true, true, true, true, true, true, true, true, true, true, true, true, true, true, true, true, true, true, true, true, true, true, true, true, true, true, true, true, true, true, false, false, false, false, false, false, false, false, false, false, false, false, false] rfl rfl (by kernel_rfl) (fun _ _ _ h => h) (Or.inl ⟨by rfl, ?_⟩) ?_ ?_
          rotate_left
          · intro w'
            go_simp
            with_reducible rfl
          rotate_left
          · simp only [Act.put, List.setIfInBounds_toArray, List.set_cons_zero, List.set_cons_succ, i64_w, i32_w]
            rfl
          refine pure_ (i := 35) (N := some 137) (v := ?_) (a' := ?_) #[true, true, true, true, true, true, true, true, true, true, true, true, true, true, true, true, true, true, true, true, true, true, true, true, true, true, true, true, true, true, true, true, true, true, true, true, false, false, false, false, false, false, false, false, false, false, false, false] rfl rfl (by kernel_rfl) (fun _ _ _ h => h) (Or.inl ⟨by rfl, ?_⟩) ?_ ?_
          rotate_left
          · intro w'
            go_simp
            with_reducible rfl
          rotate_left
          · simp only [Act.put, List.setIfInBounds_toArray, List.set_cons_zero, List.set_cons_succ, i64_w, i32_w]
            rfl
          refine pure_ (i := 36) (N := some 138) (v := ?_) (a' := ?_) #[true, true, true, true, true, true, true, true, true, true, true, true, true, true, true, true, true, true, true, true, true, true, true, true, true, true, true, true, true, true, true, true, true, true, true, true, true, false, false, false, false, false, false, false, false, false, false, false] rfl rfl (by kernel_rfl) (fun _ _ _ h => h) (Or.inl ⟨by rfl, ?_⟩) ?_ ?_
          rotate_left
          · intro w'
            go_simp
            with_reducible rfl
          rotate_left
          · simp only [Act.put, List.setIfInBounds_toArray, List.set_cons_zero, List.set_cons_succ, i64_w, i32_w]
            rfl
          refine pure_ (i := 37) (N := some 139) (v := ?_) (a' := ?_) #[true, true, true, true, true, true, true, true, true, true, true, true, true, true, true, true, true, true, true, true, true, true, true, true, true, true, true, true, true, true, true, true, true, true, true, true, true, true, false, false, false, false, false, false, false, false, false, false] rfl rfl (by kernel_rfl) (fun _ _ _ h => h) (Or.inl ⟨by rfl, ?_⟩) ?_ ?_
          rotate_left
          · intro w'
            go_simp
            with_reducible rfl
          rotate_left
          · simp only [Act.put, List.setIfInBounds_toArray, List.set_cons_zero, List.set_cons_succ, i64_w, i32_w]
            rfl
          refine pure_ (i := 38) (N := some 140) (v := ?_) (a' := ?_) #[true, true, true, true, true, true, true, true, true, true, true, true, true, true, true, true, true, true, true, true, true, true, true, true, true, true, true, true, true, true, true, true, true, true, true, true, true, true, true, false, false, false, false, false, false, false, false, false] rfl rfl (by kernel_rfl) (fun _ _ _ h => h) (Or.inl ⟨by rfl, ?_⟩) ?_ ?_
          rotate_left
          · intro w'
            go_simp
            with_reducible rfl
          rotate_left
          · simp only [Act.put, List.setIfInBounds_toArray, List.set_cons_zero, List.set_cons_succ, i64_w, i32_w]
            rfl
          refine take_ (i := 39) (N := some 141) (v := ?_) (a' := ?_) #[true, true, true, true, true, true, true, true, true, true, true, true, true, true, true, true, true, true, true, true, true, true, true, true, true, true, true, true, true, true, true, true, true, true, true, true, true, true, true, true, false, false, false, false, false, false, false, false] rfl rfl (by kernel_rfl) (fun _ _ _ h => h) (Or.inl ⟨by rfl, ?_⟩) hHeld ?_ ?_
          rotate_left
          · rintro w' ⟨s0, s1, s2, s3, s4, s5, s6⟩
            go_simp
            with_reducible rfl
          rotate_left
          · simp only [Act.put, List.setIfInBounds_toArray, List.set_cons_zero, List.set_cons_succ, i64_w, i32_w]
            rfl
          refine pure_ (i := 40) (N := some 142) (v := ?_) (a' := ?_) #[true, true, true, true, true, true, true, true, true, true, true, true, true, true, true, true, true, true, true, true, true, true, true, true, true, true, true, true, true, true, true, true, true, true, true, true, true, true, true, true, true, false, false, false, false, false, false, false] rfl rfl (by kernel_rfl) (fun _ _ _ h => h) (Or.inl ⟨by rfl, ?_⟩) ?_ ?_
          rotate_left
          · intro w'
            go_simp
            with_reducible rfl
          rotate_left
          · simp only [Act.put, List.setIfInBounds_toArray, List.set_cons_zero, List.set_cons_succ, i64_w, i32_w]
            rfl
          refine pure_ (i := 41) (N := some 143) (v := undef) (a' := ?_) #[true, true, true, true, true, true, true, true, true, true, true, true, true, true, true, true, true, true, true, true, true, true, true, true, true, true, true, true, true, true, true, true, true, true, true, true, true, true, true, true, true, true, false, false, false, false, false, false] rfl rfl (by kernel_rfl) (fun _ _ _ h => h) (Or.inr ⟨by rfl, rfl⟩) ?_ ?_
          rotate_left
          · simp only [Act.put, List.setIfInBounds_toArray, List.set_cons_zero, List.set_cons_succ, i64_w, i32_w]
            rfl
          refine pure_ (i := 42) (N := some 144) (v := undef) (a' := ?_) #[true, true, true, true, true, true, true, true, true, true, true, true, true, true, true, true, true, true, true, true, true, true, true, true, true, true, true, true, true, true, true, true, true, true, true, true, true, true, true, true, true, true, true, false, false, false, false, false] rfl rfl (by kernel_rfl) (fun _ _ _ h => h) (Or.inr ⟨by rfl, rfl⟩) ?_ ?_
          rotate_left
          · simp only [Act.put, List.setIfInBounds_toArray, List.set_cons_zero, List.set_cons_succ, i64_w, i32_w]
            rfl
          refine pure_ (i := 43) (N := some 145) (v := undef) (a' := ?_) #[true, true, true, true, true, true, true, true, true, true, true, true, true, true, true, true, true, true, true, true, true, true, true, true, true, true, true, true, true, true, true, true, true, true, true, true, true, true, true, true, true, true, true, true, false, false, false, false] rfl rfl (by kernel_rfl) (fun _ _ _ h => h) (Or.inr ⟨by rfl, rfl⟩) ?_ ?_
          rotate_left
          · simp only [Act.put, List.setIfInBounds_toArray, List.set_cons_zero, List.set_cons_succ, i64_w, i32_w]
            rfl
          refine pure_ (i := 44) (N := some 146) (v := undef) (a' := ?_) #[true, true, true, true, true, true, true, true, true, true, true, true, true, true, true, true, true, true, true, true, true, true, true, true, true, true, true, true, true, true, true, true, true, true, true, true, true, true, true, true, true, true, true, true, true, false, false, false] rfl rfl (by kernel_rfl) (fun _ _ _ h => h) (Or.inr ⟨by rfl, rfl⟩) ?_ ?_
          rotate_left
          · simp only [Act.put, List.setIfInBounds_toArray, List.set_cons_zero, List.set_cons_succ, i64_w, i32_w]
            rfl
          refine pure_ (i := 45) (N := some 147) (v := undef) (a' := ?_) #[true, true, true, true, true, true, true, true, true, true, true, true, true, true, true, true, true, true, true, true, true, true, true, true, true, true, true, true, true, true, true, true, true, true, true, true, true, true, true, true, true, true, true, true, true, true, false, false] rfl rfl (by kernel_rfl) (fun _ _ _ h => h) (Or.inr ⟨by rfl, rfl⟩) ?_ ?_
          rotate_left
          · simp only [Act.put, List.setIfInBounds_toArray, List.set_cons_zero, List.set_cons_succ, i64_w, i32_w]
            rfl
          refine pure_ (i := 46) (N := some 148) (v := ?_) (a' := ?_) #[true, true, true, true, true, true, true, true, true, true, true, true, true, true, true, true, true, true, true, true, true, true, true, true, true, true, true, true, true, true, true, true, true, true, true, true, true, true, true, true, true, true, true, true, true, true, true, false] rfl rfl (by kernel_rfl) (fun _ _ _ h => h) (Or.inl ⟨by rfl, ?_⟩) ?_ ?_
          rotate_left
          · intro w'
            go_simp
            with_reducible rfl
          rotate_left
          · simp only [Act.put, List.setIfInBounds_toArray, List.set_cons_zero, List.set_cons_succ, i64_w, i32_w]
            rfl
          refine pure_ (i := 47) (N := some 149) (v := ?_) (a' := ?_) #[true, true, true, true, true, true, true, true, true, true, true, true, true, true, true, true, true, true, true, true, true, true, true, true, true, true, true, true, true, true, true, true, true, true, true, true, true, true, true, true, true, true, true, true, true, true, true, true] rfl rfl (by kernel_rfl) (fun _ _ _ h => h) (Or.inl ⟨by rfl, ?_⟩) ?_ ?_
          rotate_left
          · intro w'
            go_simp
            with_reducible rfl
          rotate_left
          · simp only [Act.put, List.setIfInBounds_toArray, List.set_cons_zero, List.set_cons_succ, i64_w, i32_w]
            rfl
          refine done_ (by kernel_rfl) ?_
          go_wp2
          go_roundg (ns.length - (i + 1))
          case measure => have := HKQ.out; have := HK.out; omega
          case rel => exact ⟨i + 1, by go_num, by have := HK.out; omega, Nat.le_refl _, ⟨by repeat (first | exact HBI.out | apply pw_below_drewN | apply below_drew1)⟩⟩
        | true =>
          obtain rfl := hfg rfl
          clear hef hfg
          cases xe with
          | false =>
            go_upto_region 18 with fail
            refine start_ (n := 48) (S := fun w' => w'.cell? (adv9.add i) = some (.slice R9 n9 r9) ∧ w'.cell? (adv10.add i) = some (.slice R10 n10 r10) ∧ w'.cell? (adv11.add i) = some (.slice R11 n11 r11) ∧ w'.cell? (adv12.add i) = some (.slice R12 n12 r12) ∧ w'.cell? (ade.add i) = some (.bool false) ∧ w'.cell? (adf.add i) = some (.bool true) ∧ w'.cell? (adg.add i) = some (.bool true)) (ds := []) #[false, false, false, false, false, false, false, false, false, false, false, false, false, false, false, false, false, false, false, false, false, false, false, false, false, false, false, false, false, false, false, false, false, false, false, false, false, false, false, false, false, false, false, false, false, false, false, false] (by kernel_rfl) rfl rfl ⟨HC9.out, HC10.out, HC11.out, HC12.out, HCE.out, HCF.out, HCG.out⟩ (fun hHeld => ?_)
            refine pure_ (i := 0) (N := some 102) (v := ?_) (a' := ?_) #[true, false, false, false, false, false, false, false, false, false, false, false, false, false, false, false, false, false, false, false, false, false, false, false, false, false, false, false, false, false, false, false, false, false, false, false, false, false, false, false, false, false, false, false, false, false, false, false] rfl rfl (by kernel_rfl) (fun _ _ _ h => h) (Or.inl ⟨by rfl, ?_⟩) ?_ ?_
            rotate_left
            · intro w'
              go_simp
              with_reducible rfl
            rotate_left
            · simp only [Act.put, List.setIfInBounds_toArray, List.set_cons_zero, List.set_cons_succ, i64_w, i32_w]
              rfl
            refine pure_ (i := 1) (N := some 103) (v := ?_) (a' := ?_) #[true, true, false, false, false, false, false, false, false, false, false, false, false, false, false, false, false, false, false, false, false, false, false, false, false, false, false, false, false, false, false, false, false, false, false, false, false, false, false, false, false, false, false, false, false, false, false, false] rfl rfl (by kernel_rfl) (fun _ _ _ h => h) (Or.inl ⟨by rfl, ?_⟩) ?_ ?_
            rotate_left
            · intro w'
              go_simp
              with_reducible rfl
            rotate_left
            · simp only [Act.put, List.setIfInBounds_toArray, List.set_cons_zero, List.set_cons_succ, i64_w, i32_w]
              rfl
            refine pure_ (i := 2) (N := some 104) (v := ?_) (a' := ?_) #[true, true, true, false, false, false, false, false, false, false, false, false, false, false, false, false, false, false, false, false, false, false, false, false, false, false, false, false, false, false, false, false, false, false, false, false, false, false, false, false, false, false, false, false, false, false, false, false] rfl rfl (by kernel_rfl) (fun _ _ _ h => h) (Or.inl ⟨by rfl, ?_⟩) ?_ ?_
            rotate_left
            · intro w'
              go_simp
              with_reducible rfl
            rotate_left
            · simp only [Act.put, List.setIfInBounds_toArray, List.set_cons_zero, List.set_cons_succ, i64_w, i32_w]
              rfl
            refine pure_ (i := 4) (N := some 106) (v := ?_) (a' := ?_) #[true, true, true, false, true, false, false, false, false, false, false, false, false, false, false, false, false, false, false, false, false, false, false, false, false, false, false, false, false, false, false, false, false, false, false, false, false, false, false, false, false, false, false, false, false, false, false, false] rfl rfl (by kernel_rfl) (fun _ _ _ h => h) (Or.inl ⟨by rfl, ?_⟩) ?_ ?_
            rotate_left
            · intro w'
              go_simp
              with_reducible rfl
            rotate_left
            · simp only [Act.put, List.setIfInBounds_toArray, List.set_cons_zero, List.set_cons_succ, i64_w, i32_w]
              rfl
            refine pure_ (i := 5) (N := some 107) (v := ?_) (a' := ?_) #[true, true, true, false, true, true, false, false, false, false, false, false, false, false, false, false, false, false, false, false, false, false, false, false, false, false, false, false, false, false, false, false, false, false, false, false, false, false, false, false, false, false, false, false, false, false, false, false] rfl rfl (by kernel_rfl) (fun _ _ _ h => h) (Or.inl ⟨by rfl, ?_⟩) ?_ ?_
            rotate_left
            · intro w'
              go_simp
              with_reducible rfl
            rotate_left
            · simp only [Act.put, List.setIfInBounds_toArray, List.set_cons_zero, List.set_cons_succ, i64_w, i32_w]
              rfl
            refine pure_ (i := 6) (N := some 108) (v := ?_) (a' := ?_) #[true, true, true, false, true, true, true, false, false, false, false, false, false, false, false, false, false, false, false, false, false, false, false, false, false, false, false, false, false, false, false, false, false, false, false, false, false, false, false, false, false, false, false, false, false, false, false, false] rfl rfl (by kernel_rfl) (fun _ _ _ h => h) (Or.inl ⟨by rfl, ?_⟩) ?_ ?_
            rotate_left
            · intro w'
              go_simp
              with_reducible rfl
            rotate_left
            · simp only [Act.put, List.setIfInBounds_toArray, List.set_cons_zero, List.set_cons_succ, i64_w, i32_w]
              rfl
            refine take_ (i := 3) (N := some 105) (v := ?_) (a' := ?_) #[true, true, true, true, true, true, true, false, false, false, false, false, false, false, false, false, false, false, false, false, false, false, false, false, false, false, false, false, false, false, false, false, false, false, false, false, false, false, false, false, false, false, false, false, false, false, false, false] rfl rfl (by kernel_rfl) (fun _ _ _ h => h) (Or.inl ⟨by rfl, ?_⟩) hHeld ?_ ?_
            rotate_left
            · rintro w' ⟨s0, s1, s2, s3, s4, s5, s6⟩
              go_simp
              with_reducible rfl
            rotate_left
            · simp only [Act.put, List.setIfInBounds_toArray, List.set_cons_zero, List.set_cons_succ, i64_w, i32_w]
              rfl
            refine take_ (i := 7) (N := some 109) (v := ?_) (a' := ?_) #[true, true, true, true, true, true, true, true, false, false, false, false, false, false, false, false, false, false, false, false, false, false, false, false, false, false, false, false, false, false, false, false, false, false, false, false, false, false, false, false, false, false, false, false, false, false, false, false] rfl rfl (by kernel_rfl) (fun _ _ _ h => h) (Or.inl ⟨by rfl, ?_⟩) hHeld ?_ ?_
            rotate_left
            · rintro w' ⟨s0, s1, s2, s3, s4, s5, s6⟩
              go_simp
              with_reducible rfl
            rotate_left
            · simp only [Act.put, List.setIfInBounds_toArray, List.set_cons_zero, List.set_cons_succ, i64_w, i32_w]
              rfl
            refine one_ (i := 8) (N := some 110) #[true, true, true, true, true, true, true, true, true, false, false, false, false, false, false, false, false, false, false, false, false, false, false, false, false, false, false, false, false, false, false, false, false, false, false, false, false, false, false, false, false, false, false, false, false, false, false, false] rfl rfl (by kernel_rfl) (by decide) (fun K hK => ?_)
            refine goes_ Try.func20 (by kernel_rfl) rfl #[.slice R9 n9 r9, .slice R10 n10 r10] (by rfl) rfl rfl (by simp only [List.map_toArray, List.map_cons, List.map_nil]; rfl) ?_
            with_reducible refine (P1.out _ HBd.out).mono ?_
            rintro e w9 ⟨rfl, nd, rfl⟩
            refine ⟨_, rfl, ?_⟩
            refine hK.out _ _ ⟨hHeld.1, hHeld.2.1, hHeld.2.2.1, hHeld.2.2.2.1, hHeld.2.2.2.2.1, hHeld.2.2.2.2.2.1, hHeld.2.2.2.2.2.2⟩ (fun hHeld => ?_)
            clear hK K
            refine norm_ (a' := ?_) ?_ ?_
            rotate_left
            · show Act.put _ (some 110) _ = _
              simp only [Act.put, List.setIfInBounds_toArray, List.set_cons_zero, List.set_cons_succ, i64_w, i32_w]
              rfl
            refine pure_ (i := 9) (N := some 111) (v := ?_) (a' := ?_) #[true, true, true, true, true, true, true, true, true, true, false, false, false, false, false, false, false, false, false, false, false, false, false, false, false, false, false, false, false, false, false, false, false, false, false, false, false, false, false, false, false, false, false, false, false, false, false, false] rfl rfl (by kernel_rfl) (fun _ _ _ h => h) (Or.inl ⟨by rfl, ?_⟩) ?_ ?_
            rotate_left
            · intro w'
              go_simp
              with_reducible rfl
            rotate_left
            · simp only [Act.put, List.setIfInBounds_toArray, List.set_cons_zero, List.set_cons_succ, i64_w, i32_w]
              rfl
            refine pure_ (i := 10) (N := some 112) (v := ?_) (a' := ?_) #[true, true, true, true, true, true, true, true, true, true, true, false, false, false, false, false, false, false, false, false, false, false, false, false, false, false, false, false, false, false, false, false, false, false, false, false, false, false, false, false, false, false, false, false, false, false, false, false] rfl rfl (by kernel_rfl) (fun _ _ _ h => h) (Or.inl ⟨by rfl, ?_⟩) ?_ ?_
            rotate_left
            · intro w'
              go_simp
              with_reducible rfl
            rotate_left
            · simp only [Act.put, List.setIfInBounds_toArray, List.set_cons_zero, List.set_cons_succ, i64_w, i32_w]
              rfl
            refine pure_ (i := 11) (N := some 113) (v := ?_) (a' := ?_) #[true, true, true, true, true, true, true, true, true, true, true, true, false, false, false, false, false, false, false, false, false, false, false, false, false, false, false, false, false, false, false, false, false, false, false, false, false, false, false, false, false, false, false, false, false, false, false, false] rfl rfl (by kernel_rfl) (fun _ _ _ h => h) (Or.inl ⟨by rfl, ?_⟩) ?_ ?_
            rotate_left
            · intro w'
              go_simp
              with_reducible rfl
            rotate_left
            · simp only [Act.put, List.setIfInBounds_toArray, List.set_cons_zero, List.set_cons_succ, i64_w, i32_w]
              rfl
            refine pure_ (i := 12) (N := some 114) (v := ?_) (a' := ?_) #[true, true, true, true, true, true, true, true, true, true, true, true, true, false, false, false, false, false, false, false, false, false, false, false, false, false, false, false, false, false, false, false, false, false, false, false, false, false, false, false, false, false, false, false, false, false, false, false] rfl rfl (by kernel_rfl) (fun _ _ _ h => h) (Or.inl ⟨by rfl, ?_⟩) ?_ ?_
            rotate_left
            · intro w'
              go_simp
              with_reducible rfl
            rotate_left
            · simp only [Act.put, List.setIfInBounds_toArray, List.set_cons_zero, List.set_cons_succ, i64_w, i32_w]
              rfl
            refine pure_ (i := 13) (N := some 115) (v := ?_) (a' := ?_) #[true, true, true, true, true, true, true, true, true, true, true, true, true, true, false, false, false, false, false, false, false, false, false, false, false, false, false, false, false, false, false, false, false, false, false, false, false, false, false, false, false, false, false, false, false, false, false, false] rfl rfl (by kernel_rfl) (fun _ _ _ h => h) (Or.inl ⟨by rfl, ?_⟩) ?_ ?_
            rotate_left
            · intro w'
              go_simp
              with_reducible rfl
            rotate_left
            · simp only [Act.put, List.setIfInBounds_toArray, List.set_cons_zero, List.set_cons_succ, i64_w, i32_w]
              rfl
            refine pure_ (i := 15) (N := some 117) (v := ?_) (a' := ?_) #[true, true, true, true, true, true, true, true, true, true, true, true, true, true, false, true, false, false, false, false, false, false, false, false, false, false, false, false, false, false, false, false, false, false, false, false, false, false, false, false, false, false, false, false, false, false, false, false] rfl rfl (by kernel_rfl) (fun _ _ _ h => h) (Or.inl ⟨by rfl, ?_⟩) ?_ ?_
            rotate_left
            · intro w'
              go_simp
              with_reducible rfl
            rotate_left
            · simp only [Act.put, List.setIfInBounds_toArray, List.set_cons_zero, List.set_cons_succ, i64_w, i32_w]
              rfl
            refine pure_ (i := 16) (N := some 118) (v := ?_) (a' := ?_) #[true, true, true, true, true, true, true, true, true, true, true, true, true, true, false, true, true, false, false, false, false, false, false, false, false, false, false, false, false, false, false, false, false, false, false, false, false, false, false, false, false, false, false, false, false, false, false, false] rfl rfl (by kernel_rfl) (fun _ _ _ h => h) (Or.inl ⟨by rfl, ?_⟩) ?_ ?_
            rotate_left
            · intro w'
              go_simp
              with_reducible rfl
            rotate_left
            · simp only [Act.put, List.setIfInBounds_toArray, List.set_cons_zero, List.set_cons_succ, i64_w, i32_w]
              rfl
            refine pure_ (i := 17) (N := some 119) (v := ?_) (a' := ?_) #[true, true, true, true, true, true, true, true, true, true, true, true, true, true, false, true, true, true, false, false, false, false, false, false, false, false, false, false, false, false, false, false, false, false, false, false, false, false, false, false, false, false, false, false, false, false, false, false] rfl rfl (by kernel_rfl) (fun _ _ _ h => h) (Or.inl ⟨by rfl, ?_⟩) ?_ ?_
            rotate_left
            · intro w'
              go_simp
              with_reducible rfl
            rotate_left
            · simp only [Act.put, List.setIfInBounds_toArray, List.set_cons_zero, List.set_cons_succ, i64_w, i32_w]
              rfl
            refine take_ (i := 14) (N := some 116) (v := ?_) (a' := ?_) #[true, true, true, true, true, true, true, true, true, true, true, true, true, true, true, true, true, true, false, false, false, false, false, false, false, false, false, false, false, false, false, false, false, false, false, false, false, false, false, false, false, false, false, false, false, false, false, false] rfl rfl (by kernel_rfl) (fun _ _ _ h => h) (Or.inl ⟨by rfl, ?_⟩) hHeld ?_ ?_
            rotate_left
            · rintro w' ⟨s0, s1, s2, s3, s4, s5, s6⟩
              go_simp
              with_reducible rfl
            rotate_left
            · simp only [Act.put, List.setIfInBounds_toArray, List.set_cons_zero, List.set_cons_succ, i64_w, i32_w]
              rfl
            refine take_ (i := 18) (N := some 120) (v := ?_) (a' := ?_) #[true, true, true, true, true, true, true, true, true, true, true, true, true, true, true, true, true, true, true, false, false, false, false, false, false, false, false, false, false, false, false, false, false, false, false, false, false, false, false, false, false, false, false, false, false, false, false, false] rfl rfl (by kernel_rfl) (fun _ _ _ h => h) (Or.inl ⟨by rfl, ?_⟩) hHeld ?_ ?_
            rotate_left
            · rintro w' ⟨s0, s1, s2, s3, s4, s5, s6⟩
              go_simp
              with_reducible rfl
            rotate_left
            · simp only [Act.put, List.setIfInBounds_toArray, List.set_cons_zero, List.set_cons_succ, i64_w, i32_w]
              rfl
            refine one_ (i := 19) (N := some 121) #[true, true, true, true, true, true, true, true, true, true, true, true, true, true, true, true, true, true, true, true, false, false, false, false, false, false, false, false, false, false, false, false, false, false, false, false, false, false, false, false, false, false, false, false, false, false, false, false] rfl rfl (by kernel_rfl) (by decide) (fun K hK => ?_)
            refine goes_ Try.func20 (by kernel_rfl) rfl #[.slice R11 n11 r11, .slice R12 n12 r12] (by rfl) rfl rfl (by simp only [List.map_toArray, List.map_cons, List.map_nil]; rfl) ?_
            with_reducible refine (P2.out _ (pw_below_drewN HBd.out nd)).mono ?_
            rintro e w9 ⟨rfl, nd2, rfl⟩
            refine ⟨_, rfl, ?_⟩
            refine hK.out _ _ ⟨hHeld.1, hHeld.2.1, hHeld.2.2.1, hHeld.2.2.2.1, hHeld.2.2.2.2.1, hHeld.2.2.2.2.2.1, hHeld.2.2.2.2.2.2⟩ (fun hHeld => ?_)
            clear hK K
            refine norm_ (a' := ?_) ?_ ?_
            rotate_left
            · show Act.put _ (some 121) _ = _
              simp only [Act.put, List.setIfInBounds_toArray, List.set_cons_zero, List.set_cons_succ, i64_w, i32_w]
              rfl
            refine pure_ (i := 20) (N := some 122) (v := ?_) (a' := ?_) #[true, true, true, true, true, true, true, true, true, true, true, true, true, true, true, true, true, true, true, true, true, false, false, false, false, false, false, false, false, false, false, false, false, false, false, false, false, false, false, false, false, false, false, false, false, false, false, false] rfl rfl (by kernel_rfl) (fun _ _ _ h => h) (Or.inl ⟨by rfl, ?_⟩) ?_ ?_
            rotate_left
            · intro w'
              go_simp
              with_reducible rfl
            rotate_left
            · simp only [Act.put, List.setIfInBounds_toArray, List.set_cons_zero, List.set_cons_succ, i64_w, i32_w]
              rfl
            refine pure_ (i := 21) (N := some 123) (v := ?_) (a' := ?_) #[true, true, true, true, true, true, true, true, true, true, true, true, true, true, true, true, true, true, true, true, true, true, false, false, false, false, false, false, false, false, false, false, false, false, false, false, false, false, false, false, false, false, false, false, false, false, false, false] rfl rfl (by kernel_rfl) (fun _ _ _ h => h) (Or.inl ⟨by rfl, ?_⟩) ?_ ?_
            rotate_left
            · intro w'
              go_simp
              with_reducible rfl
            rotate_left
            · simp only [Act.put, List.setIfInBounds_toArray, List.set_cons_zero, List.set_cons_succ, i64_w, i32_w]
              rfl
            refine pure_ (i := 22) (N := some 124) (v := ?_) (a' := ?_) #[true, true, true, true, true, true, true, true, true, true, true, true, true, true, true, true, true, true, true, true, true, true, true, false, false, false, false, false, false, false, false, false, false, false, false, false, false, false, false, false, false, false, false, false, false, false, false, false] rfl rfl (by kernel_rfl) (fun _ _ _ h => h) (Or.inl ⟨by rfl, ?_⟩) ?_ ?_
            rotate_left
            · intro w'
              go_simp
              with_reducible rfl
            rotate_left
            · simp only [Act.put, List.setIfInBounds_toArray, List.set_cons_zero, List.set_cons_succ, i64_w, i32_w]
              rfl
            refine pure_ (i := 23) (N := some 125) (v := ?_) (a' := ?_) #[true, true, true, true, true, true, true, true, true, true, true, true, true, true, true, true, true, true, true, true, true, true, true, true, false, false, false, false, false, false, false, false, false, false, false, false, false, false, false, false, false, false, false, false, false, false, false, false] rfl rfl (by kernel_rfl) (fun _ _ _ h => h) (Or.inl ⟨by rfl, ?_⟩) ?_ ?_
            rotate_left
            · intro w'
              go_simp
              with_reducible rfl
            rotate_left
            · simp only [Act.put, List.setIfInBounds_toArray, List.set_cons_zero, List.set_cons_succ, i64_w, i32_w]
              rfl
            refine pure_ (i := 24) (N := some 126) (v := ?_) (a' := ?_) #[true, true, true, true, true, true, true, true, true, true, true, true, true, true, true, true, true, true, true, true, true, true, true, true, true, false, false, false, false, false, false, false, false, false, false, false, false, false, false, false, false, false, false, false, false, false, false, false] rfl rfl (by kernel_rfl) (fun _ _ _ h => h) (Or.inl ⟨by rfl, ?_⟩) ?_ ?_
            rotate_left
            · intro w'
              go_simp
              with_reducible rfl
            rotate_left
            · simp only [Act.put, List.setIfInBounds_toArray, List.set_cons_zero, List.set_cons_succ, i64_w, i32_w]
              rfl
            refine pure_ (i := 25) (N := some 127) (v := ?_) (a' := ?_) #[true, true, true, true, true, true, true, true, true, true, true, true, true, true, true, true, true, true, true, true, true, true, true, true, true, true, false, false, false, false, false, false, false, false, false, false, false, false, false, false, false, false, false, false, false, false, false, false] rfl rfl (by kernel_rfl) (fun _ _ _ h => h) (Or.inl ⟨by rfl, ?_⟩) ?_ ?_
            rotate_left
            · intro w'
              go_simp
              with_reducible rfl
            rotate_left
            · simp only [Act.put, List.setIfInBounds_toArray, List.set_cons_zero, List.set_cons_succ, i64_w, i32_w]
              rfl
            refine take_ (i := 26) (N := some 128) (v := ?_) (a' := ?_) #[true, true, true, true, true, true, true, true, true, true, true, true, true, true, true, true, true, true, true, true, true, true, true, true, true, true, true, false, false, false, false, false, false, false, false, false, false, false, false, false, false, false, false, false, false, false, false, false] rfl rfl (by kernel_rfl) (fun _ _ _ h => h) (Or.inl ⟨by rfl, ?_⟩) hHeld ?_ ?_
            rotate_left
            · rintro w' ⟨s0, s1, s2, s3, s4, s5, s6⟩
              go_simp
              with_reducible rfl
            rotate_left
            · simp only [Act.put, List.setIfInBounds_toArray, List.set_cons_zero, List.set_cons_succ, i64_w, i32_w]
              rfl
            refine pure_ (i := 27) (N := some 129) (v := ?_) (a' := ?_) #[true, true, true, true, true, true, true, true, true, true, true, true, true, true, true, true, true, true, true, true, true, true, true, true, true, true, true, true, false, false, false, false, false, false, false, false, false, false, false, false, false, false, false, false, false, false, false, false] rfl rfl (by kernel_rfl) (fun _ _ _ h => h) (Or.inl ⟨by rfl, ?_⟩) ?_ ?_
            rotate_left
            · intro w'
              go_simp
              with_reducible rfl
            rotate_left
            · simp only [Act.put, List.setIfInBounds_toArray, List.set_cons_zero, List.set_cons_succ, i64_w, i32_w]
              rfl
            refine pure_ (i := 28) (N := some 130) (v := undef) (a' := ?_) #[true, true, true, true, true, true, true, true, true, true, true, true, true, true, true, true, true, true, true, true, true, true, true, true, true, true, true, true, true, false, false, false, false, false, false, false, false, false, false, false, false, false, false, false, false, false, false, false] rfl rfl (by kernel_rfl) (fun _ _ _ h => h) (Or.inr ⟨by rfl, rfl⟩) ?_ ?_
            rotate_left
            · simp only [Act.put, List.setIfInBounds_toArray, List.set_cons_zero, List.set_cons_succ, i64_w, i32_w]
              rfl
            refine pure_ (i := 29) (N := some 131) (v := undef) (a' := ?_) #[true, true, true, true, true, true, true, true, true, true, true, true, true, true, true, true, true, true, true, true, true, true, true, true, true, true, true, true, true, true, false, false, false, false, false, false, false, false, false, false, false, false, false, false, false, false, false, false] rfl rfl (by kernel_rfl) (fun _ _ _ h => h) (Or.inr ⟨by rfl, rfl⟩) ?_ ?_
            rotate_left
            · simp only [Act.put, List.setIfInBounds_toArray, List.set_cons_zero, List.set_cons_succ, i64_w, i32_w]
              rfl
            refine pure_ (i := 30) (N := some 132) (v := undef) (a' := ?_) #[true, true, true, true, true, true, true, true, true, true, true, true, true, true, true, true, true, true, true, true, true, true, true, true, true, true, true, true, true, true, true, false, false, false, false, false, false, false, false, false, false, false, false, false, false, false, false, false] rfl rfl (by kernel_rfl) (fun _ _ _ h => h) (Or.inr ⟨by rfl, rfl⟩) ?_ ?_
            rotate_left
            · simp only [Act.put, List.setIfInBounds_toArray, List.set_cons_zero, List.set_cons_succ, i64_w, i32_w]
              rfl
            refine pure_ (i := 31) (N := some 133) (v := undef) (a' := ?_) #[true, true, true, true, true, true, true, true, true, true, true, true, true, true, true, true, true, true, true, true, true, true, true, true, true, true, true, true, true, true, true, true, false, false, false, false, false, false, false, false, false, false, false, false, false, false, false, false] rfl rfl (by kernel_rfl) (fun _ _ _ h => h) (Or.inr ⟨by rfl, rfl⟩) ?_ ?_
            rotate_left
            · simp only [Act.put, List.setIfInBounds_toArray, List.set_cons_zero, List.set_cons_succ, i64_w, i32_w]
              rfl
            refine pure_ (i := 32) (N := some 134) (v := undef) (a' := ?_) #[true, true, true, true, true, true, true, true, true, true, true, true, true, true, true, true, true, true, true, true, true, true, true, true, true, true, true, true, true, true, true, true, true, false, false, false, false, false, false, false, false, false, false, false, false, false, false, false] rfl rfl (by kernel_rfl) (fun _ _ _ h => h) (Or.inr ⟨by rfl, rfl⟩) ?_ ?_
            rotate_left
            · simp only [Act.put, List.setIfInBounds_toArray, List.set_cons_zero, List.set_cons_succ, i64_w, i32_w]
              rfl
            refine pure_ (i := 33) (N := some 135) (v := ?_) (a' := ?_) #[true, true, true, true, true, true, true, true, true, true, true, true, true, true, true, true, true, true, true, true, true, true, true, true, true, true, true, true, true, true, true, true, true, true, false, false, false, false, false, false, false, false, false, false, false, false, false, false] rfl rfl (by kernel_rfl) (fun _ _ _ h => h) (Or.inl ⟨by rfl, ?_⟩) ?_ ?_
            rotate_left
            · intro w'
              go_simp
              with_reducible rfl
            rotate_left
            · simp only [Act.put, List.setIfInBounds_toArray, List.set_cons_zero, List.set_cons_succ, i64_w, i32_w]
              rfl
            refine pure_ (i := 34) (N := some 136) (v := ?_) (a' := ?_) #[true, true, true, true, true, true, true, true, true, true, true, true, true, true, true, true, true, true, true, true, true, true, true, true, true, true, true, true, true, true, true, true, true, true, true, false, false, false, false, false, false, false, false, false, false, false, false, false] rfl rfl (by kernel_rfl) (fun _ _ _ h => h) (Or.inl ⟨by rfl, ?_⟩) ?_ ?_
            rotate_left
            · intro w'
              go_simp
              with_reducible rfl
            rotate_left
            · simp only [Act.put, List.setIfInBounds_toArray, List.set_cons_zero, List.set_cons_succ, i64_w, i32_w]
              rfl
            refine pure_ (i := 35) (N := some 137) (v := ?_) (a' := ?_) #[true, true, true, true, true, true, true, true, true, true, true, true, true, true, true, true, true, true, true, true, true, true, true, true, true, true, true, true, true, true, true, true, true, true, true, true, false, false, false, false, false, false, false, false, false, false, false, false] rfl rfl (by kernel_rfl) (fun _ _ _ h => h) (Or.inl ⟨by rfl, ?_⟩) ?_ ?_
            rotate_left
            · intro w'
              go_simp
              with_reducible rfl
            rotate_left
            · simp only [Act.put, List.setIfInBounds_toArray, List.set_cons_zero, List.set_cons_succ, i64_w, i32_w]
              rfl
            refine pure_ (i := 36) (N := some 138) (v := ?_) (a' := ?_) #[true, true, true, true, true, true, true, true, true, true, true, true, true, true, true, true, true, true, true, true, true, true, true, true, true, true, true, true, true, true, true, true, true, true, true, true, true, false, false, false, false, false, false, false, false, false, false, false] rfl rfl (by kernel_rfl) (fun _ _ _ h => h) (Or.inl ⟨by rfl, ?_⟩) ?_ ?_
            rotate_left
            · intro w'
              go_simp
              with_reducible rfl
            rotate_left
            · simp only [Act.put, List.setIfInBounds_toArray, List.set_cons_zero, List.set_cons_succ, i64_w, i32_w]
              rfl
            refine pure_ (i := 37) (N := some 139) (v := ?_) (a' := ?_) #[true, true, true, true, true, true, true, true, true, true, true, true, true, true, true, true, true, true, true, true, true, true, true, true, true, true, true, true, true, true, true, true, true, true, true, true, true, true, false, false, false, false, false, false, false, false, false, false] rfl rfl (by kernel_rfl) (fun _ _ _ h => h) (Or.inl ⟨by rfl, ?_⟩) ?_ ?_
            rotate_left
            · intro w'
              go_simp
              with_reducible rfl
            rotate_left
            · simp only [Act.put, List.setIfInBounds_toArray, List.set_cons_zero, List.set_cons_succ, i64_w, i32_w]
              rfl
            refine pure_ (i := 38) (N := some 140) (v := ?_) (a' := ?_) #[true, true, true, true, true, true, true, true, true, true, true, true, true, true, true, true, true, true, true, true, true, true, true, true, true, true, true, true, true, true, true, true, true, true, true, true, true, true, true, false, false, false, false, false, false, false, false, false] rfl rfl (by kernel_rfl) (fun _ _ _ h => h) (Or.inl ⟨by rfl, ?_⟩) ?_ ?_
            rotate_left
            · intro w'
              go_simp
              with_reducible rfl
            rotate_left
            · simp only [Act.put, List.setIfInBounds_toArray, List.set_cons_zero, List.set_cons_succ, i64_w, i32_w]
              rfl
            refine take_ (i := 39) (N := some 141) (v := ?_) (a' := ?_) #[true, true, true, true, true, true, true, true, true, true, true, true, true, true, true, true, true, true, true, true, true, true, true, true, true, true, true, true, true, true, true, true, true, true, true, true, true, true, true, true, false, false, false, false, false, false, false, false] rfl rfl (by kernel_rfl) (fun _ _ _ h => h) (Or.inl ⟨by rfl, ?_⟩) hHeld ?_ ?_
            rotate_left
            · rintro w' ⟨s0, s1, s2, s3, s4, s5, s6⟩
              go_simp
              with_reducible rfl
            rotate_left
            · simp only [Act.put, List.setIfInBounds_toArray, List.set_cons_zero, List.set_cons_succ, i64_w, i32_w]
              rfl
            refine pure_ (i := 40) (N := some 142) (v := ?_) (a' := ?_) #[true, true, true, true, true, true, true, true, true, true, true, true, true, true, true, true, true, true, true, true, true, true, true, true, true, true, true, true, true, true, true, true, true, true, true, true, true, true, true, true, true, false, false, false, false, false, false, false] rfl rfl (by kernel_rfl) (fun _ _ _ h => h) (Or.inl ⟨by rfl, ?_⟩) ?_ ?_
            rotate_left
            · intro w'
              go_simp
              with_reducible rfl
            rotate_left
            · simp only [Act.put, List.setIfInBounds_toArray, List.set_cons_zero, List.set_cons_succ, i64_w, i32_w]
              rfl
            refine pure_ (i := 41) (N := some 143) (v := ?_) (a' := ?_) #[true, true, true, true, true, true, true, true, true, true, true, true, true, true, true, true, true, true, true, true, true, true, true, true, true, true, true, true, true, true, true, true, true, true, true, true, true, true, true, true, true, true, false, false, false, false, false, false] rfl rfl (by kernel_rfl) (fun _ _ _ h => h) (Or.inl ⟨by rfl, ?_⟩) ?_ ?_
            rotate_left
            · intro w'
              go_simp
              with_reducible rfl
            rotate_left
            · simp only [Act.put, List.setIfInBounds_toArray, List.set_cons_zero, List.set_cons_succ, i64_w, i32_w]
              rfl
            refine pure_ (i := 42) (N := some 144) (v := ?_) (a' := ?_) #[true, true, true, true, true, true, true, true, true, true, true, true, true, true, true, true, true, true, true, true, true, true, true, true, true, true, true, true, true, true, true, true, true, true, true, true, true, true, true, true, true, true, true, false, false, false, false, false] rfl rfl (by kernel_rfl) (fun _ _ _ h => h) (Or.inl ⟨by rfl, ?_⟩) ?_ ?_
            rotate_left
            · intro w'
              go_simp
              with_reducible rfl
            rotate_left
            · simp only [Act.put, List.setIfInBounds_toArray, List.set_cons_zero, List.set_cons_succ, i64_w, i32_w]
              rfl
            refine pure_ (i := 43) (N := some 145) (v := ?_) (a' := ?_) #[true, true, true, true, true, true, true, true, true, true, true, true, true, true, true, true, true, true, true, true, true, true, true, true, true, true, true, true, true, true, true, true, true, true, true, true, true, true, true, true, true, true, true, true, false, false, false, false] rfl rfl (by kernel_rfl) (fun _ _ _ h => h) (Or.inl ⟨by rfl, ?_⟩) ?_ ?_
            rotate_left
            · intro w'
              go_simp
              with_reducible rfl
            rotate_left
            · simp only [Act.put, List.setIfInBounds_toArray, List.set_cons_zero, List.set_cons_succ, i64_w, i32_w]
              rfl
            refine take_ (i := 44) (N := some 146) (v := ?_) (a' := ?_) #[true, true, true, true, true, true, true, true, true, true, true, true, true, true, true, true, true, true, true, true, true, true, true, true, true, true, true, true, true, true, true, true, true, true, true, true, true, true, true, true, true, true, true, true, true, false, false, false] rfl rfl (by kernel_rfl) (fun _ _ _ h => h) (Or.inl ⟨by rfl, ?_⟩) hHeld ?_ ?_
            rotate_left
            · rintro w' ⟨s0, s1, s2, s3, s4, s5, s6⟩
              go_simp
              with_reducible rfl
            rotate_left
            · simp only [Act.put, List.setIfInBounds_toArray, List.set_cons_zero, List.set_cons_succ, i64_w, i32_w]
              rfl
            refine pure_ (i := 45) (N := some 147) (v := ?_) (a' := ?_) #[true, true, true, true, true, true, true, true, true, true, true, true, true, true, true, true, true, true, true, true, true, true, true, true, true, true, true, true, true, true, true, true, true, true, true, true, true, true, true, true, true, true, true, true, true, true, false, false] rfl rfl (by kernel_rfl) (fun _ _ _ h => h) (Or.inl ⟨by rfl, ?_⟩) ?_ ?_
            rotate_left
            · intro w'
              go_simp
              with_reducible rfl
            rotate_left
            · simp only [Act.put, List.setIfInBounds_toArray, List.set_cons_zero, List.set_cons_succ, i64_w, i32_w]
              rfl
            refine pure_ (i := 46) (N := some 148) (v := ?_) (a' := ?_) #[true, true, true, true, true, true, true, true, true, true, true, true, true, true, true, true, true, true, true, true, true, true, true, true, true, true, true, true, true, true, true, true, true, true, true, true, true, true, true, true, true, true, true, true, true, true, true, false] rfl rfl (by kernel_rfl) (fun _ _ _ h => h) (Or.inl ⟨by rfl, ?_⟩) ?_ ?_
            rotate_left
            · intro w'
              go_simp
              with_reducible rfl
            rotate_left
            · simp only [Act.put, List.setIfInBounds_toArray, List.set_cons_zero, List.set_cons_succ, i64_w, i32_w]
              rfl
            refine pure_ (i := 47) (N := some 149) (v := ?_) (a' := ?_) #[true, true, true, true, true, true, true, true, true, true, true, true, true, true, true, true, true, true, true, true, true, true, true, true, true, true, true, true, true, true, true, true, true, true, true, true, true, true, true, true, true, true, true, true, true, true, true, true] rfl rfl (by kernel_rfl) (fun _ _ _ h => h) (Or.inl ⟨by rfl, ?_⟩) ?_ ?_
            rotate_left
            · intro w'
              go_simp
              with_reducible rfl
            rotate_left
            · simp only [Act.put, List.setIfInBounds_toArray, List.set_cons_zero, List.set_cons_succ, i64_w, i32_w]
              rfl
            refine done_ (by kernel_rfl) ?_
            go_wp2
            go_roundg (ns.length - (i + 1))
            case measure => have := HKQ.out; have := HK.out; omega
            case rel => exact ⟨i + 1, by go_num, by have := HK.out; omega, Nat.le_refl _, ⟨by repeat (first | exact HBI.out | apply pw_below_drewN | apply below_drew1)⟩⟩
          | true =>
            go_upto_region 18 with fail
            refine start_ (n := 48) (S := fun w' => w'.cell? (adv9.add i) = some (.slice R9 n9 r9) ∧ w'.cell? (adv10.add i) = some (.slice R10 n10 r10) ∧ w'.cell? (adv11.add i) = some (.slice R11 n11 r11) ∧ w'.cell? (adv12.add i) = some (.slice R12 n12 r12) ∧ w'.cell? (ade.add i) = some (.bool true) ∧ w'.cell? (adf.add i) = some (.bool true) ∧ w'.cell? (adg.add i) = some (.bool true)) (ds := []) #[false, false, false, false, false, false, false, false, false, false, false, false, false, false, false, false, false, false, false, false, false, false, false, false, false, false, false, false, false, false, false, false, false, false, false, false, false, false, false, false, false, false, false, false, false, false, false, false] (by kernel_rfl) rfl rfl ⟨HC9.out, HC10.out, HC11.out, HC12.out, HCE.out, HCF.out, HCG.out⟩ (fun hHeld => ?_)
            refine pure_ (i := 0) (N := some 102) (v := ?_) (a' := ?_) #[true, false, false, false, false, false, false, false, false, false, false, false, false, false, false, false, false, false, false, false, false, false, false, false, false, false, false, false, false, false, false, false, false, false, false, false, false, false, false, false, false, false, false, false, false, false, false, false] rfl rfl (by kernel_rfl) (fun _ _ _ h => h) (Or.inl ⟨by rfl, ?_⟩) ?_ ?_
            rotate_left
            · intro w'
              go_simp
              with_reducible rfl
            rotate_left
            · simp only [Act.put, List.setIfInBounds_toArray, List.set_cons_zero, List.set_cons_succ, i64_w, i32_w]
              rfl
            refine pure_ (i := 1) (N := some 103) (v := ?_) (a' := ?_) #[true, true, false, false, false, false, false, false, false, false, false, false, false, false, false, false, false, false, false, false, false, false, false, false, false, false, false, false, false, false, false, false, false, false, false, false, false, false, false, false, false, false, false, false, false, false, false, false] rfl rfl (by kernel_rfl) (fun _ _ _ h => h) (Or.inl ⟨by rfl, ?_⟩) ?_ ?_
            rotate_left
            · intro w'
              go_simp
              with_reducible rfl
            rotate_left
            · simp only [Act.put, List.setIfInBounds_toArray, List.set_cons_zero, List.set_cons_succ, i64_w, i32_w]
              rfl
            refine pure_ (i := 2) (N := some 104) (v := ?_) (a' := ?_) #[true, true, true, false, false, false, false, false, false, false, false, false, false, false, false, false, false, false, false, false, false, false, false, false, false, false, false, false, false, false, false, false, false, false, false, false, false, false, false, false, false, false, false, false, false, false, false, false] rfl rfl (by kernel_rfl) (fun _ _ _ h => h) (Or.inl ⟨by rfl, ?_⟩) ?_ ?_
            rotate_left
            · intro w'
              go_simp
              with_reducible rfl
            rotate_left
            · simp only [Act.put, List.setIfInBounds_toArray, List.set_cons_zero, List.set_cons_succ, i64_w, i32_w]
              rfl
            refine pure_ (i := 4) (N := some 106) (v := ?_) (a' := ?_) #[true, true, true, false, true, false, false, false, false, false, false, false, false, false, false, false, false, false, false, false, false, false, false, false, false, false, false, false, false, false, false, false, false, false, false, false, false, false, false, false, false, false, false, false, false, false, false, false] rfl rfl (by kernel_rfl) (fun _ _ _ h => h) (Or.inl ⟨by rfl, ?_⟩) ?_ ?_
            rotate_left
            · intro w'
              go_simp
              with_reducible rfl
            rotate_left
            · simp only [Act.put, List.setIfInBounds_toArray, List.set_cons_zero, List.set_cons_succ, i64_w, i32_w]
              rfl
            refine pure_ (i := 5) (N := some 107) (v := ?_) (a' := ?_) #[true, true, true, false, true, true, false, false, false, false, false, false, false, false, false, false, false, false, false, false, false, false, false, false, false, false, false, false, false, false, false, false, false, false, false, false, false, false, false, false, false, false, false, false, false, false, false, false] rfl rfl (by kernel_rfl) (fun _ _ _ h => h) (Or.inl ⟨by rfl, ?_⟩) ?_ ?_
            rotate_left
            · intro w'
              go_simp
              with_reducible rfl
            rotate_left
            · simp only [Act.put, List.setIfInBounds_toArray, List.set_cons_zero, List.set_cons_succ, i64_w, i32_w]
              rfl
            refine pure_ (i := 6) (N := some 108) (v := ?_) (a' := ?_) #[true, true, true, false, true, true, true, false, false, false, false, false, false, false, false, false, false, false, false, false, false, false, false, false, false, false, false, false, false, false, false, false, false, false, false, false, false, false, false, false, false, false, false, false, false, false, false, false] rfl rfl (by kernel_rfl) (fun _ _ _ h => h) (Or.inl ⟨by rfl, ?_⟩) ?_ ?_
            rotate_left
            · intro w'
              go_simp
              with_reducible rfl
            rotate_left
            · simp only [Act.put, List.setIfInBounds_toArray, List.set_cons_zero, List.set_cons_succ, i64_w, i32_w]
              rfl
            refine take_ (i := 3) (N := some 105) (v := ?_) (a' := ?_) #[true, true, true, true, true, true, true, false, false, false, false, false, false, false, false, false, false, false, false, false, false, false, false, false, false, false, false, false, false, false, false, false, false, false, false, false, false, false, false, false, false, false, false, false, false, false, false, false] rfl rfl (by kernel_rfl) (fun _ _ _ h => h) (Or.inl ⟨by rfl, ?_⟩) hHeld ?_ ?_
            rotate_left
            · rintro w' ⟨s0, s1, s2, s3, s4, s5, s6⟩
              go_simp
              with_reducible rfl
            rotate_left
            · simp only [Act.put, List.setIfInBounds_toArray, List.set_cons_zero, List.set_cons_succ, i64_w, i32_w]
              rfl
            refine take_ (i := 7) (N := some 109) (v := ?_) (a' := ?_) #[true, true, true, true, true, true, true, true, false, false, false, false, false, false, false, false, false, false, false, false, false, false, false, false, false, false, false, false, false, false, false, false, false, false, false, false, false, false, false, false, false, false, false, false, false, false, false, false] rfl rfl (by kernel_rfl) (fun _ _ _ h => h) (Or.inl ⟨by rfl, ?_⟩) hHeld ?_ ?_
            rotate_left
            · rintro w' ⟨s0, s1, s2, s3, s4, s5, s6⟩
              go_simp
              with_reducible rfl
            rotate_left
            · simp only [Act.put, List.setIfInBounds_toArray, List.set_cons_zero, List.set_cons_succ, i64_w, i32_w]
              rfl
            refine one_ (i := 8) (N := some 110) #[true, true, true, true, true, true, true, true, true, false, false, false, false, false, false, false, false, false, false, false, false, false, false, false, false, false, false, false, false, false, false, false, false, false, false, false, false, false, false, false, false, false, false, false, false, false, false, false] rfl rfl (by kernel_rfl) (by decide) (fun K hK => ?_)
            refine goes_ Try.func20 (by kernel_rfl) rfl #[.slice R9 n9 r9, .slice R10 n10 r10] (by rfl) rfl rfl (by simp only [List.map_toArray, List.map_cons, List.map_nil]; rfl) ?_
            with_reducible refine (P1.out _ HBd.out).mono ?_
            rintro e w9 ⟨rfl, nd, rfl⟩
            refine ⟨_, rfl, ?_⟩
            refine hK.out _ _ ⟨hHeld.1, hHeld.2.1, hHeld.2.2.1, hHeld.2.2.2.1, hHeld.2.2.2.2.1, hHeld.2.2.2.2.2.1, hHeld.2.2.2.2.2.2⟩ (fun hHeld => ?_)
            clear hK K
            refine norm_ (a' := ?_) ?_ ?_
            rotate_left
            · show Act.put _ (some 110) _ = _
              simp only [Act.put, List.setIfInBounds_toArray, List.set_cons_zero, List.set_cons_succ, i64_w, i32_w]
              rfl
            refine pure_ (i := 9) (N := some 111) (v := ?_) (a' := ?_) #[true, true, true, true, true, true, true, true, true, true, false, false, false, false, false, false, false, false, false, false, false, false, false, false, false, false, false, false, false, false, false, false, false, false, false, false, false, false, false, false, false, false, false, false, false, false, false, false] rfl rfl (by kernel_rfl) (fun _ _ _ h => h) (Or.inl ⟨by rfl, ?_⟩) ?_ ?_
            rotate_left
            · intro w'
              go_simp
              with_reducible rfl
            rotate_left
            · simp only [Act.put, List.setIfInBounds_toArray, List.set_cons_zero, List.set_cons_succ, i64_w, i32_w]
              rfl
            refine pure_ (i := 10) (N := some 112) (v := ?_) (a' := ?_) #[true, true, true, true, true, true, true, true, true, true, true, false, false, false, false, false, false, false, false, false, false, false, false, false, false, false, false, false, false, false, false, false, false, false, false, false, false, false, false, false, false, false, false, false, false, false, false, false] rfl rfl (by kernel_rfl) (fun _ _ _ h => h) (Or.inl ⟨by rfl, ?_⟩) ?_ ?_
            rotate_left
            · intro w'
              go_simp
              with_reducible rfl
            rotate_left
            · simp only [Act.put, List.setIfInBounds_toArray, List.set_cons_zero, List.set_cons_succ, i64_w, i32_w]
              rfl
            refine pure_ (i := 11) (N := some 113) (v := ?_) (a' := ?_) #[true, true, true, true, true, true, true, true, true, true, true, true, false, false, false, false, false, false, false, false, false, false, false, false, false, false, false, false, false, false, false, false, false, false, false, false, false, false, false, false, false, false, false, false, false, false, false, false] rfl rfl (by kernel_rfl) (fun _ _ _ h => h) (Or.inl ⟨by rfl, ?_⟩) ?_ ?_
            rotate_left
            · intro w'
              go_simp
              with_reducible rfl
            rotate_left
            · simp only [Act.put, List.setIfInBounds_toArray, List.set_cons_zero, List.set_cons_succ, i64_w, i32_w]
              rfl
            refine pure_ (i := 12) (N := some 114) (v := ?_) (a' := ?_) #[true, true, true, true, true, true, true, true, true, true, true, true, true, false, false, false, false, false, false, false, false, false, false, false, false, false, false, false, false, false, false, false, false, false, false, false, false, false, false, false, false, false, false, false, false, false, false, false] rfl rfl (by kernel_rfl) (fun _ _ _ h => h) (Or.inl ⟨by rfl, ?_⟩) ?_ ?_
            rotate_left
            · intro w'
              go_simp
              with_reducible rfl
            rotate_left
            · simp only [Act.put, List.setIfInBounds_toArray, List.set_cons_zero, List.set_cons_succ, i64_w, i32_w]
              rfl
            refine pure_ (i := 13) (N := some 115) (v := ?_) (a' := ?_) #[true, true, true, true, true, true, true, true, true, true, true, true, true, true, false, false, false, false, false, false, false, false, false, false, false, false, false, false, false, false, false, false, false, false, false, false, false, false, false, false, false, false, false, false, false, false, false, false] rfl rfl (by kernel_rfl) (fun _ _ _ h => h) (Or.inl ⟨by rfl, ?_⟩) ?_ ?_
            rotate_left
            · intro w'
              go_simp
              with_reducible rfl
            rotate_left
            · simp only [Act.put, List.setIfInBounds_toArray, List.set_cons_zero, List.set_cons_succ, i64_w, i32_w]
              rfl
            refine pure_ (i := 15) (N := some 117) (v := ?_) (a' := ?_) #[true, true, true, true, true, true, true, true, true, true, true, true, true, true, false, true, false, false, false, false, false, false, false, false, false, false, false, false, false, false, false, false, false, false, false, false, false, false, false, false, false, false, false, false, false, false, false, false] rfl rfl (by kernel_rfl) (fun _ _ _ h => h) (Or.inl ⟨by rfl, ?_⟩) ?_ ?_
            rotate_left
            · intro w'
              go_simp
              with_reducible rfl
            rotate_left
            · simp only [Act.put, List.setIfInBounds_toArray, List.set_cons_zero, List.set_cons_succ, i64_w, i32_w]
              rfl
            refine pure_ (i := 16) (N := some 118) (v := ?_) (a' := ?_) #[true, true, true, true, true, true, true, true, true, true, true, true, true, true, false, true, true, false, false, false, false, false, false, false, false, false, false, false, false, false, false, false, false, false, false, false, false, false, false, false, false, false, false, false, false, false, false, false] rfl rfl (by kernel_rfl) (fun _ _ _ h => h) (Or.inl ⟨by rfl, ?_⟩) ?_ ?_
            rotate_left
            · intro w'
              go_simp
              with_reducible rfl
            rotate_left
            · simp only [Act.put, List.setIfInBounds_toArray, List.set_cons_zero, List.set_cons_succ, i64_w, i32_w]
              rfl
            refine pure_ (i := 17) (N := some 119) (v := ?_) (a' := ?_) #[true, true, true, true, true, true, true, true, true, true, true, true, true, true, false, true, true, true, false, false, false, false, false, false, false, false, false, false, false, false, false, false, false, false, false, false, false, false, false, false, false, false, false, false, false, false, false, false] rfl rfl (by kernel_rfl) (fun _ _ _ h => h) (Or.inl ⟨by rfl, ?_⟩) ?_ ?_
            rotate_left
            · intro w'
              go_simp
              with_reducible rfl
            rotate_left
            · simp only [Act.put, List.setIfInBounds_toArray, List.set_cons_zero, List.set_cons_succ, i64_w, i32_w]
              rfl
            refine take_ (i := 14) (N := some 116) (v := ?_) (a' := ?_) #[true, true, true, true, true, true, true, true, true, true, true, true, true, true, true, true, true, true, false, false, false, false, false, false, false, false, false, false, false, false, false, false, false, false, false, false, false, false, false, false, false, false, false, false, false, false, false, false] rfl rfl (by kernel_rfl) (fun _ _ _ h => h) (Or.inl ⟨by rfl, ?_⟩) hHeld ?_ ?_
            rotate_left
            · rintro w' ⟨s0, s1, s2, s3, s4, s5, s6⟩
              go_simp
              with_reducible rfl
            rotate_left
            · simp only [Act.put, List.setIfInBounds_toArray, List.set_cons_zero, List.set_cons_succ, i64_w, i32_w]
              rfl
            refine take_ (i := 18) (N := some 120) (v := ?_) (a' := ?_) #[true, true, true, true, true, true, true, true, true, true, true, true, true, true, true, true, true, true, true, false, false, false, false, false, false, false, false, false, false, false, false, false, false, false, false, false, false, false, false, false, false, false, false, false, false, false, false, false] rfl rfl (by kernel_rfl) (fun _ _ _ h => h) (Or.inl ⟨by rfl, ?_⟩) hHeld ?_ ?_
            rotate_left
            · rintro w' ⟨s0, s1, s2, s3, s4, s5, s6⟩
              go_simp
              with_reducible rfl
            rotate_left
            · simp only [Act.put, List.setIfInBounds_toArray, List.set_cons_zero, List.set_cons_succ, i64_w, i32_w]
              rfl
            refine one_ (i := 19) (N := some 121) #[true, true, true, true, true, true, true, true, true, true, true, true, true, true, true, true, true, true, true, true, false, false, false, false, false, false, false, false, false, false, false, false, false, false, false, false, false, false, false, false, false, false, false, false, false, false, false, false] rfl rfl (by kernel_rfl) (by decide) (fun K hK => ?_)
            refine goes_ Try.func20 (by kernel_rfl) rfl #[.slice R11 n11 r11, .slice R12 n12 r12] (by rfl) rfl rfl (by simp only [List.map_toArray, List.map_cons, List.map_nil]; rfl) ?_
            with_reducible refine (P2.out _ (pw_below_drewN HBd.out nd)).mono ?_
            rintro e w9 ⟨rfl, nd2, rfl⟩
            refine ⟨_, rfl, ?_⟩
            refine hK.out _ _ ⟨hHeld.1, hHeld.2.1, hHeld.2.2.1, hHeld.2.2.2.1, hHeld.2.2.2.2.1, hHeld.2.2.2.2.2.1, hHeld.2.2.2.2.2.2⟩ (fun hHeld => ?_)
            clear hK K
            refine norm_ (a' := ?_) ?_ ?_
            rotate_left
            · show Act.put _ (some 121) _ = _
              simp only [Act.put, List.setIfInBounds_toArray, List.set_cons_zero, List.set_cons_succ, i64_w, i32_w]
              rfl
            refine pure_ (i := 20) (N := some 122) (v := ?_) (a' := ?_) #[true, true, true, true, true, true, true, true, true, true, true, true, true, true, true, true, true, true, true, true, true, false, false, false, false, false, false, false, false, false, false, false, false, false, false, false, false, false, false, false, false, false, false, false, false, false, false, false] rfl rfl (by kernel_rfl) (fun _ _ _ h => h) (Or.inl ⟨by rfl, ?_⟩) ?_ ?_
            rotate_left
            · intro w'
              go_simp
              with_reducible rfl
            rotate_left
            · simp only [Act.put, List.setIfInBounds_toArray, List.set_cons_zero, List.set_cons_succ, i64_w, i32_w]
              rfl
            refine pure_ (i := 21) (N := some 123) (v := ?_) (a' := ?_) #[true, true, true, true, true, true, true, true, true, true, true, true, true, true, true, true, true, true, true, true, true, true, false, false, false, false, false, false, false, false, false, false, false, false, false, false, false, false, false, false, false, false, false, false, false, false, false, false] rfl rfl (by kernel_rfl) (fun _ _ _ h => h) (Or.inl ⟨by rfl, ?_⟩) ?_ ?_
            rotate_left
            · intro w'
              go_simp
              with_reducible rfl
            rotate_left
            · simp only [Act.put, List.setIfInBounds_toArray, List.set_cons_zero, List.set_cons_succ, i64_w, i32_w]
              rfl
            refine pure_ (i := 22) (N := some 124) (v := ?_) (a' := ?_) #[true, true, true, true, true, true, true, true, true, true, true, true, true, true, true, true, true, true, true, true, true, true, true, false, false, false, false, false, false, false, false, false, false, false, false, false, false, false, false, false, false, false, false, false, false, false, false, false] rfl rfl (by kernel_rfl) (fun _ _ _ h => h) (Or.inl ⟨by rfl, ?_⟩) ?_ ?_
            rotate_left
            · intro w'
              go_simp
              with_reducible rfl
            rotate_left
            · simp only [Act.put, List.setIfInBounds_toArray, List.set_cons_zero, List.set_cons_succ, i64_w, i32_w]
              rfl
            refine pure_ (i := 23) (N := some 125) (v := ?_) (a' := ?_) #[true, true, true, true, true, true, true, true, true, true, true, true, true, true, true, true, true, true, true, true, true, true, true, true, false, false, false, false, false, false, false, false, false, false, false, false, false, false, false, false, false, false, false, false, false, false, false, false] rfl rfl (by kernel_rfl) (fun _ _ _ h => h) (Or.inl ⟨by rfl, ?_⟩) ?_ ?_
            rotate_left
            · intro w'
              go_simp
              with_reducible rfl
            rotate_left
            · simp only [Act.put, List.setIfInBounds_toArray, List.set_cons_zero, List.set_cons_succ, i64_w, i32_w]
              rfl
            refine pure_ (i := 24) (N := some 126) (v := ?_) (a' := ?_) #[true, true, true, true, true, true, true, true, true, true, true, true, true, true, true, true, true, true, true, true, true, true, true, true, true, false, false, false, false, false, false, false, false, false, false, false, false, false, false, false, false, false, false, false, false, false, false, false] rfl rfl (by kernel_rfl) (fun _ _ _ h => h) (Or.inl ⟨by rfl, ?_⟩) ?_ ?_
            rotate_left
            · intro w'
              go_simp
              with_reducible rfl
            rotate_left
            · simp only [Act.put, List.setIfInBounds_toArray, List.set_cons_zero, List.set_cons_succ, i64_w, i32_w]
              rfl
            refine pure_ (i := 25) (N := some 127) (v := ?_) (a' := ?_) #[true, true, true, true, true, true, true, true, true, true, true, true, true, true, true, true, true, true, true, true, true, true, true, true, true, true, false, false, false, false, false, false, false, false, false, false, false, false, false, false, false, false, false, false, false, false, false, false] rfl rfl (by kernel_rfl) (fun _ _ _ h => h) (Or.inl ⟨by rfl, ?_⟩) ?_ ?_
            rotate_left
            · intro w'
              go_simp
              with_reducible rfl
            rotate_left
            · simp only [Act.put, List.setIfInBounds_toArray, List.set_cons_zero, List.set_cons_succ, i64_w, i32_w]
              rfl
            refine take_ (i := 26) (N := some 128) (v := ?_) (a' := ?_) #[true, true, true, true, true, true, true, true, true, true, true, true, true, true, true, true, true, true, true, true, true, true, true, true, true, true, true, false, false, false, false, false, false, false, false, false, false, false, false, false, false, false, false, false, false, false, false, false] rfl rfl (by kernel_rfl) (fun _ _ _ h => h) (Or.inl ⟨by rfl, ?_⟩) hHeld ?_ ?_
            rotate_left
            · rintro w' ⟨s0, s1, s2, s3, s4, s5, s6⟩
              go_simp
              with_reducible rfl
            rotate_left
            · simp only [Act.put, List.setIfInBounds_toArray, List.set_cons_zero, List.set_cons_succ, i64_w, i32_w]
              rfl
            refine pure_ (i := 27) (N := some 129) (v := ?_) (a' := ?_) #[true, true, true, true, true, true, true, true, true, true, true, true, true, true, true, true, true, true, true, true, true, true, true, true, true, true, true, true, false, false, false, false, false, false, false, false, false, false, false, false, false, false, false, false, false, false, false, false] rfl rfl (by kernel_rfl) (fun _ _ _ h => h) (Or.inl ⟨by rfl, ?_⟩) ?_ ?_
            rotate_left
            · intro w'
              go_simp
              with_reducible rfl
            rotate_left
            · simp only [Act.put, List.setIfInBounds_toArray, List.set_cons_zero, List.set_cons_succ, i64_w, i32_w]
              rfl
            refine pure_ (i := 28) (N := some 130) (v := ?_) (a' := ?_) #[true, true, true, true, true, true, true, true, true, true, true, true, true, true, true, true, true, true, true, true, true, true, true, true, true, true, true, true, true, false, false, false, false, false, false, false, false, false, false, false, false, false, false, false, false, false, false, false] rfl rfl (by kernel_rfl) (fun _ _ _ h => h) (Or.inl ⟨by rfl, ?_⟩) ?_ ?_
            rotate_left
            · intro w'
              go_simp
              with_reducible rfl
            rotate_left
            · simp only [Act.put, List.setIfInBounds_toArray, List.set_cons_zero, List.set_cons_succ, i64_w, i32_w]
              rfl
            refine pure_ (i := 29) (N := some 131) (v := ?_) (a' := ?_) #[true, true, true, true, true, true, true, true, true, true, true, true, true, true, true, true, true, true, true, true, true, true, true, true, true, true, true, true, true, true, false, false, false, false, false, false, false, false, false, false, false, false, false, false, false, false, false, false] rfl rfl (by kernel_rfl) (fun _ _ _ h => h) (Or.inl ⟨by rfl, ?_⟩) ?_ ?_
            rotate_left
            · intro w'
              go_simp
              with_reducible rfl
            rotate_left
            · simp only [Act.put, List.setIfInBounds_toArray, List.set_cons_zero, List.set_cons_succ, i64_w, i32_w]
              rfl
            refine pure_ (i := 30) (N := some 132) (v := ?_) (a' := ?_) #[true, true, true, true, true, true, true, true, true, true, true, true, true, true, true, true, true, true, true, true, true, true, true, true, true, true, true, true, true, true, true, false, false, false, false, false, false, false, false, false, false, false, false, false, false, false, false, false] rfl rfl (by kernel_rfl) (fun _ _ _ h => h) (Or.inl ⟨by rfl, ?_⟩) ?_ ?_
            rotate_left
            · intro w'
              go_simp
              with_reducible rfl
            rotate_left
            · simp only [Act.put, List.setIfInBounds_toArray, List.set_cons_zero, List.set_cons_succ, i64_w, i32_w]
              rfl
            refine take_ (i := 31) (N := some 133) (v := ?_) (a' := ?_) #[true, true, true, true, true, true, true, true, true, true, true, true, true, true, true, true, true, true, true, true, true, true, true, true, true, true, true, true, true, true, true, true, false, false, false, false, false, false, false, false, false, false, false, false, false, false, false, false] rfl rfl (by kernel_rfl) (fun _ _ _ h => h) (Or.inl ⟨by rfl, ?_⟩) hHeld ?_ ?_
            rotate_left
            · rintro w' ⟨s0, s1, s2, s3, s4, s5, s6⟩
              go_simp
              with_reducible rfl
            rotate_left
            · simp only [Act.put, List.setIfInBounds_toArray, List.set_cons_zero, List.set_cons_succ, i64_w, i32_w]
              rfl
            refine pure_ (i := 32) (N := some 134) (v := ?_) (a' := ?_) #[true, true, true, true, true, true, true, true, true, true, true, true, true, true, true, true, true, true, true, true, true, true, true, true, true, true, true, true, true, true, true, true, true, false, false, false, false, false, false, false, false, false, false, false, false, false, false, false] rfl rfl (by kernel_rfl) (fun _ _ _ h => h) (Or.inl ⟨by rfl, ?_⟩) ?_ ?_
            rotate_left
            · intro w'
              go_simp
              with_reducible rfl
            rotate_left
            · simp only [Act.put, List.setIfInBounds_toArray, List.set_cons_zero, List.set_cons_succ, i64_w, i32_w]
              rfl
            refine pure_ (i := 33) (N := some 135) (v := ?_) (a' := ?_) #[true, true, true, true, true, true, true, true, true, true, true, true, true, true, true, true, true, true, true, true, true, true, true, true, true, true, true, true, true, true, true, true, true, true, false, false, false, false, false, false, false, false, false, false, false, false, false, false] rfl rfl (by kernel_rfl) (fun _ _ _ h => h) (Or.inl ⟨by rfl, ?_⟩) ?_ ?_
            rotate_left
            · intro w'
              go_simp
              with_reducible rfl
            rotate_left
            · simp only [Act.put, List.setIfInBounds_toArray, List.set_cons_zero, List.set_cons_succ, i64_w, i32_w]
              rfl
            refine pure_ (i := 34) (N := some 136) (v := ?_) (a' := ?_) #[true, true, true, true, true, true, true, true, true, true, true, true, true, true, true, true, true, true, true, true, true, true, true, true, true, true, true, true, true, true, true, true, true, true, true, false, false, false, false, false, false, false, false, false, false, false, false, false] rfl rfl (by kernel_rfl) (fun _ _ _ h => h) (Or.inl ⟨by rfl, ?_⟩) ?_ ?_
            rotate_left
            · intro w'
              go_simp
              with_reducible rfl
            rotate_left
            · simp only [Act.put, List.setIfInBounds_toArray, List.set_cons_zero, List.set_cons_succ, i64_w, i32_w]
              rfl
            refine pure_ (i := 35) (N := some 137) (v := ?_) (a' := ?_) #[true, true, true, true, true, true, true, true, true, true, true, true, true, true, true, true, true, true, true, true, true, true, true, true, true, true, true, true, true, true, true, true, true, true, true, true, false, false, false, false, false, false, false, false, false, false, false, false] rfl rfl (by kernel_rfl) (fun _ _ _ h => h) (Or.inl ⟨by rfl, ?_⟩) ?_ ?_
            rotate_left
            · intro w'
              go_simp
              with_reducible rfl
            rotate_left
            · simp only [Act.put, List.setIfInBounds_toArray, List.set_cons_zero, List.set_cons_succ, i64_w, i32_w]
              rfl
            refine pure_ (i := 36) (N := some 138) (v := ?_) (a' := ?_) #[true, true, true, true, true, true, true, true, true, true, true, true, true, true, true, true, true, true, true, true, true, true, true, true, true, true, true, true, true, true, true, true, true, true, true, true, true, false, false, false, false, false, false, false, false, false, false, false] rfl rfl (by kernel_rfl) (fun _ _ _ h => h) (Or.inl ⟨by rfl, ?_⟩) ?_ ?_
            rotate_left
            · intro w'
              go_simp
              with_reducible rfl
            rotate_left
            · simp only [Act.put, List.setIfInBounds_toArray, List.set_cons_zero, List.set_cons_succ, i64_w, i32_w]
              rfl
            refine pure_ (i := 37) (N := some 139) (v := ?_) (a' := ?_) #[true, true, true, true, true, true, true, true, true, true, true, true, true, true, true, true, true, true, true, true, true, true, true, true, true, true, true, true, true, true, true, true, true, true, true, true, true, true, false, false, false, false, false, false, false, false, false, false] rfl rfl (by kernel_rfl) (fun _ _ _ h => h) (Or.inl ⟨by rfl, ?_⟩) ?_ ?_
            rotate_left
            · intro w'
              go_simp
              with_reducible rfl
            rotate_left
            · simp only [Act.put, List.setIfInBounds_toArray, List.set_cons_zero, List.set_cons_succ, i64_w, i32_w]
              rfl
            refine pure_ (i := 38) (N := some 140) (v := ?_) (a' := ?_) #[true, true, true, true, true, true, true, true, true, true, true, true, true, true, true, true, true, true, true, true, true, true, true, true, true, true, true, true, true, true, true, true, true, true, true, true, true, true, true, false, false, false, false, false, false, false, false, false] rfl rfl (by kernel_rfl) (fun _ _ _ h => h) (Or.inl ⟨by rfl, ?_⟩) ?_ ?_
            rotate_left
            · intro w'
              go_simp
              with_reducible rfl
            rotate_left
            · simp only [Act.put, List.setIfInBounds_toArray, List.set_cons_zero, List.set_cons_succ, i64_w, i32_w]
              rfl
            refine take_ (i := 39) (N := some 141) (v := ?_) (a' := ?_) #[true, true, true, true, true, true, true, true, true, true, true, true, true, true, true, true, true, true, true, true, true, true, true, true, true, true, true, true, true, true, true, true, true, true, true, true, true, true, true, true, false, false, false, false, false, false, false, false] rfl rfl (by kernel_rfl) (fun _ _ _ h => h) (Or.inl ⟨by rfl, ?_⟩) hHeld ?_ ?_
            rotate_left
            · rintro w' ⟨s0, s1, s2, s3, s4, s5, s6⟩
              go_simp
              with_reducible rfl
            rotate_left
            · simp only [Act.put, List.setIfInBounds_toArray, List.set_cons_zero, List.set_cons_succ, i64_w, i32_w]
              rfl
            refine pure_ (i := 40) (N := some 142) (v := ?_) (a' := ?_) #[true, true, true, true, true, true, true, true, true, true, true, true, true, true, true, true, true, true, true, true, true, true, true, true, true, true, true, true, true, true, true, true, true, true, true, true, true, true, true, true, true, false, false, false, false, false, false, false] rfl rfl (by kernel_rfl) (fun _ _ _ h => h) (Or.inl ⟨by rfl, ?_⟩) ?_ ?_
            rotate_left
            · intro w'
              go_simp
              with_reducible rfl
            rotate_left
            · simp only [Act.put, List.setIfInBounds_toArray, List.set_cons_zero, List.set_cons_succ, i64_w, i32_w]
              rfl
            refine pure_ (i := 41) (N := some 143) (v := ?_) (a' := ?_) #[true, true, true, true, true, true, true, true, true, true, true, true, true, true, true, true, true, true, true, true, true, true, true, true, true, true, true, true, true, true, true, true, true, true, true, true, true, true, true, true, true, true, false, false, false, false, false, false] rfl rfl (by kernel_rfl) (fun _ _ _ h => h) (Or.inl ⟨by rfl, ?_⟩) ?_ ?_
            rotate_left
            · intro w'
              go_simp
              with_reducible rfl
            rotate_left
            · simp only [Act.put, List.setIfInBounds_toArray, List.set_cons_zero, List.set_cons_succ, i64_w, i32_w]
              rfl
            refine pure_ (i := 42) (N := some 144) (v := ?_) (a' := ?_) #[true, true, true, true, true, true, true, true, true, true, true, true, true, true, true, true, true, true, true, true, true, true, true, true, true, true, true, true, true, true, true, true, true, true, true, true, true, true, true, true, true, true, true, false, false, false, false, false] rfl rfl (by kernel_rfl) (fun _ _ _ h => h) (Or.inl ⟨by rfl, ?_⟩) ?_ ?_
            rotate_left
            · intro w'
              go_simp
              with_reducible rfl
            rotate_left
            · simp only [Act.put, List.setIfInBounds_toArray, List.set_cons_zero, List.set_cons_succ, i64_w, i32_w]
              rfl
            refine pure_ (i := 43) (N := some 145) (v := ?_) (a' := ?_) #[true, true, true, true, true, true, true, true, true, true, true, true, true, true, true, true, true, true, true, true, true, true, true, true, true, true, true, true, true, true, true, true, true, true, true, true, true, true, true, true, true, true, true, true, false, false, false, false] rfl rfl (by kernel_rfl) (fun _ _ _ h => h) (Or.inl ⟨by rfl, ?_⟩) ?_ ?_
            rotate_left
            · intro w'
              go_simp
              with_reducible rfl
            rotate_left
            · simp only [Act.put, List.setIfInBounds_toArray, List.set_cons_zero, List.set_cons_succ, i64_w, i32_w]
              rfl
            refine take_ (i := 44) (N := some 146) (v := ?_) (a' := ?_) #[true, true, true, true, true, true, true, true, true, true, true, true, true, true, true, true, true, true, true, true, true, true, true, true, true, true, true, true, true, true, true, true, true, true, true, true, true, true, true, true, true, true, true, true, true, false, false, false] rfl rfl (by kernel_rfl) (fun _ _ _ h => h) (Or.inl ⟨by rfl, ?_⟩) hHeld ?_ ?_
            rotate_left
            · rintro w' ⟨s0, s1, s2, s3, s4, s5, s6⟩
              go_simp
              with_reducible rfl
            rotate_left
            · simp only [Act.put, List.setIfInBounds_toArray, List.set_cons_zero, List.set_cons_succ, i64_w, i32_w]
              rfl
            refine pure_ (i := 45) (N := some 147) (v := ?_) (a' := ?_) #[true, true, true, true, true, true, true, true, true, true, true, true, true, true, true, true, true, true, true, true, true, true, true, true, true, true, true, true, true, true, true, true, true, true, true, true, true, true, true, true, true, true, true, true, true, true, false, false] rfl rfl (by kernel_rfl) (fun _ _ _ h => h) (Or.inl ⟨by rfl, ?_⟩) ?_ ?_
            rotate_left
            · intro w'
              go_simp
              with_reducible rfl
            rotate_left
            · simp only [Act.put, List.setIfInBounds_toArray, List.set_cons_zero, List.set_cons_succ, i64_w, i32_w]
              rfl
            refine pure_ (i := 46) (N := some 148) (v := ?_) (a' := ?_) #[true, true, true, true, true, true, true, true, true, true, true, true, true, true, true, true, true, true, true, true, true, true, true, true, true, true, true, true, true, true, true, true, true, true, true, true, true, true, true, true, true, true, true, true, true, true, true, false] rfl rfl (by kernel_rfl) (fun _ _ _ h => h) (Or.inl ⟨by rfl, ?_⟩) ?_ ?_
            rotate_left
            · intro w'
              go_simp
              with_reducible rfl
            rotate_left
            · simp only [Act.put, List.setIfInBounds_toArray, List.set_cons_zero, List.set_cons_succ, i64_w, i32_w]
              rfl
            refine pure_ (i := 47) (N := some 149) (v := ?_) (a' := ?_) #[true, true, true, true, true, true, true, true, true, true, true, true, true, true, true, true, true, true, true, true, true, true, true, true, true, true, true, true, true, true, true, true, true, true, true, true, true, true, true, true, true, true, true, true, true, true, true, true] rfl rfl (by kernel_rfl) (fun _ _ _ h => h) (Or.inl ⟨by rfl, ?_⟩) ?_ ?_
            rotate_left
            · intro w'
              go_simp
              with_reducible rfl
            rotate_left
            · simp only [Act.put, List.setIfInBounds_toArray, List.set_cons_zero, List.set_cons_succ, i64_w, i32_w]
              rfl
            refine done_ (by kernel_rfl) ?_
            go_wp2
            go_roundg (ns.length - (i + 1))
            case measure => have := HKQ.out; have := HK.out; omega
            case rel => exact ⟨i + 1, by go_num, by have := HK.out; omega, Nat.le_refl _, ⟨by repeat (first | exact HBI.out | apply pw_below_drewN | apply below_drew1)⟩⟩
      · obtain rfl : i = ns.length := by omega
        clear hlt
        go_wp2
        go_ret
        exact ⟨rfl, HW15.out.trans (HBI.out.mono HW15.out.size)⟩
end Go.Proofs.Ytojdjjbkpbapfaa.P
end
