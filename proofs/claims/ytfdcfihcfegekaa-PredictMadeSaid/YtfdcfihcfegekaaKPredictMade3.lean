/- Packed texts of this claim: the walks of the functions, and their plain laws; see the claim's last text. -/
import Derived.Deep.Cut
import Derived.Deep.QuietTactic
import Derived.BigQuiet
import Derived.WalkMore
import Derived.Deep.AppendLies
import Derived.Deep.CutRange
import Derived.Shelf.Abstract
import Derived.Test.YtfdcfihcfegekaaKPredictMade2
section
namespace Go.Proofs.Ytfdcfihcfegekaa.P
open Go.RowKit Go.Proofs.YtfdcfihcfegekaaW.PrintWords Go.Proofs.YtfdcfihcfegekaaW.PrintLast Go.Proofs.YtfdcfihcfegekaaW.PrintMore Go.Proofs.Ytfdcfihcfegekaa.R
set_option linter.unusedVariables false
set_option linter.unusedSimpArgs false
structure StudyAt (w : World) (G : Nat) (A0_0 : Option Addr) (n0 c0_0 : Nat) (A0_1 : Option Addr) (n1 c0_1 : Nat) (a0_2 a0_3 : Int) (A0_4 : Option Addr) (n4 c0_4 : Nat) (A5 : Option Addr) (c5 : Nat) (A6 : Option Addr) (c6 : Nat) (okE okF : Nat → Prop) (em : List Bool) (first : List (List Bool)) (W : World) : Prop where
  bel : Below w.heap.size w W
  g : W.heap[G]? = some (.cells #[.slice A0_0 n0 c0_0, .slice A0_1 n1 c0_1, .int .i64 a0_2, .int .i64 a0_3, .slice A0_4 n4 c0_4, .slice A5 em.length c5, .slice A6 n0 c6] 93 (0, 0))
  ge : w.heap.size ≤ G
  re : Kd.R Kd.bool 4 W w.heap.size okE (.slice A5 em.length c5) em
  rf : Kd.S (Kd.slice 4 Kd.bool) 84 W w.heap.size okF (.slice A6 n0 c6) first
  e1 : ∀ k, okE k → k ≠ G
  f1 : ∀ k, okF k → k ≠ G ∧ ¬ okE k
theorem StudyAt.below {w : World} {G : Nat} {A0_0 : Option Addr} {n0 c0_0 : Nat} {A0_1 : Option Addr} {n1 c0_1 : Nat} {a0_2 a0_3 : Int} {A0_4 : Option Addr} {n4 c0_4 : Nat} {A5 : Option Addr} {c5 : Nat} {A6 : Option Addr} {c6 : Nat} {okE okF : Nat → Prop} {em : List Bool} {first : List (List Bool)} {W W' : World} (h : StudyAt w G A0_0 n0 c0_0 A0_1 n1 c0_1 a0_2 a0_3 A0_4 n4 c0_4 A5 c5 A6 c6 okE okF em first W) (hb : Below W.heap.size W W') : StudyAt w G A0_0 n0 c0_0 A0_1 n1 c0_1 a0_2 a0_3 A0_4 n4 c0_4 A5 c5 A6 c6 okE okF em first W' :=
  ⟨h.bel.trans (hb.mono h.bel.size), (hb.block _ (blk_lt h.g)).trans h.g, h.ge, Kd.R_below h.re hb, Kd.S_below h.rf hb, h.e1, h.f1⟩
def studiedStep (k nt : Nat) (em : List Bool) (first : List (List Bool)) (p : S30) : Option (Bool × List (List Bool)) :=
  (begins_f k nt em first p.f1).bind fun l => if 0 ≤ p.f0 then if p.f0 < (first.length : Int) then (firsts_set_add.f k (first.getD p.f0.toNat []) l.1).bind fun b => some (b.1, first.set p.f0.toNat b.2) else none else none
theorem studiedStep_mono (nt : Nat) (em : List Bool) (k : Nat) (first : List (List Bool)) (p : S30) : LeO (studiedStep k nt em first p) (studiedStep (k + 1) nt em first p) := by
  unfold studiedStep
  exact LeO.bind (begins_f_mono _ _ _ _ _) (fun _ => LeO.ite (LeO.ite (LeO.bind (firsts_set_add.mono _ _ _) (fun _ => LeO.refl _)) (LeO.refl _)) (LeO.refl _))
set_option maxHeartbeats 2000000 in
theorem studied1_any (k : Nat) (w : World) (XB G : Nat) (A0_0 : Option Addr) (n0 c0_0 : Nat) (A0_1 : Option Addr) (n1 c0_1 : Nat) (a0_2 a0_3 : Int) (A0_4 : Option Addr) (n4 c0_4 : Nat) (A5 : Option Addr) (c5 : Nat) (A6 : Option Addr) (c6 : Nat) (okE okF : Nat → Prop) (em : List Bool) (ps : List S30) (hX : ∀ k, okF k → k ≠ XB) :
    StepOk 53 #[.pointer (some ⟨XB, 0, none⟩)] (fun first W => StudyAt w G A0_0 n0 c0_0 A0_1 n1 c0_1 a0_2 a0_3 A0_4 n4 c0_4 A5 c5 A6 c6 okE okF em first W ∧ W.cell? ⟨XB, 0, none⟩ = some (.pointer (some ⟨G, 0, none⟩))) okF (studiedStep k n1 em) ps := by
  intro W first p A1 c1 b first' hp hI hle hC hst
  obtain ⟨hI, hx⟩ := hI
  replace hC := hC W (Kept.refl _ _)
  obtain ⟨⟨l1, l2⟩, hbg, hst2⟩ := Option.bind_eq_some_iff.1 hst
  clear hst
  simp only at hst2
  split at hst2
  case isFalse => simp at hst2
  rename_i hl0
  split at hst2
  case isFalse => simp at hst2
  rename_i hl1
  obtain ⟨⟨ab, ar⟩, had, hst3⟩ := Option.bind_eq_some_iff.1 hst2
  clear hst2
  obtain ⟨rfl, rfl⟩ := Prod.mk.inj (Option.some.inj hst3)
  clear hst3
  obtain ⟨left, right⟩ := p
  simp only at hle hC hbg hl0 hl1 had ⊢
  have hba : Below W.heap.size W (W.alloc (Obj.cells #[.int .i64 left, .slice A1 right.length c1] 30)) := (Below.refl _ W).alloc (Nat.le_refl _) _
  have hn0 := (Kd.S_reads' hI.rf).1
  subst hn0
  have hGlt := blk_lt hI.g
  have hXlt := World.block_lt_of_cell? W _ hx
  simp only at hXlt
  have hgb := (hba.block _ hGlt).trans hI.g
  have c1_ := (blk_cell hgb 1).trans (show _ = some (.slice A0_1 n1 c0_1) from rfl)
  have c5_ := (blk_cell hgb 5).trans (show _ = some (.slice A5 em.length c5) from rfl)
  have c6_ := (blk_cell hgb 6).trans (show _ = some (.slice A6 first.length c6) from rfl)
  have hcon := begins_any k G (W.alloc (Obj.cells #[.int .i64 left, .slice A1 right.length c1] 30)) A0_1 A5 A6 A1 n1 c0_1 c5 c6 c1 em first right l1 l2 c1_ c5_ c6_ (Kd.C_below (Kd.R_reads' hI.re).2.2 hba) (Kd.C_below (Kd.S_reads' hI.rf).2.2 hba) (Kd.C_below hC hba) hbg
  have hxa := (hba.cell (p := ⟨XB, 0, none⟩) hXlt).trans hx
  have HI := Aside0.mk hI
  have HBA := Aside0.mk hba
  have HAD := Aside0.mk had
  have HLL := Aside0.mk (And.intro hl0 hl1)
  have HX := Aside0.mk hX
  have HLT := Aside0.mk (And.intro hGlt hXlt)
  have hneX : XB ≠ W.heap.size := by omega
  show Calls Try.prog 53 #[.agg #[.int .i64 left, .slice A1 right.length c1], .pointer (some ⟨XB, 0, none⟩)] W _
  clear hx hC hI hba c1_ c5_ c6_ hgb hbg had hX hl0 hl1 hp hGlt hXlt hle
  go_enter Try.func53, Try.ntmps53
  go_wp2_with (go_at_call 47; (with_reducible refine hcon.mono ?_); rintro e w2 ⟨v2, rfl, hR2, hb2⟩; have HR2 := Aside0.mk hR2; have HB2 := Aside0.mk hb2; clear hR2 hb2)
  obtain ⟨A2, c2, rfl⟩ := Kd.R_slice HR2.out
  have HW2 : Aside0 (Below W.heap.size W w2) := ⟨HBA.out.trans (HB2.out.mono (by simp))⟩
  have pb : w2.cell? ⟨W.heap.size, 0, none⟩ = some (.int .i64 left) := (HB2.out.cell (p := ⟨W.heap.size, 0, none⟩) (by simp)).trans (by simp)
  have xb : w2.cell? ⟨XB, 0, none⟩ = some (.pointer (some ⟨G, 0, none⟩)) := (HB2.out.cell (p := ⟨XB, 0, none⟩) (by have := HLT.out.2; simp; omega)).trans hxa
  have GB2 : Aside0 (w2.heap[G]? = some (.cells #[.slice A0_0 first.length c0_0, .slice A0_1 n1 c0_1, .int .i64 a0_2, .int .i64 a0_3, .slice A0_4 n4 c0_4, .slice A5 em.length c5, .slice A6 first.length c6] 93 (0, 0))) := ⟨(HW2.out.block _ HLT.out.1).trans HI.out.g⟩
  have g6 : w2.cell? ⟨G, 6, none⟩ = some (.slice A6 first.length c6) := (blk_cell GB2.out 6).trans rfl
  have HS2 := Aside0.mk (Kd.S_below (Kd.S_bound HI.out.rf) HW2.out)
  have HE2 := Aside0.mk (Kd.R_below HI.out.re HW2.out)
  obtain ⟨go, vr, P, eA, hcell, hRow, hP, hback⟩ := S_row rfl HS2.out left HLL.out.1 HLL.out.2
  cases eA
  generalize first.getD left.toNat [] = row at hRow HAD
  obtain ⟨A4, c4, rfl⟩ := Kd.R_slice hRow
  have HP := Aside0.mk hP
  have HBK := Aside0.mk hback
  have BL2 : Aside0 (Below w.heap.size w w2) := ⟨HI.out.bel.trans (HW2.out.mono HI.out.bel.size)⟩
  have hcon2 := firsts_set_add.calls k P _ _ A2 c2 l1 ab ar w w2.drew (below_drew1 BL2.out) (Kd.R_drew hRow) (Kd.C_kept_own (Kd.R_mono (ok' := fun k_ => W.heap.size ≤ k_) (Kd.R_bound (Kd.R_drew HR2.out)) (fun k_ hk => by have := hk.2.1; simp at this; omega)) (fun k_ hk hp => Nat.lt_irrefl k_ (Nat.lt_of_lt_of_le (HP.out k_ hp).1.2.2.1 hk))) (Kd.R_reads' HR2.out).2.1 HAD.out
  clear hP hback hRow hcon hxa
  have p2 := eq_true HLL.out.1
  have p3 := eq_true HLL.out.2
  have KEEP : Aside0 (∀ w3 : World, Kept w2.drew w3 P → (w3.cell? ⟨W.heap.size, 0, none⟩ = some (.int .i64 left) ∧ w3.cell? ⟨XB, 0, none⟩ = some (.pointer (some ⟨G, 0, none⟩)) ∧ w3.cell? ⟨G, 6, none⟩ = some (.slice (some ⟨go, 0, none⟩) first.length c6) ∧ w3.cell? ⟨go, left.toNat, none⟩ = some (.slice A4 row.length c4))) := ⟨fun w3 hk => ⟨cell_kept pb hk (fun hp => Nat.lt_irrefl _ (HP.out _ hp).1.2.2.1), cell_kept xb hk (fun hp => HX.out _ (HP.out _ hp).1.1 rfl), cell_kept g6 hk (fun hp => (HI.out.f1 _ (HP.out _ hp).1.1).1 rfl), cell_kept hcell hk (fun hp => (HP.out _ hp).2 rfl)⟩⟩
  go_region_held3 (fun w3 => w3.cell? ⟨W.heap.size, 0, none⟩ = some (.int .i64 left) ∧ w3.cell? ⟨XB, 0, none⟩ = some (.pointer (some ⟨G, 0, none⟩)) ∧ w3.cell? ⟨G, 6, none⟩ = some (.slice (some ⟨go, 0, none⟩) first.length c6) ∧ w3.cell? ⟨go, left.toNat, none⟩ = some (.slice A4 row.length c4))
    (first | go_keep | exact KEEP.out _ HK3.out)
    (first | (go_at_call 48; (with_reducible refine hcon2.mono ?_); rintro e w3 ⟨rfl, hR3, hb3, hk3⟩; have HR3 := Aside0.mk hR3; have HB3 := Aside0.mk hb3; have HK3 := Aside0.mk hk3; clear hR3 hb3 hk3))
  go_wp2
  go_ret
  exact ⟨rfl, ⟨⟨⟨HB3.out, blk_kept GB2.out HK3.out (fun hp => (HI.out.f1 _ (HP.out _ hp).1.1).1 rfl), HI.out.ge, Kd.R_step (Kd.R_drew HE2.out) (fun k_ hk hlt => HK3.out.2 k_ hlt (fun hp => (HI.out.f1 _ (HP.out _ hp).1.1).2 hk)), Kd.S_mono (HBK.out w3 _ ar HK3.out HR3.out) (fun k_ hk => hk.1), HI.out.e1, HI.out.f1⟩, (KEEP.out w3 HK3.out).2.1⟩⟩, ⟨(Kept.of_below HW2.out okF).then_ (show Kept w2 w3 P from HK3.out) (fun k_ hp => .inl (HP.out k_ hp).1.1)⟩⟩
def studied_f (k : Nat) (l0_0 : List ByteArray) (l0_1 : List (S61)) (a0_2 : Int) (a0_3 : Int) (l0_4 : List (S30)) : Option (List Bool × List (List Bool)) :=
  if l0_0.length ≤ 11728124029610 ∧ l0_1.length < 281474976710656 ∧ l0_4.length ≤ 9223372036854775807 then (firsts_Empty.f k l0_0 l0_1 a0_2 a0_3 l0_4).bind fun em => (growOut (studiedStep k l0_1.length em) l0_4 k (List.replicate l0_0.length (List.replicate (l0_1.length + 1) false))).bind fun first => some (em, first) else none
theorem studied_mono (l0_0 : List ByteArray) (l0_1 : List (S61)) (a0_2 : Int) (a0_3 : Int) (l0_4 : List (S30)) (k : Nat) : LeO (studied_f k l0_0 l0_1 a0_2 a0_3 l0_4) (studied_f (k + 1) l0_0 l0_1 a0_2 a0_3 l0_4) := by
  unfold studied_f
  exact LeO.ite (LeO.bind (firsts_Empty.mono _ _ _ _ _ _) (fun em => LeO.bind (growOut_mono (fun st p => studiedStep_mono _ _ _ _ _) _ _ _) (fun _ => LeO.refl _))) (LeO.refl _)
set_option maxHeartbeats 4000000 in
theorem studied_any (k : Nat) (A0_0 : Option Addr) (c0_0 : Nat) (l0_0 : List ByteArray) (A0_1 : Option Addr) (c0_1 : Nat) (l0_1 : List (S61)) (a0_2 : Int) (a0_3 : Int) (A0_4 : Option Addr) (c0_4 : Nat) (l0_4 : List (S30)) (em : List Bool) (first : List (List Bool)) (w : World) (hr0_0 : Kd.C Kd.string w A0_0 l0_0.length l0_0) (hc0_0 : l0_0.length ≤ c0_0) (hr0_1 : Kd.C k61 w A0_1 l0_1.length l0_1) (hc0_1 : l0_1.length ≤ c0_1) (hr0_4 : Kd.C k30 w A0_4 l0_4.length l0_4) (hc0_4 : l0_4.length ≤ c0_4) (h : studied_f k l0_0 l0_1 a0_2 a0_3 l0_4 = some (em, first)) :
    Calls Try.prog 43 #[.agg #[.slice A0_0 l0_0.length c0_0, .slice A0_1 l0_1.length c0_1, .int .i64 a0_2, .int .i64 a0_3, .slice A0_4 l0_4.length c0_4]] w fun e w' => ∃ G A5 c5 A6 c6 okE okF, e = .returned (.pointer (some ⟨G, 0, none⟩)) ∧ StudyAt w G A0_0 l0_0.length c0_0 A0_1 l0_1.length c0_1 a0_2 a0_3 A0_4 l0_4.length c0_4 A5 c5 A6 c6 okE okF em first w' := by
  unfold studied_f at h
  split at h
  case isFalse => simp at h
  rename_i hsz
  have HSZ := Aside0.mk hsz
  clear hsz
  obtain ⟨em', hE, h2⟩ := Option.bind_eq_some_iff.1 h
  clear h
  obtain ⟨first', hG, h3⟩ := Option.bind_eq_some_iff.1 h2
  clear h2
  obtain ⟨rfl, rfl⟩ := Prod.mk.inj (Option.some.inj h3)
  clear h3
  have HE : Aside0 (∀ W : World, Below w.heap.size w W → Calls Try.prog 52 #[.agg #[.slice A0_0 l0_0.length c0_0, .slice A0_1 l0_1.length c0_1, .int .i64 a0_2, .int .i64 a0_3, .slice A0_4 l0_4.length c0_4]] W fun e w' => ∃ v0_ : Value, e = .returned (v0_) ∧ Kd.R Kd.bool 4 w' W.heap.size (fun _ => True) v0_ em' ∧ Below W.heap.size W w') := ⟨fun W hb => firsts_Empty.calls k A0_0 c0_0 l0_0 A0_1 c0_1 l0_1 a0_2 a0_3 A0_4 c0_4 l0_4 em' W (Kd.C_below hr0_0 hb) hc0_0 (Kd.C_below hr0_1 hb) hc0_1 (Kd.C_below hr0_4 hb) hc0_4 hE⟩
  have HG := Aside0.mk hG
  clear hE hG
  have HB1 : Aside0 (Below w.heap.size w (w.alloc (Obj.cells #[.slice A0_0 l0_0.length c0_0, .slice A0_1 l0_1.length c0_1, .int .i64 a0_2, .int .i64 a0_3, .slice A0_4 l0_4.length c0_4] 26))) := ⟨(Below.refl _ w).alloc (Nat.le_refl _) _⟩
  have q0 : (w.alloc (Obj.cells #[.slice A0_0 l0_0.length c0_0, .slice A0_1 l0_1.length c0_1, .int .i64 a0_2, .int .i64 a0_3, .slice A0_4 l0_4.length c0_4] 26)).heap[w.heap.size]? = some (Obj.cells #[.slice A0_0 l0_0.length c0_0, .slice A0_1 l0_1.length c0_1, .int .i64 a0_2, .int .i64 a0_3, .slice A0_4 l0_4.length c0_4] 26 (0, 0)) := by simpa using heap_alloc_new w _
  go_enter Try.func43, Try.ntmps43
  go_upto_region 1 with fail
  go_cut [3] from 4 (fun s3 wc => ∃ (XB G : Nat) (A5 : Option Addr) (c5 : Nat), s3 = .pointer (some ⟨XB, 0, none⟩) ∧ wc.cell? ⟨XB, 0, none⟩ = some (.pointer (some ⟨G, 0, none⟩)) ∧ wc.heap[w.heap.size]? = some (Obj.cells #[.slice A0_0 l0_0.length c0_0, .slice A0_1 l0_1.length c0_1, .int .i64 a0_2, .int .i64 a0_3, .slice A0_4 l0_4.length c0_4] 26 (0, 0)) ∧ Aside0 (wc.heap[G]? = some (.cells #[.slice A0_0 l0_0.length c0_0, .slice A0_1 l0_1.length c0_1, .int .i64 a0_2, .int .i64 a0_3, .slice A0_4 l0_4.length c0_4, .slice A5 em'.length c5, .slice none 0 0] 93 (0, 0))) ∧ Aside0 (Kd.R Kd.bool 4 wc w.heap.size (fun k => k ≠ XB ∧ k ≠ G) (.slice A5 em'.length c5) em') ∧ Aside0 (Below w.heap.size w wc) ∧ Aside0 (w.heap.size < XB ∧ w.heap.size < G ∧ XB ≠ G))
  case first =>
    generalize (w.alloc (Obj.cells #[.slice A0_0 l0_0.length c0_0, .slice A0_1 l0_1.length c0_1, .int .i64 a0_2, .int .i64 a0_3, .slice A0_4 l0_4.length c0_4] 26)) = w1 at q0 HB1 ⊢
    have KEEP : Aside0 (∀ W : World, Below w1.heap.size w1 W → (W.cell? ⟨w.heap.size, 0, none⟩ = some (.slice A0_0 l0_0.length c0_0) ∧ W.cell? ⟨w.heap.size, 1, none⟩ = some (.slice A0_1 l0_1.length c0_1) ∧ W.cell? ⟨w.heap.size, 2, none⟩ = some (.int .i64 a0_2) ∧ W.cell? ⟨w.heap.size, 3, none⟩ = some (.int .i64 a0_3) ∧ W.cell? ⟨w.heap.size, 4, none⟩ = some (.slice A0_4 l0_4.length c0_4))) := ⟨fun W hb => ⟨(blk_cell ((hb.block _ (blk_lt q0)).trans q0) 0).trans rfl, (blk_cell ((hb.block _ (blk_lt q0)).trans q0) 1).trans rfl, (blk_cell ((hb.block _ (blk_lt q0)).trans q0) 2).trans rfl, (blk_cell ((hb.block _ (blk_lt q0)).trans q0) 3).trans rfl, (blk_cell ((hb.block _ (blk_lt q0)).trans q0) 4).trans rfl⟩⟩
    have LT := Aside0.mk (blk_lt q0)
    have Q0 := Aside0.mk q0
    clear q0
    obtain ⟨s0, s1, s2, s3, s4⟩ := KEEP.out w1 (Below.refl _ _)
    have XQ : Aside0 (∀ W : World, Below (w1.alloc (Obj.cells #[.pointer none] 80)).drew.heap.size (w1.alloc (Obj.cells #[.pointer none] 80)).drew W → W.heap[w1.heap.size]? = some (Obj.cells #[.pointer none] 80) ∧ Below w1.heap.size w1 W) := ⟨fun W hb => ⟨(hb.block w1.heap.size (by simp)).trans (show (w1.alloc (Obj.cells #[.pointer none] 80)).heap[w1.heap.size]? = _ from heap_alloc_new w1 _), (below_drew1 (below_alloc (Below.refl _ w1) _)).trans (hb.mono (by simp))⟩⟩
    go_region_held3 (fun W => W.cell? ⟨w.heap.size, 0, none⟩ = some (.slice A0_0 l0_0.length c0_0) ∧ W.cell? ⟨w.heap.size, 1, none⟩ = some (.slice A0_1 l0_1.length c0_1) ∧ W.cell? ⟨w.heap.size, 2, none⟩ = some (.int .i64 a0_2) ∧ W.cell? ⟨w.heap.size, 3, none⟩ = some (.int .i64 a0_3) ∧ W.cell? ⟨w.heap.size, 4, none⟩ = some (.slice A0_4 l0_4.length c0_4))
      (first | go_keep | exact KEEP.out _ (by first | exact KB.out | exact below_alloc KB.out _ | exact below_alloc (below_alloc KB.out _) _ | exact below_drew1 (below_alloc (Below.refl _ w1) _) | exact below_alloc (below_set KB.out (Nat.le_refl _)) _ | (trace_state; fail)))
      (first
        | (go_at_call 52; (with_reducible refine (HE.out w1.drew (below_drew1 HB1.out)).mono ?_); rintro e w3 ⟨v3, rfl, hR3, hb3⟩; obtain ⟨A5, c5, rfl⟩ := Kd.R_slice hR3; have HR3 := Aside0.mk hR3; have KB : Aside0 (Below w1.heap.size w1 w3) := ⟨(below_drew1 (Below.refl _ w1)).trans hb3⟩; clear hR3 hb3)
        | (go_at_call 52; (with_reducible refine (HE.out (w1.alloc (Obj.cells #[.pointer none] 80)).drew (below_drew1 (below_alloc HB1.out _))).mono ?_); rintro e w3 ⟨v3, rfl, hR3, hb3⟩; obtain ⟨A5, c5, rfl⟩ := Kd.R_slice hR3; have HR3 := Aside0.mk hR3; obtain ⟨xq, hkb⟩ := XQ.out w3 hb3; have KB := Aside0.mk hkb; have xc := (blk_cell xq 0).trans (show _ = some (Value.pointer none) from rfl); have xf := blk_frozen xq 0; have xl := blk_lt xq; have XB := Aside0.mk xq; clear hR3 hb3 hkb xq))
    · have hbel := below_alloc (below_alloc KB.out (Obj.cells #[.slice A0_0 l0_0.length c0_0, .slice A0_1 l0_1.length c0_1, .int .i64 a0_2, .int .i64 a0_3, .slice A0_4 l0_4.length c0_4, .slice A5 em'.length c5, .slice none 0 0] 93)) (Obj.cells #[.pointer (some ⟨w3.heap.size, 0, none⟩)] 80)
      go_wp2_with fail
      go_meet
      case rel =>
        refine ⟨w3.heap.size + 1, w3.heap.size, A5, c5, rfl, ?_, (hbel.block _ LT.out).trans Q0.out, ⟨?_⟩, ⟨?_⟩, ⟨HB1.out.trans (hbel.mono HB1.out.size)⟩, ⟨?_⟩⟩
        · simp
        · exact (Below.heap_alloc _ _ _ (by simp)).trans (heap_alloc_new _ _)
        · exact Kd.R_lower (Kd.R_mono (Kd.R_below (Kd.R_bound HR3.out) (below_alloc (below_alloc (Below.refl _ w3) _) _)) (fun k hk => by have := hk.2.2.1; omega)) (by have := LT.out; simp; omega)
        · have := LT.out; have := KB.out.size; omega
    · have hbel := below_alloc (below_alloc KB.out (Obj.cells #[.pointer (some ⟨w3.heap.size + 1, 0, none⟩)] 80)) (Obj.cells #[.slice A0_0 l0_0.length c0_0, .slice A0_1 l0_1.length c0_1, .int .i64 a0_2, .int .i64 a0_3, .slice A0_4 l0_4.length c0_4, .slice A5 em'.length c5, .slice none 0 0] 93)
      go_wp2_with fail
      go_meet
      case rel =>
        refine ⟨w3.heap.size, w3.heap.size + 1, A5, c5, rfl, ?_, (hbel.block _ LT.out).trans Q0.out, ⟨?_⟩, ⟨?_⟩, ⟨HB1.out.trans (hbel.mono HB1.out.size)⟩, ⟨?_⟩⟩
        · rw [World.cell?_alloc_lt _ _ _ (by simp)]; simp
        · simpa using heap_alloc_new (w3.alloc (Obj.cells #[.pointer (some ⟨w3.heap.size + 1, 0, none⟩)] 80)) (Obj.cells #[.slice A0_0 l0_0.length c0_0, .slice A0_1 l0_1.length c0_1, .int .i64 a0_2, .int .i64 a0_3, .slice A0_4 l0_4.length c0_4, .slice A5 em'.length c5, .slice none 0 0] 93)
        · exact Kd.R_lower (Kd.R_mono (Kd.R_below (Kd.R_bound HR3.out) (below_alloc (below_alloc (Below.refl _ w3) _) _)) (fun k hk => by have := hk.2.2.1; omega)) (by have := LT.out; simp; omega)
        · have := LT.out; have := KB.out.size; omega
    · have hbel := below_alloc (below_set (j := 0) (v := .pointer (some ⟨w3.heap.size, 0, none⟩)) KB.out (Nat.le_refl w1.heap.size)) (Obj.cells #[.slice A0_0 l0_0.length c0_0, .slice A0_1 l0_1.length c0_1, .int .i64 a0_2, .int .i64 a0_3, .slice A0_4 l0_4.length c0_4, .slice A5 em'.length c5, .slice none 0 0] 93)
      go_wp2_with fail
      go_meet
      case rel =>
        refine ⟨w1.heap.size, w3.heap.size, A5, c5, rfl, ?_, (hbel.block _ LT.out).trans Q0.out, ⟨?_⟩, ⟨?_⟩, ⟨HB1.out.trans (hbel.mono HB1.out.size)⟩, ⟨?_⟩⟩
        · rw [World.cell?_alloc_lt _ _ _ (by simpa using blk_lt XB.out), blk_cell (blk_set XB.out 0 _) 0]; rfl
        · simpa using heap_alloc_new (w3.setCell ⟨w1.heap.size, 0, none⟩ (.pointer (some ⟨w3.heap.size, 0, none⟩))) (Obj.cells #[.slice A0_0 l0_0.length c0_0, .slice A0_1 l0_1.length c0_1, .int .i64 a0_2, .int .i64 a0_3, .slice A0_4 l0_4.length c0_4, .slice A5 em'.length c5, .slice none 0 0] 93)
        · exact Kd.R_lower (Kd.R_mono (Kd.R_step (Kd.R_bound HR3.out) (fun k hk hlt => (Below.heap_alloc _ _ k (by simpa using hlt)).trans (Below.heap_setCell _ _ _ k (by have h1 := hk.2.1; simp at h1; simp; omega)))) (fun k hk => by have h1 := hk.2.1; have h2 := hk.2.2.1; simp at h1; omega)) (by have := LT.out; simp; omega)
        · have := LT.out; have := blk_lt XB.out; omega
  case rest =>
    obtain ⟨XB, G, A5, c5, rfl, hx, hs, HG5, HR5, HBc, HNE⟩ := hcut
    have HS := Aside0.mk hs
    have HX := Aside0.mk hx
    have KEEP : Aside0 (∀ W : World, Below wc.heap.size wc W → (W.cell? ⟨XB, 0, none⟩ = some (.pointer (some ⟨G, 0, none⟩)) ∧ W.cell? ⟨G, 6, none⟩ = some (.slice none 0 0) ∧ W.frozen? ⟨G, 6, none⟩ = false)) := ⟨fun W hb => ⟨(hb.cell (p := ⟨XB, 0, none⟩) (World.block_lt_of_cell? wc _ HX.out)).trans HX.out, (blk_cell ((hb.block _ (blk_lt HG5.out)).trans HG5.out) 6).trans rfl, blk_frozen ((hb.block _ (blk_lt HG5.out)).trans HG5.out) 6⟩⟩
    have hcon := sets_any G wc.drew A0_0 A0_1 l0_0.length l0_1.length c0_0 c0_1 ((blk_cell HG5.out 0).trans rfl) ((blk_cell HG5.out 1).trans rfl) HSZ.out.1 HSZ.out.2.1
    have HCON := Aside0.mk hcon
    obtain ⟨k0, k1, k2⟩ := KEEP.out wc (Below.refl _ _)
    clear hcon hs hx
    go_upto_region 2 with fail
    have hne : XB ≠ G := HNE.out.2.2
    go_region_held3 (fun W => W.cell? ⟨XB, 0, none⟩ = some (.pointer (some ⟨G, 0, none⟩)))
      (first | go_keep | exact (KEEP.out _ KB.out).1 | exact cell_kept k3 (Kept.setCell (Kept.refl w3 (fun k => k = G)) (.inl rfl) _) HNE.out.2.2)
      (first
        | (go_at_call 44; (with_reducible refine HCON.out.mono ?_); rintro e w3 ⟨v3, rfl, hS3, hb3⟩; obtain ⟨A6, c6, rfl⟩ := Kd.S_slice hS3; have HS3 := Aside0.mk hS3; have KB : Aside0 (Below wc.heap.size wc w3) := ⟨(below_drew1 (Below.refl _ wc)).trans hb3⟩; obtain ⟨k3, k4, k5⟩ := KEEP.out w3 KB.out; clear k0 k1 k2 hS3 hb3))
    have HB4 : Aside0 (Below w.heap.size w (w3.setCell ⟨G, 6, none⟩ (.slice A6 l0_0.length c6))) := ⟨below_set (HBc.out.trans (KB.out.mono HBc.out.size)) (Nat.le_of_lt HNE.out.2.1)⟩
    have HI : Aside0 (StudyAt w G A0_0 l0_0.length c0_0 A0_1 l0_1.length c0_1 a0_2 a0_3 A0_4 l0_4.length c0_4 A5 c5 A6 c6 (fun k => k < wc.heap.size ∧ k ≠ XB ∧ k ≠ G) (fun k => wc.heap.size ≤ k ∧ k < w3.heap.size) em' (List.replicate l0_0.length (List.replicate (l0_1.length + 1) false)) (w3.setCell ⟨G, 6, none⟩ (.slice A6 l0_0.length c6)) ∧ (w3.setCell ⟨G, 6, none⟩ (.slice A6 l0_0.length c6)).cell? ⟨XB, 0, none⟩ = some (.pointer (some ⟨G, 0, none⟩))) := by
      have hGl := blk_lt HG5.out
      have hw3 := KB.out.size
      refine ⟨⟨HB4.out, blk_set ((KB.out.block _ hGl).trans HG5.out) 6 _, Nat.le_of_lt HNE.out.2.1, ?_, ?_, fun k hk => hk.2.2, fun k hk => ⟨fun e => by have h1 : wc.heap.size ≤ k := hk.1; omega, fun h2 => by have h1 : wc.heap.size ≤ k := hk.1; have h3 : k < wc.heap.size := h2.1; omega⟩⟩, cell_kept k3 (Kept.setCell (Kept.refl w3 (fun k => k = G)) (.inl rfl) _) HNE.out.2.2⟩
      · exact Kd.R_mono (Kd.R_step (Kd.R_below (Kd.R_bound HR5.out) KB.out) (fun k hk hlt => Below.heap_setCell _ _ _ k hk.1.2)) (fun k hk => ⟨hk.2.2.1, hk.1⟩)
      · have hS4 := HS3.out
        rw [List.length_replicate] at hS4
        exact Kd.S_lower (Kd.S_mono (Kd.S_step (Kd.S_bound hS4) (fun k hk hlt => Below.heap_setCell _ _ _ k (by have h1 : wc.heap.size ≤ k := hk.2.1; show k ≠ G; omega))) (fun k hk => ⟨hk.2.1, hk.2.2.1⟩)) HBc.out.size
    have HLT := Aside0.mk (World.block_lt_of_cell? wc _ HX.out)
    have eg : ∀ args w, (callFunc 53 args).run Try.prog w = .ok (.enter 53 args) w := enters_of Try.func53 (by kernel_rfl) rfl
    have hcon2 := grow_any (fun first W => StudyAt w G A0_0 l0_0.length c0_0 A0_1 l0_1.length c0_1 a0_2 a0_3 A0_4 l0_4.length c0_4 A5 c5 A6 c6 (fun k => k < wc.heap.size ∧ k ≠ XB ∧ k ≠ G) (fun k => wc.heap.size ≤ k ∧ k < w3.heap.size) em' first W ∧ W.cell? ⟨XB, 0, none⟩ = some (.pointer (some ⟨G, 0, none⟩))) (fun k => wc.heap.size ≤ k ∧ k < w3.heap.size) (studiedStep k l0_1.length em') 53 #[.pointer (some ⟨XB, 0, none⟩)] eg k A0_0 A0_1 l0_0.length c0_0 l0_1.length c0_1 a0_2 a0_3 A0_4 c0_4 l0_4 (List.replicate l0_0.length (List.replicate (l0_1.length + 1) false)) first' _ HI.out (fun st W W' hI hb => ⟨hI.1.below hb, (hb.cell (p := ⟨XB, 0, none⟩) (World.block_lt_of_cell? W _ hI.2)).trans hI.2⟩) (fun k hk => by simpa using hk.2) (fun st W hI => Kd.C_kept_came k30_heap hr0_4 hI.1.bel (fun k hk => Nat.le_trans HBc.out.size hk.1)) HSZ.out.2.2 (studied1_any k w XB G A0_0 l0_0.length c0_0 A0_1 l0_1.length c0_1 a0_2 a0_3 A0_4 l0_4.length c0_4 A5 c5 A6 c6 (fun k => k < wc.heap.size ∧ k ≠ XB ∧ k ≠ G) (fun k => wc.heap.size ≤ k ∧ k < w3.heap.size) em' l0_4 (fun k hk => by have h1 : wc.heap.size ≤ k := hk.1; have h2 := HLT.out; simp only at h2; omega)) HG.out
    have GL := Aside0.mk (blk_lt HG5.out)
    have hs4 : (w3.setCell ⟨G, 6, none⟩ (.slice A6 l0_0.length c6)).heap[w.heap.size]? = some (Obj.cells #[.slice A0_0 l0_0.length c0_0, .slice A0_1 l0_1.length c0_1, .int .i64 a0_2, .int .i64 a0_3, .slice A0_4 l0_4.length c0_4] 26 (0, 0)) := (Below.heap_setCell _ _ _ _ (show w.heap.size ≠ G by have := HNE.out.2.1; omega)).trans ((KB.out.block _ (blk_lt HS.out)).trans HS.out)
    have r0 := (blk_cell hs4 0).trans (show _ = some (.slice A0_0 l0_0.length c0_0) from rfl)
    have r1 := (blk_cell hs4 1).trans (show _ = some (.slice A0_1 l0_1.length c0_1) from rfl)
    have r2 := (blk_cell hs4 2).trans (show _ = some (.int .i64 a0_2) from rfl)
    have r3 := (blk_cell hs4 3).trans (show _ = some (.int .i64 a0_3) from rfl)
    have r4 := (blk_cell hs4 4).trans (show _ = some (.slice A0_4 l0_4.length c0_4) from rfl)
    have r5 := HI.out.2
    clear hs4
    go_wp2_with (go_at_call 45; (with_reducible refine hcon2.mono ?_); rintro e w5 ⟨rfl, hI5, hK5⟩; have x5 := hI5.out.2; clear hcon2 r0 r1 r2 r3 r4 r5 k3 k4 k5 hK5)
    go_ret
    exact ⟨G, A5, c5, A6, c6, _, _, rfl, hI5.out.1⟩
end Go.Proofs.Ytfdcfihcfegekaa.P
end

section
namespace Go.Proofs.Ytfdcfihcfegekaa.P
open Go.RowKit Go.Proofs.YtfdcfihcfegekaaW.PrintWords Go.Proofs.YtfdcfihcfegekaaW.PrintLast Go.Proofs.YtfdcfihcfegekaaW.PrintMore Go.Proofs.Ytfdcfihcfegekaa.R
set_option linter.unusedVariables false
set_option linter.unusedSimpArgs false
def firsts_Of.f (k : Nat) (l0_0 : List ByteArray) (l0_1 : List (S61)) (a0_2 : Int) (a0_3 : Int) (l0_4 : List (S30)) (l1 : List (S53)) : Option (List Int × Bool) :=
  (firsts_Right.f l0_0 l0_1 a0_2 a0_3 l0_4).bind fun r => if r = true then (firsts_symbols.f l0_0 l0_1 a0_2 a0_3 l0_4 l1).bind fun r2 => if r2 = true then if (l0_0.length : Int) = 0 then some ([], false) else (studied_f k l0_0 l0_1 a0_2 a0_3 l0_4).bind fun x => (begins_f k l0_1.length x.1 x.2 l1).bind fun y => (firsts_set_rising.f k y.1).bind fun z => some (z, y.2) else some ([], false) else some ([], false)
theorem firsts_Of.mono : ∀ (l0_0 : List ByteArray) (l0_1 : List (S61)) (a0_2 : Int) (a0_3 : Int) (l0_4 : List (S30)) (l1 : List (S53)) k, LeO (firsts_Of.f k l0_0 l0_1 a0_2 a0_3 l0_4 l1) (firsts_Of.f (k + 1) l0_0 l0_1 a0_2 a0_3 l0_4 l1) := by
  intro l0_0 l0_1 a0_2 a0_3 l0_4 l1 k
  unfold firsts_Of.f
  exact LeO.bind (LeO.refl _) (fun _ => LeO.ite (LeO.bind (LeO.refl _) (fun _ => LeO.ite (LeO.ite (LeO.refl _) (LeO.bind (studied_mono _ _ _ _ _ _) (fun _ => LeO.bind (begins_f_mono _ _ _ _ _) (fun _ => LeO.bind (firsts_set_rising.mono _ _) (fun _ => LeO.refl _))))) (LeO.refl _))) (LeO.refl _))
set_option maxHeartbeats 4000000 in
theorem firsts_Of.calls (k : Nat) (A0_0 : Option Addr) (c0_0 : Nat) (l0_0 : List ByteArray) (A0_1 : Option Addr) (c0_1 : Nat) (l0_1 : List (S61)) (a0_2 : Int) (a0_3 : Int) (A0_4 : Option Addr) (c0_4 : Nat) (l0_4 : List (S30)) (A1 : Option Addr) (c1 : Nat) (l1 : List (S53)) (r1 : List Int) (r2 : Bool) (w : World) (hr0_0 : Kd.C Kd.string w A0_0 l0_0.length l0_0) (hc0_0 : l0_0.length ≤ c0_0) (hr0_1 : Kd.C k61 w A0_1 l0_1.length l0_1) (hc0_1 : l0_1.length ≤ c0_1) (hr0_4 : Kd.C k30 w A0_4 l0_4.length l0_4) (hc0_4 : l0_4.length ≤ c0_4) (hr1 : Kd.C k53 w A1 l1.length l1) (hc1 : l1.length ≤ c1) (h : firsts_Of.f k l0_0 l0_1 a0_2 a0_3 l0_4 l1 = some (r1, r2)) :
    Calls Try.prog 39 #[.agg #[.slice A0_0 l0_0.length c0_0, .slice A0_1 l0_1.length c0_1, .int .i64 a0_2, .int .i64 a0_3, .slice A0_4 l0_4.length c0_4], .slice A1 l1.length c1] w fun e w' => ∃ v0_ : Value, e = .returned (.tuple #[v0_, .bool r2]) ∧ Kd.R (Kd.int .i64) 3 w' w.heap.size (fun _ => True) v0_ r1 ∧ Below w.heap.size w w' := by
  obtain ⟨rt, hrt, h2⟩ := Option.bind_eq_some_iff.1 h
  have HRT := Aside0.mk hrt
  clear h hrt
  have HA1 : Aside0 (Below w.heap.size w (w.alloc (.cells #[.slice A0_0 l0_0.length c0_0, .slice A0_1 l0_1.length c0_1, .int .i64 a0_2, .int .i64 a0_3, .slice A0_4 l0_4.length c0_4] 26))) := ⟨(Below.refl _ w).alloc (Nat.le_refl _) _⟩
  have HC : Aside0 (∀ W, Below (w.heap.size + 1) (w.alloc (.cells #[.slice A0_0 l0_0.length c0_0, .slice A0_1 l0_1.length c0_1, .int .i64 a0_2, .int .i64 a0_3, .slice A0_4 l0_4.length c0_4] 26)) W → W.cell? ⟨w.heap.size, 0, none⟩ = some (.slice A0_0 l0_0.length c0_0) ∧ W.cell? ⟨w.heap.size, 1, none⟩ = some (.slice A0_1 l0_1.length c0_1) ∧ W.cell? ⟨w.heap.size, 2, none⟩ = some (.int .i64 a0_2) ∧ W.cell? ⟨w.heap.size, 3, none⟩ = some (.int .i64 a0_3) ∧ W.cell? ⟨w.heap.size, 4, none⟩ = some (.slice A0_4 l0_4.length c0_4)) := ⟨fun W hW => ⟨(hW.cell (p := ⟨w.heap.size, 0, none⟩) (by simp)).trans (by simp), (hW.cell (p := ⟨w.heap.size, 1, none⟩) (by simp)).trans (by simp), (hW.cell (p := ⟨w.heap.size, 2, none⟩) (by simp)).trans (by simp), (hW.cell (p := ⟨w.heap.size, 3, none⟩) (by simp)).trans (by simp), (hW.cell (p := ⟨w.heap.size, 4, none⟩) (by simp)).trans (by simp)⟩⟩
  cases rt with
  | false =>
    rw [if_neg (by simp)] at h2
    obtain ⟨rfl, rfl⟩ := Prod.mk.inj (Option.some.inj h2)
    clear h2
    go_enter Try.func39, Try.ntmps39
    go_wp2_with (go_at_call 22; (with_reducible refine (firsts_Right.calls A0_0 c0_0 l0_0 A0_1 c0_1 l0_1 a0_2 a0_3 A0_4 c0_4 l0_4 false _ (Kd.C_below hr0_0 HA1.out) hc0_0 (Kd.C_below hr0_1 HA1.out) hc0_1 (Kd.C_below hr0_4 HA1.out) hc0_4 HRT.out).mono ?_); rintro e w1 ⟨rfl, hb1⟩)
    go_ret2
    exact ⟨_, rfl, Kd.R_nil _ _ _ _ _, HA1.out.trans (hb1.mono (by simp))⟩
  | true =>
    rw [if_pos rfl] at h2
    obtain ⟨rt2, hrt2, h3⟩ := Option.bind_eq_some_iff.1 h2
    have HRT2 := Aside0.mk hrt2
    clear h2 hrt2
    cases rt2 with
    | false =>
      rw [if_neg (by simp)] at h3
      obtain ⟨rfl, rfl⟩ := Prod.mk.inj (Option.some.inj h3)
      clear h3
      go_enter Try.func39, Try.ntmps39
      go_wp2_with (first
        | (go_at_call 22; (with_reducible refine (firsts_Right.calls A0_0 c0_0 l0_0 A0_1 c0_1 l0_1 a0_2 a0_3 A0_4 c0_4 l0_4 true _ (Kd.C_below hr0_0 HA1.out) hc0_0 (Kd.C_below hr0_1 HA1.out) hc0_1 (Kd.C_below hr0_4 HA1.out) hc0_4 HRT.out).mono ?_); rintro e w1 ⟨rfl, hb1⟩; have HB1 : Aside0 (Below (w.heap.size + 1) (w.alloc (.cells #[.slice A0_0 l0_0.length c0_0, .slice A0_1 l0_1.length c0_1, .int .i64 a0_2, .int .i64 a0_3, .slice A0_4 l0_4.length c0_4] 26)) w1) := ⟨hb1.mono (by simp)⟩; have HB01 : Aside0 (Below w.heap.size w w1) := ⟨HA1.out.trans (hb1.mono (by simp))⟩; clear hb1; obtain ⟨q0, q1, q2, q3, q4⟩ := HC.out w1 HB1.out)
        | (go_at_call 37; (with_reducible refine (firsts_symbols.calls A0_0 c0_0 l0_0 A0_1 c0_1 l0_1 a0_2 a0_3 A0_4 c0_4 l0_4 A1 c1 l1 false _ (Kd.C_below hr0_0 HB01.out) hc0_0 (Kd.C_below hr0_1 HB01.out) hc0_1 (Kd.C_below hr0_4 HB01.out) hc0_4 (Kd.C_below hr1 HB01.out) hc1 HRT2.out).mono ?_); rintro e w2 ⟨rfl, hb2⟩; have HB2 := Aside0.mk hb2; clear hb2 q0 q1 q2 q3 q4))
      go_ret2
      exact ⟨_, rfl, Kd.R_nil _ _ _ _ _, HB01.out.trans (HB2.out.mono HB01.out.size)⟩
    | true =>
      rw [if_pos rfl] at h3
      by_cases hz : (l0_0.length : Int) = 0
      · rw [if_pos hz] at h3
        obtain ⟨rfl, rfl⟩ := Prod.mk.inj (Option.some.inj h3)
        clear h3
        have hzb : ((l0_0.length : Int) == 0) = true := beq_iff_eq.mpr hz
        go_enter Try.func39, Try.ntmps39
        go_wp2_with (first
          | (go_at_call 22; (with_reducible refine (firsts_Right.calls A0_0 c0_0 l0_0 A0_1 c0_1 l0_1 a0_2 a0_3 A0_4 c0_4 l0_4 true _ (Kd.C_below hr0_0 HA1.out) hc0_0 (Kd.C_below hr0_1 HA1.out) hc0_1 (Kd.C_below hr0_4 HA1.out) hc0_4 HRT.out).mono ?_); rintro e w1 ⟨rfl, hb1⟩; have HB1 : Aside0 (Below (w.heap.size + 1) (w.alloc (.cells #[.slice A0_0 l0_0.length c0_0, .slice A0_1 l0_1.length c0_1, .int .i64 a0_2, .int .i64 a0_3, .slice A0_4 l0_4.length c0_4] 26)) w1) := ⟨hb1.mono (by simp)⟩; have HB01 : Aside0 (Below w.heap.size w w1) := ⟨HA1.out.trans (hb1.mono (by simp))⟩; clear hb1; obtain ⟨q0, q1, q2, q3, q4⟩ := HC.out w1 HB1.out)
          | (go_at_call 37; (with_reducible refine (firsts_symbols.calls A0_0 c0_0 l0_0 A0_1 c0_1 l0_1 a0_2 a0_3 A0_4 c0_4 l0_4 A1 c1 l1 true _ (Kd.C_below hr0_0 HB01.out) hc0_0 (Kd.C_below hr0_1 HB01.out) hc0_1 (Kd.C_below hr0_4 HB01.out) hc0_4 (Kd.C_below hr1 HB01.out) hc1 HRT2.out).mono ?_); rintro e w2 ⟨rfl, hb2⟩; have HB2 := Aside0.mk hb2; clear q0 q1 q2 q3 q4; obtain ⟨q0, q1, q2, q3, q4⟩ := HC.out w2 (HB1.out.trans (HB2.out.mono (by have := HB1.out.size; simpa using this))); clear hb2))
        go_ret2
        exact ⟨_, rfl, Kd.R_nil _ _ _ _ _, HB01.out.trans (HB2.out.mono HB01.out.size)⟩
      · rw [if_neg hz] at h3
        have hzb : ((l0_0.length : Int) == 0) = false := beq_eq_false_iff_ne.mpr hz
        obtain ⟨⟨em, first⟩, hst, h4⟩ := Option.bind_eq_some_iff.1 h3
        obtain ⟨⟨bl, bb⟩, hbg, h5⟩ := Option.bind_eq_some_iff.1 h4
        obtain ⟨ri, hri, h6⟩ := Option.bind_eq_some_iff.1 h5
        obtain ⟨rfl, rfl⟩ := Prod.mk.inj (Option.some.inj h6)
        have HST := Aside0.mk hst
        have HBG := Aside0.mk hbg
        have HRI := Aside0.mk hri
        clear h3 h4 h5 h6 hst hbg hri
        go_enter Try.func39, Try.ntmps39
        go_wp2_with (first
          | (go_at_call 22; (with_reducible refine (firsts_Right.calls A0_0 c0_0 l0_0 A0_1 c0_1 l0_1 a0_2 a0_3 A0_4 c0_4 l0_4 true _ (Kd.C_below hr0_0 HA1.out) hc0_0 (Kd.C_below hr0_1 HA1.out) hc0_1 (Kd.C_below hr0_4 HA1.out) hc0_4 HRT.out).mono ?_); rintro e w1 ⟨rfl, hb1⟩; have HB1 : Aside0 (Below (w.heap.size + 1) (w.alloc (.cells #[.slice A0_0 l0_0.length c0_0, .slice A0_1 l0_1.length c0_1, .int .i64 a0_2, .int .i64 a0_3, .slice A0_4 l0_4.length c0_4] 26)) w1) := ⟨hb1.mono (by simp)⟩; have HB01 : Aside0 (Below w.heap.size w w1) := ⟨HA1.out.trans (hb1.mono (by simp))⟩; clear hb1; obtain ⟨q0, q1, q2, q3, q4⟩ := HC.out w1 HB1.out)
          | (go_at_call 37; (with_reducible refine (firsts_symbols.calls A0_0 c0_0 l0_0 A0_1 c0_1 l0_1 a0_2 a0_3 A0_4 c0_4 l0_4 A1 c1 l1 true _ (Kd.C_below hr0_0 HB01.out) hc0_0 (Kd.C_below hr0_1 HB01.out) hc0_1 (Kd.C_below hr0_4 HB01.out) hc0_4 (Kd.C_below hr1 HB01.out) hc1 HRT2.out).mono ?_); rintro e w2 ⟨rfl, hb2⟩; have HB2 := Aside0.mk hb2; clear q0 q1 q2 q3 q4; obtain ⟨q0, q1, q2, q3, q4⟩ := HC.out w2 (HB1.out.trans (HB2.out.mono (by have := HB1.out.size; simpa using this))); have HB02 : Aside0 (Below w.heap.size w w2) := ⟨HB01.out.trans (HB2.out.mono HB01.out.size)⟩; clear hb2)
          | (go_at_call 43; (with_reducible refine (studied_any k A0_0 c0_0 l0_0 A0_1 c0_1 l0_1 a0_2 a0_3 A0_4 c0_4 l0_4 em first _ (Kd.C_below hr0_0 HB02.out) hc0_0 (Kd.C_below hr0_1 HB02.out) hc0_1 (Kd.C_below hr0_4 HB02.out) hc0_4 HST.out).mono ?_); rintro e w3 ⟨G, A5, c5, A6, c6, okE, okF, rfl, hs2⟩; have hn := (Kd.S_reads' hs2.rf).1; rw [hn] at hs2; have HS2 := Aside0.mk hs2; have HB03 : Aside0 (Below w.heap.size w w3) := ⟨HB02.out.trans (HS2.out.bel.mono HB02.out.size)⟩; clear hs2 hn q0 q1 q2 q3 q4)
          | (go_at_call 47; (with_reducible refine (begins_any k G _ A0_1 A5 A6 A1 l0_1.length c0_1 c5 c6 c1 em first l1 bl bb ((blk_cell HS2.out.g 1).trans rfl) ((blk_cell HS2.out.g 5).trans rfl) ((blk_cell HS2.out.g 6).trans rfl) (Kd.R_reads' HS2.out.re).2.2 (Kd.S_reads' HS2.out.rf).2.2 (Kd.C_below hr1 HB03.out) HBG.out).mono ?_); rintro e w4 ⟨v4, rfl, hR4, hb4⟩; obtain ⟨A7, c7, rfl⟩ := Kd.R_slice hR4; have HR4 := Aside0.mk hR4; have HB04 : Aside0 (Below w.heap.size w w4) := ⟨HB03.out.trans (hb4.mono HB03.out.size)⟩; clear hR4 hb4)
          | (go_at_call 50; (with_reducible refine (firsts_set_rising.calls k A7 c7 bl ri _ (Kd.R_reads' HR4.out).2.2 (Kd.R_reads' HR4.out).2.1 HRI.out).mono ?_); rintro e w5 ⟨v5, rfl, hR5, hb5⟩; have HR5 := Aside0.mk hR5; have HB5 := Aside0.mk hb5; clear hR5 hb5))
        go_ret2
        exact ⟨_, rfl, Kd.R_lower HR5.out HB04.out.size, HB04.out.trans (HB5.out.mono HB04.out.size)⟩
end Go.Proofs.Ytfdcfihcfegekaa.P
end

section
namespace Go.Proofs.Ytfdcfihcfegekaa.R
open Go.RowKit Go.Proofs.YtfdcfihcfegekaaW.PrintWords Go.Proofs.YtfdcfihcfegekaaW.PrintLast Go.Proofs.YtfdcfihcfegekaaW.PrintMore
variable {α : Type} {d : Kd α} {t e : Nat} {w : World} {base n cap : Nat} {ok : Nat → Prop} {A : Option Addr} {v : Value} {m : List (List α)}
theorem H_other_row {g : Nat} {i : Int} {oki : Nat → Prop} {c : List Value} (h : Kd.H (Kd.slice t d) e w base ok (.slice (some ⟨g, 0, none⟩) n cap) m i oki c) (j : Nat) (hj : j < m.length) (hij : j ≠ i.toNat) :
    ∃ Aj cj, w.cell? ⟨g, j, none⟩ = some (.slice Aj (m.getD j []).length cj) ∧ (m.getD j []).length ≤ cj ∧ d.C w Aj (m.getD j []).length (m.getD j []) := by
  obtain ⟨ho, f, h0, inner, hown, hr⟩ := h
  have hgo : some g = (Value.slice (some ⟨g, 0, none⟩) n cap).ownBlock := by simp [Value.ownBlock]
  have hlen : inner.length = m.length * 1 := by have := hr.1; rw [List.length_zipIdx] at this; exact this
  have hM := (hr.2 j (m[j], j) (Kd.zip_at (List.getElem?_eq_getElem hj))).2 hij
  have hK := (Kd.slice t d).K_of_M hM
  obtain ⟨Aj, cj, hcs, hle, hC⟩ := hK
  have hgd : m.getD j [] = m[j] := by simp [hj]
  rw [hgd]
  refine ⟨Aj, cj, ?_, hle, hC⟩
  have hu : inner[j]? = some (.slice Aj m[j].length cj) := by
    have := congrArg (fun l : List Value => l[0]?) hcs
    simpa [List.getElem?_take, List.getElem?_drop, show (Kd.slice t d).sz = 1 from rfl, show (Kd.gap f (Kd.slice t d) i.toNat c).sz = 1 from rfl] using this
  have := hown.cells (g := g) hgo.symm _ _ hu
  rwa [add_plain] at this
theorem S_row2 (hE : d.E = []) (h : Kd.S (Kd.slice t d) e w base ok (.slice A n cap) m) (i j : Int) (h0 : 0 ≤ i) (h1 : i < m.length) (hj0 : 0 ≤ j) (hj1 : j < m.length) (hij : i ≠ j) :
    ∃ (g : Nat) (v : Value) (P : Nat → Prop) (Aj : Option Addr) (cj : Nat), A = some ⟨g, 0, none⟩ ∧ w.cell? ⟨g, i.toNat, none⟩ = some v ∧ w.cell? ⟨g, j.toNat, none⟩ = some (.slice Aj (m.getD j.toNat []).length cj) ∧ (m.getD j.toNat []).length ≤ cj ∧ (∀ W', Kept w W' P → d.C W' Aj (m.getD j.toNat []).length (m.getD j.toNat [])) ∧ d.R t w base P v (m.getD i.toNat []) ∧ (∀ k, P k → ok k ∧ k ≠ g) ∧
      ∀ (w1 : World) (P' : Nat → Prop) (row' : List α), Kept w w1 P → d.R t w1 base P' v row' → Kd.S (Kd.slice t d) e w1 base ok (.slice A n cap) (m.set i.toNat row') := by
  obtain ⟨g, cap', hv, _⟩ := Kd.S_form h (by omega)
  injection hv with hA hn hc
  subst hA
  subst hn
  subst hc
  obtain ⟨oki, c, hcl, hM, hcell, hoki, hH⟩ := Kd.S_lend h ([] : List α) i h0 h1
  obtain ⟨v, rfl, hR⟩ := hM
  obtain ⟨Aj, cj, hcj, hlj, hCj⟩ := H_other_row hH j.toNat (by omega) (by omega)
  refine ⟨g, v, oki, Aj, cj, rfl, ?_, hcj, hlj, fun W' hk => ?_, hR, hoki, fun w1 P' row' hk hR' => ?_⟩
  · have := hcell 0 v rfl
    rwa [show (Kd.slice t d).sz = 1 from rfl, Nat.mul_one, Nat.add_zero] at this
  · obtain ⟨A2, c2, hc2, _, hC2⟩ := H_other_row (Kd.H_step (w1 := W') hH (fun k _ hn hlt => hk.2 k hlt hn)) j.toNat (by omega) (by omega)
    have := (cell_kept hcj hk (fun hp => (hoki _ hp).2 rfl)).symm.trans hc2
    injection this with this
    injection this with hA
    subst hA
    exact hC2
  · have hH' := Kd.H_step hH (fun k _ hn hlt => hk.2 k hlt hn)
    exact Kd.H_back hH' (Kd.M_row (Kd.R_tight hE hR')) (fun k hk' => hR.1 k hk'.symm)
end Go.Proofs.Ytfdcfihcfegekaa.R
end

section
namespace Go.Proofs.Ytfdcfihcfegekaa.P
open Go.RowKit Go.Proofs.YtfdcfihcfegekaaW.PrintWords Go.Proofs.YtfdcfihcfegekaaW.PrintLast Go.Proofs.YtfdcfihcfegekaaW.PrintMore Go.Proofs.Ytfdcfihcfegekaa.R
set_option linter.unusedVariables false
set_option linter.unusedSimpArgs false
set_option maxHeartbeats 2000000 in
theorem add_self_any (k : Nat) (w : World) (A : Option Addr) (c : Nat) (l : List Bool) (r1 : Bool) (r2 : List Bool) (hr : Kd.C Kd.bool w A l.length l) (h : firsts_set_add.f k l l = some (r1, r2)) :
    Calls Try.prog 48 #[.slice A l.length c, .slice A l.length c] w fun e w' => e = .returned (.bool r1) ∧ r2 = l ∧ Below w.heap.size w w' := by
  have H' := Aside0.mk (show firsts_set_add.l0 k l false l (l.length : Int) 0 = some (r1, r2) from h)
  have HR := Aside0.mk hr
  clear h hr
  go_enter Try.func48, Try.ntmps48
  go_wp2
  go_loopg [4, 9] k (fun kq v4 v9 wr => ∃ (x9 : Int), v4 = .bool false ∧ v9 = .int .i64 x9 ∧ Aside0 (firsts_set_add.l0 kq l false l (l.length : Int) x9 = some (r1, r2)) ∧ Aside0 (Below w.heap.size w wr))
  case atStart => exact ⟨0, rfl, rfl, H', ⟨Below.refl _ _⟩⟩
  case round =>
    clear H'
    obtain ⟨x9, rfl, rfl, HA, HB⟩ := hrel
    cases gk with
    | zero => exact absurd HA.out (by simp [firsts_set_add.l0])
    | succ k1 =>
      have H := HA.out
      clear HA
      simp only [firsts_set_add.l0] at H
      by_cases c3 : x9 < (l.length : Int)
      · rw [if_pos c3] at H
        have d0 : decide (x9 < (l.length : Int)) = true := decide_eq_true c3
        by_cases c4 : 0 ≤ x9
        · rw [if_pos c4, if_pos c3] at H
          obtain ⟨ad, ead, hx⟩ := Kd.at_bool (Kd.C_below HR.out HB.out) x9 c4 c3
          cases ead
          have p0 := eq_true c4
          have p1 := eq_true c3
          clear c3 c4
          generalize rdOf false l x9 = b at H hx
          cases b with
          | false =>
            rw [if_neg (by simp)] at H
            have H1 := Aside0.mk H
            clear H
            go_wp2
            go_roundg k1
            case measure => omega
            case rel => exact ⟨_, rfl, rfl, H1, HB⟩
          | true =>
            rw [if_pos rfl, if_pos (of_eq_true p1), if_pos rfl] at H
            have H1 := Aside0.mk H
            clear H
            go_wp2
            go_roundg k1
            case measure => omega
            case rel => exact ⟨_, rfl, rfl, H1, HB⟩
        · rw [if_neg c4] at H
          cases H
      · rw [if_neg c3] at H
        have d0 : decide (x9 < (l.length : Int)) = false := decide_eq_false c3
        obtain ⟨rfl, rfl⟩ := Prod.mk.inj (Option.some.inj H)
        clear H c3
        go_wp2
        go_ret
        first | exact ⟨rfl, rfl, HB.out⟩ | exact ⟨rfl, HB.out⟩
end Go.Proofs.Ytfdcfihcfegekaa.P
end

section
namespace Go.Proofs.Ytfdcfihcfegekaa.P
open Go.RowKit Go.Proofs.YtfdcfihcfegekaaW.PrintWords Go.Proofs.YtfdcfihcfegekaaW.PrintLast Go.Proofs.YtfdcfihcfegekaaW.PrintMore Go.Proofs.Ytfdcfihcfegekaa.R
set_option linter.unusedVariables false
set_option linter.unusedSimpArgs false
def followAdd (k : Nat) (n : Int) (l : List Bool) (out : List (List Bool)) : Option (Bool × List (List Bool)) :=
  if 0 ≤ n then if n < (out.length : Int) then (firsts_set_add.f k (out.getD n.toNat []) l).bind fun b => some (b.1, out.set n.toNat b.2) else none else none
def followIn (k nt : Nat) (em : List Bool) (first : List (List Bool)) (left : Int) : List S53 → Bool → List (List Bool) → Option (Bool × List (List Bool))
  | [], g, out => some (g, out)
  | y :: ys, g, out => if y.f0 = true then followIn k nt em first left ys g out else
    (begins_f k nt em first ys).bind fun l => (followAdd k y.f1 l.1 out).bind fun b1 =>
      if l.2 = true then if 0 ≤ left then if left < (b1.2.length : Int) then (followAdd k y.f1 (b1.2.getD left.toNat []) b1.2).bind fun b2 => followIn k nt em first left ys (b2.1 || (b1.1 || g)) b2.2 else none else none
      else followIn k nt em first left ys (b1.1 || g) b1.2
def followStep (k nt : Nat) (em : List Bool) (first out : List (List Bool)) (p : S30) : Option (Bool × List (List Bool)) := followIn k nt em first p.f0 p.f1 false out
theorem followAdd_mono (n : Int) (l : List Bool) (out : List (List Bool)) (k : Nat) : LeO (followAdd k n l out) (followAdd (k + 1) n l out) := by
  unfold followAdd
  exact LeO.ite (LeO.ite (LeO.bind (firsts_set_add.mono _ _ _) (fun _ => LeO.refl _)) (LeO.refl _)) (LeO.refl _)
theorem followIn_mono (nt : Nat) (em : List Bool) (first : List (List Bool)) (left : Int) (k : Nat) : ∀ ys g out, LeO (followIn k nt em first left ys g out) (followIn (k + 1) nt em first left ys g out)
  | [], _, _ => LeO.refl _
  | y :: ys, g, out => by
    simp only [followIn]
    exact LeO.ite (followIn_mono nt em first left k ys g out) (LeO.bind (begins_f_mono _ _ _ _ _) (fun _ => LeO.bind (followAdd_mono _ _ _ _) (fun _ => LeO.ite (LeO.ite (LeO.ite (LeO.bind (followAdd_mono _ _ _ _) (fun _ => followIn_mono nt em first left k ys _ _)) (LeO.refl _)) (LeO.refl _)) (followIn_mono nt em first left k ys _ _))))
structure FollowI (w : World) (XB OB G : Nat) (A0_0 : Option Addr) (n0 : Nat) (c0_0 : Nat) (A0_1 : Option Addr) (n1 : Nat) (c0_1 : Nat) (a0_2 : Int) (a0_3 : Int) (A0_4 : Option Addr) (n4 : Nat) (c0_4 : Nat) (A5 : Option Addr) (c5 : Nat) (A6 : Option Addr) (c6 : Nat) (okE okF okO : Nat → Prop) (em : List Bool) (first : List (List Bool)) (Ao : Option Addr) (co : Nat) (out : List (List Bool)) (W : World) : Prop where
  st : StudyAt w G A0_0 n0 c0_0 A0_1 n1 c0_1 a0_2 a0_3 A0_4 n4 c0_4 A5 c5 A6 c6 okE okF em first W
  x : W.cell? ⟨XB, 0, none⟩ = some (.pointer (some ⟨G, 0, none⟩))
  o : W.cell? ⟨OB, 0, none⟩ = some (.slice Ao out.length co)
  r : Kd.S (Kd.slice 4 Kd.bool) 84 W w.heap.size okO (.slice Ao out.length co) out
  b : ∀ k, okO k → k < W.heap.size
section
variable {w : World} {XB OB G : Nat} {A0_0 : Option Addr} {n0 : Nat} {c0_0 : Nat} {A0_1 : Option Addr} {n1 : Nat} {c0_1 : Nat} {a0_2 : Int} {a0_3 : Int} {A0_4 : Option Addr} {n4 : Nat} {c0_4 : Nat} {A5 : Option Addr} {c5 : Nat} {A6 : Option Addr} {c6 : Nat} {okE okF okO : Nat → Prop} {em : List Bool} {first : List (List Bool)} {Ao : Option Addr} {co : Nat} {out out' : List (List Bool)} {W W' : World}
theorem FollowI.below (h : FollowI w XB OB G A0_0 n0 c0_0 A0_1 n1 c0_1 a0_2 a0_3 A0_4 n4 c0_4 A5 c5 A6 c6 okE okF okO em first Ao co out W) (hb : Below W.heap.size W W') : FollowI w XB OB G A0_0 n0 c0_0 A0_1 n1 c0_1 a0_2 a0_3 A0_4 n4 c0_4 A5 c5 A6 c6 okE okF okO em first Ao co out W' :=
  ⟨h.st.below hb, (hb.cell (p := ⟨XB, 0, none⟩) (World.block_lt_of_cell? W _ h.x)).trans h.x, (hb.cell (p := ⟨OB, 0, none⟩) (World.block_lt_of_cell? W _ h.o)).trans h.o, Kd.S_below h.r hb, fun k hk => Nat.lt_of_lt_of_le (h.b k hk) hb.size⟩
theorem FollowI.keep {P : Nat → Prop} (D : ∀ k, okO k → k ≠ G ∧ k ≠ XB ∧ k ≠ OB ∧ ¬ okE k ∧ ¬ okF k) (h : FollowI w XB OB G A0_0 n0 c0_0 A0_1 n1 c0_1 a0_2 a0_3 A0_4 n4 c0_4 A5 c5 A6 c6 okE okF okO em first Ao co out W) (hb : Below w.heap.size w W') (hk : Kept W W' P) (hP : ∀ k, P k → okO k) (hr : Kd.S (Kd.slice 4 Kd.bool) 84 W' w.heap.size okO (.slice Ao out.length co) out') (hl : out'.length = out.length) : FollowI w XB OB G A0_0 n0 c0_0 A0_1 n1 c0_1 a0_2 a0_3 A0_4 n4 c0_4 A5 c5 A6 c6 okE okF okO em first Ao co out' W' :=
  ⟨⟨hb, blk_kept h.st.g hk (fun hp => (D _ (hP _ hp)).1 rfl), h.st.ge, Kd.R_kept h.st.re hk (fun k h1 h2 => (D k (hP k h2)).2.2.2.1 h1), Kd.S_kept h.st.rf hk (fun k h1 h2 => (D k (hP k h2)).2.2.2.2 h1), h.st.e1, h.st.f1⟩, cell_kept h.x hk (fun hp => (D _ (hP _ hp)).2.1 rfl), by rw [hl]; exact cell_kept h.o hk (fun hp => (D _ (hP _ hp)).2.2.1 rfl), by rw [hl]; exact hr, fun k h1 => Nat.lt_of_lt_of_le (h.b k h1) hk.1⟩
end
set_option maxHeartbeats 1000000 in
theorem add_new (k : Nat) (w W : World) (XB OB G : Nat) (A0_0 : Option Addr) (n0 : Nat) (c0_0 : Nat) (A0_1 : Option Addr) (n1 : Nat) (c0_1 : Nat) (a0_2 : Int) (a0_3 : Int) (A0_4 : Option Addr) (n4 : Nat) (c0_4 : Nat) (A5 : Option Addr) (c5 : Nat) (A6 : Option Addr) (c6 : Nat) (okE okF okO : Nat → Prop) (em : List Bool) (first out out' : List (List Bool)) (Ao : Option Addr) (co : Nat) (D : ∀ k, okO k → k ≠ G ∧ k ≠ XB ∧ k ≠ OB ∧ ¬ okE k ∧ ¬ okF k) (HI : FollowI w XB OB G A0_0 n0 c0_0 A0_1 n1 c0_1 a0_2 a0_3 A0_4 n4 c0_4 A5 c5 A6 c6 okE okF okO em first Ao co out W) (n : Int) (l : List Bool) (b : Bool) (A2 : Option Addr) (c2 : Nat) (hl : ∀ W', Kept W W' okO → Kd.C Kd.bool W' A2 l.length l) (hc2 : l.length ≤ c2) (h : followAdd k n l out = some (b, out')) :
    ∃ (go : Nat) (A4 : Option Addr) (c4 m : Nat), 0 ≤ n ∧ n < (out.length : Int) ∧ Ao = some ⟨go, 0, none⟩ ∧ W.cell? ⟨go, n.toNat, none⟩ = some (.slice A4 m c4) ∧ out'.length = out.length ∧
      Calls Try.prog 48 #[.slice A4 m c4, .slice A2 l.length c2] W fun e w' => e = .returned (.bool b) ∧ Aside0 (FollowI w XB OB G A0_0 n0 c0_0 A0_1 n1 c0_1 a0_2 a0_3 A0_4 n4 c0_4 A5 c5 A6 c6 okE okF okO em first Ao co out' w') ∧ Aside0 (Kept W w' (fun k => okO k ∧ k ≠ go)) := by
  unfold followAdd at h
  split at h
  case isFalse => simp at h
  rename_i h0
  split at h
  case isFalse => simp at h
  rename_i h1
  obtain ⟨⟨ab, ar⟩, had, h2⟩ := Option.bind_eq_some_iff.1 h
  obtain ⟨rfl, rfl⟩ := Prod.mk.inj (Option.some.inj h2)
  obtain ⟨go, vr, P, eA, hcell, hRow, hP, hback⟩ := S_row rfl HI.r n h0 h1
  obtain ⟨A4, c4, rfl⟩ := Kd.R_slice hRow
  refine ⟨go, A4, c4, _, h0, h1, eA, hcell, by simp, ?_⟩
  refine (firsts_set_add.calls k P _ _ A2 c2 l ab ar w W HI.st.bel hRow (fun W' hk => hl W' (hk.mono (fun k hk => (hP k hk).1))) hc2 had).mono ?_
  rintro e w3 ⟨rfl, hR3, hb3, hk3⟩
  exact ⟨rfl, ⟨FollowI.keep D HI hb3 hk3 (fun k hk => (hP k hk).1) (hback w3 _ ar hk3 hR3) (by simp)⟩, ⟨Kept.mono hk3 (fun k hk => hP k hk)⟩⟩
set_option maxHeartbeats 1000000 in
theorem add_row (k : Nat) (w W : World) (XB OB G : Nat) (A0_0 : Option Addr) (n0 : Nat) (c0_0 : Nat) (A0_1 : Option Addr) (n1 : Nat) (c0_1 : Nat) (a0_2 : Int) (a0_3 : Int) (A0_4 : Option Addr) (n4 : Nat) (c0_4 : Nat) (A5 : Option Addr) (c5 : Nat) (A6 : Option Addr) (c6 : Nat) (okE okF okO : Nat → Prop) (em : List Bool) (first out out' : List (List Bool)) (Ao : Option Addr) (co : Nat) (D : ∀ k, okO k → k ≠ G ∧ k ≠ XB ∧ k ≠ OB ∧ ¬ okE k ∧ ¬ okF k) (HI : FollowI w XB OB G A0_0 n0 c0_0 A0_1 n1 c0_1 a0_2 a0_3 A0_4 n4 c0_4 A5 c5 A6 c6 okE okF okO em first Ao co out W) (n left : Int) (hl0 : 0 ≤ left) (hl1 : left < (out.length : Int)) (b : Bool) (h : followAdd k n (out.getD left.toNat []) out = some (b, out')) :
    ∃ (go : Nat) (A4 : Option Addr) (c4 m : Nat) (A2 : Option Addr) (c2 m2 : Nat), 0 ≤ n ∧ n < (out.length : Int) ∧ Ao = some ⟨go, 0, none⟩ ∧ W.cell? ⟨go, n.toNat, none⟩ = some (.slice A4 m c4) ∧ W.cell? ⟨go, left.toNat, none⟩ = some (.slice A2 m2 c2) ∧ out'.length = out.length ∧
      Calls Try.prog 48 #[.slice A4 m c4, .slice A2 m2 c2] W fun e w' => e = .returned (.bool b) ∧ Aside0 (FollowI w XB OB G A0_0 n0 c0_0 A0_1 n1 c0_1 a0_2 a0_3 A0_4 n4 c0_4 A5 c5 A6 c6 okE okF okO em first Ao co out' w') ∧ Aside0 (Kept W w' (fun k => okO k ∧ k ≠ go)) := by
  unfold followAdd at h
  split at h
  case isFalse => simp at h
  rename_i h0
  split at h
  case isFalse => simp at h
  rename_i h1
  obtain ⟨⟨ab, ar⟩, had, h2⟩ := Option.bind_eq_some_iff.1 h
  obtain ⟨rfl, rfl⟩ := Prod.mk.inj (Option.some.inj h2)
  by_cases hij : n = left
  · subst hij
    obtain ⟨go, vr, P, eA, hcell, hRow, hP, hback⟩ := S_row rfl HI.r n h0 h1
    obtain ⟨A4, c4, rfl⟩ := Kd.R_slice hRow
    refine ⟨go, A4, c4, _, A4, c4, _, h0, h1, eA, hcell, hcell, by simp, ?_⟩
    refine (add_self_any k W A4 c4 (out.getD n.toNat []) ab ar (Kd.R_reads' hRow).2.2 had).mono ?_
    rintro e w3 ⟨rfl, rfl, hb3⟩
    have hset : out.set n.toNat (out.getD n.toNat []) = out := by
      apply List.ext_getElem
      · simp
      · intro i h1 h2
        rw [List.getElem_set]
        split
        · rename_i he; subst he; simp [List.getD_eq_getElem?_getD, h2]
        · rfl
    rw [hset]
    exact ⟨rfl, ⟨HI.below hb3⟩, ⟨Kept.of_below hb3 _⟩⟩
  · obtain ⟨go, vr, P, A2, c2, eA, hcell, hcell2, hle2, hC2, hRow, hP, hback⟩ := S_row2 rfl HI.r n left h0 h1 hl0 hl1 hij
    obtain ⟨A4, c4, rfl⟩ := Kd.R_slice hRow
    refine ⟨go, A4, c4, _, A2, c2, _, h0, h1, eA, hcell, hcell2, by simp, ?_⟩
    refine (firsts_set_add.calls k P _ _ A2 c2 (out.getD left.toNat []) ab ar w W HI.st.bel hRow hC2 hle2 had).mono ?_
    rintro e w3 ⟨rfl, hR3, hb3, hk3⟩
    exact ⟨rfl, ⟨FollowI.keep D HI hb3 hk3 (fun k hk => (hP k hk).1) (hback w3 _ ar hk3 hR3) (by simp)⟩, ⟨Kept.mono hk3 (fun k hk => hP k hk)⟩⟩
theorem infoSym : (Try.prog.info? 53).map (fun i => (i.zero, i.size, i.bytes)) = some (some (.agg #[.bool false, .int .i64 0]), 2, 16) := by kernel_rfl
set_option maxHeartbeats 4000000 in
theorem follow1_any (k : Nat) (w : World) (XB OB G : Nat) (A0_0 : Option Addr) (n0 : Nat) (c0_0 : Nat) (A0_1 : Option Addr) (n1 : Nat) (c0_1 : Nat) (a0_2 : Int) (a0_3 : Int) (A0_4 : Option Addr) (n4 : Nat) (c0_4 : Nat) (A5 : Option Addr) (c5 : Nat) (A6 : Option Addr) (c6 : Nat) (okE okF okO : Nat → Prop) (em : List Bool) (first : List (List Bool)) (Ao : Option Addr) (co : Nat) (ps : List S30) (D : ∀ k, okO k → k ≠ G ∧ k ≠ XB ∧ k ≠ OB ∧ ¬ okE k ∧ ¬ okF k) (hbig : ps.all (fun p => decide (p.f1.length ≤ 9223372036854775807)) = true) :
    StepOk 46 #[.pointer (some ⟨XB, 0, none⟩), .pointer (some ⟨OB, 0, none⟩)] (fun out W => FollowI w XB OB G A0_0 n0 c0_0 A0_1 n1 c0_1 a0_2 a0_3 A0_4 n4 c0_4 A5 c5 A6 c6 okE okF okO em first Ao co out W) okO (followStep k n1 em first) ps := by
  intro w0 out0 p A1 c1 b out2 hp hI hle hC hst
  have hn0 := (Kd.S_reads' hI.st.rf).1
  subst hn0
  have hlen := of_decide_eq_true (List.all_eq_true.1 hbig p hp)
  obtain ⟨left, right⟩ := p
  unfold followStep at hst
  simp only at hst hle hC hlen ⊢
  have HI := Aside0.mk hI
  have H0 := Aside0.mk hst
  have HC := Aside0.mk hC
  have HD := Aside0.mk D
  have HLEN := Aside0.mk hlen
  have HCAP := Aside0.mk hle
  have hba : Below w0.heap.size w0 (w0.alloc (.cells #[.int .i64 left, .slice A1 right.length c1] 30)) := (Below.refl _ w0).alloc (Nat.le_refl _) _
  have HBP0 : Aside0 ((w0.alloc (.cells #[.int .i64 left, .slice A1 right.length c1] 30)).heap[w0.heap.size]? = some (.cells #[.int .i64 left, .slice A1 right.length c1] 30 (0, 0))) := ⟨heap_alloc_new w0 _⟩
  have HI0 := Aside0.mk (HI.out.below hba)
  have HK0 := Aside0.mk (Kept.alloc (Kept.refl w0 okO) (.cells #[.int .i64 left, .slice A1 right.length c1] 30))
  have HLO : Aside0 (∀ k, okO k → k < w0.heap.size) := ⟨HI.out.b⟩
  show Calls Try.prog 46 #[.agg #[.int .i64 left, .slice A1 right.length c1], .pointer (some ⟨XB, 0, none⟩), .pointer (some ⟨OB, 0, none⟩)] w0 _
  clear hI hst hC hle hlen hp hbig hba D HI
  go_enter Try.func46, Try.ntmps46
  go_wp2
  go_loopg [4, 12] right.length (fun kq v4 v12 wr => ∃ (i : Nat) (g : Bool) (out' : List (List Bool)), v4 = .bool g ∧ v12 = .int .i64 i ∧ i ≤ right.length ∧ right.length - i ≤ kq ∧ Aside0 (followIn k n1 em first left (right.drop i) g out' = some (b, out2)) ∧ Aside0 (FollowI w XB OB G A0_0 first.length c0_0 A0_1 n1 c0_1 a0_2 a0_3 A0_4 n4 c0_4 A5 c5 A6 c6 okE okF okO em first Ao co out' wr) ∧ Aside0 (Kept w0 wr okO) ∧ Aside0 (wr.heap[w0.heap.size]? = some (.cells #[.int .i64 left, .slice A1 right.length c1] 30 (0, 0))))
  case atStart => exact ⟨0, false, out0, rfl, rfl, by omega, by omega, ⟨by simpa using H0.out⟩, HI0, HK0, HBP0⟩
  case round =>
    clear H0 HI0 HK0 HBP0
    obtain ⟨i, g, out', rfl, rfl, hi, hm, HA, HI, HK, HBP⟩ := hrel
    by_cases hlt : i < right.length
    · have hltz : (i : Int) < (right.length : Int) := by omega
      have d0 : decide ((i : Int) < (right.length : Int)) = true := decide_eq_true hltz
      have H := HA.out
      rw [List.drop_eq_getElem_cons hlt] at H
      simp only [followIn] at H
      obtain ⟨ad, ead, e0, e1⟩ := at_T53 (HC.out wr HK.out) (i : Int) (by omega) hltz
      cases ead
      have hrd : rd_T53 right (i : Int) = right[i] := by simp [rd_T53, hlt]
      rw [hrd] at e0 e1
      rw [Int.toNat_natCast] at e0 e1
      generalize right[i] = y at H e0 e1
      obtain ⟨tk, n⟩ := y
      simp only at H e0 e1
      have p0 : (0 ≤ (i : Int)) = True := eq_true (by omega)
      have p1 := eq_true hltz
      have HLT := Aside0.mk hlt
      have HM := Aside0.mk hm
      clear hlt hltz hi hm hrd HA
      cases tk with
      | true =>
        rw [if_pos rfl] at H
        have HN := Aside0.mk H
        clear H
        have hbb : Aside0 (Below wr.heap.size wr (wr.alloc (Obj.cells #[.bool true, .int .i64 n] 53))) := ⟨(Below.refl _ wr).alloc (Nat.le_refl _) _⟩
        go_wp2
        go_roundg (right.length - (i + 1))
        case measure => have := HM.out; have := HLT.out; omega
        case rel => exact ⟨i + 1, g, out', rfl, congrArg (Value.int .i64) (by unfold wrap64; have := HLT.out; have := HLEN.out; omega), by have := HLT.out; omega, Nat.le_refl _, HN, ⟨HI.out.below hbb.out⟩, ⟨Kept.alloc HK.out _⟩, ⟨(hbb.out.block _ (blk_lt HBP.out)).trans HBP.out⟩⟩
      | false =>
        rw [if_neg (by simp)] at H
        obtain ⟨⟨l1, l2⟩, hbg, H2⟩ := Option.bind_eq_some_iff.1 H
        obtain ⟨⟨ab, out1⟩, had, H3⟩ := Option.bind_eq_some_iff.1 H2
        clear H H2
        simp only at hbg had H3
        have HB0 : Aside0 (Below wr.heap.size wr (wr.alloc (Obj.cells #[.bool false, .int .i64 n] 53))) := ⟨(Below.refl _ wr).alloc (Nat.le_refl _) _⟩
        have HIa := Aside0.mk (HI.out.below HB0.out)
        have HKa := Aside0.mk (Kept.alloc HK.out (Obj.cells #[.bool false, .int .i64 n] 53))
        have HBPa := Aside0.mk ((HB0.out.block _ (blk_lt HBP.out)).trans HBP.out)
        have HYa := Aside0.mk (heap_alloc_new wr (Obj.cells #[.bool false, .int .i64 n] 53))
        have hwr : IntKind.i64.wrap ((i : Int) + 1) = (i : Int) + 1 := by rw [IntKind.wrap_i64]; have := HLT.out; have := HLEN.out; omega
        obtain ⟨i0, hi0, _, hsz, _⟩ := info_parts infoSym
        have hcut := cut_from (P := Try.prog) 28 53 .i64 Try.underlying28 hi0 2 hsz (some ad) right.length c1 ((i : Int) + 1) (by omega) (by have := HLT.out; omega)
        rw [show ((i : Int) + 1).toNat = i + 1 by omega, ← List.length_drop] at hcut
        have HCY : Aside0 (∀ W', Kept w0 W' okO → Kd.C k53 W' (if c1 = i + 1 then some ad else (some ad).map (·.add ((i + 1) * 2))) (right.drop (i + 1)).length (right.drop (i + 1))) := ⟨fun W' hk => Kd.C_drop (HC.out W' hk) HLT.out HCAP.out⟩
        generalize (if c1 = i + 1 then some ad else (some ad).map (·.add ((i + 1) * 2))) = A' at hcut HCY
        have HH := Aside0.mk H3
        have HAD := Aside0.mk had
        have hcon := begins_any k G (wr.alloc (Obj.cells #[.bool false, .int .i64 n] 53)).drew A0_1 A5 A6 A' n1 c0_1 c5 c6 (c1 - (i + 1)) em first (right.drop (i + 1)) l1 l2 ((blk_cell HIa.out.st.g 1).trans rfl) ((blk_cell HIa.out.st.g 5).trans rfl) ((blk_cell HIa.out.st.g 6).trans rfl) (Kd.R_reads' HIa.out.st.re).2.2 (Kd.S_reads' HIa.out.st.rf).2.2 (HCY.out _ HKa.out) hbg
        rw [List.length_drop] at hcon
        have HCON := Aside0.mk hcon
        clear hcon
        have KEEP : Aside0 (∀ W : World, Below (wr.alloc (Obj.cells #[.bool false, .int .i64 n] 53)).heap.size (wr.alloc (Obj.cells #[.bool false, .int .i64 n] 53)) W → (W.cell? ⟨XB, 0, none⟩ = some (.pointer (some ⟨G, 0, none⟩)) ∧ W.cell? ⟨w0.heap.size, 1, none⟩ = some (.slice (some ad) right.length c1))) := ⟨fun W hb => ⟨(hb.cell (p := ⟨XB, 0, none⟩) (World.block_lt_of_cell? _ _ HIa.out.x)).trans HIa.out.x, (blk_cell ((hb.block _ (blk_lt HBPa.out)).trans HBPa.out) 1).trans rfl⟩⟩
        obtain ⟨k0, k1⟩ := KEEP.out _ (Below.refl _ _)
        clear hbg had H3 hi0 hsz
        go_wp2
        go_region_held3 (fun W => W.cell? ⟨XB, 0, none⟩ = some (.pointer (some ⟨G, 0, none⟩)) ∧ W.cell? ⟨w0.heap.size, 1, none⟩ = some (.slice (some ad) right.length c1))
          (first | go_keep | exact KEEP.out _ KB.out)
          (first | (go_at_call 47; (with_reducible refine HCON.out.mono ?_); rintro e w2 ⟨v2, rfl, hR2, hb2⟩; obtain ⟨A2, c2, rfl⟩ := Kd.R_slice hR2; have HR2 := Aside0.mk hR2; have KB : Aside0 (Below (wr.alloc (Obj.cells #[.bool false, .int .i64 n] 53)).heap.size (wr.alloc (Obj.cells #[.bool false, .int .i64 n] 53)) w2) := ⟨(below_drew1 (Below.refl _ _)).trans hb2⟩; clear hR2 hb2 k0 k1))
        have HI2 := Aside0.mk (HIa.out.below KB.out)
        have HK2 := Aside0.mk (HKa.out.below KB.out)
        have HBP2 := Aside0.mk ((KB.out.block _ (blk_lt HBPa.out)).trans HBPa.out)
        have HY2 := Aside0.mk ((KB.out.block _ (blk_lt HYa.out)).trans HYa.out)
        have HLO2 : Aside0 (∀ k, okO k → k < wr.heap.size) := ⟨fun k hk => Nat.lt_of_lt_of_le (HLO.out k hk) HK.out.1⟩
        obtain ⟨go, A4, c4, m4, hn0, hn1, eAo, hcell, hlen1, hcon⟩ := add_new k w w2 XB OB G A0_0 first.length c0_0 A0_1 n1 c0_1 a0_2 a0_3 A0_4 n4 c0_4 A5 c5 A6 c6 okE okF okO em first out' out1 Ao co HD.out HI2.out n l1 ab A2 c2 (Kd.C_kept_own (S := okO) (ok := fun k_ => wr.heap.size ≤ k_) (Kd.R_mono (Kd.R_bound HR2.out) (fun k_ hk => by have h1 := hk.2.1; simp at h1; omega)) (fun k_ hk hp => by have := HLO2.out k_ hp; omega)) (Kd.R_reads' HR2.out).2.1 HAD.out
        cases eAo
        have HCON2 := Aside0.mk hcon
        have o2 := HI2.out.o
        have y2 := (blk_cell HY2.out 1).trans (show _ = some (Value.int .i64 n) from rfl)
        have p2 := eq_true hn0
        have p3 := eq_true hn1
        have HLEN1 := Aside0.mk hlen1
        clear hcon hn0 hn1 hlen1 HCON KEEP hcut
        cases l2 with
        | false =>
          have HN : Aside0 (followIn k n1 em first left (right.drop (i + 1)) (ab || g) out1 = some (b, out2)) := ⟨by have := HH.out; rwa [if_neg (by simp)] at this⟩
          clear HH
          cases ab
          all_goals
            go_wp2_with (go_at_call 48; (with_reducible refine HCON2.out.mono ?_); rintro e w3 ⟨rfl, hI3, hK3⟩)
            go_roundg (right.length - (i + 1))
            case measure => have := HM.out; have := HLT.out; omega
            case rel => exact ⟨i + 1, _, out1, rfl, congrArg (Value.int .i64) (by first | rfl | (unfold wrap64; have := HLT.out; have := HLEN.out; omega)), by have := HLT.out; omega, Nat.le_refl _, HN, hI3, ⟨Kept.then_ HK2.out hK3.out (fun k hk => .inl hk.1)⟩, ⟨blk_kept HBP2.out hK3.out (fun hk => Nat.lt_irrefl _ (HLO.out _ hk.1))⟩⟩
        | true =>
          have H4 := HH.out
          rw [if_pos rfl] at H4
          split at H4
          case isFalse => simp at H4
          rename_i hl0
          split at H4
          case isFalse => simp at H4
          rename_i hl1
          obtain ⟨⟨bb, out3⟩, had2, HN⟩ := Option.bind_eq_some_iff.1 H4
          have HN := Aside0.mk HN
          have HAD2 := Aside0.mk had2
          have HL := Aside0.mk (And.intro hl0 hl1)
          clear HH H4 hl0 hl1 had2
          cases ab
          all_goals
            go_wp2_with (go_at_call 48; (with_reducible refine HCON2.out.mono ?_); rintro e w3 ⟨rfl, hI3, hK3⟩)
            have HI3 := hI3
            have HK3 := hK3
            have HBP3 := Aside0.mk (blk_kept HBP2.out HK3.out (fun hk => Nat.lt_irrefl _ (HLO.out _ hk.1)))
            have HY3 := Aside0.mk (blk_kept HY2.out HK3.out (fun hk => Nat.lt_irrefl _ (HLO2.out _ hk.1)))
            obtain ⟨go2, A7, c7, m7, A8, c8, m8, _, hn1, eg2, hca, hcb, hlen3, hcon⟩ := add_row k w w3.drew XB OB G A0_0 first.length c0_0 A0_1 n1 c0_1 a0_2 a0_3 A0_4 n4 c0_4 A5 c5 A6 c6 okE okF okO em first out1 out3 (some ⟨go, 0, none⟩) co HD.out (HI3.out.below (below_drew1 (Below.refl _ w3))) n left HL.out.1 HL.out.2 bb HAD2.out
            obtain rfl : go = go2 := by injection eg2 with eg2; injection eg2
            have HCON3 := Aside0.mk hcon
            have KEEP3 : Aside0 (∀ W : World, Kept w3 W (fun k => okO k ∧ k ≠ go) → (W.cell? ⟨OB, 0, none⟩ = some (.slice (some ⟨go, 0, none⟩) out1.length co) ∧ W.cell? ⟨wr.heap.size, 1, none⟩ = some (.int .i64 n) ∧ W.cell? ⟨w0.heap.size, 0, none⟩ = some (.int .i64 left) ∧ W.cell? ⟨go, n.toNat, none⟩ = some (.slice A7 m7 c7) ∧ W.cell? ⟨go, left.toNat, none⟩ = some (.slice A8 m8 c8))) := ⟨fun W hk => ⟨cell_kept HI3.out.o hk (fun hp => (HD.out _ hp.1).2.2.1 rfl), (blk_cell (blk_kept HY3.out hk (fun h => Nat.lt_irrefl _ (HLO2.out _ h.1))) 1).trans rfl, (blk_cell (blk_kept HBP3.out hk (fun h => Nat.lt_irrefl _ (HLO.out _ h.1))) 0).trans rfl, cell_kept (W := w3) hca hk (fun hp => hp.2 rfl), cell_kept (W := w3) hcb hk (fun hp => hp.2 rfl)⟩⟩
            obtain ⟨k3, k4, k5, k6, k7⟩ := KEEP3.out w3 (Kept.refl _ _)
            have p2 := eq_true (show 0 ≤ n by assumption)
            have p3 := eq_true hn1
            have p4 := eq_true HL.out.1
            have p5 := eq_true HL.out.2
            clear hcon hn1 hca hcb hlen3 o2 y2 hcell
            cases bb with
            | false =>
              go_region_held3 (fun W => W.cell? ⟨OB, 0, none⟩ = some (.slice (some ⟨go, 0, none⟩) out1.length co) ∧ W.cell? ⟨wr.heap.size, 1, none⟩ = some (.int .i64 n) ∧ W.cell? ⟨w0.heap.size, 0, none⟩ = some (.int .i64 left) ∧ W.cell? ⟨go, n.toNat, none⟩ = some (.slice A7 m7 c7) ∧ W.cell? ⟨go, left.toNat, none⟩ = some (.slice A8 m8 c8))
                (first | go_keep | exact KEEP3.out _ HK4.out)
                (first | (go_at_call 48; (with_reducible refine HCON3.out.mono ?_); rintro e w4 ⟨rfl, hI4, hK4⟩; have HI4 := hI4; have HK4 := hK4; clear hI4 hK4 k3 k4 k5 k6 k7))
              go_wp2
              go_roundg (right.length - (i + 1))
              case measure => have := HM.out; have := HLT.out; omega
              case rel => exact ⟨i + 1, _, out3, rfl, congrArg (Value.int .i64) (by first | rfl | (unfold wrap64; have := HLT.out; have := HLEN.out; omega)), by have := HLT.out; omega, Nat.le_refl _, HN, HI4, ⟨Kept.then_ (Kept.then_ HK2.out HK3.out (fun k hk => .inl hk.1)) (show Kept w3 w4 _ from HK4.out) (fun k hk => .inl hk.1)⟩, ⟨blk_kept HBP3.out HK4.out (fun hk => Nat.lt_irrefl _ (HLO.out _ hk.1))⟩⟩
            | true =>
              refine wp_region_noPanic ?_
              refine wp_region_held_drew (S := fun W => W.cell? ⟨OB, 0, none⟩ = some (.slice (some ⟨go, 0, none⟩) out1.length co) ∧ W.cell? ⟨wr.heap.size, 1, none⟩ = some (.int .i64 n) ∧ W.cell? ⟨w0.heap.size, 0, none⟩ = some (.int .i64 left) ∧ W.cell? ⟨go, n.toNat, none⟩ = some (.slice A7 m7 c7) ∧ W.cell? ⟨go, left.toNat, none⟩ = some (.slice A8 m8 c8)) (by kernel_rfl) ⟨k3, k4, k5, k6, k7⟩ (fun hHeld => ?_)
              refine wpAnyH_take (i := 0) (oi := _) (v := .slice (some ⟨go, 0, none⟩) out1.length co) rfl (by kernel_rfl) (by kernel_rfl) (by kernel_rfl) (fun _ _ _ h => h) (Or.inl ⟨by rfl, by intro w_ hSw; (try dsimp only at hSw); go_simp⟩) hHeld ?_
              simp only [Act.put, List.setIfInBounds_toArray, List.set_cons_zero, List.set_cons_succ]
              refine wpAnyH_take (i := 1) (oi := _) (v := .pointer (some ⟨wr.heap.size, 1, none⟩)) rfl (by kernel_rfl) (by kernel_rfl) (by kernel_rfl) (fun _ _ _ h => h) (Or.inl ⟨by rfl, by intro w_ hSw; (try dsimp only at hSw); go_simp⟩) hHeld ?_
              simp only [Act.put, List.setIfInBounds_toArray, List.set_cons_zero, List.set_cons_succ]
              refine wpAnyH_take (i := 2) (oi := _) (v := .int .i64 n) rfl (by kernel_rfl) (by kernel_rfl) (by kernel_rfl) (fun _ _ _ h => h) (Or.inl ⟨by rfl, by intro w_ hSw; (try dsimp only at hSw); go_simp⟩) hHeld ?_
              simp only [Act.put, List.setIfInBounds_toArray, List.set_cons_zero, List.set_cons_succ]
              refine wpAnyH_take (i := 3) (oi := _) (v := .pointer (some ⟨go, n.toNat, none⟩)) rfl (by kernel_rfl) (by kernel_rfl) (by kernel_rfl) (fun _ _ _ h => h) (Or.inl ⟨by rfl, by intro w_ hSw; (try dsimp only at hSw); go_simp⟩) hHeld ?_
              simp only [Act.put, List.setIfInBounds_toArray, List.set_cons_zero, List.set_cons_succ]
              refine wpAnyH_take (i := 4) (oi := _) (v := .slice A7 m7 c7) rfl (by kernel_rfl) (by kernel_rfl) (by kernel_rfl) (fun _ _ _ h => h) (Or.inl ⟨by rfl, by intro w_ hSw; (try dsimp only at hSw); go_simp⟩) hHeld ?_
              simp only [Act.put, List.setIfInBounds_toArray, List.set_cons_zero, List.set_cons_succ]
              refine wpAnyH_take (i := 5) (oi := _) (v := .slice (some ⟨go, 0, none⟩) out1.length co) rfl (by kernel_rfl) (by kernel_rfl) (by kernel_rfl) (fun _ _ _ h => h) (Or.inl ⟨by rfl, by intro w_ hSw; (try dsimp only at hSw); go_simp⟩) hHeld ?_
              simp only [Act.put, List.setIfInBounds_toArray, List.set_cons_zero, List.set_cons_succ]
              refine wpAnyH_take (i := 6) (oi := _) (v := .pointer (some ⟨w0.heap.size, 0, none⟩)) rfl (by kernel_rfl) (by kernel_rfl) (by kernel_rfl) (fun _ _ _ h => h) (Or.inl ⟨by rfl, by intro w_ hSw; (try dsimp only at hSw); go_simp⟩) hHeld ?_
              simp only [Act.put, List.setIfInBounds_toArray, List.set_cons_zero, List.set_cons_succ]
              refine wpAnyH_take (i := 7) (oi := _) (v := .int .i64 left) rfl (by kernel_rfl) (by kernel_rfl) (by kernel_rfl) (fun _ _ _ h => h) (Or.inl ⟨by rfl, by intro w_ hSw; (try dsimp only at hSw); go_simp⟩) hHeld ?_
              simp only [Act.put, List.setIfInBounds_toArray, List.set_cons_zero, List.set_cons_succ]
              refine wpAnyH_take (i := 8) (oi := _) (v := .pointer (some ⟨go, left.toNat, none⟩)) rfl (by kernel_rfl) (by kernel_rfl) (by kernel_rfl) (fun _ _ _ h => h) (Or.inl ⟨by rfl, by intro w_ hSw; (try dsimp only at hSw); go_simp⟩) hHeld ?_
              simp only [Act.put, List.setIfInBounds_toArray, List.set_cons_zero, List.set_cons_succ]
              refine wpAnyH_take (i := 9) (oi := _) (v := .slice A8 m8 c8) rfl (by kernel_rfl) (by kernel_rfl) (by kernel_rfl) (fun _ _ _ h => h) (Or.inl ⟨by rfl, by intro w_ hSw; (try dsimp only at hSw); go_simp⟩) hHeld ?_
              simp only [Act.put, List.setIfInBounds_toArray, List.set_cons_zero, List.set_cons_succ]
              refine wpAnyH_ready (rs := [10]) (by kernel_rfl) (by simp) ?_
              refine AllReadyH.cons (o := _) rfl (fun K hK => ?_) AllReadyH.nil
              go_simp
              (go_at_call 48; (with_reducible refine HCON3.out.mono ?_); rintro e w4 ⟨rfl, hI4, hK4⟩; have HI4 := hI4; have HK4 := hK4; clear hI4 hK4 k3 k4 k5 k6 k7)
              refine hK.out _ _ (KEEP3.out _ HK4.out) (fun hHeld2 => ?_)
              refine wpAnyH_take (i := 11) (oi := _) (v := .bool true) rfl (by kernel_rfl) (by kernel_rfl) (by kernel_rfl) (fun _ _ _ h => h) (Or.inl ⟨by rfl, by intro w_ hSw; (try dsimp only at hSw); go_simp⟩) hHeld2 ?_
              simp only [Act.put, List.setIfInBounds_toArray, List.set_cons_zero, List.set_cons_succ]
              refine wpAnyH_take (i := 12) (oi := _) (v := undef) rfl (by kernel_rfl) (by kernel_rfl) (by kernel_rfl) (fun _ _ _ h => h) (Or.inr ⟨by rfl, rfl⟩) hHeld2 ?_
              simp only [Act.put, List.setIfInBounds_toArray, List.set_cons_zero, List.set_cons_succ]
              refine wpAnyH_take (i := 13) (oi := _) (v := .bool true) rfl (by kernel_rfl) (by kernel_rfl) (by kernel_rfl) (fun _ _ _ h => h) (Or.inl ⟨by rfl, by intro w_ hSw; (try dsimp only at hSw); go_simp⟩) hHeld2 ?_
              simp only [Act.put, List.setIfInBounds_toArray, List.set_cons_zero, List.set_cons_succ]
              refine wpAnyH_take (i := 14) (oi := _) (v := .bool true) rfl (by kernel_rfl) (by kernel_rfl) (by kernel_rfl) (fun _ _ _ h => h) (Or.inl ⟨by rfl, by intro w_ hSw; (try dsimp only at hSw); go_simp⟩) hHeld2 ?_
              simp only [Act.put, List.setIfInBounds_toArray, List.set_cons_zero, List.set_cons_succ]
              refine wpAnyH_done (by kernel_rfl) ?_ _
              refine NoPanic.normal ?_
              go_wp2
              go_roundg (right.length - (i + 1))
              case measure => have := HM.out; have := HLT.out; omega
              case rel => exact ⟨i + 1, _, out3, rfl, congrArg (Value.int .i64) (by first | rfl | (unfold wrap64; have := HLT.out; have := HLEN.out; omega)), by have := HLT.out; omega, Nat.le_refl _, HN, HI4, ⟨Kept.then_ (Kept.then_ HK2.out HK3.out (fun k hk => .inl hk.1)) (show Kept w3 w4 _ from HK4.out) (fun k hk => .inl hk.1)⟩, ⟨blk_kept HBP3.out HK4.out (fun hk => Nat.lt_irrefl _ (HLO.out _ hk.1))⟩⟩
    · have hir : i = right.length := by omega
      have d0 : decide ((i : Int) < (right.length : Int)) = false := decide_eq_false (by omega)
      have H := HA.out
      rw [hir, List.drop_length] at H
      simp only [followIn] at H
      obtain ⟨rfl, rfl⟩ := Prod.mk.inj (Option.some.inj H)
      clear H HA
      go_wp2
      go_ret
      exact ⟨rfl, HI, HK⟩
end Go.Proofs.Ytfdcfihcfegekaa.P
end

section
namespace Go.Proofs.Ytfdcfihcfegekaa.P
open Go.RowKit Go.Proofs.YtfdcfihcfegekaaW.PrintWords Go.Proofs.YtfdcfihcfegekaaW.PrintLast Go.Proofs.YtfdcfihcfegekaaW.PrintMore Go.Proofs.Ytfdcfihcfegekaa.R
set_option linter.unusedVariables false
set_option linter.unusedSimpArgs false
section
variable {w w1 : World} {G : Nat} {A0_0 : Option Addr} {n0 : Nat} {c0_0 : Nat} {A0_1 : Option Addr} {n1 : Nat} {c0_1 : Nat} {a0_2 : Int} {a0_3 : Int} {A0_4 : Option Addr} {n4 : Nat} {c0_4 : Nat} {A5 : Option Addr} {c5 : Nat} {A6 : Option Addr} {c6 : Nat} {okE okF : Nat → Prop} {em : List Bool} {first : List (List Bool)} {Ao : Option Addr} {co : Nat} {out : List (List Bool)} {W W' : World}
theorem StudyAt.lower (h : StudyAt w1 G A0_0 n0 c0_0 A0_1 n1 c0_1 a0_2 a0_3 A0_4 n4 c0_4 A5 c5 A6 c6 okE okF em first W) (hb : Below w.heap.size w w1) : StudyAt w G A0_0 n0 c0_0 A0_1 n1 c0_1 a0_2 a0_3 A0_4 n4 c0_4 A5 c5 A6 c6 okE okF em first W :=
  ⟨hb.trans (h.bel.mono hb.size), h.g, Nat.le_trans hb.size h.ge, Kd.R_lower h.re hb.size, Kd.S_lower h.rf hb.size, h.e1, h.f1⟩
theorem StudyAt.bound (h : StudyAt w G A0_0 n0 c0_0 A0_1 n1 c0_1 a0_2 a0_3 A0_4 n4 c0_4 A5 c5 A6 c6 okE okF em first W) : StudyAt w G A0_0 n0 c0_0 A0_1 n1 c0_1 a0_2 a0_3 A0_4 n4 c0_4 A5 c5 A6 c6 (fun k => okE k ∧ k < W.heap.size) (fun k => okF k ∧ k < W.heap.size) em first W :=
  ⟨h.bel, h.g, h.ge, Kd.R_mono (Kd.R_bound h.re) (fun k hk => ⟨hk.1, hk.2.2.1⟩), Kd.S_mono (Kd.S_bound h.rf) (fun k hk => ⟨hk.1, hk.2.2.1⟩), fun k hk => h.e1 k hk.1, fun k hk => ⟨(h.f1 k hk.1).1, fun h2 => (h.f1 k hk.1).2 h2.1⟩⟩
theorem follow_start {w3 w4 : World} (h : StudyAt w1 G A0_0 n0 c0_0 A0_1 n1 c0_1 a0_2 a0_3 A0_4 n4 c0_4 A5 c5 A6 c6 okE okF em first w3) (hb : Below w.heap.size w w1) (hS : Kd.S (Kd.slice 4 Kd.bool) 84 w4 (w3.alloc (Obj.cells #[.pointer (some ⟨G, 0, none⟩)] 80)).heap.size (fun _ => True) (.slice Ao out.length co) out) (hb4 : Below (w3.alloc (Obj.cells #[.pointer (some ⟨G, 0, none⟩)] 80)).heap.size (w3.alloc (Obj.cells #[.pointer (some ⟨G, 0, none⟩)] 80)) w4) :
    FollowI w w3.heap.size w4.heap.size G A0_0 n0 c0_0 A0_1 n1 c0_1 a0_2 a0_3 A0_4 n4 c0_4 A5 c5 A6 c6 (fun k => okE k ∧ k < w3.heap.size) (fun k => okF k ∧ k < w3.heap.size) (fun k => w3.heap.size < k ∧ k < w4.heap.size) em first Ao co out (w4.alloc (.cells #[.slice Ao out.length co] 82)) ∧ ∀ k, (w3.heap.size < k ∧ k < w4.heap.size) → k ≠ G ∧ k ≠ w3.heap.size ∧ k ≠ w4.heap.size ∧ ¬ (okE k ∧ k < w3.heap.size) ∧ ¬ (okF k ∧ k < w3.heap.size) := by
  have h0 : Below w3.heap.size w3 (w3.alloc (Obj.cells #[.pointer (some ⟨G, 0, none⟩)] 80)) := (Below.refl _ w3).alloc (Nat.le_refl _) _
  have h4 : Below w3.heap.size w3 (w4.alloc (.cells #[.slice Ao out.length co] 82)) := below_alloc (h0.trans (hb4.mono h0.size)) _
  have hsz : w3.heap.size + 1 ≤ w4.heap.size := by have := hb4.size; simpa using this
  have hG := blk_lt h.g
  refine ⟨⟨(h.lower hb).bound.below h4, ?_, ?_, ?_, ?_⟩, fun k hk => ⟨by omega, by omega, by omega, fun h2 => by omega, fun h2 => by omega⟩⟩
  · have : (w3.alloc (Obj.cells #[.pointer (some ⟨G, 0, none⟩)] 80)).cell? ⟨w3.heap.size, 0, none⟩ = some (.pointer (some ⟨G, 0, none⟩)) := by simp
    exact (((below_alloc hb4 _).cell (p := ⟨w3.heap.size, 0, none⟩) (by simp)).trans this)
  · simp
  · have hlow : w.heap.size ≤ (w3.alloc (Obj.cells #[.pointer (some ⟨G, 0, none⟩)] 80)).heap.size := by have := hb.size; have := h.bel.size; simp; omega
    exact Kd.S_mono (Kd.S_lower (Kd.S_below (Kd.S_bound hS) ((Below.refl _ w4).alloc (Nat.le_refl _) _)) hlow) (fun k hk => ⟨by have := hk.2.1; simp at this; omega, hk.2.2.1⟩)
  · intro k hk
    have := hk.2
    simp
    omega
end
def followOut0 (n nt : Nat) : List (List Bool) := if 0 < n then (List.replicate n (List.replicate (nt + 1) false)).set 0 ((List.replicate (nt + 1) false).set nt true) else []
def firsts_Follow.f (k : Nat) (l0_0 : List ByteArray) (l0_1 : List (S61)) (a0_2 : Int) (a0_3 : Int) (l0_4 : List (S30)) : Option (List (List Int)) :=
  (firsts_Right.f l0_0 l0_1 a0_2 a0_3 l0_4).bind fun r => if r = true then (studied_f k l0_0 l0_1 a0_2 a0_3 l0_4).bind fun x => (growOut (followStep k l0_1.length x.1 x.2) l0_4 k (followOut0 l0_0.length l0_1.length)).bind fun out => firsts_all.f k out else some []
theorem firsts_Follow.mono : ∀ (l0_0 : List ByteArray) (l0_1 : List (S61)) (a0_2 : Int) (a0_3 : Int) (l0_4 : List (S30)) k, LeO (firsts_Follow.f k l0_0 l0_1 a0_2 a0_3 l0_4) (firsts_Follow.f (k + 1) l0_0 l0_1 a0_2 a0_3 l0_4) := by
  intro l0_0 l0_1 a0_2 a0_3 l0_4 k
  unfold firsts_Follow.f
  exact LeO.bind (LeO.refl _) (fun _ => LeO.ite (LeO.bind (studied_mono _ _ _ _ _ _) (fun _ => LeO.bind (growOut_mono (fun st p => followIn_mono _ _ _ _ _ _ _ _) _ _ _) (fun _ => firsts_all.mono _ _))) (LeO.refl _))
set_option maxHeartbeats 4000000 in
theorem firsts_Follow.calls (k : Nat) (A0_0 : Option Addr) (c0_0 : Nat) (l0_0 : List ByteArray) (A0_1 : Option Addr) (c0_1 : Nat) (l0_1 : List (S61)) (a0_2 : Int) (a0_3 : Int) (A0_4 : Option Addr) (c0_4 : Nat) (l0_4 : List (S30)) (r : List (List Int)) (w : World) (hr0_0 : Kd.C Kd.string w A0_0 l0_0.length l0_0) (hc0_0 : l0_0.length ≤ c0_0) (hr0_1 : Kd.C k61 w A0_1 l0_1.length l0_1) (hc0_1 : l0_1.length ≤ c0_1) (hr0_4 : Kd.C k30 w A0_4 l0_4.length l0_4) (hc0_4 : l0_4.length ≤ c0_4) (h : firsts_Follow.f k l0_0 l0_1 a0_2 a0_3 l0_4 = some r) :
    Calls Try.prog 38 #[.agg #[.slice A0_0 l0_0.length c0_0, .slice A0_1 l0_1.length c0_1, .int .i64 a0_2, .int .i64 a0_3, .slice A0_4 l0_4.length c0_4]] w fun e w' => ∃ v0_ : Value, e = .returned (v0_) ∧ Kd.S (Kd.slice 3 (Kd.int .i64)) 43 w' w.heap.size (fun _ => True) v0_ r ∧ Below w.heap.size w w' := by
  obtain ⟨rt, hrt, h2⟩ := Option.bind_eq_some_iff.1 h
  have HRT := Aside0.mk hrt
  clear h hrt
  have HA1 : Aside0 (Below w.heap.size w (w.alloc (.cells #[.slice A0_0 l0_0.length c0_0, .slice A0_1 l0_1.length c0_1, .int .i64 a0_2, .int .i64 a0_3, .slice A0_4 l0_4.length c0_4] 26))) := ⟨(Below.refl _ w).alloc (Nat.le_refl _) _⟩
  have HC : Aside0 (∀ W, Below (w.heap.size + 1) (w.alloc (.cells #[.slice A0_0 l0_0.length c0_0, .slice A0_1 l0_1.length c0_1, .int .i64 a0_2, .int .i64 a0_3, .slice A0_4 l0_4.length c0_4] 26)) W → W.cell? ⟨w.heap.size, 0, none⟩ = some (.slice A0_0 l0_0.length c0_0) ∧ W.cell? ⟨w.heap.size, 1, none⟩ = some (.slice A0_1 l0_1.length c0_1) ∧ W.cell? ⟨w.heap.size, 2, none⟩ = some (.int .i64 a0_2) ∧ W.cell? ⟨w.heap.size, 3, none⟩ = some (.int .i64 a0_3) ∧ W.cell? ⟨w.heap.size, 4, none⟩ = some (.slice A0_4 l0_4.length c0_4)) := ⟨fun W hW => ⟨(hW.cell (p := ⟨w.heap.size, 0, none⟩) (by simp)).trans (by simp), (hW.cell (p := ⟨w.heap.size, 1, none⟩) (by simp)).trans (by simp), (hW.cell (p := ⟨w.heap.size, 2, none⟩) (by simp)).trans (by simp), (hW.cell (p := ⟨w.heap.size, 3, none⟩) (by simp)).trans (by simp), (hW.cell (p := ⟨w.heap.size, 4, none⟩) (by simp)).trans (by simp)⟩⟩
  cases rt with
  | false =>
    rw [if_neg (by simp)] at h2
    obtain rfl := Option.some.inj h2
    clear h2
    go_enter Try.func38, Try.ntmps38
    go_wp2_with (go_at_call 22; (with_reducible refine (firsts_Right.calls A0_0 c0_0 l0_0 A0_1 c0_1 l0_1 a0_2 a0_3 A0_4 c0_4 l0_4 false _ (Kd.C_below hr0_0 HA1.out) hc0_0 (Kd.C_below hr0_1 HA1.out) hc0_1 (Kd.C_below hr0_4 HA1.out) hc0_4 HRT.out).mono ?_); rintro e w1 ⟨rfl, hb1⟩)
    go_ret
    exact ⟨_, rfl, Kd.S_nil _ _ _ _ _, HA1.out.trans (hb1.mono (by simp))⟩
  | true =>
    rw [if_pos rfl] at h2
    obtain ⟨⟨em, first⟩, hst, h3⟩ := Option.bind_eq_some_iff.1 h2
    obtain ⟨out, hgr, hal⟩ := Option.bind_eq_some_iff.1 h3
    have hsz : l0_0.length ≤ 11728124029610 ∧ l0_1.length < 281474976710656 ∧ l0_4.length ≤ 9223372036854775807 := by
      unfold studied_f at hst
      split at hst
      · assumption
      · simp at hst
    have hps : l0_4.all (fun p => decide (p.f1.length ≤ 9223372036854775807)) = true := by
      have := HRT.out
      unfold firsts_Right.f at this
      split at this
      · rename_i hh; exact hh.2
      · simp at this
    have HST := Aside0.mk hst
    have HGR := Aside0.mk hgr
    have HAL := Aside0.mk hal
    have HSZ := Aside0.mk hsz
    have HPS := Aside0.mk hps
    have eg : ∀ args w, (callFunc 46 args).run Try.prog w = .ok (.enter 46 args) w := enters_of Try.func46 (by kernel_rfl) rfl
    clear h2 h3 hst hgr hal hsz hps
    by_cases hpos : 0 < l0_0.length
    · have hg : (0 < l0_0.length) = True := eq_true hpos
      have HPOS := Aside0.mk hpos
      clear hpos
      go_enter Try.func38, Try.ntmps38
      go_wp2_with (first
        | (go_at_call 22; (with_reducible refine (firsts_Right.calls A0_0 c0_0 l0_0 A0_1 c0_1 l0_1 a0_2 a0_3 A0_4 c0_4 l0_4 true _ (Kd.C_below hr0_0 HA1.out) hc0_0 (Kd.C_below hr0_1 HA1.out) hc0_1 (Kd.C_below hr0_4 HA1.out) hc0_4 HRT.out).mono ?_); rintro e w1 ⟨rfl, hb1⟩; have HB1 : Aside0 (Below (w.heap.size + 1) (w.alloc (.cells #[.slice A0_0 l0_0.length c0_0, .slice A0_1 l0_1.length c0_1, .int .i64 a0_2, .int .i64 a0_3, .slice A0_4 l0_4.length c0_4] 26)) w1) := ⟨hb1.mono (by simp)⟩; have HB01 : Aside0 (Below w.heap.size w w1) := ⟨HA1.out.trans (hb1.mono (by simp))⟩; clear hb1; obtain ⟨q0, q1, q2, q3, q4⟩ := HC.out w1 HB1.out)
        | (go_at_call 43; (with_reducible refine (studied_any k A0_0 c0_0 l0_0 A0_1 c0_1 l0_1 a0_2 a0_3 A0_4 c0_4 l0_4 em first _ (Kd.C_below hr0_0 HB01.out) hc0_0 (Kd.C_below hr0_1 HB01.out) hc0_1 (Kd.C_below hr0_4 HB01.out) hc0_4 HST.out).mono ?_); rintro e w3 ⟨G, A5, c5, A6, c6, okE, okF, rfl, hs2⟩; have HS2 := Aside0.mk hs2; have HB3 : Aside0 (Below (w.heap.size + 1) (w.alloc (.cells #[.slice A0_0 l0_0.length c0_0, .slice A0_1 l0_1.length c0_1, .int .i64 a0_2, .int .i64 a0_3, .slice A0_4 l0_4.length c0_4] 26)) w3) := ⟨HB1.out.trans (HS2.out.bel.mono (by have := HB1.out.size; simpa using this))⟩; clear hs2 q0 q1 q2 q3 q4)
        | (go_at_call 44; (with_reducible refine (sets_any G _ A0_0 A0_1 l0_0.length l0_1.length c0_0 c0_1 ((blk_cell (blk_alloc HS2.out.g _) 0).trans rfl) ((blk_cell (blk_alloc HS2.out.g _) 1).trans rfl) HSZ.out.1 HSZ.out.2.1).mono ?_); rintro e w4 ⟨v4, rfl, hS4, hb4⟩; obtain ⟨Ao, co, rfl⟩ := Kd.S_slice hS4; have HF := Aside0.mk (follow_start HS2.out HB01.out hS4 hb4); clear hS4; rw [List.length_replicate] at HF ⊢; have HB4 : Aside0 (Below (w.heap.size + 1) (w.alloc (.cells #[.slice A0_0 l0_0.length c0_0, .slice A0_1 l0_1.length c0_1, .int .i64 a0_2, .int .i64 a0_3, .slice A0_4 l0_4.length c0_4] 26)) (w4.alloc (.cells #[.slice Ao l0_0.length co] 82))) := ⟨Below.alloc (Below.alloc HB3.out (by have := HB3.out.size; simpa using this) _ |>.trans (hb4.mono (by have := HB3.out.size; simp at this ⊢; omega))) (by have := HB3.out.size; have := hb4.size; simp at *; omega) _⟩; obtain ⟨q0, q1, q2, q3, q4⟩ := HC.out _ HB4.out))
      have HFI := Aside0.mk HF.out.1
      have HFD := Aside0.mk HF.out.2
      clear HF
      obtain ⟨go, vr, P, eA, hcell, hRow, hP, hback⟩ := S_row rfl HFI.out.r 0 (by omega) (by rw [List.length_replicate]; exact_mod_cast HPOS.out)
      cases eA
      have hgd : (List.replicate l0_0.length (List.replicate (l0_1.length + 1) false)).getD (0 : Int).toNat [] = List.replicate (l0_1.length + 1) false := by simp [List.getD_eq_getElem?_getD, HPOS.out]
      rw [hgd] at hRow
      obtain ⟨gr, c7, hv, _, _, _⟩ := Kd.R_form hRow (by simp)
      subst hv
      rw [List.length_replicate] at hRow hcell
      obtain ⟨hx, hf⟩ := Kd.R_celln false hRow (l0_1.length : Int) (by omega) (by omega)
      have hput := Kd.R_putg hRow (l0_1.length : Int) true
      rw [Int.toNat_natCast] at hx hf hput
      have hPgr : P gr := hRow.1 gr (by simp [Value.ownBlock])
      have HGR2 := Aside0.mk (hP gr hPgr)
      have hKs : Kept (w4.alloc (.cells #[.slice (some ⟨go, 0, none⟩) l0_0.length co] 82)) ((w4.alloc (.cells #[.slice (some ⟨go, 0, none⟩) l0_0.length co] 82)).setCell ⟨gr, l0_1.length, none⟩ (.bool true)) P := Kept.setCell (Kept.refl _ _) (.inl hPgr) _
      have hS6 := hback _ P _ hKs (by rw [List.length_replicate]; exact hput.1)
      have HFS := Aside0.mk (FollowI.keep HFD.out HFI.out (below_set HFI.out.st.bel (show w.heap.size ≤ gr from by have := HGR2.out.1.1; have := HS2.out.bel.size; have := HB01.out.size; omega)) hKs (fun k hk => (hP k hk).1) (by rw [List.length_replicate] at hS6 ⊢; exact hS6) (by simp))
      have hne1 : go ≠ gr := fun e => HGR2.out.2 e.symm
      have hne2 : w4.heap.size ≠ gr := by have := HGR2.out.1.2; omega
      have hne3 : w.heap.size ≠ gr := by have := HGR2.out.1.1; have := HS2.out.bel.size; have := HB01.out.size; omega
      have HB6 : Aside0 (Below (w.heap.size + 1) (w.alloc (.cells #[.slice A0_0 l0_0.length c0_0, .slice A0_1 l0_1.length c0_1, .int .i64 a0_2, .int .i64 a0_3, .slice A0_4 l0_4.length c0_4] 26)) ((w4.alloc (.cells #[.slice (some ⟨go, 0, none⟩) l0_0.length co] 82)).setCell ⟨gr, l0_1.length, none⟩ (.bool true))) := ⟨HB4.out.setCell (by have := HGR2.out.1.1; have := HS2.out.bel.size; have := HB01.out.size; simp only; omega) _⟩
      have LB : Aside0 (w.heap.size ≤ w3.heap.size) := ⟨Nat.le_trans HB01.out.size HS2.out.bel.size⟩
      have o5 : (w4.alloc (.cells #[.slice (some ⟨go, 0, none⟩) l0_0.length co] 82)).cell? ⟨w4.heap.size, 0, none⟩ = some (.slice (some ⟨go, 0, none⟩) l0_0.length co) := by simp
      have hcell0 : (w4.alloc (.cells #[.slice (some ⟨go, 0, none⟩) l0_0.length co] 82)).cell? ⟨go, 0, none⟩ = some (.slice (some ⟨gr, 0, none⟩) (l0_1.length + 1) c7) := hcell
      have KEEP : Aside0 (∀ W, Kept (w4.alloc (.cells #[.slice (some ⟨go, 0, none⟩) l0_0.length co] 82)) W (fun k => k = gr) → (W.cell? ⟨w4.heap.size, 0, none⟩ = some (.slice (some ⟨go, 0, none⟩) l0_0.length co) ∧ W.cell? ⟨w.heap.size, 1, none⟩ = some (.slice A0_1 l0_1.length c0_1) ∧ W.cell? ⟨go, 0, none⟩ = some (.slice (some ⟨gr, 0, none⟩) (l0_1.length + 1) c7))) := ⟨fun W hk => ⟨cell_kept o5 hk hne2, cell_kept q1 hk hne3, cell_kept hcell0 hk hne1⟩⟩
      have p1 : (((l0_1.length : Nat) : Int) < (l0_1.length : Int) + 1) = True := eq_true (by omega)
      have p2 : (0 ≤ (l0_1.length : Int)) = True := eq_true (by omega)
      have p3 : ((0 : Int) < (l0_0.length : Int)) = True := eq_true (by have := HPOS.out; omega)
      obtain ⟨w5, ew5⟩ : ∃ w5, w5 = (w4.alloc (.cells #[.slice (some ⟨go, 0, none⟩) l0_0.length co] 82)) := ⟨_, rfl⟩
      rw [← ew5] at KEEP HFS HFI hx hf HB6 q0 q1 q2 q3 q4 o5 hcell0 ⊢
      clear hcell hRow hback hput hPgr hKs hS6 hgd hP ew5 HB4
      have KEND := Aside0.mk (KEEP.out (w5.setCell ⟨gr, l0_1.length, none⟩ (.bool true)).drew (Kept.drew (Kept.setCell (Kept.refl w5 (fun k => k = gr)) (.inl rfl) _)))
      go_region_held3 (fun W => W.cell? ⟨w4.heap.size, 0, none⟩ = some (.slice (some ⟨go, 0, none⟩) l0_0.length co) ∧ W.cell? ⟨w.heap.size, 1, none⟩ = some (.slice A0_1 l0_1.length c0_1) ∧ W.cell? ⟨go, 0, none⟩ = some (.slice (some ⟨gr, 0, none⟩) (l0_1.length + 1) c7))
        (first | exact KEND.out | exact KEEP.out _ (Kept.drew (Kept.refl _ _)) | go_keep)
        (fail)
      have HG0 : Aside0 (growOut (followStep k l0_1.length em first) l0_4 k ((List.replicate l0_0.length (List.replicate (l0_1.length + 1) false)).set (0 : Int).toNat ((List.replicate (l0_1.length + 1) false).set l0_1.length true)) = some out) := ⟨by have := HGR.out; rwa [followOut0, if_pos HPOS.out] at this⟩
      obtain ⟨w6, ew6⟩ : ∃ w6, w6 = w5.setCell ⟨gr, l0_1.length, none⟩ (.bool true) := ⟨_, rfl⟩
      have r := HC.out _ HB6.out
      rw [← ew6] at r HFS HB6 KEND ⊢
      obtain ⟨q0, q1, q2, q3, q4⟩ := r
      have HFT := Aside0.mk (HFS.out.below (below_drew1 (Below.refl _ w6)))
      have hcon := grow_any (fun out W => FollowI w w3.heap.size w4.heap.size G A0_0 l0_0.length c0_0 A0_1 l0_1.length c0_1 a0_2 a0_3 A0_4 l0_4.length c0_4 A5 c5 A6 c6 (fun k => okE k ∧ k < w3.heap.size) (fun k => okF k ∧ k < w3.heap.size) (fun k => w3.heap.size < k ∧ k < w4.heap.size) em first (some ⟨go, 0, none⟩) co out W) (fun k => w3.heap.size < k ∧ k < w4.heap.size) (followStep k l0_1.length em first) 46 #[.pointer (some ⟨w3.heap.size, 0, none⟩), .pointer (some ⟨w4.heap.size, 0, none⟩)] eg k A0_0 A0_1 l0_0.length c0_0 l0_1.length c0_1 a0_2 a0_3 A0_4 c0_4 l0_4 _ out _ HFT.out (fun st W W' hI hb => hI.below hb) HFT.out.b (fun st W hI => Kd.C_kept_came k30_heap hr0_4 hI.st.bel (fun k hk => Nat.le_trans LB.out (Nat.le_of_lt hk.1))) HSZ.out.2.2 (follow1_any k w w3.heap.size w4.heap.size G A0_0 l0_0.length c0_0 A0_1 l0_1.length c0_1 a0_2 a0_3 A0_4 l0_4.length c0_4 A5 c5 A6 c6 (fun k => okE k ∧ k < w3.heap.size) (fun k => okF k ∧ k < w3.heap.size) (fun k => w3.heap.size < k ∧ k < w4.heap.size) em first (some ⟨go, 0, none⟩) co l0_4 HFD.out HPS.out) HG0.out
      have HCON := Aside0.mk hcon
      have o6 := HFT.out.o
      clear hcon hx hf o5 hcell0 ew6
      go_wp2_with (first
        | (go_at_call 45; (with_reducible refine HCON.out.mono ?_); rintro e w7 ⟨rfl, hI7, hK7⟩; have HI7 := hI7; have o7 := HI7.out.o; clear hI7 hK7)
        | (go_at_call 49; (with_reducible refine (firsts_all.calls k (some ⟨go, 0, none⟩) co out r _ (Kd.S_reads' HI7.out.r).2.2 (Kd.S_reads' HI7.out.r).2.1 HAL.out).mono ?_); rintro e w8 ⟨v8, rfl, hS8, hb8⟩; have HS8 := Aside0.mk hS8; have HB8 := Aside0.mk hb8; clear hS8 hb8))
      go_ret
      exact ⟨_, rfl, Kd.S_lower HS8.out HI7.out.st.bel.size, HI7.out.st.bel.trans (HB8.out.mono HI7.out.st.bel.size)⟩
    · have hz : l0_0.length = 0 := by omega
      have hg : (0 < l0_0.length) = False := eq_false hpos
      have HZ := Aside0.mk hz
      clear hpos hz
      go_enter Try.func38, Try.ntmps38
      go_upto_region 7 with (first
        | (go_at_call 22; (with_reducible refine (firsts_Right.calls A0_0 c0_0 l0_0 A0_1 c0_1 l0_1 a0_2 a0_3 A0_4 c0_4 l0_4 true _ (Kd.C_below hr0_0 HA1.out) hc0_0 (Kd.C_below hr0_1 HA1.out) hc0_1 (Kd.C_below hr0_4 HA1.out) hc0_4 HRT.out).mono ?_); rintro e w1 ⟨rfl, hb1⟩; have HB1 : Aside0 (Below (w.heap.size + 1) (w.alloc (.cells #[.slice A0_0 l0_0.length c0_0, .slice A0_1 l0_1.length c0_1, .int .i64 a0_2, .int .i64 a0_3, .slice A0_4 l0_4.length c0_4] 26)) w1) := ⟨hb1.mono (by simp)⟩; have HB01 : Aside0 (Below w.heap.size w w1) := ⟨HA1.out.trans (hb1.mono (by simp))⟩; clear hb1; obtain ⟨q0, q1, q2, q3, q4⟩ := HC.out w1 HB1.out)
        | (go_at_call 43; (with_reducible refine (studied_any k A0_0 c0_0 l0_0 A0_1 c0_1 l0_1 a0_2 a0_3 A0_4 c0_4 l0_4 em first _ (Kd.C_below hr0_0 HB01.out) hc0_0 (Kd.C_below hr0_1 HB01.out) hc0_1 (Kd.C_below hr0_4 HB01.out) hc0_4 HST.out).mono ?_); rintro e w3 ⟨G, A5, c5, A6, c6, okE, okF, rfl, hs2⟩; have HS2 := Aside0.mk hs2; have HB3 : Aside0 (Below (w.heap.size + 1) (w.alloc (.cells #[.slice A0_0 l0_0.length c0_0, .slice A0_1 l0_1.length c0_1, .int .i64 a0_2, .int .i64 a0_3, .slice A0_4 l0_4.length c0_4] 26)) w3) := ⟨HB1.out.trans (HS2.out.bel.mono (by have := HB1.out.size; simpa using this))⟩; clear hs2 q0 q1 q2 q3 q4)
        | (go_at_call 44; (with_reducible refine (sets_any G _ A0_0 A0_1 l0_0.length l0_1.length c0_0 c0_1 ((blk_cell (blk_alloc HS2.out.g _) 0).trans rfl) ((blk_cell (blk_alloc HS2.out.g _) 1).trans rfl) HSZ.out.1 HSZ.out.2.1).mono ?_); rintro e w4 ⟨v4, rfl, hS4, hb4⟩; obtain ⟨Ao, co, rfl⟩ := Kd.S_slice hS4; have HF := Aside0.mk (follow_start HS2.out HB01.out hS4 hb4); clear hS4; rw [List.length_replicate] at HF ⊢; have HB4 : Aside0 (Below (w.heap.size + 1) (w.alloc (.cells #[.slice A0_0 l0_0.length c0_0, .slice A0_1 l0_1.length c0_1, .int .i64 a0_2, .int .i64 a0_3, .slice A0_4 l0_4.length c0_4] 26)) (w4.alloc (.cells #[.slice Ao l0_0.length co] 82))) := ⟨Below.alloc (Below.alloc HB3.out (by have := HB3.out.size; simpa using this) _ |>.trans (hb4.mono (by have := HB3.out.size; simp at this ⊢; omega))) (by have := HB3.out.size; have := hb4.size; simp at *; omega) _⟩; obtain ⟨q0, q1, q2, q3, q4⟩ := HC.out _ HB4.out))
      have HFI := Aside0.mk HF.out.1
      have HFD := Aside0.mk HF.out.2
      clear HF
      have LB : Aside0 (w.heap.size ≤ w3.heap.size) := ⟨Nat.le_trans HB01.out.size HS2.out.bel.size⟩
      have HG0 : Aside0 (growOut (followStep k l0_1.length em first) l0_4 k (List.replicate l0_0.length (List.replicate (l0_1.length + 1) false)) = some out) := ⟨by have := HGR.out; rw [followOut0, if_neg (by have := HZ.out; omega)] at this; rw [HZ.out]; exact this⟩
      have hcon := grow_any (fun out W => FollowI w w3.heap.size w4.heap.size G A0_0 l0_0.length c0_0 A0_1 l0_1.length c0_1 a0_2 a0_3 A0_4 l0_4.length c0_4 A5 c5 A6 c6 (fun k => okE k ∧ k < w3.heap.size) (fun k => okF k ∧ k < w3.heap.size) (fun k => w3.heap.size < k ∧ k < w4.heap.size) em first Ao co out W) (fun k => w3.heap.size < k ∧ k < w4.heap.size) (followStep k l0_1.length em first) 46 #[.pointer (some ⟨w3.heap.size, 0, none⟩), .pointer (some ⟨w4.heap.size, 0, none⟩)] eg k A0_0 A0_1 l0_0.length c0_0 l0_1.length c0_1 a0_2 a0_3 A0_4 c0_4 l0_4 _ out _ HFI.out (fun st W W' hI hb => hI.below hb) HFI.out.b (fun st W hI => Kd.C_kept_came k30_heap hr0_4 hI.st.bel (fun k hk => Nat.le_trans LB.out (Nat.le_of_lt hk.1))) HSZ.out.2.2 (follow1_any k w w3.heap.size w4.heap.size G A0_0 l0_0.length c0_0 A0_1 l0_1.length c0_1 a0_2 a0_3 A0_4 l0_4.length c0_4 A5 c5 A6 c6 (fun k => okE k ∧ k < w3.heap.size) (fun k => okF k ∧ k < w3.heap.size) (fun k => w3.heap.size < k ∧ k < w4.heap.size) em first Ao co l0_4 HFD.out HPS.out) HG0.out
      have HCON := Aside0.mk hcon
      clear hcon
      go_wp2_with (first
        | (go_at_call 45; (with_reducible refine HCON.out.mono ?_); rintro e w7 ⟨rfl, hI7, hK7⟩; have HI7 := hI7; have o7 := HI7.out.o; clear hI7 hK7)
        | (go_at_call 49; (with_reducible refine (firsts_all.calls k Ao co out r _ (Kd.S_reads' HI7.out.r).2.2 (Kd.S_reads' HI7.out.r).2.1 HAL.out).mono ?_); rintro e w8 ⟨v8, rfl, hS8, hb8⟩; have HS8 := Aside0.mk hS8; have HB8 := Aside0.mk hb8; clear hS8 hb8))
      go_ret
      exact ⟨_, rfl, Kd.S_lower HS8.out HI7.out.st.bel.size, HI7.out.st.bel.trans (HB8.out.mono HI7.out.st.bel.size)⟩
end Go.Proofs.Ytfdcfihcfegekaa.P
end

section
namespace Go.Proofs.Ytfdcfihcfegekaa.P
open Go.RowKit Go.Proofs.YtfdcfihcfegekaaW.PrintWords Go.Proofs.YtfdcfihcfegekaaW.PrintLast Go.Proofs.YtfdcfihcfegekaaW.PrintMore
attribute [local go_sem] max2_int min2_int max_two min_two max_three min_three max_four min_four   -- for this text's walks alone
set_option linter.unusedVariables false
set_option linter.unusedSimpArgs false
mutual
def predict_chosen.l0 : Nat → List (List Int) → List (List Bool) → List (S30) → Int → Int → List ByteArray → List (S61) → Int → Int → List (S30) → Option ((List (List Bool)))
  | 0, _, _, _, _, _, _, _, _, _, _ => none
  | k + 1, x3, x4, x18, x19, x20, x143000, x143001, x143002, x143003, x143004 => if x20 < x19 then (if 0 ≤ x20 then (if x20 < (x18.length : Int) then (if 0 ≤ (wrap64 ((x143001.length : Int) + 1)) then (if (wrap64 ((x143001.length : Int) + 1) : Int).toNat ≤ 281474976710656 then (if x20 < (x4.length : Int) then ((some (x4.set (x20 : Int).toNat (List.replicate (wrap64 ((x143001.length : Int) + 1) : Int).toNat false) : List (List Bool))).bind fun y154 => ((firsts_Of.f k x143000 x143001 x143002 x143003 x143004 ((rd_T30 x18 x20).f1)).bind fun bt155 => (if bt155.2 = true then (if 0 ≤ ((rd_T30 x18 x20).f0) then (if ((rd_T30 x18 x20).f0) < (x3.length : Int) then (if bt155.1.length + (rd_L3 x3 ((rd_T30 x18 x20).f0)).length < 17592186044416 then (predict_chosen.j1 k x3 y154 x20 (bt155.1 ++ (rd_L3 x3 ((rd_T30 x18 x20).f0))) x18 x19 x20 x143000 x143001 x143002 x143003 x143004) else (none)) else (none)) else (none)) else (predict_chosen.j1 k x3 y154 x20 bt155.1 x18 x19 x20 x143000 x143001 x143002 x143003 x143004)))) else (none)) else (none)) else (none)) else (none)) else (none)) else (some x4)
def predict_chosen.j1 : Nat → List (List Int) → List (List Bool) → Int → List Int → List (S30) → Int → Int → List ByteArray → List (S61) → Int → Int → List (S30) → Option ((List (List Bool)))
  | 0, _, _, _, _, _, _, _, _, _, _, _, _ => none
  | k + 1, x3, x4, x5, x7, x18, x19, x20, x143000, x143001, x143002, x143003, x143004 => predict_chosen.l1 k x3 x4 x5 x18 x19 x20 x7 (x7.length : Int) 0 x143000 x143001 x143002 x143003 x143004
def predict_chosen.l1 : Nat → List (List Int) → List (List Bool) → Int → List (S30) → Int → Int → List Int → Int → Int → List ByteArray → List (S61) → Int → Int → List (S30) → Option ((List (List Bool)))
  | 0, _, _, _, _, _, _, _, _, _, _, _, _, _, _ => none
  | k + 1, x3, x4, x5, x18, x19, x20, x48, x49, x50, x143000, x143001, x143002, x143003, x143004 => if x50 < x49 then (if 0 ≤ x50 then (if x50 < (x48.length : Int) then (if 0 ≤ x5 then (if x5 < (x4.length : Int) then (if 0 ≤ (rd x48 x50) then (if (rd x48 x50) < ((rd_L13 x4 x5).length : Int) then (predict_chosen.l1 k x3 (x4.set (x5 : Int).toNat ((rd_L13 x4 x5).set ((rd x48 x50) : Int).toNat true)) x5 x18 x19 x20 x48 x49 (wrap64 (x50 + 1)) x143000 x143001 x143002 x143003 x143004) else (none)) else (none)) else (none)) else (none)) else (none)) else (none)) else (predict_chosen.l0 k x3 x4 x18 x19 (wrap64 (x20 + 1)) x143000 x143001 x143002 x143003 x143004)
end
def predict_chosen.f (k : Nat) (l0_0 : List ByteArray) (l0_1 : List (S61)) (a0_2 : Int) (a0_3 : Int) (l0_4 : List (S30)) : Option ((List (List Bool))) := (firsts_Follow.f k l0_0 l0_1 a0_2 a0_3 l0_4).bind fun t143 => (if 0 ≤ (l0_4.length : Int) then (if ((l0_4.length : Int) : Int).toNat ≤ 11728124029610 then (predict_chosen.l0 k t143 (List.replicate ((l0_4.length : Int) : Int).toNat []) l0_4 (l0_4.length : Int) 0 l0_0 l0_1 a0_2 a0_3 l0_4) else (none)) else (none))
theorem predict_chosen.mono_l : ∀ k, (∀ y0 y1 y2 y3 y4 y5 y6 y7 y8 y9, LeO (predict_chosen.l0 k y0 y1 y2 y3 y4 y5 y6 y7 y8 y9) (predict_chosen.l0 (k + 1) y0 y1 y2 y3 y4 y5 y6 y7 y8 y9)) ∧ (∀ y0 y1 y2 y3 y4 y5 y6 y7 y8 y9 y10 y11, LeO (predict_chosen.j1 k y0 y1 y2 y3 y4 y5 y6 y7 y8 y9 y10 y11) (predict_chosen.j1 (k + 1) y0 y1 y2 y3 y4 y5 y6 y7 y8 y9 y10 y11)) ∧ (∀ y0 y1 y2 y3 y4 y5 y6 y7 y8 y9 y10 y11 y12 y13, LeO (predict_chosen.l1 k y0 y1 y2 y3 y4 y5 y6 y7 y8 y9 y10 y11 y12 y13) (predict_chosen.l1 (k + 1) y0 y1 y2 y3 y4 y5 y6 y7 y8 y9 y10 y11 y12 y13))
  | 0 => ⟨fun _ _ _ _ _ _ _ _ _ _ r h => by simp [predict_chosen.l0] at h, fun _ _ _ _ _ _ _ _ _ _ _ _ r h => by simp [predict_chosen.j1] at h, fun _ _ _ _ _ _ _ _ _ _ _ _ _ _ r h => by simp [predict_chosen.l1] at h⟩
  | k + 1 => by
    obtain ⟨ih0, ih1, ih2⟩ := predict_chosen.mono_l k
    refine ⟨?_, ?_, ?_⟩
    · intro y0 y1 y2 y3 y4 y5 y6 y7 y8 y9
      unfold predict_chosen.l0
      repeat' first
      | (with_reducible exact ih0 _ _ _ _ _ _ _ _ _ _)
      | (with_reducible exact ih1 _ _ _ _ _ _ _ _ _ _ _ _)
      | (with_reducible exact ih2 _ _ _ _ _ _ _ _ _ _ _ _ _ _)
      | (with_reducible exact firsts_Follow.mono _ _ _ _ _ _)
      | (with_reducible exact firsts_Of.mono _ _ _ _ _ _ _)
      | (with_reducible exact LeO.refl _)
      | (with_reducible exact LeO.none _)
      | (with_reducible refine LeO.ite ?_ ?_)
      | (with_reducible refine LeO.bind ?_ (fun _ => ?_))
      | exact ih0 _ _ _ _ _ _ _ _ _ _
      | exact ih1 _ _ _ _ _ _ _ _ _ _ _ _
      | exact ih2 _ _ _ _ _ _ _ _ _ _ _ _ _ _
      | exact firsts_Follow.mono _ _ _ _ _ _
      | exact firsts_Of.mono _ _ _ _ _ _ _
      | exact LeO.none _
      | refine LeO.ite ?_ ?_
      | refine LeO.bind ?_ (fun _ => ?_)
    · intro y0 y1 y2 y3 y4 y5 y6 y7 y8 y9 y10 y11
      unfold predict_chosen.j1
      repeat' first
      | (with_reducible exact ih0 _ _ _ _ _ _ _ _ _ _)
      | (with_reducible exact ih1 _ _ _ _ _ _ _ _ _ _ _ _)
      | (with_reducible exact ih2 _ _ _ _ _ _ _ _ _ _ _ _ _ _)
      | (with_reducible exact firsts_Follow.mono _ _ _ _ _ _)
      | (with_reducible exact firsts_Of.mono _ _ _ _ _ _ _)
      | (with_reducible exact LeO.refl _)
      | (with_reducible exact LeO.none _)
      | (with_reducible refine LeO.ite ?_ ?_)
      | (with_reducible refine LeO.bind ?_ (fun _ => ?_))
      | exact ih0 _ _ _ _ _ _ _ _ _ _
      | exact ih1 _ _ _ _ _ _ _ _ _ _ _ _
      | exact ih2 _ _ _ _ _ _ _ _ _ _ _ _ _ _
      | exact firsts_Follow.mono _ _ _ _ _ _
      | exact firsts_Of.mono _ _ _ _ _ _ _
      | exact LeO.none _
      | refine LeO.ite ?_ ?_
      | refine LeO.bind ?_ (fun _ => ?_)
    · intro y0 y1 y2 y3 y4 y5 y6 y7 y8 y9 y10 y11 y12 y13
      unfold predict_chosen.l1
      repeat' first
      | (with_reducible exact ih0 _ _ _ _ _ _ _ _ _ _)
      | (with_reducible exact ih1 _ _ _ _ _ _ _ _ _ _ _ _)
      | (with_reducible exact ih2 _ _ _ _ _ _ _ _ _ _ _ _ _ _)
      | (with_reducible exact firsts_Follow.mono _ _ _ _ _ _)
      | (with_reducible exact firsts_Of.mono _ _ _ _ _ _ _)
      | (with_reducible exact LeO.refl _)
      | (with_reducible exact LeO.none _)
      | (with_reducible refine LeO.ite ?_ ?_)
      | (with_reducible refine LeO.bind ?_ (fun _ => ?_))
      | exact ih0 _ _ _ _ _ _ _ _ _ _
      | exact ih1 _ _ _ _ _ _ _ _ _ _ _ _
      | exact ih2 _ _ _ _ _ _ _ _ _ _ _ _ _ _
      | exact firsts_Follow.mono _ _ _ _ _ _
      | exact firsts_Of.mono _ _ _ _ _ _ _
      | exact LeO.none _
      | refine LeO.ite ?_ ?_
      | refine LeO.bind ?_ (fun _ => ?_)
theorem predict_chosen.mono : ∀ a0 a1 a2 a3 a4 k, LeO (predict_chosen.f k a0 a1 a2 a3 a4) (predict_chosen.f (k + 1) a0 a1 a2 a3 a4) := by
  intro a0 a1 a2 a3 a4 k
  obtain ⟨ih0, ih1, ih2⟩ := predict_chosen.mono_l k
  unfold predict_chosen.f
  repeat' first
      | (with_reducible exact ih0 _ _ _ _ _ _ _ _ _ _)
      | (with_reducible exact ih1 _ _ _ _ _ _ _ _ _ _ _ _)
      | (with_reducible exact ih2 _ _ _ _ _ _ _ _ _ _ _ _ _ _)
      | (with_reducible exact firsts_Follow.mono _ _ _ _ _ _)
      | (with_reducible exact firsts_Of.mono _ _ _ _ _ _ _)
      | (with_reducible exact LeO.refl _)
      | (with_reducible exact LeO.none _)
      | (with_reducible refine LeO.ite ?_ ?_)
      | (with_reducible refine LeO.bind ?_ (fun _ => ?_))
      | exact ih0 _ _ _ _ _ _ _ _ _ _
      | exact ih1 _ _ _ _ _ _ _ _ _ _ _ _
      | exact ih2 _ _ _ _ _ _ _ _ _ _ _ _ _ _
      | exact firsts_Follow.mono _ _ _ _ _ _
      | exact firsts_Of.mono _ _ _ _ _ _ _
      | exact LeO.none _
      | refine LeO.ite ?_ ?_
      | refine LeO.bind ?_ (fun _ => ?_)
set_option maxHeartbeats 8000000 in
set_option maxRecDepth 100000 in
theorem predict_chosen.calls (k : Nat) (A0_0 : Option Addr) (c0_0 : Nat) (l0_0 : List ByteArray) (A0_1 : Option Addr) (c0_1 : Nat) (l0_1 : List (S61)) (a0_2 : Int) (a0_3 : Int) (A0_4 : Option Addr) (c0_4 : Nat) (l0_4 : List (S30)) (r : List (List Bool)) (w : World) (hr0_0 : Kd.C Kd.string w A0_0 l0_0.length l0_0) (hc0_0 : l0_0.length ≤ c0_0) (hr0_1 : Kd.C k61 w A0_1 l0_1.length l0_1) (hc0_1 : l0_1.length ≤ c0_1) (hr0_4 : Kd.C k30 w A0_4 l0_4.length l0_4) (hc0_4 : l0_4.length ≤ c0_4) (h : predict_chosen.f k l0_0 l0_1 a0_2 a0_3 l0_4 = some r) :
    Calls Try.prog 23 #[.agg #[.slice A0_0 l0_0.length c0_0, .slice A0_1 l0_1.length c0_1, .int .i64 a0_2, .int .i64 a0_3, .slice A0_4 l0_4.length c0_4]] w fun e w' => ∃ v0_ : Value, e = .returned (v0_) ∧ Kd.S (Kd.slice 4 Kd.bool) 65 w' w.heap.size (fun _ => True) v0_ r ∧ Below w.heap.size w w' := by
  have hu26 := Try.underlying26
  have hu30 := Try.underlying30
  have HR0_0 := Aside0.mk hr0_0
  have HC0_0 := Aside0.mk hc0_0
  clear hr0_0 hc0_0
  have HR0_1 := Aside0.mk hr0_1
  have HC0_1 := Aside0.mk hc0_1
  clear hr0_1 hc0_1
  have HR0_4 := Aside0.mk hr0_4
  have HC0_4 := Aside0.mk hc0_4
  clear hr0_4 hc0_4
  have HB := Aside0.mk (Below.refl w.heap.size w)
  have H : ((firsts_Follow.f k l0_0 l0_1 a0_2 a0_3 l0_4).bind fun t143 => (if 0 ≤ (l0_4.length : Int) then (if ((l0_4.length : Int) : Int).toNat ≤ 11728124029610 then (predict_chosen.l0 k t143 (List.replicate ((l0_4.length : Int) : Int).toNat []) l0_4 (l0_4.length : Int) 0 l0_0 l0_1 a0_2 a0_3 l0_4) else (none)) else (none))) = some r := h
  clear h
  replace H := Option.bind_eq_some_iff.mp H
  obtain ⟨t143, A20, H⟩ := H
  replace H : (if 0 ≤ (l0_4.length : Int) then (if ((l0_4.length : Int) : Int).toNat ≤ 11728124029610 then (predict_chosen.l0 k t143 (List.replicate ((l0_4.length : Int) : Int).toNat []) l0_4 (l0_4.length : Int) 0 l0_0 l0_1 a0_2 a0_3 l0_4) else (none)) else (none)) = some r := H
  have A2 := Aside0.mk A20
  clear A20
  by_cases c3 : 0 ≤ (l0_4.length : Int)
  · rw [if_pos c3] at H
    have c3b0 := eq_true c3
    have c3b1 : decide (0 ≤ (l0_4.length : Int)) = true := decide_eq_true c3
    clear c3
    by_cases c4 : ((l0_4.length : Int) : Int).toNat ≤ 11728124029610
    · rw [if_pos c4] at H
      have c4b0 := eq_true c4
      have c4b1 : decide (((l0_4.length : Int) : Int).toNat ≤ 11728124029610) = true := decide_eq_true c4
      clear c4
      obtain ⟨y146, hy146⟩ : ∃ y_ : List (List Bool), y_ = (List.replicate ((l0_4.length : Int) : Int).toNat []) := ⟨_, rfl⟩
      replace H : (predict_chosen.l0 k t143 y146 l0_4 (l0_4.length : Int) 0 l0_0 l0_1 a0_2 a0_3 l0_4) = some r := by first | (rw [hy146]; with_reducible exact H) | (have H2_ := (Option.bind_some _ _).symm.trans H; rw [hy146]; with_reducible exact H2_) | (have H2_ := (Option.bind_some _ _).symm.trans H; with_reducible exact H2_) | with_reducible exact H | (rw [hy146]; exact H) | exact H
      have Ny146 := Aside0.mk hy146
      clear hy146
      have H' := Aside0.mk H
      clear H
      go_enter Try.func23, Try.ntmps23
      go_wp2_with (first | ((with_reducible refine gate_dst (N := 1) rfl ?_); refine box_event ?hg (N := 1) ?hd (cs := #[.slice A0_0 l0_0.length c0_0, .slice A0_1 l0_1.length c0_1, .int .i64 a0_2, .int .i64 a0_3, .slice A0_4 l0_4.length c0_4]) (t := 26) ?hr ?_; (case hd => rfl); (case hg => rfl); (case hr => first | (go_simp; done) | (go_simp; rfl)); intro gb142 hg w5 hbox hb; have n0_ := Aside0.mk (below_step (by repeat (first | (with_reducible first | exact HB.out | apply below_alloc | apply pw_below_drewN | apply below_drew1) | exact HB.out)) hb); have n1_ := Aside0.mk (hbox); have n2_ := Aside0.mk ((by rw [hg]; exact (below_size (by repeat (first | (with_reducible first | exact HB.out | apply below_alloc | apply pw_below_drewN | apply below_drew1) | exact HB.out))) : w.heap.size ≤ gb142)); have n3_ := Aside0.mk ((by rw [hg]; exact (below_size (by repeat (first | (with_reducible first | exact HB.out | apply below_alloc | apply pw_below_drewN | apply below_drew1) | exact HB.out))) : w.heap.size ≤ gb142)); clear HB; have HB := n0_; have BK142 := n1_; have GW142 := n2_; have GE142 := n3_; clear n0_ n1_ n2_ n3_; clear hb hbox hg; have hcz6_0 : w5.cell? ⟨gb142, 0, none⟩ = some (.slice A0_0 l0_0.length c0_0) := (blk_cell BK142.out 0).trans rfl; have hcz6_1 : w5.cell? ⟨gb142, 1, none⟩ = some (.slice A0_1 l0_1.length c0_1) := (blk_cell BK142.out 1).trans rfl; have hcz6_2 : w5.cell? ⟨gb142, 2, none⟩ = some (.int .i64 a0_2) := (blk_cell BK142.out 2).trans rfl; have hcz6_3 : w5.cell? ⟨gb142, 3, none⟩ = some (.int .i64 a0_3) := (blk_cell BK142.out 3).trans rfl; have hcz6_4 : w5.cell? ⟨gb142, 4, none⟩ = some (.slice A0_4 l0_4.length c0_4) := (blk_cell BK142.out 4).trans rfl; have hfz6_0 := blk_frozen BK142.out 0; have hfz6_1 := blk_frozen BK142.out 1; have hfz6_2 := blk_frozen BK142.out 2; have hfz6_3 := blk_frozen BK142.out 3; have hfz6_4 := blk_frozen BK142.out 4) | ((with_reducible refine gate_callee (f := 38) rfl ?_); refine goesL_ (some 12) rfl rfl Try.func38 (by kernel_rfl) rfl #[.agg #[.slice A0_0 l0_0.length c0_0, .slice A0_1 l0_1.length c0_1, .int .i64 a0_2, .int .i64 a0_3, .slice A0_4 l0_4.length c0_4]] rfl (by (try simp only [List.map_toArray, List.map_cons, List.map_nil]); first | done | rfl | (simp only [List.length_drop, List.length_take]; rfl)) ?_; (with_reducible refine (firsts_Follow.calls k _ _ l0_0 _ _ l0_1 a0_2 a0_3 _ _ l0_4 t143 _ ?side1 ?side2 ?side3 ?side4 ?side5 ?side6 A2.out).mono ?_); (case side1 => repeat (first | exact (Kd.C_below HR0_0.out HB.out) | (with_reducible refine Kd.C_alloc ?_ _) | (with_reducible refine Kd.C_drewN ?_ _) | (with_reducible refine Kd.C_drew ?_))); (case side2 => exact HC0_0.out); (case side3 => repeat (first | exact (Kd.C_below HR0_1.out HB.out) | (with_reducible refine Kd.C_alloc ?_ _) | (with_reducible refine Kd.C_drewN ?_ _) | (with_reducible refine Kd.C_drew ?_))); (case side4 => exact HC0_1.out); (case side5 => repeat (first | exact (Kd.C_below HR0_4.out HB.out) | (with_reducible refine Kd.C_alloc ?_ _) | (with_reducible refine Kd.C_drewN ?_ _) | (with_reducible refine Kd.C_drew ?_))); (case side6 => exact HC0_4.out); rintro e w7 ⟨v144, rfl, ho0, hb⟩; refine ⟨_, rfl, ?_⟩; have n0_ := Aside0.mk (Kd.S_lower ho0 (below_size (by repeat (first | (with_reducible first | exact HB.out | apply below_alloc | apply pw_below_drewN | apply below_drew1 | refine below_set ?_ GE142.out) | exact HB.out)))); have n1_ := Aside0.mk (blk_below (g := gb142) (o := .cells #[.slice A0_0 l0_0.length c0_0, .slice A0_1 l0_1.length c0_1, .int .i64 a0_2, .int .i64 a0_3, .slice A0_4 l0_4.length c0_4] 26 (0, 0)) (by (with_reducible repeat (first | refine blk_drewN ?_ _ | refine blk_drew ?_ | refine blk_alloc ?_ _)); exact BK142.out) hb); have n2_ := Aside0.mk (below_step (by repeat (first | (with_reducible first | exact HB.out | apply below_alloc | apply pw_below_drewN | apply below_drew1 | refine below_set ?_ GE142.out) | exact HB.out)) hb); clear BK142; clear HB; have HO145 := n0_; have BK142 := n1_; have HB := n2_; clear n0_ n1_ n2_; (try clear hb); (try clear hb2); (try clear hk); (try clear hi); (try clear ho0); have hcz8_0 : w7.cell? ⟨gb142, 0, none⟩ = some (.slice A0_0 l0_0.length c0_0) := (blk_cell BK142.out 0).trans rfl; have hcz8_1 : w7.cell? ⟨gb142, 1, none⟩ = some (.slice A0_1 l0_1.length c0_1) := (blk_cell BK142.out 1).trans rfl; have hcz8_2 : w7.cell? ⟨gb142, 2, none⟩ = some (.int .i64 a0_2) := (blk_cell BK142.out 2).trans rfl; have hcz8_3 : w7.cell? ⟨gb142, 3, none⟩ = some (.int .i64 a0_3) := (blk_cell BK142.out 3).trans rfl; have hcz8_4 : w7.cell? ⟨gb142, 4, none⟩ = some (.slice A0_4 l0_4.length c0_4) := (blk_cell BK142.out 4).trans rfl; have hfz8_0 := blk_frozen BK142.out 0; have hfz8_1 := blk_frozen BK142.out 1; have hfz8_2 := blk_frozen BK142.out 2; have hfz8_3 := blk_frozen BK142.out 3; have hfz8_4 := blk_frozen BK142.out 4) | ((with_reducible refine gate_dst (N := 16) rfl ?_); refine Kd.S_make (Kd.slice 4 Kd.bool) _ 65 rfl (N := 16) rfl 62 _ _ rfl (l0_4.length : Int) rfl rfl Try.underlying62 (.slice none 0 0) 24 info65 rfl (by decide) (by omega) [] (ok := fun _ => True) (okp := fun _ => True) ⟨_, rfl, Kd.R_nil _ _ _ _ _⟩ (fun _ hk => hk) trivial (of_decide_eq_true (by first | (with_reducible assumption) | assumption)) (Nat.le_trans (Nat.mul_le_mul_right _ (of_decide_eq_true (by first | (with_reducible assumption) | assumption) : (l0_4.length : Int).toNat ≤ 11728124029610)) (by omega)) (Below.refl _ _) (Nat.le_refl _) ?_; intro v147 w9 ho10 hb hg_ hnew_; clear hg_ hnew_; (first | rw [← Ny146.out] at ho10 | (simp only [Int.reduceToNat] at ho10; rw [← Ny146.out] at ho10)); have n0_ := Aside0.mk (Kd.S_below (by (with_reducible repeat (first | apply Kd.S_alloc | apply Kd.S_drewN | apply Kd.S_drew)); exact HO145.out) hb); have n1_ := Aside0.mk (Kd.S_lower ho10 (below_size (by repeat (first | (with_reducible first | exact HB.out | apply below_alloc | apply pw_below_drewN | apply below_drew1 | refine below_set ?_ GE142.out) | exact HB.out)))); have n2_ := Aside0.mk (blk_below (g := gb142) (o := .cells #[.slice A0_0 l0_0.length c0_0, .slice A0_1 l0_1.length c0_1, .int .i64 a0_2, .int .i64 a0_3, .slice A0_4 l0_4.length c0_4] 26 (0, 0)) (by (with_reducible repeat (first | refine blk_drewN ?_ _ | refine blk_drew ?_ | refine blk_alloc ?_ _)); exact BK142.out) hb); have n3_ := Aside0.mk (below_step (by repeat (first | (with_reducible first | exact HB.out | apply below_alloc | apply pw_below_drewN | apply below_drew1 | refine below_set ?_ GE142.out) | exact HB.out)) hb); clear HO145; clear BK142; clear HB; have HO145 := n0_; have HO148 := n1_; have BK142 := n2_; have HB := n3_; clear n0_ n1_ n2_ n3_; clear hb ho10; have hcz11_0 : w9.cell? ⟨gb142, 0, none⟩ = some (.slice A0_0 l0_0.length c0_0) := (blk_cell BK142.out 0).trans rfl; have hcz11_1 : w9.cell? ⟨gb142, 1, none⟩ = some (.slice A0_1 l0_1.length c0_1) := (blk_cell BK142.out 1).trans rfl; have hcz11_2 : w9.cell? ⟨gb142, 2, none⟩ = some (.int .i64 a0_2) := (blk_cell BK142.out 2).trans rfl; have hcz11_3 : w9.cell? ⟨gb142, 3, none⟩ = some (.int .i64 a0_3) := (blk_cell BK142.out 3).trans rfl; have hcz11_4 : w9.cell? ⟨gb142, 4, none⟩ = some (.slice A0_4 l0_4.length c0_4) := (blk_cell BK142.out 4).trans rfl; have hfz11_0 := blk_frozen BK142.out 0; have hfz11_1 := blk_frozen BK142.out 1; have hfz11_2 := blk_frozen BK142.out 2; have hfz11_3 := blk_frozen BK142.out 3; have hfz11_4 := blk_frozen BK142.out 4))
      go_loopg [20] k (fun kq v20 w' => ∃ (x4_1 : List (List Bool)) (x20_1 : Int), v20 = .int .i64 x20_1 ∧ Aside0 (predict_chosen.l0 kq t143 x4_1 l0_4 (l0_4.length : Int) x20_1 l0_0 l0_1 a0_2 a0_3 l0_4 = some r) ∧ Aside0 (kq ≤ k) ∧ Aside0 (Kd.S (Kd.slice 3 (Kd.int .i64)) 43 w' w.heap.size (fun _ => True) v144 t143) ∧ Aside0 (Kd.S (Kd.slice 4 Kd.bool) 65 w' w.heap.size (fun _ => True) v147 x4_1) ∧ Aside0 (w'.heap[gb142]? = some (.cells #[(.slice A0_0 l0_0.length c0_0), (.slice A0_1 l0_1.length c0_1), .int .i64 a0_2, .int .i64 a0_3, (.slice A0_4 l0_4.length c0_4)] 26 (0, 0))) ∧ Aside0 (Below w.heap.size w w'))
      case atStart => exact ⟨(y146), (0), (by first | rfl | (simp; done) | (simp [*]; done)), H', ⟨Nat.le_refl _⟩, ⟨by (with_reducible repeat (first | apply Kd.S_alloc | apply Kd.S_drewN | apply Kd.S_drew)); exact HO145.out⟩, ⟨by (with_reducible repeat (first | apply Kd.S_alloc | apply Kd.S_drewN | apply Kd.S_drew)); exact HO148.out⟩, ⟨by (with_reducible repeat (first | refine blk_drewN ?_ _ | refine blk_drew ?_ | refine blk_alloc ?_ _)); exact BK142.out⟩, ⟨by repeat (first | (with_reducible first | exact HB.out | apply below_alloc | apply pw_below_drewN | apply below_drew1 | refine below_set ?_ GE142.out) | exact HB.out)⟩⟩
      case round =>
        clear H'
        try clear c2
        try clear p2
        try clear c3
        try clear c3b0
        try clear c3b1
        try clear c4
        try clear c4b0
        try clear c4b1
        try clear hcz11_0
        try clear hcz11_1
        try clear hcz11_2
        try clear hcz11_3
        try clear hcz11_4
        try clear hcz6_0
        try clear hcz6_1
        try clear hcz6_2
        try clear hcz6_3
        try clear hcz6_4
        try clear hcz8_0
        try clear hcz8_1
        try clear hcz8_2
        try clear hcz8_3
        try clear hcz8_4
        try clear hfz11_0
        try clear hfz11_1
        try clear hfz11_2
        try clear hfz11_3
        try clear hfz11_4
        try clear hfz6_0
        try clear hfz6_1
        try clear hfz6_2
        try clear hfz6_3
        try clear hfz6_4
        try clear hfz8_0
        try clear hfz8_1
        try clear hfz8_2
        try clear hfz8_3
        try clear hfz8_4
        obtain ⟨x4_1, x20_1, rfl, HA, HK1, HO_3, HO_4, BK142, HB⟩ := hrel
        cases gk with
        | zero => exact absurd HA.out (by simp [predict_chosen.l0])
        | succ k1 =>
          have H := HA.out
          clear HA
          simp only [predict_chosen.l0] at H
          by_cases c12 : x20_1 < (l0_4.length : Int)
          · rw [if_pos c12] at H
            have c12b0 : decide (x20_1 < (l0_4.length : Int)) = true := decide_eq_true c12
            clear c12
            by_cases c13 : 0 ≤ x20_1
            · rw [if_pos c13] at H
              have c13b0 : decide (0 ≤ x20_1) = true := decide_eq_true c13
              clear c13
              by_cases c14 : x20_1 < (l0_4.length : Int)
              · rw [if_pos c14] at H
                have c14b0 : decide (x20_1 < (l0_4.length : Int)) = true := decide_eq_true c14
                clear c14
                obtain ⟨ji15, hji15⟩ : ∃ j_ : Int, (wrap64 ((l0_1.length : Int) + 1)) = j_ := ⟨_, rfl⟩
                replace H : (if 0 ≤ (ji15) then (if (ji15 : Int).toNat ≤ 281474976710656 then (if x20_1 < (x4_1.length : Int) then ((some (x4_1.set (x20_1 : Int).toNat (List.replicate (ji15 : Int).toNat false) : List (List Bool))).bind fun y154 => ((firsts_Of.f k1 l0_0 l0_1 a0_2 a0_3 l0_4 ((rd_T30 l0_4 x20_1).f1)).bind fun bt155 => (if bt155.2 = true then (if 0 ≤ ((rd_T30 l0_4 x20_1).f0) then (if ((rd_T30 l0_4 x20_1).f0) < (t143.length : Int) then (if bt155.1.length + (rd_L3 t143 ((rd_T30 l0_4 x20_1).f0)).length < 17592186044416 then (predict_chosen.j1 k1 t143 y154 x20_1 (bt155.1 ++ (rd_L3 t143 ((rd_T30 l0_4 x20_1).f0))) l0_4 (l0_4.length : Int) x20_1 l0_0 l0_1 a0_2 a0_3 l0_4) else (none)) else (none)) else (none)) else (predict_chosen.j1 k1 t143 y154 x20_1 bt155.1 l0_4 (l0_4.length : Int) x20_1 l0_0 l0_1 a0_2 a0_3 l0_4)))) else (none)) else (none)) else (none)) = some r := by first | (rw [hji15] at H; exact H) | (simp only [hji15] at H ⊢; exact H)
                have hji15w : (IntKind.i64.wrap ((l0_1.length : Int) + 1)) = ji15 := (i64_w _).trans hji15
                by_cases c16 : 0 ≤ (ji15)
                · rw [if_pos c16] at H
                  have c16b0 := eq_true c16
                  have c16b1 : decide (0 ≤ (ji15)) = true := decide_eq_true c16
                  clear c16
                  by_cases c17 : (ji15 : Int).toNat ≤ 281474976710656
                  · rw [if_pos c17] at H
                    have c17b0 := eq_true c17
                    have c17b1 : decide ((ji15 : Int).toNat ≤ 281474976710656) = true := decide_eq_true c17
                    clear c17
                    obtain ⟨y151, hy151⟩ : ∃ y_ : List Bool, y_ = (List.replicate (ji15 : Int).toNat false) := ⟨_, rfl⟩
                    replace H : (if x20_1 < (x4_1.length : Int) then ((some (x4_1.set (x20_1 : Int).toNat y151 : List (List Bool))).bind fun y154 => ((firsts_Of.f k1 l0_0 l0_1 a0_2 a0_3 l0_4 ((rd_T30 l0_4 x20_1).f1)).bind fun bt155 => (if bt155.2 = true then (if 0 ≤ ((rd_T30 l0_4 x20_1).f0) then (if ((rd_T30 l0_4 x20_1).f0) < (t143.length : Int) then (if bt155.1.length + (rd_L3 t143 ((rd_T30 l0_4 x20_1).f0)).length < 17592186044416 then (predict_chosen.j1 k1 t143 y154 x20_1 (bt155.1 ++ (rd_L3 t143 ((rd_T30 l0_4 x20_1).f0))) l0_4 (l0_4.length : Int) x20_1 l0_0 l0_1 a0_2 a0_3 l0_4) else (none)) else (none)) else (none)) else (predict_chosen.j1 k1 t143 y154 x20_1 bt155.1 l0_4 (l0_4.length : Int) x20_1 l0_0 l0_1 a0_2 a0_3 l0_4)))) else (none)) = some r := by first | (rw [hy151]; with_reducible exact H) | (have H2_ := (Option.bind_some _ _).symm.trans H; rw [hy151]; with_reducible exact H2_) | (have H2_ := (Option.bind_some _ _).symm.trans H; with_reducible exact H2_) | with_reducible exact H | (rw [hy151]; exact H) | exact H
                    have Ny151 := Aside0.mk hy151
                    clear hy151
                    by_cases c18 : x20_1 < (x4_1.length : Int)
                    · rw [if_pos c18] at H
                      have c18b0 : decide (x20_1 < (x4_1.length : Int)) = true := decide_eq_true c18
                      clear c18
                      obtain ⟨y154, hy154⟩ : ∃ y_ : List (List Bool), y_ = (x4_1.set (x20_1 : Int).toNat y151) := ⟨_, rfl⟩
                      replace H : ((firsts_Of.f k1 l0_0 l0_1 a0_2 a0_3 l0_4 ((rd_T30 l0_4 x20_1).f1)).bind fun bt155 => (if bt155.2 = true then (if 0 ≤ ((rd_T30 l0_4 x20_1).f0) then (if ((rd_T30 l0_4 x20_1).f0) < (t143.length : Int) then (if bt155.1.length + (rd_L3 t143 ((rd_T30 l0_4 x20_1).f0)).length < 17592186044416 then (predict_chosen.j1 k1 t143 y154 x20_1 (bt155.1 ++ (rd_L3 t143 ((rd_T30 l0_4 x20_1).f0))) l0_4 (l0_4.length : Int) x20_1 l0_0 l0_1 a0_2 a0_3 l0_4) else (none)) else (none)) else (none)) else (predict_chosen.j1 k1 t143 y154 x20_1 bt155.1 l0_4 (l0_4.length : Int) x20_1 l0_0 l0_1 a0_2 a0_3 l0_4))) = some r := by first | (rw [hy154]; with_reducible exact H) | (have H2_ := (Option.bind_some _ _).symm.trans H; rw [hy154]; with_reducible exact H2_) | (have H2_ := (Option.bind_some _ _).symm.trans H; with_reducible exact H2_) | with_reducible exact H | (rw [hy154]; exact H) | exact H
                      have Ny154 := Aside0.mk hy154
                      clear hy154
                      replace H := Option.bind_eq_some_iff.mp H
                      obtain ⟨⟨t155, t158⟩, A200, H⟩ := H
                      replace H : (if t158 = true then (if 0 ≤ ((rd_T30 l0_4 x20_1).f0) then (if ((rd_T30 l0_4 x20_1).f0) < (t143.length : Int) then (if t155.length + (rd_L3 t143 ((rd_T30 l0_4 x20_1).f0)).length < 17592186044416 then (predict_chosen.j1 k1 t143 y154 x20_1 (t155 ++ (rd_L3 t143 ((rd_T30 l0_4 x20_1).f0))) l0_4 (l0_4.length : Int) x20_1 l0_0 l0_1 a0_2 a0_3 l0_4) else (none)) else (none)) else (none)) else (predict_chosen.j1 k1 t143 y154 x20_1 t155 l0_4 (l0_4.length : Int) x20_1 l0_0 l0_1 a0_2 a0_3 l0_4)) = some r := H
                      have A20 := Aside0.mk A200
                      clear A200
                      have HC21 := Aside0.mk H
                      clear H
                      have p149 : 0 ≤ (x20_1 : Int) := of_decide_eq_true (by first | (with_reducible assumption) | assumption)
                      have q149 : x20_1 < (l0_4.length : Int) := of_decide_eq_true (by first | (with_reducible assumption) | assumption)
                      obtain ⟨ad149, A149_1, c149_1, e149, hx149_0, hx149_1, hl149_1, hi149_1⟩ := at_T30 HR0_4.out x20_1 p149 q149
                      cases e149
                      replace hx149_0 := (HB.out.cell (World.block_lt_of_cell? w _ hx149_0)).trans hx149_0
                      replace hx149_1 := (HB.out.cell (World.block_lt_of_cell? w _ hx149_1)).trans hx149_1
                      have HR149_1 := Aside0.mk hi149_1
                      have HC149_1 := Aside0.mk hl149_1
                      clear hi149_1 hl149_1
                      replace p149 := eq_true p149
                      replace q149 := eq_true q149
                      go_upto_if 40 with (first | ((with_reducible refine gate_dst (N := 6) rfl ?_); refine box_event ?hg (N := 6) ?hd (cs := #[.int .i64 0, .slice none 0 0]) (t := 30) ?hr ?_; (case hd => rfl); (case hg => rfl); (case hr => first | (go_simp; done) | (go_simp; rfl)); intro gb150 hg w22 hbox hb; have n0_ := Aside0.mk (Kd.S_below (by (with_reducible repeat (first | apply Kd.S_alloc | apply Kd.S_drewN | apply Kd.S_drew)); exact HO_3.out) hb); have n1_ := Aside0.mk (Kd.S_below (by (with_reducible repeat (first | apply Kd.S_alloc | apply Kd.S_drewN | apply Kd.S_drew)); exact HO_4.out) hb); have n2_ := Aside0.mk (blk_below (g := gb142) (o := .cells #[.slice A0_0 l0_0.length c0_0, .slice A0_1 l0_1.length c0_1, .int .i64 a0_2, .int .i64 a0_3, .slice (some ad149) l0_4.length c0_4] 26 (0, 0)) (by (with_reducible repeat (first | refine blk_drewN ?_ _ | refine blk_drew ?_ | refine blk_alloc ?_ _)); exact BK142.out) hb); have n3_ := Aside0.mk (below_step (by repeat (first | (with_reducible first | exact HB.out | apply below_alloc | apply pw_below_drewN | apply below_drew1 | refine below_set ?_ GE142.out) | exact HB.out)) hb); have n4_ := Aside0.mk (hbox); have n5_ := Aside0.mk ((by rw [hg]; exact (below_size (by repeat (first | (with_reducible first | exact HB.out | apply below_alloc | apply pw_below_drewN | apply below_drew1 | refine below_set ?_ GE142.out) | exact HB.out))) : w.heap.size ≤ gb150)); have n6_ := Aside0.mk ((by rw [hg]; exact (below_size (by repeat (first | (with_reducible first | exact HB.out | apply below_alloc | apply pw_below_drewN | apply below_drew1 | refine below_set ?_ GE142.out) | exact HB.out))) : w.heap.size ≤ gb150)); have n7_ := Aside0.mk ((by rw [hg]; exact Nat.ne_of_lt (blk_lt (g := gb142) (o := .cells #[.slice A0_0 l0_0.length c0_0, .slice A0_1 l0_1.length c0_1, .int .i64 a0_2, .int .i64 a0_3, .slice (some ad149) l0_4.length c0_4] 26 (0, 0)) (by (with_reducible repeat (first | refine blk_drewN ?_ _ | refine blk_drew ?_ | refine blk_alloc ?_ _)); exact BK142.out)) : gb142 ≠ gb150)); have n8_ := Aside0.mk ((by rw [hg]; exact Nat.ne_of_gt (blk_lt (g := gb142) (o := .cells #[.slice A0_0 l0_0.length c0_0, .slice A0_1 l0_1.length c0_1, .int .i64 a0_2, .int .i64 a0_3, .slice (some ad149) l0_4.length c0_4] 26 (0, 0)) (by (with_reducible repeat (first | refine blk_drewN ?_ _ | refine blk_drew ?_ | refine blk_alloc ?_ _)); exact BK142.out)) : gb150 ≠ gb142)); clear HO_3; clear HO_4; clear BK142; clear HB; have HO_3 := n0_; have HO_4 := n1_; have BK142 := n2_; have HB := n3_; have BK150 := n4_; have GW150 := n5_; have GE150 := n6_; have NB142_150 := n7_; have NB150_142 := n8_; clear n0_ n1_ n2_ n3_ n4_ n5_ n6_ n7_ n8_; clear hb hbox hg; have hnb23 := NB150_142.out; have hnc23 := NB142_150.out; have hcz24_0 : w22.cell? ⟨gb150, 0, none⟩ = some (.int .i64 0) := (blk_cell BK150.out 0).trans rfl; have hcz24_1 : w22.cell? ⟨gb150, 1, none⟩ = some (.slice none 0 0) := (blk_cell BK150.out 1).trans rfl; have hfz24_0 := blk_frozen BK150.out 0; have hfz24_1 := blk_frozen BK150.out 1; have hcz25_0 : w22.cell? ⟨gb142, 0, none⟩ = some (.slice A0_0 l0_0.length c0_0) := (blk_cell BK142.out 0).trans rfl; have hcz25_1 : w22.cell? ⟨gb142, 1, none⟩ = some (.slice A0_1 l0_1.length c0_1) := (blk_cell BK142.out 1).trans rfl; have hcz25_2 : w22.cell? ⟨gb142, 2, none⟩ = some (.int .i64 a0_2) := (blk_cell BK142.out 2).trans rfl; have hcz25_3 : w22.cell? ⟨gb142, 3, none⟩ = some (.int .i64 a0_3) := (blk_cell BK142.out 3).trans rfl; have hcz25_4 : w22.cell? ⟨gb142, 4, none⟩ = some (.slice (some ad149) l0_4.length c0_4) := (blk_cell BK142.out 4).trans rfl; have hfz25_0 := blk_frozen BK142.out 0; have hfz25_1 := blk_frozen BK142.out 1; have hfz25_2 := blk_frozen BK142.out 2; have hfz25_3 := blk_frozen BK142.out 3; have hfz25_4 := blk_frozen BK142.out 4) | ((with_reducible refine gate_dst (N := 31) rfl ?_); refine Kd.R_make Kd.bool _ 4 rfl (N := 31) rfl 65 _ _ rfl ji15 rfl rfl Try.underlying65 (.bool false) 1 info4 rfl (by decide) (by omega) false (ok := fun _ => True) (okp := fun _ => True) rfl (fun _ hk => hk) trivial (of_decide_eq_true (by first | (with_reducible assumption) | assumption)) (Nat.le_trans (Nat.mul_le_mul_right _ (of_decide_eq_true (by first | (with_reducible assumption) | assumption) : ji15.toNat ≤ 281474976710656)) (by omega)) (Below.refl _ _) (Nat.le_refl _) ?_; intro v152 w26 ho27 hb hg_ hnew_; clear hg_ hnew_; (first | rw [← Ny151.out] at ho27 | (simp only [Int.reduceToNat] at ho27; rw [← Ny151.out] at ho27)); have n0_ := Aside0.mk (Kd.S_below (by (with_reducible repeat (first | apply Kd.S_alloc | apply Kd.S_drewN | apply Kd.S_drew)); exact (Kd.S_mono (Kd.S_far (p := ⟨gb150, 1, none⟩) (Kd.S_far (p := ⟨gb150, 0, none⟩) (Kd.S_types HO_3.out BK150.out (by decide)) (fun _ hk => hk.2) (.int .i64 ((rd_T30 l0_4 x20_1).f0))) (fun _ hk => hk.2) (.slice A149_1 ((rd_T30 l0_4 x20_1).f1).length c149_1)) (fun _ h_ => h_.1))) hb); have n1_ := Aside0.mk (Kd.S_elder' (by (with_reducible repeat (first | apply Kd.S_alloc | apply Kd.S_drewN | apply Kd.S_drew)); exact (Kd.S_mono (Kd.S_far (p := ⟨gb150, 1, none⟩) (Kd.S_far (p := ⟨gb150, 0, none⟩) (Kd.S_types HO_4.out BK150.out (by decide)) (fun _ hk => hk.2) (.int .i64 ((rd_T30 l0_4 x20_1).f0))) (fun _ hk => hk.2) (.slice A149_1 ((rd_T30 l0_4 x20_1).f1).length c149_1)) (fun _ h_ => h_.1))) (Kd.R_base ho27) hb); have n2_ := Aside0.mk (Kd.R_lower ho27 (below_size (by repeat (first | (with_reducible first | exact HB.out | apply below_alloc | apply pw_below_drewN | apply below_drew1 | refine below_set ?_ GE142.out | refine below_set ?_ GE150.out) | exact HB.out)))); have n3_ := Aside0.mk (blk_below (g := gb142) (o := .cells #[.slice A0_0 l0_0.length c0_0, .slice A0_1 l0_1.length c0_1, .int .i64 a0_2, .int .i64 a0_3, .slice (some ad149) l0_4.length c0_4] 26 (0, 0)) (by (with_reducible repeat (first | refine blk_drewN ?_ _ | refine blk_drew ?_ | refine blk_alloc ?_ _)); refine blk_far ?_ NB142_150.out _; (with_reducible repeat (first | refine blk_drewN ?_ _ | refine blk_drew ?_ | refine blk_alloc ?_ _)); refine blk_far ?_ NB142_150.out _; (with_reducible repeat (first | refine blk_drewN ?_ _ | refine blk_drew ?_ | refine blk_alloc ?_ _)); exact BK142.out) hb); have n4_ := Aside0.mk (blk_below (g := gb150) (o := .cells #[.int .i64 ((rd_T30 l0_4 x20_1).f0), .slice A149_1 ((rd_T30 l0_4 x20_1).f1).length c149_1] 30 (0, 0)) (by (with_reducible repeat (first | refine blk_drewN ?_ _ | refine blk_drew ?_ | refine blk_alloc ?_ _)); refine blk_put (cs := #[.int .i64 ((rd_T30 l0_4 x20_1).f0), .slice none 0 0]) ?_ 1 _ rfl; (with_reducible repeat (first | refine blk_drewN ?_ _ | refine blk_drew ?_ | refine blk_alloc ?_ _)); refine blk_put (cs := #[.int .i64 0, .slice none 0 0]) ?_ 0 _ rfl; (with_reducible repeat (first | refine blk_drewN ?_ _ | refine blk_drew ?_ | refine blk_alloc ?_ _)); exact BK150.out) hb); have n5_ := Aside0.mk (below_step (by repeat (first | (with_reducible first | exact HB.out | apply below_alloc | apply pw_below_drewN | apply below_drew1 | refine below_set ?_ GE142.out | refine below_set ?_ GE150.out) | exact HB.out)) hb); clear HO_3; clear HO_4; clear BK142; clear BK150; clear HB; have HO_3 := n0_; have HO_4 := n1_; have HO153 := n2_; have BK142 := n3_; have BK150 := n4_; have HB := n5_; clear n0_ n1_ n2_ n3_ n4_ n5_; clear hb ho27; have p19 : 0 ≤ (x20_1 : Int) := of_decide_eq_true (by first | (with_reducible assumption) | assumption); have q19 : (x20_1 : Int) < ((x4_1.length : Int) : Int) := of_decide_eq_true (by first | (with_reducible assumption) | assumption); obtain ⟨go19, co19, eo19, gb19, gl19, cl19, HG19⟩ := Kd.S_form HO_4.out (by omega); (first | cases eo19 | (injection eo19 with ea_ en_ ec_; (first | subst ea_ | (injection ea_ with ea_; subst ea_)); subst ec_; clear en_)); have GB19 := Aside0.mk gb19; have GG19 := Aside0.mk HG19; clear gb19 gl19 HG19; obtain ⟨_, ce19, hcl19, hM19, hcc19, hfr19, _, _⟩ := Kd.S_elem HO_4.out [] (x20_1 : Int) p19 q19; obtain ⟨ve19_0, rfl, ge19_0⟩ := hM19; have hx19_0 := hcc19 0 _ rfl; have hf19_0 := hfr19 0; (try simp only [show ((Kd.slice 4 Kd.bool)).sz = 1 from rfl, Nat.mul_one, Nat.add_zero] at hx19_0); (try simp only [show ((Kd.slice 4 Kd.bool)).sz = 1 from rfl, Nat.mul_one, Nat.add_zero] at hf19_0); clear hcl19 hcc19 hfr19; (try clear hM19); replace p19 := eq_true p19; replace q19 := eq_true q19; have n_ := Aside0.mk (Kd.S_mono (ok' := (fun k_ => some k_ ≠ (v152 : Value).ownBlock)) HO_4.out (fun k_ hk => hk.2)); clear HO_4; have HO_4 := n_; clear n_; have HX28 := Aside0.mk (show Kd.S (Kd.slice 4 Kd.bool) 65 w26 w.heap.size (fun k_ => ((fun _ => True)) k_ ∧ ¬ ((fun k_ => some k_ = (v152 : Value).ownBlock)) k_) (.slice (some ⟨go19, 0, none⟩) x4_1.length co19) x4_1 from (by (with_reducible repeat (first | apply Kd.S_alloc | apply Kd.S_drewN | apply Kd.S_drew)); exact Kd.S_mono HO_4.out (fun k_ hk => ⟨trivial, fun e_ => hk e_⟩))); obtain ⟨oki28, ce28, hcl28, hM28, hcc28, hfr28, hoki28, hH28⟩ := Kd.S_elem HX28.out [] (x20_1 : Int) (of_decide_eq_true (by first | (with_reducible assumption) | assumption)) (by have h_ : (x20_1 : Int) < ((x4_1.length : Int) : Int) := of_decide_eq_true (by first | (with_reducible assumption) | assumption); first | exact h_ | (have e_ := (Kd.S_reads' HO_4.out).1; omega) | simpa using h_); obtain ⟨ve28_0, rfl, ge28_0⟩ := hM28; have HP28 := Kd.S_seg hH28 (of_decide_eq_true (by first | (with_reducible assumption) | assumption)) (by have h_ : (x20_1 : Int) < ((x4_1.length : Int) : Int) := of_decide_eq_true (by first | (with_reducible assumption) | assumption); first | exact h_ | (have e_ := (Kd.S_reads' HO_4.out).1; omega) | simpa using h_) (seg := [v152]) (j := 0) (show 1 ≤ 1 from by decide) (x' := y151) (Kd.M_row (Kd.R_mono (Kd.R_tight rfl (Kd.R_mono (ok' := fun k_ => ((fun _ => True)) k_ ∧ k_ ≠ go19) (Kd.R_apart' (HO153.out) (Kd.S_typed HO_4.out) (by decide)) (fun k_ hk => ⟨trivial, fun e_ => (hk.2) (by rw [e_]; rfl)⟩))) (fun _ h_ => Or.inr (h_)))) (fun _ hk => hk) (fun k_ hk_ => ((Kd.R_mono (ok' := fun k_ => ((fun _ => True)) k_ ∧ k_ ≠ go19) (Kd.R_apart' (HO153.out) (Kd.S_typed HO_4.out) (by decide)) (fun k_ hk => ⟨trivial, fun e_ => (hk.2) (by rw [e_]; rfl)⟩))).1 k_ hk_.symm); have hx28_0 := hcc28 0 _ rfl; (try simp only [show ((Kd.slice 4 Kd.bool)).sz = 1 from rfl, Nat.mul_one, Nat.add_zero] at hx28_0); have hf28_0 := hfr28 0; (try simp only [show ((Kd.slice 4 Kd.bool)).sz = 1 from rfl, Nat.mul_one, Nat.add_zero] at hf28_0); clear hcl28 hcc28 hfr28; (try clear hM28); clear hoki28 hH28; (try simp only [show ((Kd.slice 4 Kd.bool)).sz = 1 from rfl, Nat.mul_one, Nat.add_zero] at HP28)) | ((with_reducible refine gate_store (t := 65) (p := 32) rfl ?_); refine store_event (t := 65) (p := 32) (v := ?vo_w29) (w1 := (w26.setCell ⟨go19, (x20_1 : Int).toNat, none⟩ (v152))) ?hg ?ho ?hn ?hr ?_; (case ho => rfl); (case hg => rfl); (case hn => rfl); (case hr => first | (go_simp; done) | (go_simp; rfl) | (obtain ⟨A_, c_, e_⟩ := Kd.R_slice HO153.out; rw [e_]; first | (go_simp; done) | (go_simp; rfl))); intro w29 hw; have hg : w26.grownBy w29 (some go19) := (by rw [hw]; exact HP28.2); have hp_ : Kd.S (Kd.slice 4 Kd.bool) 65 w29 w.heap.size (fun _ => True) (.slice (some ⟨go19, 0, none⟩) x4_1.length co19) y154 := (by rw [hw, Ny154.out]; exact HP28.1); clear HP28; have n0_ := Aside0.mk (Kd.S_over' (v := (.slice (some ⟨go19, 0, none⟩) x4_1.length co19)) (by (with_reducible repeat (first | apply Kd.S_alloc | apply Kd.S_drewN | apply Kd.S_drew)); exact HO_3.out) (Kd.S_typed HO_4.out) (by decide) hg); have n1_ := Aside0.mk (hp_); have n2_ := Aside0.mk (blk_grown (g := gb142) (o := .cells #[.slice A0_0 l0_0.length c0_0, .slice A0_1 l0_1.length c0_1, .int .i64 a0_2, .int .i64 a0_3, .slice (some ad149) l0_4.length c0_4] 26 (0, 0)) (by (with_reducible repeat (first | refine blk_drewN ?_ _ | refine blk_drew ?_ | refine blk_alloc ?_ _)); exact BK142.out) hg (Kd.S_ne HO_4.out BK142.out (by decide))); have n3_ := Aside0.mk (blk_grown (g := gb150) (o := .cells #[.int .i64 ((rd_T30 l0_4 x20_1).f0), .slice A149_1 ((rd_T30 l0_4 x20_1).f1).length c149_1] 30 (0, 0)) (by (with_reducible repeat (first | refine blk_drewN ?_ _ | refine blk_drew ?_ | refine blk_alloc ?_ _)); exact BK150.out) hg (Kd.S_ne HO_4.out BK150.out (by decide))); have n4_ := Aside0.mk ((by rw [hw]; exact below_set (HB.out) GB19.out : Below w.heap.size w w29)); clear HO_3; clear HO_4; clear BK142; clear BK150; clear HB; clear HO153; have HO_3 := n0_; have HO_4 := n1_; have BK142 := n2_; have BK150 := n3_; have HB := n4_; clear n0_ n1_ n2_ n3_ n4_; clear hg hw hp_; have hcz30_0 : w29.cell? ⟨gb142, 0, none⟩ = some (.slice A0_0 l0_0.length c0_0) := (blk_cell BK142.out 0).trans rfl; have hcz30_1 : w29.cell? ⟨gb142, 1, none⟩ = some (.slice A0_1 l0_1.length c0_1) := (blk_cell BK142.out 1).trans rfl; have hcz30_2 : w29.cell? ⟨gb142, 2, none⟩ = some (.int .i64 a0_2) := (blk_cell BK142.out 2).trans rfl; have hcz30_3 : w29.cell? ⟨gb142, 3, none⟩ = some (.int .i64 a0_3) := (blk_cell BK142.out 3).trans rfl; have hcz30_4 : w29.cell? ⟨gb142, 4, none⟩ = some (.slice (some ad149) l0_4.length c0_4) := (blk_cell BK142.out 4).trans rfl; have hfz30_0 := blk_frozen BK142.out 0; have hfz30_1 := blk_frozen BK142.out 1; have hfz30_2 := blk_frozen BK142.out 2; have hfz30_3 := blk_frozen BK142.out 3; have hfz30_4 := blk_frozen BK142.out 4; have hcz31_0 : w29.cell? ⟨gb150, 0, none⟩ = some (.int .i64 ((rd_T30 l0_4 x20_1).f0)) := (blk_cell BK150.out 0).trans rfl; have hcz31_1 : w29.cell? ⟨gb150, 1, none⟩ = some (.slice A149_1 ((rd_T30 l0_4 x20_1).f1).length c149_1) := (blk_cell BK150.out 1).trans rfl; have hfz31_0 := blk_frozen BK150.out 0; have hfz31_1 := blk_frozen BK150.out 1) | ((with_reducible refine gate_callee (f := 39) rfl ?_); refine goesL_ (some 37) rfl rfl Try.func39 (by kernel_rfl) rfl #[.agg #[.slice A0_0 l0_0.length c0_0, .slice A0_1 l0_1.length c0_1, .int .i64 a0_2, .int .i64 a0_3, .slice (some ad149) l0_4.length c0_4], .slice A149_1 ((rd_T30 l0_4 x20_1).f1).length c149_1] rfl (by (try simp only [List.map_toArray, List.map_cons, List.map_nil]); first | done | rfl | (simp only [List.length_drop, List.length_take]; rfl)) ?_; (with_reducible refine (firsts_Of.calls k1 _ _ l0_0 _ _ l0_1 a0_2 a0_3 _ _ l0_4 _ _ ((rd_T30 l0_4 x20_1).f1) t155 t158 _ ?side1 ?side2 ?side3 ?side4 ?side5 ?side6 ?side7 ?side8 A20.out).mono ?_); (case side1 => repeat (first | exact (Kd.C_below HR0_0.out HB.out) | (with_reducible refine Kd.C_alloc ?_ _) | (with_reducible refine Kd.C_drewN ?_ _) | (with_reducible refine Kd.C_drew ?_))); (case side2 => exact HC0_0.out); (case side3 => repeat (first | exact (Kd.C_below HR0_1.out HB.out) | (with_reducible refine Kd.C_alloc ?_ _) | (with_reducible refine Kd.C_drewN ?_ _) | (with_reducible refine Kd.C_drew ?_))); (case side4 => exact HC0_1.out); (case side5 => repeat (first | exact (Kd.C_below HR0_4.out HB.out) | (with_reducible refine Kd.C_alloc ?_ _) | (with_reducible refine Kd.C_drewN ?_ _) | (with_reducible refine Kd.C_drew ?_))); (case side6 => exact HC0_4.out); (case side7 => repeat (first | exact (Kd.C_below HR149_1.out HB.out) | (with_reducible refine Kd.C_alloc ?_ _) | (with_reducible refine Kd.C_drewN ?_ _) | (with_reducible refine Kd.C_drew ?_))); (case side8 => exact HC149_1.out); rintro e w32 ⟨v156, rfl, ho0, hb⟩; refine ⟨_, rfl, ?_⟩; have n0_ := Aside0.mk (Kd.S_elder' (by (with_reducible repeat (first | apply Kd.S_alloc | apply Kd.S_drewN | apply Kd.S_drew)); exact HO_3.out) (Kd.R_base ho0) hb); have n1_ := Aside0.mk (Kd.S_below (by (with_reducible repeat (first | apply Kd.S_alloc | apply Kd.S_drewN | apply Kd.S_drew)); exact HO_4.out) hb); have n2_ := Aside0.mk (Kd.R_lower ho0 (below_size (by repeat (first | (with_reducible first | exact HB.out | apply below_alloc | apply pw_below_drewN | apply below_drew1 | refine below_set ?_ GE142.out | refine below_set ?_ GE150.out) | exact HB.out)))); have n3_ := Aside0.mk (blk_below (g := gb142) (o := .cells #[.slice A0_0 l0_0.length c0_0, .slice A0_1 l0_1.length c0_1, .int .i64 a0_2, .int .i64 a0_3, .slice (some ad149) l0_4.length c0_4] 26 (0, 0)) (by (with_reducible repeat (first | refine blk_drewN ?_ _ | refine blk_drew ?_ | refine blk_alloc ?_ _)); exact BK142.out) hb); have n4_ := Aside0.mk (blk_below (g := gb150) (o := .cells #[.int .i64 ((rd_T30 l0_4 x20_1).f0), .slice A149_1 ((rd_T30 l0_4 x20_1).f1).length c149_1] 30 (0, 0)) (by (with_reducible repeat (first | refine blk_drewN ?_ _ | refine blk_drew ?_ | refine blk_alloc ?_ _)); exact BK150.out) hb); have n5_ := Aside0.mk (below_step (by repeat (first | (with_reducible first | exact HB.out | apply below_alloc | apply pw_below_drewN | apply below_drew1 | refine below_set ?_ GE142.out | refine below_set ?_ GE150.out) | exact HB.out)) hb); clear HO_3; clear HO_4; clear BK142; clear BK150; clear HB; have HO_3 := n0_; have HO_4 := n1_; have HO157 := n2_; have BK142 := n3_; have BK150 := n4_; have HB := n5_; clear n0_ n1_ n2_ n3_ n4_ n5_; (try clear hb); (try clear hb2); (try clear hk); (try clear hi); (try clear ho0)))
                      (try simp only [Act.put, List.setIfInBounds_toArray, List.set_cons_zero, List.set_cons_succ])
                      go_cut [7] (fun v7 wc => ∃ (kq : Nat) (x7_20 : List Int), Aside0 (predict_chosen.j1 kq t143 y154 x20_1 x7_20 l0_4 (l0_4.length : Int) x20_1 l0_0 l0_1 a0_2 a0_3 l0_4 = some r) ∧ Aside0 (kq ≤ k1) ∧ Aside0 (Kd.S (Kd.slice 3 (Kd.int .i64)) 43 wc w.heap.size (fun k_ => some k_ ≠ (v7 : Value).ownBlock) v144 t143) ∧ Aside0 (Kd.S (Kd.slice 4 Kd.bool) 65 wc w.heap.size (fun _ => True) (.slice (some ⟨go19, 0, none⟩) x4_1.length co19) y154) ∧ Aside0 (Kd.R (Kd.int .i64) 3 wc w.heap.size (fun _ => True) v7 x7_20) ∧ Aside0 (wc.heap[gb142]? = some (.cells #[(.slice A0_0 l0_0.length c0_0), (.slice A0_1 l0_1.length c0_1), .int .i64 a0_2, .int .i64 a0_3, (.slice (some ad149) l0_4.length c0_4)] 26 (0, 0))) ∧ Aside0 (wc.heap[gb150]? = some (.cells #[.int .i64 ((rd_T30 l0_4 x20_1).f0), (.slice A149_1 ((rd_T30 l0_4 x20_1).f1).length c149_1)] 30 (0, 0))) ∧ Aside0 (Below w.heap.size w wc))
                      case first =>
                        have H := HC21.out
                        clear HC21
                        by_cases c33 : t158 = true
                        · subst c33
                          have H1 : (if 0 ≤ ((rd_T30 l0_4 x20_1).f0) then (if ((rd_T30 l0_4 x20_1).f0) < (t143.length : Int) then (if t155.length + (rd_L3 t143 ((rd_T30 l0_4 x20_1).f0)).length < 17592186044416 then (predict_chosen.j1 k1 t143 y154 x20_1 (t155 ++ (rd_L3 t143 ((rd_T30 l0_4 x20_1).f0))) l0_4 (l0_4.length : Int) x20_1 l0_0 l0_1 a0_2 a0_3 l0_4) else (none)) else (none)) else (none)) = some r := by rw [if_pos rfl] at H; exact H
                          clear H
                          have H := H1
                          clear H1
                          by_cases c34 : 0 ≤ ((rd_T30 l0_4 x20_1).f0)
                          · rw [if_pos c34] at H
                            have c34b0 : decide (0 ≤ ((rd_T30 l0_4 x20_1).f0)) = true := decide_eq_true c34
                            clear c34
                            (first | rw [c34b0] | (simp only [i64_w, i32_w]; rw [c34b0]) | skip)
                            by_cases c35 : ((rd_T30 l0_4 x20_1).f0) < (t143.length : Int)
                            · rw [if_pos c35] at H
                              have c35b0 : decide (((rd_T30 l0_4 x20_1).f0) < (t143.length : Int)) = true := decide_eq_true c35
                              clear c35
                              by_cases c36 : t155.length + (rd_L3 t143 ((rd_T30 l0_4 x20_1).f0)).length < 17592186044416
                              · rw [if_pos c36] at H
                                have LMc36 := Aside0.mk c36
                                clear c36
                                obtain ⟨y160, hy160⟩ : ∃ y_ : List Int, y_ = (t155 ++ (rd_L3 t143 ((rd_T30 l0_4 x20_1).f0))) := ⟨_, rfl⟩
                                replace H : (predict_chosen.j1 k1 t143 y154 x20_1 y160 l0_4 (l0_4.length : Int) x20_1 l0_0 l0_1 a0_2 a0_3 l0_4) = some r := by first | (rw [hy160]; with_reducible exact H) | (have H2_ := (Option.bind_some _ _).symm.trans H; rw [hy160]; with_reducible exact H2_) | (have H2_ := (Option.bind_some _ _).symm.trans H; with_reducible exact H2_) | with_reducible exact H | (rw [hy160]; exact H) | exact H
                                have Ny160 := Aside0.mk hy160
                                clear hy160
                                have H' := Aside0.mk H
                                clear H
                                have hnb37 := NB150_142.out
                                have hnc37 := NB142_150.out
                                have hcz38_0 : w32.cell? ⟨gb150, 0, none⟩ = some (.int .i64 ((rd_T30 l0_4 x20_1).f0)) := (blk_cell BK150.out 0).trans rfl
                                have hcz38_1 : w32.cell? ⟨gb150, 1, none⟩ = some (.slice A149_1 ((rd_T30 l0_4 x20_1).f1).length c149_1) := (blk_cell BK150.out 1).trans rfl
                                have hfz38_0 := blk_frozen BK150.out 0
                                have hfz38_1 := blk_frozen BK150.out 1
                                obtain ⟨Ao39, co39, eo39⟩ := Kd.S_slice HO_3.out
                                subst eo39
                                have p159 : 0 ≤ (((rd_T30 l0_4 x20_1).f0) : Int) := of_decide_eq_true (by first | (with_reducible assumption) | assumption)
                                have q159 : ((rd_T30 l0_4 x20_1).f0) < (t143.length : Int) := of_decide_eq_true (by first | (with_reducible assumption) | assumption)
                                obtain ⟨ad159, A159_0, c159_0, e159, hx159_0, hl159_0, hi159_0⟩ := at_L3 (Kd.S_reads' HO_3.out).2.2 ((rd_T30 l0_4 x20_1).f0) p159 q159
                                cases e159
                                obtain ⟨ce159, hce159, hMe159, hcc159⟩ := Kd.S_get HO_3.out [] ((rd_T30 l0_4 x20_1).f0) p159 (by first | exact q159 | exact of_decide_eq_true (by first | (with_reducible assumption) | assumption) | (have e_ := (Kd.S_reads' HO_3.out).1; omega))
                                obtain ⟨ve159_0, rfl, ge159_0⟩ := hMe159
                                have hv159_0 := hcc159 0 _ rfl
                                rw [Nat.add_zero, show ((Kd.slice 3 (Kd.int .i64))).sz = 1 from rfl, Nat.mul_one] at hv159_0
                                replace hv159_0 := Option.some.inj (hv159_0.symm.trans hx159_0)
                                rw [hv159_0] at ge159_0
                                have HL159_0 := Aside0.mk (show Kd.R (Kd.int .i64) 3 _ _ _ _ (rd_L3 t143 ((rd_T30 l0_4 x20_1).f0)) from ge159_0)
                                clear hv159_0 ge159_0
                                have HX159_0 := Aside0.mk hx159_0
                                clear hcc159 hce159
                                have HR159_0 := Aside0.mk hi159_0
                                have HC159_0 := Aside0.mk hl159_0
                                clear hi159_0 hl159_0
                                replace p159 := eq_true p159
                                replace q159 := eq_true q159
                                go_wp2_with (first | ((with_reducible refine gate_builtin (b := .append) (xs := #[.tmp 41, .tmp 46]) rfl ?_); at_builtin; refine Kd.R_append_rows (Kd.int .i64) (w0 := w) w.heap.size rfl (.tmp 41) (.tmp 46) 43 3 (.int .i64 0) 8 rfl Try.underlying43 info3 rfl (by decide) (by omega) v156 t155 (rd_L3 t143 ((rd_T30 l0_4 x20_1).f0)) _ _ _ (fun _ => True) (fun _ => False) rfl rfl ?aO ?aR (fun _ _ h => h) (fun _ h => h.elim) ?aF ?aB ?aS ?aL ?_; (case aR => repeat (first | exact (by repeat (first | (with_reducible exact HR159_0.out) | (with_reducible refine Kd.C_alloc ?_ _) | (with_reducible refine Kd.C_drewN ?_ _) | (with_reducible refine Kd.C_drew ?_) | exact HR159_0.out)) | (with_reducible refine Kd.C_alloc ?_ _) | (with_reducible refine Kd.C_drewN ?_ _) | (with_reducible refine Kd.C_drew ?_))); (case aB => exact (by repeat (first | (with_reducible first | exact HB.out | apply below_alloc | apply pw_below_drewN | apply below_drew1 | refine below_set ?_ GE142.out | refine below_set ?_ GE150.out) | exact HB.out))); (case aF => exact (fun _ _ => trivial)); (case aO => exact (by (with_reducible repeat (first | apply Kd.R_alloc | apply Kd.R_drewN | apply Kd.R_drew)); exact HO157.out)); (case aS => exact (below_size (by repeat (first | (with_reducible first | exact HB.out | apply below_alloc | apply pw_below_drewN | apply below_drew1 | refine below_set ?_ GE142.out | refine below_set ?_ GE150.out) | exact HB.out)))); (case aL => have := LMc36.out; omega); intro v161 w40 ho hb hg hat; rw [← Ny160.out] at ho; have n0_ := Aside0.mk (Kd.S_after (ok := (fun _ => True)) (by (with_reducible repeat (first | apply Kd.S_alloc | apply Kd.S_drewN | apply Kd.S_drew)); exact HO_3.out) hg hat); have n1_ := Aside0.mk (Kd.S_over' (by (with_reducible repeat (first | apply Kd.S_alloc | apply Kd.S_drewN | apply Kd.S_drew)); exact HO_4.out) (Kd.R_typed (by (with_reducible repeat (first | apply Kd.R_alloc | apply Kd.R_drewN | apply Kd.R_drew)); exact HO157.out)) (by decide) hg); have n2_ := Aside0.mk (blk_grown (g := gb142) (o := .cells #[.slice A0_0 l0_0.length c0_0, .slice A0_1 l0_1.length c0_1, .int .i64 a0_2, .int .i64 a0_3, .slice (some ad149) l0_4.length c0_4] 26 (0, 0)) (by (with_reducible repeat (first | refine blk_drewN ?_ _ | refine blk_drew ?_ | refine blk_alloc ?_ _)); exact BK142.out) hg (Kd.R_ne HO157.out BK142.out (by decide))); have n3_ := Aside0.mk (blk_grown (g := gb150) (o := .cells #[.int .i64 ((rd_T30 l0_4 x20_1).f0), .slice A149_1 ((rd_T30 l0_4 x20_1).f1).length c149_1] 30 (0, 0)) (by (with_reducible repeat (first | refine blk_drewN ?_ _ | refine blk_drew ?_ | refine blk_alloc ?_ _)); exact BK150.out) hg (Kd.R_ne HO157.out BK150.out (by decide))); have n4_ := Aside0.mk (Kd.R_after (ok := (fun k_ => some k_ ≠ (.slice (some ad159) t143.length co39 : Value).ownBlock)) (by (with_reducible repeat (first | apply Kd.R_alloc | apply Kd.R_drewN | apply Kd.R_drew)); exact Kd.R_mono HL159_0.out (fun _ hk => ⟨hk.2, hk.1.2⟩)) hg hat); have n5_ := Aside0.mk (hb); have n6_ := Aside0.mk (ho); clear HO_3; clear HO_4; clear BK142; clear BK150; clear HL159_0; clear HB; clear HO157; have HO_3 := n0_; have HO_4 := n1_; have BK142 := n2_; have BK150 := n3_; have HL159_0 := n4_; have HB := n5_; have HO162 := n6_; clear n0_ n1_ n2_ n3_ n4_ n5_ n6_; clear ho hb hg hat))
                                go_meet
                                case rel => exact ⟨_, (y160), H', ⟨by have := HK1.out; first | omega | exact Nat.le_refl _⟩, ⟨by (with_reducible repeat (first | apply Kd.S_alloc | apply Kd.S_drewN | apply Kd.S_drew)); exact Kd.S_mono HO_3.out (fun _ hk => hk.2)⟩, ⟨by (with_reducible repeat (first | apply Kd.S_alloc | apply Kd.S_drewN | apply Kd.S_drew)); exact HO_4.out⟩, ⟨by (with_reducible repeat (first | apply Kd.R_alloc | apply Kd.R_drewN | apply Kd.R_drew)); exact HO162.out⟩, ⟨by (with_reducible repeat (first | refine blk_drewN ?_ _ | refine blk_drew ?_ | refine blk_alloc ?_ _)); exact BK142.out⟩, ⟨by (with_reducible repeat (first | refine blk_drewN ?_ _ | refine blk_drew ?_ | refine blk_alloc ?_ _)); exact BK150.out⟩, ⟨by repeat (first | (with_reducible first | exact HB.out | apply below_alloc | apply pw_below_drewN | apply below_drew1 | refine below_set ?_ GE142.out | refine below_set ?_ GE150.out) | exact HB.out)⟩⟩
                              · rw [if_neg c36] at H
                                exact absurd H (by simp)
                            · rw [if_neg c35] at H
                              exact absurd H (by simp)
                          · rw [if_neg c34] at H
                            exact absurd H (by simp)
                        · replace c33 := Bool.eq_false_iff.mpr c33
                          subst c33
                          have H1 : (predict_chosen.j1 k1 t143 y154 x20_1 t155 l0_4 (l0_4.length : Int) x20_1 l0_0 l0_1 a0_2 a0_3 l0_4) = some r := by rw [if_neg (show ¬ (false = true) by decide)] at H; exact H
                          clear H
                          have H := H1
                          clear H1
                          have H' := Aside0.mk H
                          clear H
                          go_wp2
                          go_meet
                          case rel => exact ⟨_, (t155), H', ⟨by have := HK1.out; first | omega | exact Nat.le_refl _⟩, ⟨by (with_reducible repeat (first | apply Kd.S_alloc | apply Kd.S_drewN | apply Kd.S_drew)); exact Kd.S_mono HO_3.out (fun _ hk => hk.2)⟩, ⟨by (with_reducible repeat (first | apply Kd.S_alloc | apply Kd.S_drewN | apply Kd.S_drew)); exact HO_4.out⟩, ⟨by (with_reducible repeat (first | apply Kd.R_alloc | apply Kd.R_drewN | apply Kd.R_drew)); exact HO157.out⟩, ⟨by (with_reducible repeat (first | refine blk_drewN ?_ _ | refine blk_drew ?_ | refine blk_alloc ?_ _)); exact BK142.out⟩, ⟨by (with_reducible repeat (first | refine blk_drewN ?_ _ | refine blk_drew ?_ | refine blk_alloc ?_ _)); exact BK150.out⟩, ⟨by repeat (first | (with_reducible first | exact HB.out | apply below_alloc | apply pw_below_drewN | apply below_drew1 | refine below_set ?_ GE142.out | refine below_set ?_ GE150.out) | exact HB.out)⟩⟩
                      case rest =>
                        clear HC21
                        try clear c1
                        try clear p1
                        try clear q1
                        try clear hx1
                        try clear hf1
                        try clear c2
                        try clear p2
                        try clear hx2
                        try clear hf2
                        try clear c3
                        try clear c3b0
                        try clear c3b1
                        try clear c4
                        try clear c4b0
                        try clear c4b1
                        try clear p6
                        try clear c12
                        try clear c12b0
                        try clear c13
                        try clear c13b0
                        try clear c14
                        try clear c14b0
                        try clear p14
                        try clear q14
                        try clear hx14
                        try clear c15
                        try clear p15
                        try clear q15
                        try clear hx15
                        try clear c16
                        try clear c16b0
                        try clear c16b1
                        try clear c17
                        try clear c17b0
                        try clear c17b1
                        try clear c18
                        try clear c18b0
                        try clear c19
                        try clear p19
                        try clear q19
                        try clear hx19
                        try clear hf19
                        try clear c23
                        try clear c28
                        try clear hx28
                        try clear hf28
                        try clear c33
                        try clear c34
                        try clear c34b0
                        try clear c35
                        try clear c35b0
                        try clear c36
                        try clear c37
                        try clear c38
                        try clear c39
                        try clear hcz11_0
                        try clear hcz11_1
                        try clear hcz11_2
                        try clear hcz11_3
                        try clear hcz11_4
                        try clear hcz24_0
                        try clear hcz24_1
                        try clear hcz25_0
                        try clear hcz25_1
                        try clear hcz25_2
                        try clear hcz25_3
                        try clear hcz25_4
                        try clear hcz30_0
                        try clear hcz30_1
                        try clear hcz30_2
                        try clear hcz30_3
                        try clear hcz30_4
                        try clear hcz31_0
                        try clear hcz31_1
                        try clear hcz38_0
                        try clear hcz38_1
                        try clear hcz6_0
                        try clear hcz6_1
                        try clear hcz6_2
                        try clear hcz6_3
                        try clear hcz6_4
                        try clear hcz8_0
                        try clear hcz8_1
                        try clear hcz8_2
                        try clear hcz8_3
                        try clear hcz8_4
                        try clear hfz11_0
                        try clear hfz11_1
                        try clear hfz11_2
                        try clear hfz11_3
                        try clear hfz11_4
                        try clear hfz24_0
                        try clear hfz24_1
                        try clear hfz25_0
                        try clear hfz25_1
                        try clear hfz25_2
                        try clear hfz25_3
                        try clear hfz25_4
                        try clear hfz30_0
                        try clear hfz30_1
                        try clear hfz30_2
                        try clear hfz30_3
                        try clear hfz30_4
                        try clear hfz31_0
                        try clear hfz31_1
                        try clear hfz38_0
                        try clear hfz38_1
                        try clear hfz6_0
                        try clear hfz6_1
                        try clear hfz6_2
                        try clear hfz6_3
                        try clear hfz6_4
                        try clear hfz8_0
                        try clear hfz8_1
                        try clear hfz8_2
                        try clear hfz8_3
                        try clear hfz8_4
                        try clear hx149_0
                        try clear hx149_1
                        try clear hx159_0
                        try clear hx19_0
                        try clear hx28_0
                        try clear p149
                        try clear p159
                        try clear p19
                        try clear p2
                        try clear q149
                        try clear q159
                        try clear q19
                        obtain ⟨kq, x7_20, HA, HJ20, HO_3, HO_4, HO_7, BK142, BK150, HB⟩ := hcut
                        have hl4_20 := (Kd.S_reads' HO_4.out).1
                        rw [hl4_20] at HO_4
                        (try simp only [hl4_20])
                        (try simp only [hl4_20] at BK142)
                        (try simp only [hl4_20] at BK150)
                        (try simp only [hl4_20] at HO_3)
                        (try simp only [hl4_20] at HO_7)
                        cases kq with
                        | zero => exact absurd HA.out (by simp [predict_chosen.j1])
                        | succ kj20 =>
                          have H := HA.out
                          clear HA
                          simp only [predict_chosen.j1] at H
                          have H' := Aside0.mk H
                          clear H
                          obtain ⟨Ao41, co41, eo41⟩ := Kd.R_slice HO_7.out
                          subst eo41
                          go_wp2
                          go_loopg [50] kj20 (fun kq v50 w' => ∃ (x4_3 : List (List Bool)) (x50_3 : Int), v50 = .int .i64 x50_3 ∧ Aside0 (predict_chosen.l1 kq t143 x4_3 x20_1 l0_4 (l0_4.length : Int) x20_1 x7_20 (x7_20.length : Int) x50_3 l0_0 l0_1 a0_2 a0_3 l0_4 = some r) ∧ Aside0 (kq ≤ kj20) ∧ Aside0 (Kd.S (Kd.slice 3 (Kd.int .i64)) 43 w' w.heap.size (fun k_ => some k_ ≠ ((.slice Ao41 x7_20.length co41) : Value).ownBlock) v144 t143) ∧ Aside0 (Kd.S (Kd.slice 4 Kd.bool) 65 w' w.heap.size (fun _ => True) (.slice (some ⟨go19, 0, none⟩) y154.length co19) x4_3) ∧ Aside0 (Kd.R (Kd.int .i64) 3 w' w.heap.size (fun _ => True) (.slice Ao41 x7_20.length co41) x7_20) ∧ Aside0 (w'.heap[gb142]? = some (.cells #[(.slice A0_0 l0_0.length c0_0), (.slice A0_1 l0_1.length c0_1), .int .i64 a0_2, .int .i64 a0_3, (.slice (some ad149) l0_4.length c0_4)] 26 (0, 0))) ∧ Aside0 (w'.heap[gb150]? = some (.cells #[.int .i64 ((rd_T30 l0_4 x20_1).f0), (.slice A149_1 ((rd_T30 l0_4 x20_1).f1).length c149_1)] 30 (0, 0))) ∧ Aside0 (Below w.heap.size w w'))
                          case atStart => exact ⟨(y154), (0), (by first | rfl | (simp; done) | (simp [*]; done)), H', ⟨Nat.le_refl _⟩, ⟨by (try simp only [hl4_20]); (with_reducible repeat (first | apply Kd.S_alloc | apply Kd.S_drewN | apply Kd.S_drew)); exact HO_3.out⟩, ⟨by (try simp only [hl4_20]); (with_reducible repeat (first | apply Kd.S_alloc | apply Kd.S_drewN | apply Kd.S_drew)); exact HO_4.out⟩, ⟨by (try simp only [hl4_20]); (with_reducible repeat (first | apply Kd.R_alloc | apply Kd.R_drewN | apply Kd.R_drew)); exact HO_7.out⟩, ⟨by (try simp only [hl4_20]); (with_reducible repeat (first | refine blk_drewN ?_ _ | refine blk_drew ?_ | refine blk_alloc ?_ _)); exact BK142.out⟩, ⟨by (try simp only [hl4_20]); (with_reducible repeat (first | refine blk_drewN ?_ _ | refine blk_drew ?_ | refine blk_alloc ?_ _)); exact BK150.out⟩, ⟨by repeat (first | (with_reducible first | exact HB.out | apply below_alloc | apply pw_below_drewN | apply below_drew1 | refine below_set ?_ GE142.out | refine below_set ?_ GE150.out) | exact HB.out)⟩⟩
                          case round =>
                            clear H'
                            try clear c1
                            try clear p1
                            try clear q1
                            try clear hx1
                            try clear hf1
                            try clear c2
                            try clear p2
                            try clear hx2
                            try clear hf2
                            try clear c3
                            try clear c3b0
                            try clear c3b1
                            try clear c4
                            try clear c4b0
                            try clear c4b1
                            try clear p6
                            try clear c12
                            try clear c12b0
                            try clear c13
                            try clear c13b0
                            try clear c14
                            try clear c14b0
                            try clear p14
                            try clear q14
                            try clear hx14
                            try clear c15
                            try clear p15
                            try clear q15
                            try clear hx15
                            try clear c16
                            try clear c16b0
                            try clear c16b1
                            try clear c17
                            try clear c17b0
                            try clear c17b1
                            try clear c18
                            try clear c18b0
                            try clear c19
                            try clear p19
                            try clear q19
                            try clear hx19
                            try clear hf19
                            try clear c23
                            try clear c28
                            try clear hx28
                            try clear hf28
                            try clear c33
                            try clear c34
                            try clear c34b0
                            try clear c35
                            try clear c35b0
                            try clear c36
                            try clear c37
                            try clear c38
                            try clear c39
                            try clear hcz11_0
                            try clear hcz11_1
                            try clear hcz11_2
                            try clear hcz11_3
                            try clear hcz11_4
                            try clear hcz24_0
                            try clear hcz24_1
                            try clear hcz25_0
                            try clear hcz25_1
                            try clear hcz25_2
                            try clear hcz25_3
                            try clear hcz25_4
                            try clear hcz30_0
                            try clear hcz30_1
                            try clear hcz30_2
                            try clear hcz30_3
                            try clear hcz30_4
                            try clear hcz31_0
                            try clear hcz31_1
                            try clear hcz38_0
                            try clear hcz38_1
                            try clear hcz6_0
                            try clear hcz6_1
                            try clear hcz6_2
                            try clear hcz6_3
                            try clear hcz6_4
                            try clear hcz8_0
                            try clear hcz8_1
                            try clear hcz8_2
                            try clear hcz8_3
                            try clear hcz8_4
                            try clear hfz11_0
                            try clear hfz11_1
                            try clear hfz11_2
                            try clear hfz11_3
                            try clear hfz11_4
                            try clear hfz24_0
                            try clear hfz24_1
                            try clear hfz25_0
                            try clear hfz25_1
                            try clear hfz25_2
                            try clear hfz25_3
                            try clear hfz25_4
                            try clear hfz30_0
                            try clear hfz30_1
                            try clear hfz30_2
                            try clear hfz30_3
                            try clear hfz30_4
                            try clear hfz31_0
                            try clear hfz31_1
                            try clear hfz38_0
                            try clear hfz38_1
                            try clear hfz6_0
                            try clear hfz6_1
                            try clear hfz6_2
                            try clear hfz6_3
                            try clear hfz6_4
                            try clear hfz8_0
                            try clear hfz8_1
                            try clear hfz8_2
                            try clear hfz8_3
                            try clear hfz8_4
                            try clear hx149_0
                            try clear hx149_1
                            try clear hx159_0
                            try clear hx19_0
                            try clear hx28_0
                            try clear p1
                            try clear p14
                            try clear p149
                            try clear p15
                            try clear p159
                            try clear p19
                            try clear p2
                            try clear p6
                            try clear q1
                            try clear q14
                            try clear q149
                            try clear q15
                            try clear q159
                            try clear q19
                            obtain ⟨x4_3, x50_3, rfl, HA, HK3, HO_3, HO_4, HO_48, BK142, BK150, HB⟩ := hrel
                            have hl4_3 := (Kd.S_reads' HO_4.out).1
                            rw [hl4_3] at HO_4
                            (try simp only [hl4_3])
                            (try simp only [hl4_3] at BK142)
                            (try simp only [hl4_3] at BK150)
                            (try simp only [hl4_3] at HO_3)
                            (try simp only [hl4_3] at HO_48)
                            cases gk with
                            | zero => exact absurd HA.out (by simp [predict_chosen.l1])
                            | succ k3 =>
                              have H := HA.out
                              clear HA
                              simp only [predict_chosen.l1] at H
                              by_cases c42 : x50_3 < (x7_20.length : Int)
                              · rw [if_pos c42] at H
                                have c42b0 : decide (x50_3 < (x7_20.length : Int)) = true := decide_eq_true c42
                                (try (have c42z0 := c42b0; simp only [hl4_20, hl4_3] at c42z0))
                                clear c42
                                by_cases c43 : 0 ≤ x50_3
                                · rw [if_pos c43] at H
                                  have c43b0 : decide (0 ≤ x50_3) = true := decide_eq_true c43
                                  clear c43
                                  by_cases c44 : x50_3 < (x7_20.length : Int)
                                  · rw [if_pos c44] at H
                                    have c44b0 : decide (x50_3 < (x7_20.length : Int)) = true := decide_eq_true c44
                                    (try (have c44z0 := c44b0; simp only [hl4_20, hl4_3] at c44z0))
                                    clear c44
                                    by_cases c45 : 0 ≤ x20_1
                                    · rw [if_pos c45] at H
                                      have c45b0 : decide (0 ≤ x20_1) = true := decide_eq_true c45
                                      clear c45
                                      by_cases c46 : x20_1 < (x4_3.length : Int)
                                      · rw [if_pos c46] at H
                                        have c46b0 : decide (x20_1 < (x4_3.length : Int)) = true := decide_eq_true c46
                                        (try (have c46z0 := c46b0; simp only [hl4_20, hl4_3] at c46z0))
                                        clear c46
                                        by_cases c47 : 0 ≤ (rd x7_20 x50_3)
                                        · rw [if_pos c47] at H
                                          have c47b0 : decide (0 ≤ (rd x7_20 x50_3)) = true := decide_eq_true c47
                                          clear c47
                                          by_cases c48 : (rd x7_20 x50_3) < ((rd_L13 x4_3 x20_1).length : Int)
                                          · rw [if_pos c48] at H
                                            have c48b0 : decide ((rd x7_20 x50_3) < ((rd_L13 x4_3 x20_1).length : Int)) = true := decide_eq_true c48
                                            (try (have c48z0 := c48b0; simp only [hl4_20, hl4_3] at c48z0))
                                            clear c48
                                            obtain ⟨y165, hy165⟩ : ∃ y_ : List Bool, y_ = ((rd_L13 x4_3 x20_1).set ((rd x7_20 x50_3) : Int).toNat true) := ⟨_, rfl⟩
                                            replace H : (predict_chosen.l1 k3 t143 (x4_3.set (x20_1 : Int).toNat y165) x20_1 l0_4 (l0_4.length : Int) x20_1 x7_20 (x7_20.length : Int) (wrap64 (x50_3 + 1)) l0_0 l0_1 a0_2 a0_3 l0_4) = some r := by first | (rw [hy165]; with_reducible exact H) | (have H2_ := (Option.bind_some _ _).symm.trans H; rw [hy165]; with_reducible exact H2_) | (have H2_ := (Option.bind_some _ _).symm.trans H; with_reducible exact H2_) | with_reducible exact H | (rw [hy165]; exact H) | exact H
                                            have Ny165 := Aside0.mk hy165
                                            clear hy165
                                            obtain ⟨y167, hy167⟩ : ∃ y_ : List (List Bool), y_ = (x4_3.set (x20_1 : Int).toNat y165) := ⟨_, rfl⟩
                                            replace H : (predict_chosen.l1 k3 t143 y167 x20_1 l0_4 (l0_4.length : Int) x20_1 x7_20 (x7_20.length : Int) (wrap64 (x50_3 + 1)) l0_0 l0_1 a0_2 a0_3 l0_4) = some r := by first | (rw [hy167]; with_reducible exact H) | (have H2_ := (Option.bind_some _ _).symm.trans H; rw [hy167]; with_reducible exact H2_) | (have H2_ := (Option.bind_some _ _).symm.trans H; with_reducible exact H2_) | with_reducible exact H | (rw [hy167]; exact H) | exact H
                                            have Ny167 := Aside0.mk hy167
                                            clear hy167
                                            have H' := Aside0.mk H
                                            clear H
                                            have p163 : 0 ≤ (x50_3 : Int) := of_decide_eq_true (by first | (with_reducible assumption) | assumption)
                                            have q163 : x50_3 < (x7_20.length : Int) := of_decide_eq_true (by first | (with_reducible assumption) | assumption)
                                            obtain ⟨ad163, e163, hx163_0⟩ := Kd.at_int (Kd.R_reads' HO_48.out).2.2 x50_3 p163 q163
                                            cases e163
                                            replace p163 := eq_true p163
                                            replace q163 := eq_true q163
                                            have p164 : 0 ≤ (x20_1 : Int) := of_decide_eq_true (by first | (with_reducible assumption) | assumption)
                                            have q164 : x20_1 < (x4_3.length : Int) := of_decide_eq_true (by first | (with_reducible assumption) | assumption)
                                            obtain ⟨ad164, A164_0, c164_0, e164, hx164_0, hl164_0, hi164_0⟩ := at_L13 (Kd.S_reads' HO_4.out).2.2 x20_1 p164 q164
                                            obtain rfl : (⟨go19, 0, none⟩ : Addr) = ad164 := (by injection e164)
                                            obtain ⟨ce164, hce164, hMe164, hcc164⟩ := Kd.S_get HO_4.out [] x20_1 p164 (by first | exact q164 | exact of_decide_eq_true (by first | (with_reducible assumption) | assumption) | (have e_ := (Kd.S_reads' HO_4.out).1; omega))
                                            obtain ⟨ve164_0, rfl, ge164_0⟩ := hMe164
                                            have hv164_0 := hcc164 0 _ rfl
                                            rw [Nat.add_zero, show ((Kd.slice 4 Kd.bool)).sz = 1 from rfl, Nat.mul_one] at hv164_0
                                            replace hv164_0 := Option.some.inj (hv164_0.symm.trans hx164_0)
                                            rw [hv164_0] at ge164_0
                                            have HL164_0 := Aside0.mk (show Kd.R Kd.bool 4 _ _ _ _ (rd_L13 x4_3 x20_1) from ge164_0)
                                            clear hv164_0 ge164_0
                                            have HX164_0 := Aside0.mk hx164_0
                                            clear hcc164 hce164
                                            (first | simp only [add_plain] at hx164_0 | simp only [add_at] at hx164_0 | simp only [Addr.add, Nat.zero_add] at hx164_0 | skip)
                                            have HR164_0 := Aside0.mk hi164_0
                                            have HC164_0 := Aside0.mk hl164_0
                                            clear hi164_0 hl164_0
                                            replace p164 := eq_true p164
                                            replace q164 := eq_true q164
                                            have p49 : 0 ≤ ((rd x7_20 x50_3) : Int) := of_decide_eq_true (by first | (with_reducible assumption) | assumption)
                                            have q49 : ((rd x7_20 x50_3) : Int) < (((rd_L13 x4_3 x20_1).length : Int) : Int) := of_decide_eq_true (by first | (with_reducible assumption) | assumption)
                                            obtain ⟨go49, co49, eo49, gb49, gl49, cl49, HG49⟩ := Kd.R_form HL164_0.out (by omega)
                                            (first | cases eo49 | (injection eo49 with ea_ en_ ec_; (first | subst ea_ | (injection ea_ with ea_; subst ea_)); subst ec_; clear en_))
                                            have GB49 := Aside0.mk gb49
                                            have GG49 := Aside0.mk HG49
                                            clear gb49 gl49 HG49
                                            obtain ⟨hx49_0, hf49_0⟩ := Kd.R_celln false HL164_0.out ((rd x7_20 x50_3) : Int) p49 q49
                                            replace p49 := eq_true p49
                                            replace q49 := eq_true q49
                                            have hq50 : (x20_1 : Int) < (x4_3.length : Int) := (by have h_ : (x20_1 : Int) < ((x4_3.length : Int) : Int) := of_decide_eq_true (by first | (with_reducible assumption) | assumption); first | exact h_ | (have e_ := (Kd.S_reads' HO_4.out).1; omega) | simpa only [List.length_set, List.length_set] using h_)
                                            obtain ⟨oki50, ce50, hcl50, hM50, hcc50, hok50, hbk50⟩ := Kd.S_borrow HO_4.out [] (x20_1 : Int) (of_decide_eq_true (by first | (with_reducible assumption) | assumption)) hq50
                                            obtain ⟨ve50_0, rfl, ge50_0⟩ := hM50
                                            have hv50 := hcc50 0 _ rfl
                                            rw [Nat.add_zero, show ((Kd.slice 4 Kd.bool)).sz = 1 from rfl, Nat.mul_one] at hv50
                                            replace hv50 := Option.some.inj (hv50.symm.trans HX164_0.out)
                                            subst hv50
                                            clear hcc50 hcl50
                                            replace ge50_0 := (show Kd.R Kd.bool 4 _ _ _ _ (rd_L13 x4_3 x20_1) from ge50_0)
                                            have HP50 := Kd.R_putg ge50_0 ((rd x7_20 x50_3) : Int) true
                                            go_wp2_with (first | ((with_reducible refine gate_store (t := 4) (p := 59) rfl ?_); refine store_event (t := 4) (p := 59) (v := ?vo_w51) (w1 := (wr.setCell ⟨go49, ((rd x7_20 x50_3) : Int).toNat, none⟩ (.bool true))) ?hg ?ho ?hn ?hr ?_; (case ho => rfl); (case hg => rfl); (case hn => rfl); (case hr => first | (go_simp; done) | (go_simp; rfl)); intro w51 hw; have hg : wr.grownBy w51 (some go49) := (by rw [hw]; exact HP50.2); have hz_ : Kd.R Kd.bool 4 w51 w.heap.size oki50 (.slice (some ⟨go49, 0, none⟩) (rd_L13 x4_3 x20_1).length c164_0) y165 := (by rw [hw, Ny165.out]; exact HP50.1); have hp_ : Kd.S (Kd.slice 4 Kd.bool) 65 w51 w.heap.size (fun _ => True) (.slice (some ⟨go19, 0, none⟩) x4_3.length co19) y167 := (by rw [Ny167.out]; exact hbk50 hg (fun k_ e_ => by injection e_ with e_; subst e_; exact ge50_0.1 _ rfl) (Kd.M_row hz_)); have hm_ := Kd.R_mono hz_ hok50; clear HP50 hbk50; have n0_ := Aside0.mk (Kd.S_over' (v := (.slice (some ⟨go49, 0, none⟩) (rd_L13 x4_3 x20_1).length c164_0)) (by (with_reducible repeat (first | apply Kd.S_alloc | apply Kd.S_drewN | apply Kd.S_drew)); exact HO_3.out) (Kd.R_typed HL164_0.out) (by decide) hg); have n1_ := Aside0.mk (hp_); have n2_ := Aside0.mk (Kd.R_over' (v := (.slice (some ⟨go49, 0, none⟩) (rd_L13 x4_3 x20_1).length c164_0)) (by (with_reducible repeat (first | apply Kd.R_alloc | apply Kd.R_drewN | apply Kd.R_drew)); exact HO_48.out) (Kd.R_typed HL164_0.out) (by decide) hg); have n3_ := Aside0.mk (blk_grown (g := gb142) (o := .cells #[.slice A0_0 l0_0.length c0_0, .slice A0_1 l0_1.length c0_1, .int .i64 a0_2, .int .i64 a0_3, .slice (some ad149) l0_4.length c0_4] 26 (0, 0)) (by (with_reducible repeat (first | refine blk_drewN ?_ _ | refine blk_drew ?_ | refine blk_alloc ?_ _)); exact BK142.out) hg (Kd.R_ne HL164_0.out BK142.out (by decide))); have n4_ := Aside0.mk (blk_grown (g := gb150) (o := .cells #[.int .i64 ((rd_T30 l0_4 x20_1).f0), .slice A149_1 ((rd_T30 l0_4 x20_1).f1).length c149_1] 30 (0, 0)) (by (with_reducible repeat (first | refine blk_drewN ?_ _ | refine blk_drew ?_ | refine blk_alloc ?_ _)); exact BK150.out) hg (Kd.R_ne HL164_0.out BK150.out (by decide))); have n5_ := Aside0.mk ((by rw [hw]; exact below_set (HB.out) GB49.out : Below w.heap.size w w51)); have n6_ := Aside0.mk (hm_); have n7_ := Aside0.mk ((Kd.R_reads' hm_).2.1); clear HO_3; clear HO_4; clear HO_48; clear BK142; clear BK150; clear HB; clear HL164_0; have HO_3 := n0_; have HO_4 := n1_; have HO_48 := n2_; have BK142 := n3_; have BK150 := n4_; have HB := n5_; have HL168 := n6_; have HC166 := n7_; clear n0_ n1_ n2_ n3_ n4_ n5_ n6_ n7_; clear hg hw hp_ hz_ hm_ hok50))
                                            (try simp only [← hl4_3])
                                            go_roundg k3
                                            case measure => have := HK1.out; have := HJ20.out; have := HK3.out; omega
                                            case rel => exact ⟨(y167), (wrap64 (x50_3 + 1)), (by first | rfl | (simp; done) | (simp [*]; done)), H', ⟨by have := HK1.out; have := HJ20.out; have := HK3.out; omega⟩, ⟨by (try simp only [hl4_20]); (try simp only [hl4_3]); (with_reducible repeat (first | apply Kd.S_alloc | apply Kd.S_drewN | apply Kd.S_drew)); exact HO_3.out⟩, ⟨by (try simp only [hl4_20]); (try simp only [hl4_3]); (with_reducible repeat (first | apply Kd.S_alloc | apply Kd.S_drewN | apply Kd.S_drew)); exact HO_4.out⟩, ⟨by (try simp only [hl4_20]); (try simp only [hl4_3]); (with_reducible repeat (first | apply Kd.R_alloc | apply Kd.R_drewN | apply Kd.R_drew)); exact HO_48.out⟩, ⟨by (try simp only [hl4_20]); (try simp only [hl4_3]); (with_reducible repeat (first | refine blk_drewN ?_ _ | refine blk_drew ?_ | refine blk_alloc ?_ _)); exact BK142.out⟩, ⟨by (try simp only [hl4_20]); (try simp only [hl4_3]); (with_reducible repeat (first | refine blk_drewN ?_ _ | refine blk_drew ?_ | refine blk_alloc ?_ _)); exact BK150.out⟩, ⟨by repeat (first | (with_reducible first | exact HB.out | apply below_alloc | apply pw_below_drewN | apply below_drew1 | refine below_set ?_ GE142.out | refine below_set ?_ GE150.out) | exact HB.out)⟩⟩
                                          · rw [if_neg c48] at H
                                            exact absurd H (by simp)
                                        · rw [if_neg c47] at H
                                          exact absurd H (by simp)
                                      · rw [if_neg c46] at H
                                        exact absurd H (by simp)
                                    · rw [if_neg c45] at H
                                      exact absurd H (by simp)
                                  · rw [if_neg c44] at H
                                    exact absurd H (by simp)
                                · rw [if_neg c43] at H
                                  exact absurd H (by simp)
                              · rw [if_neg c42] at H
                                have c42b0 : decide (x50_3 < (x7_20.length : Int)) = false := decide_eq_false c42
                                (try (have c42z0 := c42b0; simp only [hl4_20, hl4_3] at c42z0))
                                clear c42
                                have H' := Aside0.mk H
                                clear H
                                go_wp2
                                (try simp only [← hl4_20, ← hl4_3])
                                go_roundg k3
                                case measure => have := HK1.out; have := HJ20.out; have := HK3.out; omega
                                case rel => exact ⟨(x4_3), (wrap64 (x20_1 + 1)), (by first | rfl | (simp; done) | (simp [*]; done)), H', ⟨by have := HK1.out; have := HJ20.out; have := HK3.out; omega⟩, ⟨by (try simp only [hl4_20]); (try simp only [hl4_3]); (with_reducible repeat (first | apply Kd.S_alloc | apply Kd.S_drewN | apply Kd.S_drew)); exact Kd.S_mono HO_3.out (fun _ hk => trivial)⟩, ⟨by (try simp only [hl4_20]); (try simp only [hl4_3]); (with_reducible repeat (first | apply Kd.S_alloc | apply Kd.S_drewN | apply Kd.S_drew)); exact HO_4.out⟩, ⟨by (try simp only [hl4_20]); (try simp only [hl4_3]); (with_reducible repeat (first | refine blk_drewN ?_ _ | refine blk_drew ?_ | refine blk_alloc ?_ _)); exact BK142.out⟩, ⟨by repeat (first | (with_reducible first | exact HB.out | apply below_alloc | apply pw_below_drewN | apply below_drew1 | refine below_set ?_ GE142.out | refine below_set ?_ GE150.out) | exact HB.out)⟩⟩
                    · rw [if_neg c18] at H
                      exact absurd H (by simp)
                  · rw [if_neg c17] at H
                    exact absurd H (by simp)
                · rw [if_neg c16] at H
                  exact absurd H (by simp)
              · rw [if_neg c14] at H
                exact absurd H (by simp)
            · rw [if_neg c13] at H
              exact absurd H (by simp)
          · rw [if_neg c12] at H
            have c12b0 : decide (x20_1 < (l0_4.length : Int)) = false := decide_eq_false c12
            clear c12
            obtain rfl := Option.some.inj H
            go_wp2
            go_ret
            exact ⟨_, by first | rfl | (simp [errW_none, errW_some] <;> rfl) | (simp [*, errW_none, errW_some] <;> rfl), by (with_reducible repeat (first | apply Kd.S_alloc | apply Kd.S_drewN | apply Kd.S_drew)); exact HO_4.out, by repeat (first | (with_reducible first | exact HB.out | apply below_alloc | apply pw_below_drewN | apply below_drew1 | refine below_set ?_ GE142.out) | exact HB.out)⟩
    · rw [if_neg c4] at H
      exact absurd H (by simp)
  · rw [if_neg c3] at H
    exact absurd H (by simp)
end Go.Proofs.Ytfdcfihcfegekaa.P
end

section
namespace Go.Proofs.Ytfdcfihcfegekaa.P
open Go.RowKit Go.Proofs.YtfdcfihcfegekaaW.PrintWords Go.Proofs.YtfdcfihcfegekaaW.PrintLast Go.Proofs.YtfdcfihcfegekaaW.PrintMore Go.Proofs.Ytfdcfihcfegekaa.R
set_option linter.unusedVariables false
set_option linter.unusedSimpArgs false
def prStep (b : List (List Bool)) (r look i : Nat) (p : S30) (st : Int × List (S50)) : Int × List (S50) :=
  if p.f0 = (r : Int) ∧ (b.getD i []).getD look false = true then (if st.1 < 0 then ((i : Int), st.2) else (st.1, st.2 ++ [⟨(r : Int), (look : Int), st.1, (i : Int)⟩])) else st
def prIn (b : List (List Bool)) (r look : Nat) : Nat → List (S30) → Int × List (S50) → Int × List (S50)
  | _, [], st => st
  | i, p :: ps, st => prIn b r look (i + 1) ps (prStep b r look i p st)
def prRow (b : List (List Bool)) (ps : List (S30)) (r : Nat) : Nat → Nat → List Int × List (S50) → List Int × List (S50)
  | 0, _, st => st
  | n + 1, look, st => prRow b ps r n (look + 1) (st.1.set look (prIn b r look 0 ps (st.1.getD look 0, st.2)).1, (prIn b r look 0 ps (st.1.getD look 0, st.2)).2)
def prAll (b : List (List Bool)) (ps : List (S30)) : Nat → Nat → List (List Int) × List (S50) → List (List Int) × List (S50)
  | 0, _, st => st
  | n + 1, r, st => prAll b ps n (r + 1) (st.1.set r (prRow b ps r (st.1.getD r []).length 0 (st.1.getD r [], st.2)).1, (prRow b ps r (st.1.getD r []).length 0 (st.1.getD r [], st.2)).2)
theorem prStep_le (b : List (List Bool)) (r look i : Nat) (p : S30) (st : Int × List (S50)) : st.2.length ≤ (prStep b r look i p st).2.length := by
  unfold prStep; split
  · split <;> simp
  · exact Nat.le_refl _
theorem prIn_le (b : List (List Bool)) (r look : Nat) : ∀ (ps : List (S30)) (i : Nat) (st : Int × List (S50)), st.2.length ≤ (prIn b r look i ps st).2.length
  | [], _, _ => Nat.le_refl _
  | p :: ps, i, st => Nat.le_trans (prStep_le b r look i p st) (prIn_le b r look ps (i + 1) _)
theorem prRow_le (b : List (List Bool)) (ps : List (S30)) (r : Nat) : ∀ (n look : Nat) (st : List Int × List (S50)), st.2.length ≤ (prRow b ps r n look st).2.length
  | 0, _, _ => Nat.le_refl _
  | n + 1, look, st => Nat.le_trans (prIn_le b r look ps 0 (st.1.getD look 0, st.2)) (prRow_le b ps r n (look + 1) (st.1.set look (prIn b r look 0 ps (st.1.getD look 0, st.2)).1, (prIn b r look 0 ps (st.1.getD look 0, st.2)).2))
theorem prAll_le (b : List (List Bool)) (ps : List (S30)) : ∀ (n r : Nat) (st : List (List Int) × List (S50)), st.2.length ≤ (prAll b ps n r st).2.length
  | 0, _, _ => Nat.le_refl _
  | n + 1, r, st => Nat.le_trans (prRow_le b ps r (st.1.getD r []).length 0 (st.1.getD r [], st.2)) (prAll_le b ps n (r + 1) (st.1.set r (prRow b ps r (st.1.getD r []).length 0 (st.1.getD r [], st.2)).1, (prRow b ps r (st.1.getD r []).length 0 (st.1.getD r [], st.2)).2))
theorem prIn_drop (b : List (List Bool)) (r look i : Nat) (ps : List (S30)) (hi : i < ps.length) (st : Int × List (S50)) : prIn b r look i (ps.drop i) st = prIn b r look (i + 1) (ps.drop (i + 1)) (prStep b r look i ps[i] st) := by
  rw [List.drop_eq_getElem_cons hi]; rfl
def prOk (b : List (List Bool)) (ps : List (S30)) (out : List (List Int)) : Bool := decide (ps.length = b.length) && out.all (fun row => decide (row.length ≤ 1000000) && b.all (fun x => decide (row.length ≤ x.length)))
theorem prOk_get {b : List (List Bool)} {ps : List (S30)} {out : List (List Int)} (h : prOk b ps out = true) {r : Nat} (hr : r < out.length) {i : Nat} (hi : i < ps.length) : i < b.length ∧ (out.getD r []).length ≤ 1000000 ∧ (out.getD r []).length ≤ (b.getD i []).length := by
  unfold prOk at h
  simp only [Bool.and_eq_true, decide_eq_true_eq, List.all_eq_true] at h
  have hb : i < b.length := by omega
  rw [List.getD_eq_getElem?_getD, List.getElem?_eq_getElem hr, List.getD_eq_getElem?_getD, List.getElem?_eq_getElem hb]
  have := h.2 _ (List.getElem_mem hr)
  exact ⟨hb, this.1, this.2 _ (List.getElem_mem hb)⟩
theorem prOk_row {b : List (List Bool)} {ps : List (S30)} {out : List (List Int)} (h : prOk b ps out = true) {r : Nat} (hr : r < out.length) : (out.getD r []).length ≤ 1000000 := by
  unfold prOk at h
  simp only [Bool.and_eq_true, decide_eq_true_eq, List.all_eq_true] at h
  rw [List.getD_eq_getElem?_getD, List.getElem?_eq_getElem hr]
  exact (h.2 _ (List.getElem_mem hr)).1
theorem set_set {α : Type} (l : List α) (i : Nat) (x y : α) : (l.set i x).set i y = l.set i y := by simp
theorem get_set {α : Type} {l : List α} {i : Nat} (x d : α) (h : i < l.length) : (l.set i x).getD i d = x := by
  rw [List.getD_eq_getElem?_getD, List.getElem?_set_self h]; rfl
theorem set_get {α : Type} (l : List α) (i : Nat) (d : α) (h : i < l.length) : l.set i (l.getD i d) = l := by
  rw [List.getD_eq_getElem?_getD, List.getElem?_eq_getElem h]; simp
theorem lens_set {m : List (List Int)} {L : Nat → Nat} (h : ∀ i, (m.getD i []).length = L i) {r : Nat} {row : List Int} (hr : row.length = L r) (i : Nat) : ((m.set r row).getD i []).length = L i := by
  by_cases hi : r = i
  · subst hi
    by_cases hl : r < m.length
    · rw [get_set _ _ hl]; exact hr
    · rw [List.set_eq_of_length_le (by omega)]; exact h r
  · rw [List.getD_eq_getElem?_getD, List.getElem?_set_ne hi, ← List.getD_eq_getElem?_getD]; exact h i
def predict_Predict.f (k : Nat) (l0_0 : List ByteArray) (l0_1 : List (S61)) (a0_2 : Int) (a0_3 : Int) (l0_4 : List (S30)) : Option (List (List Int) × List (S50)) :=
  (firsts_Right.f l0_0 l0_1 a0_2 a0_3 l0_4).bind fun rt => if rt = true then (predict_chosen.f k l0_0 l0_1 a0_2 a0_3 l0_4).bind fun b => (predict_rows.f k l0_0 l0_1 a0_2 a0_3 l0_4).bind fun out => if prOk b l0_4 out = true ∧ l0_4.length ≤ 1000000 ∧ out.length ≤ 1000000 ∧ (prAll b l0_4 out.length 0 (out, [])).2.length ≤ 1000000 then some (prAll b l0_4 out.length 0 (out, [])) else none else some ([], [])
theorem predict_Predict.mono : ∀ (l0_0 : List ByteArray) (l0_1 : List (S61)) (a0_2 : Int) (a0_3 : Int) (l0_4 : List (S30)) k, LeO (predict_Predict.f k l0_0 l0_1 a0_2 a0_3 l0_4) (predict_Predict.f (k + 1) l0_0 l0_1 a0_2 a0_3 l0_4) := by
  intro l0_0 l0_1 a0_2 a0_3 l0_4 k
  unfold predict_Predict.f
  exact LeO.bind (LeO.refl _) (fun _ => LeO.ite (LeO.bind (predict_chosen.mono _ _ _ _ _ _) (fun _ => LeO.bind (predict_rows.mono _ _ _ _ _ _) (fun _ => LeO.refl _))) (LeO.refl _))
set_option maxHeartbeats 4000000 in
set_option maxRecDepth 100000 in
theorem predict_Predict.calls (k : Nat) (A0_0 : Option Addr) (c0_0 : Nat) (l0_0 : List ByteArray) (A0_1 : Option Addr) (c0_1 : Nat) (l0_1 : List (S61)) (a0_2 : Int) (a0_3 : Int) (A0_4 : Option Addr) (c0_4 : Nat) (l0_4 : List (S30)) (r1 : List (List Int)) (r2 : List (S50)) (w : World) (hr0_0 : Kd.C Kd.string w A0_0 l0_0.length l0_0) (hc0_0 : l0_0.length ≤ c0_0) (hr0_1 : Kd.C k61 w A0_1 l0_1.length l0_1) (hc0_1 : l0_1.length ≤ c0_1) (hr0_4 : Kd.C k30 w A0_4 l0_4.length l0_4) (hc0_4 : l0_4.length ≤ c0_4) (h : predict_Predict.f k l0_0 l0_1 a0_2 a0_3 l0_4 = some (r1, r2)) :
    Calls Try.prog 13 #[.agg #[.slice A0_0 l0_0.length c0_0, .slice A0_1 l0_1.length c0_1, .int .i64 a0_2, .int .i64 a0_3, .slice A0_4 l0_4.length c0_4]] w fun e w' => ∃ v0_ v1_ : Value, e = .returned (.tuple #[v0_, v1_]) ∧ Kd.S (Kd.slice 3 (Kd.int .i64)) 43 w' w.heap.size (fun _ => True) v0_ r1 ∧ Kd.R k50 50 w' w.heap.size (fun _ => True) v1_ r2 ∧ Below w.heap.size w w' := by
  obtain ⟨rt, hrt, h2⟩ := Option.bind_eq_some_iff.1 h
  have HRT := Aside0.mk hrt
  clear h hrt
  have HA1 : Aside0 (Below w.heap.size w (w.alloc (.cells #[.slice A0_0 l0_0.length c0_0, .slice A0_1 l0_1.length c0_1, .int .i64 a0_2, .int .i64 a0_3, .slice A0_4 l0_4.length c0_4] 26))) := ⟨(Below.refl _ w).alloc (Nat.le_refl _) _⟩
  have HC : Aside0 (∀ W, Below (w.heap.size + 1) (w.alloc (.cells #[.slice A0_0 l0_0.length c0_0, .slice A0_1 l0_1.length c0_1, .int .i64 a0_2, .int .i64 a0_3, .slice A0_4 l0_4.length c0_4] 26)) W → W.cell? ⟨w.heap.size, 0, none⟩ = some (.slice A0_0 l0_0.length c0_0) ∧ W.cell? ⟨w.heap.size, 1, none⟩ = some (.slice A0_1 l0_1.length c0_1) ∧ W.cell? ⟨w.heap.size, 2, none⟩ = some (.int .i64 a0_2) ∧ W.cell? ⟨w.heap.size, 3, none⟩ = some (.int .i64 a0_3) ∧ W.cell? ⟨w.heap.size, 4, none⟩ = some (.slice A0_4 l0_4.length c0_4)) := ⟨fun W hW => ⟨(hW.cell (p := ⟨w.heap.size, 0, none⟩) (by simp)).trans (by simp), (hW.cell (p := ⟨w.heap.size, 1, none⟩) (by simp)).trans (by simp), (hW.cell (p := ⟨w.heap.size, 2, none⟩) (by simp)).trans (by simp), (hW.cell (p := ⟨w.heap.size, 3, none⟩) (by simp)).trans (by simp), (hW.cell (p := ⟨w.heap.size, 4, none⟩) (by simp)).trans (by simp)⟩⟩
  cases rt with
  | false =>
    rw [if_neg (by simp)] at h2
    obtain ⟨rfl, rfl⟩ := Prod.mk.inj (Option.some.inj h2)
    clear h2
    go_enter Try.func13, Try.ntmps13
    go_wp2_with (go_at_call 22; (with_reducible refine (firsts_Right.calls A0_0 c0_0 l0_0 A0_1 c0_1 l0_1 a0_2 a0_3 A0_4 c0_4 l0_4 false _ (Kd.C_below hr0_0 HA1.out) hc0_0 (Kd.C_below hr0_1 HA1.out) hc0_1 (Kd.C_below hr0_4 HA1.out) hc0_4 HRT.out).mono ?_); rintro e w1 ⟨rfl, hb1⟩)
    go_ret2
    exact ⟨_, _, rfl, Kd.S_nil _ _ _ _ _, Kd.R_nil _ _ _ _ _, HA1.out.trans (hb1.mono (by simp))⟩
  | true =>
    rw [if_pos rfl] at h2
    obtain ⟨b, hb, h3⟩ := Option.bind_eq_some_iff.1 h2
    obtain ⟨out, hout, h4⟩ := Option.bind_eq_some_iff.1 h3
    split at h4
    case isFalse => cases h4
    rename_i hg
    have hfin := Option.some.inj h4
    clear h2 h3 h4
    obtain ⟨hok, hps, hon, hbad⟩ := hg
    have HB := Aside0.mk hb
    have HOUT := Aside0.mk hout
    have HOK := Aside0.mk (fun (r : Nat) (hr : r < out.length) (i : Nat) (hi : i < l0_4.length) => prOk_get hok hr hi)
    have HROW := Aside0.mk (fun (r : Nat) (hr : r < out.length) => prOk_row hok hr)
    have HPS := Aside0.mk hps
    have HON := Aside0.mk hon
    have HFIN := Aside0.mk hfin
    have HBAD : Aside0 (r2.length ≤ 1000000) := ⟨by rw [hfin] at hbad; exact hbad⟩
    have HR0 := Aside0.mk hr0_0
    have HR1 := Aside0.mk hr0_1
    have HR4 := Aside0.mk hr0_4
    have HK0 := Aside0.mk (And.intro hc0_0 (And.intro hc0_1 hc0_4))
    have P1 := Aside0.mk (firsts_Right.calls A0_0 c0_0 l0_0 A0_1 c0_1 l0_1 a0_2 a0_3 A0_4 c0_4 l0_4 true _ (Kd.C_below hr0_0 HA1.out) hc0_0 (Kd.C_below hr0_1 HA1.out) hc0_1 (Kd.C_below hr0_4 HA1.out) hc0_4 HRT.out)
    have P2 : Aside0 (∀ W, Below w.heap.size w W → Calls Try.prog 23 #[.agg #[.slice A0_0 l0_0.length c0_0, .slice A0_1 l0_1.length c0_1, .int .i64 a0_2, .int .i64 a0_3, .slice A0_4 l0_4.length c0_4]] W fun e w' => ∃ v0_ : Value, e = .returned (v0_) ∧ Kd.S (Kd.slice 4 Kd.bool) 65 w' W.heap.size (fun _ => True) v0_ b ∧ Below W.heap.size W w') := ⟨fun W hW => predict_chosen.calls k A0_0 c0_0 l0_0 A0_1 c0_1 l0_1 a0_2 a0_3 A0_4 c0_4 l0_4 b W (Kd.C_below HR0.out hW) HK0.out.1 (Kd.C_below HR1.out hW) HK0.out.2.1 (Kd.C_below HR4.out hW) HK0.out.2.2 HB.out⟩
    have P3 : Aside0 (∀ W, Below w.heap.size w W → Calls Try.prog 24 #[.agg #[.slice A0_0 l0_0.length c0_0, .slice A0_1 l0_1.length c0_1, .int .i64 a0_2, .int .i64 a0_3, .slice A0_4 l0_4.length c0_4]] W fun e w' => ∃ v0_ : Value, e = .returned (v0_) ∧ Kd.S (Kd.slice 3 (Kd.int .i64)) 43 w' W.heap.size (fun _ => True) v0_ out ∧ Below W.heap.size W w') := ⟨fun W hW => predict_rows.calls k A0_0 c0_0 l0_0 A0_1 c0_1 l0_1 a0_2 a0_3 A0_4 c0_4 l0_4 out W (Kd.C_below HR0.out hW) HK0.out.1 (Kd.C_below HR1.out hW) HK0.out.2.1 (Kd.C_below HR4.out hW) HK0.out.2.2 HOUT.out⟩
    clear hb hout hok hps hon hfin hbad hr0_0 hr0_1 hr0_4 hc0_0 hc0_1 hc0_4
    go_enter Try.func13, Try.ntmps13
    go_upto_region 5 with (first
      | (go_at_call 22; (with_reducible refine P1.out.mono ?_); rintro e w1 ⟨rfl, hb1⟩; have HB1 := Aside0.mk hb1; obtain ⟨q0, q1, q2, q3, q4⟩ := HC.out w1 (hb1.mono (by simp)); clear P1 hb1)
      | (go_at_call 23; (with_reducible refine (P2.out _ (HA1.out.trans (HB1.out.mono HA1.out.size))).mono ?_); rintro e w2 ⟨v2, rfl, hS2, hb2⟩; have HS2 := Aside0.mk hS2; have HB12 := Aside0.mk hb2; have HB2 : Aside0 (Below w.heap.size w w2) := ⟨(HA1.out.trans (HB1.out.mono HA1.out.size)).trans (hb2.mono (HA1.out.trans (HB1.out.mono HA1.out.size)).size)⟩; have HA2 : Aside0 (Below (w.heap.size + 1) (w.alloc (.cells #[.slice A0_0 l0_0.length c0_0, .slice A0_1 l0_1.length c0_1, .int .i64 a0_2, .int .i64 a0_3, .slice A0_4 l0_4.length c0_4] 26)) w2) := ⟨(HB1.out.mono (by simp)).trans (hb2.mono (by have := HB1.out.size; simp at this; omega))⟩; clear q0 q1 q2 q3 q4; obtain ⟨q0, q1, q2, q3, q4⟩ := HC.out w2 HA2.out; clear P2 hS2 hb2)
      | (go_at_call 24; (with_reducible refine (P3.out _ HB2.out).mono ?_); rintro e w3 ⟨v3, rfl, hS3, hb3⟩; have HS3 := Aside0.mk hS3; have HB3 := Aside0.mk hb3; clear P3 hS3 hb3))
    obtain ⟨Ab, cb, rfl⟩ := Kd.S_slice HS2.out
    obtain ⟨Ao, co, rfl⟩ := Kd.S_slice HS3.out
    have CB : Aside0 (∀ W, Below w2.heap.size w2 W → Kd.C (Kd.slice 4 Kd.bool) W Ab b.length b) := ⟨fun W hW => Kd.C_below (Kd.S_reads' HS2.out).2.2 hW⟩
    have CP : Aside0 (∀ W, Below w2.heap.size w2 W → Kd.C k30 W A0_4 l0_4.length l0_4) := ⟨fun W hW => Kd.C_below HR4.out (HB2.out.trans (hW.mono HB2.out.size))⟩
    have HQ : Aside0 (∀ W, Below w2.heap.size w2 W → W.cell? ⟨w.heap.size, 4, none⟩ = some (.slice A0_4 l0_4.length c0_4)) := ⟨fun W hW => (HC.out W (HA2.out.trans (hW.mono (by have := HA2.out.size; simp at this; omega)))).2.2.2.2⟩
    clear q0 q1 q2 q3 q4 HS2 HC HA2 HB12 HB1 HA1 HB HOUT HR0 HR1 HR4 HK0 HRT
    have HLO := (Kd.S_reads' HS3.out).2.1
    have HLO := Aside0.mk HLO
    have HBASE := Aside0.mk HB2.out.size
    go_wp2
    go_loopg [3, 19] out.length (fun kq v3 v19 wr => ∃ (r : Nat) (m : List (List Int)) (bad : List (S50)), v19 = .int .i64 (r : Int) ∧ r ≤ out.length ∧ out.length - r ≤ kq ∧ Aside0 (prAll b l0_4 (out.length - r) r (m, bad) = (r1, r2)) ∧ Aside0 (m.length = out.length ∧ ∀ i, (m.getD i []).length = (out.getD i []).length) ∧ Aside0 (Kd.S (Kd.slice 3 (Kd.int .i64)) 43 wr w2.heap.size (fun _ => True) (.slice Ao out.length co) m) ∧ Aside0 (Kd.R k50 50 wr w2.heap.size (fun _ => True) v3 bad) ∧ Aside0 (Below w2.heap.size w2 wr))
    case atStart => exact ⟨0, out, [], rfl, by omega, by omega, HFIN, ⟨rfl, fun _ => rfl⟩, HS3, ⟨Kd.R_nil _ _ _ _ _⟩, HB3⟩
    case round =>
      obtain ⟨r, m, bad, rfl, hr, hkq, HF, HM, HS, HRB, HBR⟩ := hrel
      have hwr : IntKind.i64.wrap ((r : Int) + 1) = (r : Int) + 1 := by rw [IntKind.wrap_i64]; have := HON.out; omega
      by_cases hlt : r < out.length
      · have d0 : decide ((r : Int) < (out.length : Int)) = true := decide_eq_true (by omega)
        have d1 : decide (r < out.length) = true := decide_eq_true hlt
        obtain ⟨ado, A6, c6, rfl, hc6, hl6, hC6⟩ := at_rows (Kd.S_reads' HS.out).2.2 (r : Int) (by omega) (by have := HM.out.1; omega)
        rw [Int.toNat_natCast, HM.out.2 r] at hc6
        have HLT := Aside0.mk hlt
        have HKQ := Aside0.mk hkq
        have HC6 := Aside0.mk hc6
        have p0 : (0 ≤ (r : Int)) = True := eq_true (by omega)
        have p1 : ((r : Int) < (out.length : Int)) = True := eq_true (by omega)
        have p2 : (r < out.length) = True := eq_true hlt
        clear hlt hkq hl6 hC6 hr
        obtain ⟨nr, enr⟩ : ∃ nr, nr = (out.getD r []).length := ⟨_, rfl⟩
        have hnr : nr ≤ 1000000 := by rw [enr]; exact HROW.out r HLT.out
        have HNR := Aside0.mk hnr
        have hlens := HM.out.2
        have HLEN : Aside0 (m.length = out.length ∧ ∀ i, (m.getD i []).length = (out.getD i []).length) := ⟨HM.out⟩
        have HBROW : Aside0 (∀ i, i < l0_4.length → i < b.length ∧ nr ≤ (b.getD i []).length) := ⟨fun i hi => ⟨(HOK.out r HLT.out i hi).1, by rw [enr]; exact (HOK.out r HLT.out i hi).2.2⟩⟩
        have HMR : Aside0 ((m.getD r []).length = nr) := ⟨by rw [enr]; exact HM.out.2 r⟩
        rw [← enr] at hc6 HC6
        have HENR := Aside0.mk enr
        have h1 : prAll b l0_4 (out.length - (r + 1)) (r + 1) (m.set r (prRow b l0_4 r nr 0 (m.getD r [], bad)).1, (prRow b l0_4 r nr 0 (m.getD r [], bad)).2) = (r1, r2) := by
          have h := HF.out
          rw [show out.length - r = out.length - (r + 1) + 1 by have := HLT.out; omega] at h
          rw [← HMR.out]
          exact h
        obtain ⟨K1, eK1⟩ : ∃ K : List Int × List (S50) → Prop, K = fun x => prAll b l0_4 (out.length - (r + 1)) (r + 1) (m.set r x.1, x.2) = (r1, r2) := ⟨_, rfl⟩
        have HK1 : Aside0 (K1 (prRow b l0_4 r nr 0 (m.getD r [], bad))) := ⟨by rw [eK1]; exact h1⟩
        have HB1 : Aside0 (∀ x, K1 x → x.2.length ≤ 1000000) := ⟨fun x hx => by rw [eK1] at hx; have h := prAll_le b l0_4 (out.length - (r + 1)) (r + 1) (m.set r x.1, x.2); rw [hx] at h; exact Nat.le_trans h HBAD.out⟩
        have EK1 := Aside0.mk eK1
        have HS0 : Aside0 (Kd.S (Kd.slice 3 (Kd.int .i64)) 43 wr w2.heap.size (fun _ => True) (.slice (some ado) out.length co) (m.set r (m.getD r []))) := ⟨by rw [set_get _ _ _ (by have := HLEN.out.1; have := HLT.out; omega)]; exact HS.out⟩
        clear h1 eK1 enr hnr hlens
        go_wp2
        go_loopg [3, 26] nr (fun kq v3 v26 wr => ∃ (look : Nat) (row : List Int) (bad : List (S50)), v26 = .int .i64 (look : Int) ∧ look ≤ nr ∧ nr - look ≤ kq ∧ Aside0 (K1 (prRow b l0_4 r (nr - look) look (row, bad))) ∧ Aside0 (row.length = nr) ∧ Aside0 (Kd.S (Kd.slice 3 (Kd.int .i64)) 43 wr w2.heap.size (fun _ => True) (.slice (some ado) out.length co) (m.set r row)) ∧ Aside0 (Kd.R k50 50 wr w2.heap.size (fun _ => True) v3 bad) ∧ Aside0 (Below w2.heap.size w2 wr) ∧ Aside0 (wr.cell? (ado.add r) = some (.slice A6 nr c6)))
        case atStart => exact ⟨0, m.getD r [], bad, rfl, by omega, by omega, HK1, HMR, HS0, HRB, HBR, HC6⟩
        case round =>
          clear HS HRB HBR HC6 HS0 HK1
          obtain ⟨look, row, bad, rfl, hlk, hkq, HK1, HRL, HS, HRB, HBR, HC6⟩ := hrel
          have hwl : IntKind.i64.wrap ((look : Int) + 1) = (look : Int) + 1 := by rw [IntKind.wrap_i64]; have := HNR.out; omega
          by_cases hlt2 : look < nr
          · have d2 : decide ((look : Int) < (nr : Int)) = true := decide_eq_true (by omega)
            have d3 : decide (look < nr) = true := decide_eq_true hlt2
            have HLT2 := Aside0.mk hlt2
            have HKQ2 := Aside0.mk hkq
            clear hlt2 hkq hlk
            obtain ⟨K2, eK2⟩ : ∃ K : Int × List (S50) → Prop, K = fun y => K1 (prRow b l0_4 r (nr - (look + 1)) (look + 1) (row.set look y.1, y.2)) := ⟨_, rfl⟩
            have HK2 : Aside0 (K2 (prIn b r look 0 l0_4 (row.getD look 0, bad))) := ⟨by
              rw [eK2]
              have h := HK1.out
              rw [show nr - look = nr - (look + 1) + 1 by have := HLT2.out; omega] at h
              exact h⟩
            have HB2' : Aside0 (∀ y, K2 y → y.2.length ≤ 1000000) := ⟨fun y hy => by rw [eK2] at hy; exact Nat.le_trans (prRow_le b l0_4 r (nr - (look + 1)) (look + 1) (row.set look y.1, y.2)) (HB1.out _ hy)⟩
            have EK2 := Aside0.mk eK2
            have HS0 : Aside0 (Kd.S (Kd.slice 3 (Kd.int .i64)) 43 wr w2.heap.size (fun _ => True) (.slice (some ado) out.length co) (m.set r (row.set look (row.getD look 0)))) := ⟨by rw [set_get _ _ _ (by have := HRL.out; have := HLT2.out; omega)]; exact HS.out⟩
            have k0 : (0 ≤ (look : Int)) = True := eq_true (by omega)
            have k1 : ((look : Int) < (nr : Int)) = True := eq_true (by have := HLT2.out; omega)
            have k2 : (look < nr) = True := eq_true HLT2.out
            clear eK2
            obtain ⟨q4⟩ := Aside0.mk (HQ.out wr HBR.out)
            go_wp2
            go_step3
            go_wp2
            go_step3
            go_wp2
            go_loopg [3, 32] l0_4.length (fun kq v3 v32 wr => ∃ (i : Nat) (x : Int) (bad : List (S50)), v32 = .int .i64 (i : Int) ∧ i ≤ l0_4.length ∧ l0_4.length - i ≤ kq ∧ Aside0 (K2 (prIn b r look i (l0_4.drop i) (x, bad))) ∧ Aside0 (Kd.S (Kd.slice 3 (Kd.int .i64)) 43 wr w2.heap.size (fun _ => True) (.slice (some ado) out.length co) (m.set r (row.set look x))) ∧ Aside0 (Kd.R k50 50 wr w2.heap.size (fun _ => True) v3 bad) ∧ Aside0 (Below w2.heap.size w2 wr) ∧ Aside0 (wr.cell? (ado.add r) = some (.slice A6 nr c6)))
            case atStart => exact ⟨0, row.getD look 0, bad, rfl, by omega, by omega, HK2, HS0, HRB, HBR, HC6⟩
            case round =>
              clear HS HRB HBR HC6 HS0 HK2 q4
              obtain ⟨i, x, bad, rfl, hii, hkq, HK2, HS, HRB, HBR, HC6⟩ := hrel
              have hwi : IntKind.i64.wrap ((i : Int) + 1) = (i : Int) + 1 := by rw [IntKind.wrap_i64]; have := HPS.out; omega
              by_cases hlt3 : i < l0_4.length
              · have d4 : decide ((i : Int) < (l0_4.length : Int)) = true := decide_eq_true (by omega)
                have d5 : decide (i < l0_4.length) = true := decide_eq_true hlt3
                have HLT3 := Aside0.mk hlt3
                have HKQ3 := Aside0.mk hkq
                have i0 : (0 ≤ (i : Int)) = True := eq_true (by omega)
                have i1 : ((i : Int) < (l0_4.length : Int)) = True := eq_true (by omega)
                have i2 : (i < l0_4.length) = True := eq_true hlt3
                clear hlt3 hkq hii
                obtain ⟨hib, hnb⟩ := HBROW.out i HLT3.out
                have j0 : ((i : Int) < (b.length : Int)) = True := eq_true (by omega)
                have j1 : (i < b.length) = True := eq_true hib
                have hlk := HLT2.out
                have j2 : ((look : Int) < ((b.getD i []).length : Int)) = True := eq_true (by omega)
                have j3 : (look < (b.getD i []).length) = True := eq_true (by omega)
                obtain ⟨adp, A9, c9, eap, e0, e1, _, hC9⟩ := at_T30 (CP.out wr HBR.out) (i : Int) (by omega) (by have := HLT3.out; omega)
                rw [Int.toNat_natCast] at e0 e1
                have hrdp : rd_T30 l0_4 (i : Int) = l0_4[i]'HLT3.out := by simp [rd_T30, HLT3.out]
                rw [hrdp] at e0 e1
                have HSTEP : Aside0 (prIn b r look i (l0_4.drop i) (x, bad) = prIn b r look (i + 1) (l0_4.drop (i + 1)) (prStep b r look i (l0_4[i]'HLT3.out) (x, bad))) := ⟨prIn_drop b r look i l0_4 HLT3.out (x, bad)⟩
                clear hC9 hrdp
                generalize l0_4[i]'HLT3.out = p at e0 e1 HSTEP
                obtain ⟨left, right⟩ := p
                simp only at e0 e1
                cases eap
                go_upto_region 15 with fail
                have HPB : Aside0 ((wr.alloc (.cells #[.int .i64 left, .slice A9 right.length c9] 30)).heap[wr.heap.size]? = some (.cells #[.int .i64 left, .slice A9 right.length c9] 30 (0, 0))) := ⟨heap_alloc_new wr _⟩
                have hb5 : Below wr.heap.size wr (wr.alloc (.cells #[.int .i64 left, .slice A9 right.length c9] 30)) := below_alloc (Below.refl _ _) _
                have HBR5 : Aside0 (Below w2.heap.size w2 (wr.alloc (.cells #[.int .i64 left, .slice A9 right.length c9] 30))) := ⟨HBR.out.trans (hb5.mono HBR.out.size)⟩
                have HS5 := Aside0.mk (Kd.S_below HS.out hb5)
                have HRB5 := Aside0.mk (Kd.R_below HRB.out hb5)
                have HC65 := Aside0.mk (pw_cell_below hb5 HC6.out)
                generalize wr.alloc (.cells #[.int .i64 left, .slice A9 right.length c9] 30) = w5 at HPB hb5 HBR5 HS5 HRB5 HC65 ⊢
                generalize wr.heap.size = PB at HPB ⊢
                clear hb5 HS HRB HBR HC6 e0 e1
                obtain ⟨gq, gv, cv, eg, hcg, _, hcx, hfx, hgb, hgl, hgne, hgt, hset⟩ := S_cell HS5.out r look (by rw [List.length_set]; have := HLEN.out.1; have := HLT.out; omega) (by rw [get_set _ _ (by have := HLEN.out.1; have := HLT.out; omega), List.length_set, HRL.out]; exact hlk)
                have hml : r < m.length := by have := HLEN.out.1; have := HLT.out; omega
                have hrl : look < row.length := by rw [HRL.out]; exact hlk
                simp only [get_set _ _ hml, List.length_set, HRL.out, get_set _ _ hrl, set_set] at hcg hcx hset
                have HADO : Aside0 (ado = ⟨gq, 0, none⟩) := ⟨Option.some.inj eg⟩
                clear eg
                have hc6' : w5.cell? ⟨gq, r, none⟩ = some (.slice A6 nr c6) := by rw [← add_plain, ← HADO.out]; exact HC65.out
                rw [hc6'] at hcg
                injection hcg with hcg
                injection hcg with hA6 _ hc6e
                subst hA6 hc6e
                obtain ⟨adb, Ar, cr, eab, hcb, _, hCr⟩ := at_rows (CB.out w5 HBR5.out) (i : Int) (by omega) (by omega)
                rw [Int.toNat_natCast] at hcb hCr
                obtain ⟨adr, ear, hcy⟩ := Kd.at_bool hCr (look : Int) (by omega) (by omega)
                rw [Int.toNat_natCast, show rdOf false (b.getD i []) (look : Int) = (b.getD i []).getD look false by simp [rdOf]] at hcy
                cases eab; cases ear
                clear hCr hib hnb hml hrl hc6'
                have HSET := Aside0.mk hset
                have HGV := Aside0.mk (And.intro hgb (And.intro hgl hgne))
                generalize hy : (b.getD i []).getD look false = y at hcy HSTEP
                generalize (b.getD i []).length = nb at *
                have HSTP : Aside0 (prStep b r look i ⟨left, right⟩ (x, bad) = if left = (r : Int) ∧ y = true then (if x < 0 then ((i : Int), bad) else (x, bad ++ [⟨(r : Int), (look : Int), x, (i : Int)⟩])) else (x, bad)) := ⟨by rw [prStep, hy]⟩
                obtain ⟨cellsT, hgt⟩ := hgt; have HGT := Aside0.mk hgt
                clear hset hgb hgl hgne hgt hy hlk
                have hpb0 := (blk_cell HPB.out 0).trans (show (#[Value.int .i64 left, .slice A9 right.length c9])[0]? = some (.int .i64 left) from rfl)
                have l0 : (0 ≤ (look : Int)) = True := k0
                by_cases hl : left = (r : Int)
                · subst hl
                  have y1 : ((r : Int) == (r : Int)) = true := by simp
                  have y2 : ((r : Int) != (r : Int)) = false := by simp
                  cases y with
                  | false =>
                    have HNX : Aside0 (K2 (prIn b r look (i + 1) (l0_4.drop (i + 1)) (x, bad))) := ⟨by have h := HK2.out; rw [HSTEP.out, HSTP.out, if_neg (by simp)] at h; exact h⟩
                    go_wp2
                    go_roundg (l0_4.length - (i + 1))
                    case measure => have := HKQ3.out; have := HLT3.out; omega
                    case rel => exact ⟨i + 1, x, bad, rfl, by have := HLT3.out; omega, Nat.le_refl _, HNX, HS5, HRB5, HBR5, HC65⟩
                  | true =>
                    by_cases hx : x < 0
                    · have x1 : decide (x < 0) = true := decide_eq_true hx
                      have HNX : Aside0 (K2 (prIn b r look (i + 1) (l0_4.drop (i + 1)) ((i : Int), bad))) := ⟨by have h := HK2.out; rw [HSTEP.out, HSTP.out, if_pos ⟨rfl, rfl⟩, if_pos hx] at h; exact h⟩
                      clear hx
                      go_wp2
                      go_roundg (l0_4.length - (i + 1))
                      case measure => have := HKQ3.out; have := HLT3.out; omega
                      case rel => exact ⟨i + 1, (i : Int), bad, rfl, by have := HLT3.out; omega, Nat.le_refl _, HNX, ⟨HSET.out (i : Int)⟩, ⟨Kd.R_set HRB5.out HGT.out (by decide) look _⟩, ⟨below_set HBR5.out HGV.out.1⟩, ⟨by rw [HADO.out, add_plain, cell_far (by show gq ≠ gv; exact (Ne.symm HGV.out.2.2)), ← add_plain, ← HADO.out]; exact HC65.out⟩⟩
                    · have x1 : decide (x < 0) = false := decide_eq_false hx
                      have HNX : Aside0 (K2 (prIn b r look (i + 1) (l0_4.drop (i + 1)) (x, bad ++ [⟨(r : Int), (look : Int), x, (i : Int)⟩]))) := ⟨by have h := HK2.out; rw [HSTEP.out, HSTP.out, if_pos ⟨rfl, rfl⟩, if_neg hx] at h; exact h⟩
                      have HLB : Aside0 (bad.length + 1 ≤ 1000000) := ⟨by
                        have h1 := HB2'.out _ HNX.out
                        have h2 := prIn_le b r look (l0_4.drop (i + 1)) (i + 1) (x, bad ++ [⟨(r : Int), (look : Int), x, (i : Int)⟩])
                        simp only [List.length_append, List.length_cons, List.length_nil] at h2
                        omega⟩
                      clear hx
                      go_wp2_with (first | ((with_reducible refine gate_builtin (b := .append) (xs := #[.tmp 37, .tmp 46]) rfl ?_); at_builtin; refine Kd.R_append k50 (w0 := w2) w2.heap.size rfl (.tmp 37) (.tmp 46) 37 50 (.agg #[(.int .i64 0), (.int .i64 0), (.int .i64 0), (.int .i64 0)]) 32 rfl Try.underlying37 info50 rfl (by decide) (by omega) u3 bad (⟨(r : Int), (look : Int), x, (i : Int)⟩ : S50) [.int .i64 (r : Int), .int .i64 (look : Int), .int .i64 x, .int .i64 (i : Int)] (fun _ => True) (fun _ => False) rfl rfl ?aP (fun _ hk => hk.elim) ?aF ?aO ?aB ?aS ?aL ?_; (case aP => exact k50_mkM _ _ _ (⟨(r : Int), (look : Int), x, (i : Int)⟩ : S50)); (case aB => exact HBR5.out); (case aF => exact (fun _ _ => trivial)); (case aO => exact HRB5.out); (case aS => exact HBR5.out.size); (case aL => have := HLB.out; omega); intro v6 w6 ho hb hg hat; have HO6 := Aside0.mk ho; have HB6 := Aside0.mk hb; have HS6 := Aside0.mk (Kd.S_over' HS5.out (Kd.R_typed HRB5.out) (by decide) hg); have HG6 := Aside0.mk hg; clear ho hb hg hat))
                      have HC66 : Aside0 (w6.cell? (ado.add r) = some (.slice (some ⟨gv, 0, none⟩) nr c6)) := ⟨by
                        obtain ⟨gs, cps, es, _, _, cellsS, hbs⟩ := Kd.S_form HS5.out (by rw [List.length_set]; have := HLEN.out.1; have := HLT.out; omega)
                        have hgs : ado.block = gs := by injection es with es; injection es with es; rw [es]
                        have hne : u3.ownBlock ≠ some ado.block := fun e => by
                          obtain ⟨c2, h2⟩ := Kd.R_typed HRB5.out ado.block e
                          rw [hgs, hbs] at h2
                          injection h2 with h2
                          injection h2 with _ h2
                          exact absurd h2 (by decide)
                        rw [(World.grownBy.cell_far HG6.out (ado.add r) (by rw [add_block, hgs]; exact (blk_lt hbs)) (by rw [add_block]; exact Ne.symm hne))]
                        exact HC65.out⟩
                      go_roundg (l0_4.length - (i + 1))
                      case measure => have := HKQ3.out; have := HLT3.out; omega
                      case rel => exact ⟨i + 1, x, _, rfl, by have := HLT3.out; omega, Nat.le_refl _, HNX, HS6, HO6, HB6, HC66⟩
                · have y1 : (left == (r : Int)) = false := by simp [hl]
                  have y2 : (left != (r : Int)) = true := by simp [hl]
                  have y3 : decide (left = (r : Int)) = false := decide_eq_false hl
                  have y4 : (left = (r : Int)) = False := eq_false hl
                  have HNX : Aside0 (K2 (prIn b r look (i + 1) (l0_4.drop (i + 1)) (x, bad))) := ⟨by have h := HK2.out; rw [HSTEP.out, HSTP.out, if_neg (fun h2 => hl h2.1)] at h; exact h⟩
                  clear hl
                  go_wp2
                  go_roundg (l0_4.length - (i + 1))
                  case measure => have := HKQ3.out; have := HLT3.out; omega
                  case rel => exact ⟨i + 1, x, bad, rfl, by have := HLT3.out; omega, Nat.le_refl _, HNX, HS5, HRB5, HBR5, HC65⟩
              · obtain rfl : i = l0_4.length := by omega
                have d4 : decide ((l0_4.length : Int) < (l0_4.length : Int)) = false := decide_eq_false (by omega)
                have d5 : decide (l0_4.length < l0_4.length) = false := decide_eq_false (by omega)
                go_wp2
                go_roundg (nr - (look + 1))
                case measure => have := HKQ2.out; have := HLT2.out; omega
                case rel => exact ⟨look + 1, row.set look x, bad, rfl, by have := HLT2.out; omega, Nat.le_refl _, ⟨by have h := HK2.out; rw [List.drop_length, EK2.out] at h; exact h⟩, ⟨by rw [List.length_set]; exact HRL.out⟩, HS, HRB, HBR, HC6⟩
          · obtain rfl : look = nr := by omega
            have d2 : decide ((look : Int) < (look : Int)) = false := decide_eq_false (by omega)
            have d3 : decide (look < look) = false := decide_eq_false (by omega)
            go_wp2
            go_roundg (out.length - (r + 1))
            case measure => have := HKQ.out; have := HLT.out; omega
            case rel => exact ⟨r + 1, m.set r row, bad, rfl, by have := HLT.out; omega, Nat.le_refl _, ⟨by have h := HK1.out; rw [Nat.sub_self, EK1.out] at h; exact h⟩, ⟨by rw [List.length_set]; exact HLEN.out.1, lens_set HLEN.out.2 (by rw [HRL.out, HENR.out])⟩, HS, HRB, HBR⟩
      · obtain rfl : r = out.length := by omega
        have d0 : decide ((out.length : Int) < (out.length : Int)) = false := decide_eq_false (by omega)
        go_wp2
        go_ret2
        have hfin := HF.out
        rw [Nat.sub_self] at hfin
        simp only [prAll] at hfin
        obtain ⟨rfl, rfl⟩ := Prod.mk.inj hfin
        exact ⟨_, _, rfl, Kd.S_lower HS.out HBASE.out, Kd.R_lower HRB.out HBASE.out, HB2.out.trans (HBR.out.mono HB2.out.size)⟩
end Go.Proofs.Ytfdcfihcfegekaa.P
end

section
namespace Go.Proofs.Ytfdcfihcfegekaa.P
open Go.RowKit Go.Proofs.YtfdcfihcfegekaaW.PrintWords Go.Proofs.YtfdcfihcfegekaaW.PrintLast Go.Proofs.YtfdcfihcfegekaaW.PrintMore
attribute [local go_sem] max2_int min2_int max_two min_two max_three min_three max_four min_four   -- for this text's walks alone
set_option linter.unusedVariables false
set_option linter.unusedSimpArgs false
attribute [local go_sem high] eqA50
def regletlaw14_awake.f (k : Nat)  : Option (Bool) := (some (([(⟨#[97]⟩ : ByteArray)] : List ByteArray) : List ByteArray)).bind fun y188 => (if 1 ≤ 2706490160679 then ((some (List.replicate 1 z61 : List (S61))).bind fun y191 => ((some (([(⟨0, (([(⟨true, 0⟩ : S53), (⟨false, 0⟩ : S53)] : List (S53)))⟩ : S30), (⟨0, ([] : List (S53))⟩ : S30)] : List (S30)) : List (S30))).bind fun y197 => ((predict_Predict.f k y188 y191 0 0 y197).bind fun bt201 => (if y197.length < 4398046511104 then ((predict_Predict.f k y188 y191 0 0 (y197 ++ [(⟨0, ([] : List (S53))⟩ : S30)])).bind fun bt210 => (if (bt201.2.length : Int) = 0 then ((regletref13_SameLists.f k bt201.1 (([(([0, 1] : List Int))] : List (List Int)))).bind fun t222 => (if t222 = true then (if (bt210.2.length : Int) = 1 then (if 0 < (bt210.2.length : Int) then (some (((rd_T50 bt210.2 0).f0) == 0 && (((rd_T50 bt210.2 0).f1) == 1 && (((rd_T50 bt210.2 0).f2) == 1 && (((rd_T50 bt210.2 0).f3) == 2))))) else (none)) else (none)) else (none))) else (none))) else (none))))) else (none))
theorem regletlaw14_awake.mono : ∀ k, LeO (regletlaw14_awake.f k ) (regletlaw14_awake.f (k + 1) ) := by
  intro  k
  unfold regletlaw14_awake.f
  repeat' first
      | (with_reducible exact predict_Predict.mono _ _ _ _ _ _)
      | (with_reducible exact regletref13_SameLists.mono _ _ _)
      | (with_reducible exact LeO.refl _)
      | (with_reducible exact LeO.none _)
      | (with_reducible refine LeO.ite ?_ ?_)
      | (with_reducible refine LeO.bind ?_ (fun _ => ?_))
      | exact predict_Predict.mono _ _ _ _ _ _
      | exact regletref13_SameLists.mono _ _ _
      | exact LeO.none _
      | refine LeO.ite ?_ ?_
      | refine LeO.bind ?_ (fun _ => ?_)
set_option maxHeartbeats 8000000 in
set_option maxRecDepth 100000 in
theorem regletlaw14_awake.calls (k : Nat)  (r : Bool) (w : World) (h : regletlaw14_awake.f k  = some r) :
    Calls Try.prog 9 #[] w fun e w' => e = .returned (.bool r) ∧ Below w.heap.size w w' := by
  have hu53 := Try.underlying53
  have hu30 := Try.underlying30
  have hu26 := Try.underlying26
  have hu50 := Try.underlying50
  have HB := Aside0.mk (Below.refl w.heap.size w)
  have H : ((some (([(⟨#[97]⟩ : ByteArray)] : List ByteArray) : List ByteArray)).bind fun y188 => (if 1 ≤ 2706490160679 then ((some (List.replicate 1 z61 : List (S61))).bind fun y191 => ((some (([(⟨0, (([(⟨true, 0⟩ : S53), (⟨false, 0⟩ : S53)] : List (S53)))⟩ : S30), (⟨0, ([] : List (S53))⟩ : S30)] : List (S30)) : List (S30))).bind fun y197 => ((predict_Predict.f k y188 y191 0 0 y197).bind fun bt201 => (if y197.length < 4398046511104 then ((predict_Predict.f k y188 y191 0 0 (y197 ++ [(⟨0, ([] : List (S53))⟩ : S30)])).bind fun bt210 => (if (bt201.2.length : Int) = 0 then ((regletref13_SameLists.f k bt201.1 (([(([0, 1] : List Int))] : List (List Int)))).bind fun t222 => (if t222 = true then (if (bt210.2.length : Int) = 1 then (if 0 < (bt210.2.length : Int) then (some (((rd_T50 bt210.2 0).f0) == 0 && (((rd_T50 bt210.2 0).f1) == 1 && (((rd_T50 bt210.2 0).f2) == 1 && (((rd_T50 bt210.2 0).f3) == 2))))) else (none)) else (none)) else (none))) else (none))) else (none))))) else (none))) = some r := h
  clear h
  obtain ⟨y188, hy188⟩ : ∃ y_ : List ByteArray, y_ = (([(⟨#[97]⟩ : ByteArray)] : List ByteArray)) := ⟨_, rfl⟩
  replace H : (if 1 ≤ 2706490160679 then ((some (List.replicate 1 z61 : List (S61))).bind fun y191 => ((some (([(⟨0, (([(⟨true, 0⟩ : S53), (⟨false, 0⟩ : S53)] : List (S53)))⟩ : S30), (⟨0, ([] : List (S53))⟩ : S30)] : List (S30)) : List (S30))).bind fun y197 => ((predict_Predict.f k y188 y191 0 0 y197).bind fun bt201 => (if y197.length < 4398046511104 then ((predict_Predict.f k y188 y191 0 0 (y197 ++ [(⟨0, ([] : List (S53))⟩ : S30)])).bind fun bt210 => (if (bt201.2.length : Int) = 0 then ((regletref13_SameLists.f k bt201.1 (([(([0, 1] : List Int))] : List (List Int)))).bind fun t222 => (if t222 = true then (if (bt210.2.length : Int) = 1 then (if 0 < (bt210.2.length : Int) then (some (((rd_T50 bt210.2 0).f0) == 0 && (((rd_T50 bt210.2 0).f1) == 1 && (((rd_T50 bt210.2 0).f2) == 1 && (((rd_T50 bt210.2 0).f3) == 2))))) else (none)) else (none)) else (none))) else (none))) else (none))))) else (none)) = some r := by first | (rw [hy188]; with_reducible exact H) | (have H2_ := (Option.bind_some _ _).symm.trans H; rw [hy188]; with_reducible exact H2_) | (have H2_ := (Option.bind_some _ _).symm.trans H; with_reducible exact H2_) | with_reducible exact H | (rw [hy188]; exact H) | exact H
  have Ny188 := Aside0.mk hy188
  clear hy188
  by_cases c1 : 1 ≤ 2706490160679
  · rw [if_pos c1] at H
    have c1b0 := eq_true c1
    have c1b1 : decide (1 ≤ 2706490160679) = true := decide_eq_true c1
    clear c1
    obtain ⟨y191, hy191⟩ : ∃ y_ : List (S61), y_ = (List.replicate 1 z61) := ⟨_, rfl⟩
    replace H : ((some (([(⟨0, (([(⟨true, 0⟩ : S53), (⟨false, 0⟩ : S53)] : List (S53)))⟩ : S30), (⟨0, ([] : List (S53))⟩ : S30)] : List (S30)) : List (S30))).bind fun y197 => ((predict_Predict.f k y188 y191 0 0 y197).bind fun bt201 => (if y197.length < 4398046511104 then ((predict_Predict.f k y188 y191 0 0 (y197 ++ [(⟨0, ([] : List (S53))⟩ : S30)])).bind fun bt210 => (if (bt201.2.length : Int) = 0 then ((regletref13_SameLists.f k bt201.1 (([(([0, 1] : List Int))] : List (List Int)))).bind fun t222 => (if t222 = true then (if (bt210.2.length : Int) = 1 then (if 0 < (bt210.2.length : Int) then (some (((rd_T50 bt210.2 0).f0) == 0 && (((rd_T50 bt210.2 0).f1) == 1 && (((rd_T50 bt210.2 0).f2) == 1 && (((rd_T50 bt210.2 0).f3) == 2))))) else (none)) else (none)) else (none))) else (none))) else (none)))) = some r := by first | (rw [hy191]; with_reducible exact H) | (have H2_ := (Option.bind_some _ _).symm.trans H; rw [hy191]; with_reducible exact H2_) | (have H2_ := (Option.bind_some _ _).symm.trans H; with_reducible exact H2_) | with_reducible exact H | (rw [hy191]; exact H) | exact H
    have Ny191 := Aside0.mk hy191
    clear hy191
    obtain ⟨y194, hy194⟩ : ∃ y_ : List (S53), y_ = (([(⟨true, 0⟩ : S53), (⟨false, 0⟩ : S53)] : List (S53))) := ⟨_, rfl⟩
    replace H : ((some (([(⟨0, y194⟩ : S30), (⟨0, ([] : List (S53))⟩ : S30)] : List (S30)) : List (S30))).bind fun y197 => ((predict_Predict.f k y188 y191 0 0 y197).bind fun bt201 => (if y197.length < 4398046511104 then ((predict_Predict.f k y188 y191 0 0 (y197 ++ [(⟨0, ([] : List (S53))⟩ : S30)])).bind fun bt210 => (if (bt201.2.length : Int) = 0 then ((regletref13_SameLists.f k bt201.1 (([(([0, 1] : List Int))] : List (List Int)))).bind fun t222 => (if t222 = true then (if (bt210.2.length : Int) = 1 then (if 0 < (bt210.2.length : Int) then (some (((rd_T50 bt210.2 0).f0) == 0 && (((rd_T50 bt210.2 0).f1) == 1 && (((rd_T50 bt210.2 0).f2) == 1 && (((rd_T50 bt210.2 0).f3) == 2))))) else (none)) else (none)) else (none))) else (none))) else (none)))) = some r := by first | (rw [hy194]; with_reducible exact H) | (have H2_ := (Option.bind_some _ _).symm.trans H; rw [hy194]; with_reducible exact H2_) | (have H2_ := (Option.bind_some _ _).symm.trans H; with_reducible exact H2_) | with_reducible exact H | (rw [hy194]; exact H) | exact H
    have Ny194 := Aside0.mk hy194
    clear hy194
    obtain ⟨y197, hy197⟩ : ∃ y_ : List (S30), y_ = (([(⟨0, y194⟩ : S30), (⟨0, ([] : List (S53))⟩ : S30)] : List (S30))) := ⟨_, rfl⟩
    replace H : ((predict_Predict.f k y188 y191 0 0 y197).bind fun bt201 => (if y197.length < 4398046511104 then ((predict_Predict.f k y188 y191 0 0 (y197 ++ [(⟨0, ([] : List (S53))⟩ : S30)])).bind fun bt210 => (if (bt201.2.length : Int) = 0 then ((regletref13_SameLists.f k bt201.1 (([(([0, 1] : List Int))] : List (List Int)))).bind fun t222 => (if t222 = true then (if (bt210.2.length : Int) = 1 then (if 0 < (bt210.2.length : Int) then (some (((rd_T50 bt210.2 0).f0) == 0 && (((rd_T50 bt210.2 0).f1) == 1 && (((rd_T50 bt210.2 0).f2) == 1 && (((rd_T50 bt210.2 0).f3) == 2))))) else (none)) else (none)) else (none))) else (none))) else (none))) = some r := by first | (rw [hy197]; with_reducible exact H) | (have H2_ := (Option.bind_some _ _).symm.trans H; rw [hy197]; with_reducible exact H2_) | (have H2_ := (Option.bind_some _ _).symm.trans H; with_reducible exact H2_) | with_reducible exact H | (rw [hy197]; exact H) | exact H
    have Ny197 := Aside0.mk hy197
    clear hy197
    replace H := Option.bind_eq_some_iff.mp H
    obtain ⟨⟨t201, t204⟩, A20, H⟩ := H
    replace H : (if y197.length < 4398046511104 then ((predict_Predict.f k y188 y191 0 0 (y197 ++ [(⟨0, ([] : List (S53))⟩ : S30)])).bind fun bt210 => (if (t204.length : Int) = 0 then ((regletref13_SameLists.f k t201 (([(([0, 1] : List Int))] : List (List Int)))).bind fun t222 => (if t222 = true then (if (bt210.2.length : Int) = 1 then (if 0 < (bt210.2.length : Int) then (some (((rd_T50 bt210.2 0).f0) == 0 && (((rd_T50 bt210.2 0).f1) == 1 && (((rd_T50 bt210.2 0).f2) == 1 && (((rd_T50 bt210.2 0).f3) == 2))))) else (none)) else (none)) else (none))) else (none))) else (none)) = some r := H
    have A2 := Aside0.mk A20
    clear A20
    by_cases c3 : y197.length < 4398046511104
    · rw [if_pos c3] at H
      have LMc3 := Aside0.mk c3
      clear c3
      obtain ⟨y207, hy207⟩ : ∃ y_ : List (S30), y_ = (y197 ++ [(⟨0, ([] : List (S53))⟩ : S30)]) := ⟨_, rfl⟩
      replace H : ((predict_Predict.f k y188 y191 0 0 y207).bind fun bt210 => (if (t204.length : Int) = 0 then ((regletref13_SameLists.f k t201 (([(([0, 1] : List Int))] : List (List Int)))).bind fun t222 => (if t222 = true then (if (bt210.2.length : Int) = 1 then (if 0 < (bt210.2.length : Int) then (some (((rd_T50 bt210.2 0).f0) == 0 && (((rd_T50 bt210.2 0).f1) == 1 && (((rd_T50 bt210.2 0).f2) == 1 && (((rd_T50 bt210.2 0).f3) == 2))))) else (none)) else (none)) else (none))) else (none))) = some r := by first | (rw [hy207]; with_reducible exact H) | (have H2_ := (Option.bind_some _ _).symm.trans H; rw [hy207]; with_reducible exact H2_) | (have H2_ := (Option.bind_some _ _).symm.trans H; with_reducible exact H2_) | with_reducible exact H | (rw [hy207]; exact H) | exact H
      have Ny207 := Aside0.mk hy207
      clear hy207
      replace H := Option.bind_eq_some_iff.mp H
      obtain ⟨⟨t210, t213⟩, A40, H⟩ := H
      replace H : (if (t204.length : Int) = 0 then ((regletref13_SameLists.f k t201 (([(([0, 1] : List Int))] : List (List Int)))).bind fun t222 => (if t222 = true then (if (t213.length : Int) = 1 then (if 0 < (t213.length : Int) then (some (((rd_T50 t213 0).f0) == 0 && (((rd_T50 t213 0).f1) == 1 && (((rd_T50 t213 0).f2) == 1 && (((rd_T50 t213 0).f3) == 2))))) else (none)) else (none)) else (none))) else (none)) = some r := H
      have A4 := Aside0.mk A40
      clear A40
      by_cases c5 : (t204.length : Int) = 0
      · rw [if_pos c5] at H
        have c5b0 : ((t204.length : Int) == 0) = true := beq_iff_eq.mpr c5
        have c5b1 : ((t204.length : Int) != 0) = false := bne_eq_false_iff_eq.mpr c5
        clear c5
        obtain ⟨y216, hy216⟩ : ∃ y_ : List Int, y_ = (([0, 1] : List Int)) := ⟨_, rfl⟩
        replace H : ((regletref13_SameLists.f k t201 (([y216] : List (List Int)))).bind fun t222 => (if t222 = true then (if (t213.length : Int) = 1 then (if 0 < (t213.length : Int) then (some (((rd_T50 t213 0).f0) == 0 && (((rd_T50 t213 0).f1) == 1 && (((rd_T50 t213 0).f2) == 1 && (((rd_T50 t213 0).f3) == 2))))) else (none)) else (none)) else (none))) = some r := by first | (rw [hy216]; with_reducible exact H) | (have H2_ := (Option.bind_some _ _).symm.trans H; rw [hy216]; with_reducible exact H2_) | (have H2_ := (Option.bind_some _ _).symm.trans H; with_reducible exact H2_) | with_reducible exact H | (rw [hy216]; exact H) | exact H
        have Ny216 := Aside0.mk hy216
        clear hy216
        obtain ⟨y219, hy219⟩ : ∃ y_ : List (List Int), y_ = (([y216] : List (List Int))) := ⟨_, rfl⟩
        replace H : ((regletref13_SameLists.f k t201 y219).bind fun t222 => (if t222 = true then (if (t213.length : Int) = 1 then (if 0 < (t213.length : Int) then (some (((rd_T50 t213 0).f0) == 0 && (((rd_T50 t213 0).f1) == 1 && (((rd_T50 t213 0).f2) == 1 && (((rd_T50 t213 0).f3) == 2))))) else (none)) else (none)) else (none))) = some r := by first | (rw [hy219]; with_reducible exact H) | (have H2_ := (Option.bind_some _ _).symm.trans H; rw [hy219]; with_reducible exact H2_) | (have H2_ := (Option.bind_some _ _).symm.trans H; with_reducible exact H2_) | with_reducible exact H | (rw [hy219]; exact H) | exact H
        have Ny219 := Aside0.mk hy219
        clear hy219
        replace H := Option.bind_eq_some_iff.mp H
        obtain ⟨t222, A60, H⟩ := H
        replace H : (if t222 = true then (if (t213.length : Int) = 1 then (if 0 < (t213.length : Int) then (some (((rd_T50 t213 0).f0) == 0 && (((rd_T50 t213 0).f1) == 1 && (((rd_T50 t213 0).f2) == 1 && (((rd_T50 t213 0).f3) == 2))))) else (none)) else (none)) else (none)) = some r := H
        have A6 := Aside0.mk A60
        clear A60
        by_cases c7 : t222 = true
        · subst c7
          have H1 : (if (t213.length : Int) = 1 then (if 0 < (t213.length : Int) then (some (((rd_T50 t213 0).f0) == 0 && (((rd_T50 t213 0).f1) == 1 && (((rd_T50 t213 0).f2) == 1 && (((rd_T50 t213 0).f3) == 2))))) else (none)) else (none)) = some r := by rw [if_pos rfl] at H; exact H
          clear H
          have H := H1
          clear H1
          by_cases c8 : (t213.length : Int) = 1
          · rw [if_pos c8] at H
            have c8b0 : ((t213.length : Int) == 1) = true := beq_iff_eq.mpr c8
            have c8b1 : ((t213.length : Int) != 1) = false := bne_eq_false_iff_eq.mpr c8
            clear c8
            by_cases c9 : 0 < (t213.length : Int)
            · rw [if_pos c9] at H
              have c9b0 : decide (0 < (t213.length : Int)) = true := decide_eq_true c9
              have c9b1 : decide (0 < t213.length) = true := decide_eq_true (by omega)
              clear c9
              obtain rfl := Option.some.inj H
              go_enter Try.func9, Try.ntmps9
              go_wp2_with (first | ((with_reducible refine gate_dst (N := 6) rfl ?_); (try (refine gate_guard (by rfl) ?_; dsimp only)); refine Kd.R_lit Kd.string _ 9 ?hg (N := 6) ?hd (xs := ([(⟨#[97]⟩ : ByteArray)] : List ByteArray)) (inner := [.string (⟨#[97]⟩ : ByteArray)]) (ok := fun _ => True) (okp := fun _ => True) ?hr ?hp (fun _ hk => hk) trivial (Below.refl _ _) (Nat.le_refl _) (by simp) ?_; (case hd => rfl); (case hg => rfl); (case hr => first | (go_simp; done) | (go_simp; rfl)); (case hp => exact (Reps.one (show Kd.M Kd.string _ _ _ (⟨#[97]⟩ : ByteArray) [.string (⟨#[97]⟩ : ByteArray)] from rfl) (Reps.none _ _))); intro v189 w10 ho11 hb hg_ hnew_; clear hg_ hnew_; (first | rw [← Ny188.out] at ho11 | (simp only [Int.reduceToNat] at ho11; rw [← Ny188.out] at ho11)); have n0_ := Aside0.mk (Kd.R_lower ho11 (below_size (by repeat (first | (with_reducible first | exact HB.out | apply below_alloc | apply pw_below_drewN | apply below_drew1) | exact HB.out)))); have n1_ := Aside0.mk (below_step (by repeat (first | (with_reducible first | exact HB.out | apply below_alloc | apply pw_below_drewN | apply below_drew1) | exact HB.out)) hb); clear HB; have HO190 := n0_; have HB := n1_; clear n0_ n1_; clear hb ho11) | ((with_reducible refine gate_dst (N := 7) rfl ?_); (try (refine gate_guard (by rfl) ?_; dsimp only)); refine Kd.N_make k61 _ 61 rfl (N' := 7) rfl 23 _ _ rfl 1 rfl rfl Try.underlying23 (.agg #[(.string ⟨#[]⟩), (.int .i64 0), (.string ⟨#[]⟩), (.slice none 0 0), (.int .i64 0), (.int .i64 0), (.slice none 0 0)]) 104 info61 rfl (by decide) (by omega) z61 (ok := fun k_ => w10.heap.size ≤ k_) (okp := fun _ => False) (k61_mkF _ _ z61 (Nat.le_refl _) (Kd.F_nil _ _ _) (Nat.le_refl _) (Kd.F_nil _ _ _)) (fun _ hk => hk.elim) (Nat.le_refl _) (by omega) (by omega) (Below.refl _ _) (Nat.le_refl _) ?_; intro v192 w12 ho13 hb hg_ hnew_; clear hg_ hnew_; (first | rw [← Ny191.out] at ho13 | (simp only [Int.reduceToNat] at ho13; rw [← Ny191.out] at ho13)); have n0_ := Aside0.mk (Kd.R_below (by (with_reducible repeat (first | apply Kd.R_alloc | apply Kd.R_drewN | apply Kd.R_drew)); exact HO190.out) hb); have n1_ := Aside0.mk (Kd.N_lower (Kd.N_mono (ok' := fun k_ => some k_ ≠ (v189 : Value).ownBlock) ho13 (fun k_ hk_ => (Kd.fresh' (Kd.R_lt (by (with_reducible repeat (first | apply Kd.R_alloc | apply Kd.R_drewN | apply Kd.R_drew)); exact HO190.out)) k_ hk_))) (below_size (by repeat (first | (with_reducible first | exact HB.out | apply below_alloc | apply pw_below_drewN | apply below_drew1) | exact HB.out)))); have n2_ := Aside0.mk (below_step (by repeat (first | (with_reducible first | exact HB.out | apply below_alloc | apply pw_below_drewN | apply below_drew1) | exact HB.out)) hb); clear HO190; clear HB; have HO190 := n0_; have HO193 := n1_; have HB := n2_; clear n0_ n1_ n2_; clear hb ho13) | ((with_reducible refine gate_dst (N := 10) rfl ?_); (try (refine gate_guard (by rfl) ?_; dsimp only)); refine Kd.R_lit k53 _ 53 ?hg (N := 10) ?hd (xs := ([(⟨true, 0⟩ : S53), (⟨false, 0⟩ : S53)] : List (S53))) (inner := [.bool true, .int .i64 0, .bool false, .int .i64 0]) (ok := fun _ => True) (okp := fun _ => True) ?hr ?hp (fun _ hk => hk) trivial (Below.refl _ _) (Nat.le_refl _) (by simp) ?_; (case hd => rfl); (case hg => rfl); (case hr => first | (go_simp; done) | (go_simp; rfl)); (case hp => exact (Reps.c2 (show Kd.M k53 _ _ _ (⟨true, 0⟩ : S53) [.bool true, .int .i64 0] from (k53_mkM _ _ _ (⟨true, 0⟩ : S53) )) (Reps.c2 (show Kd.M k53 _ _ _ (⟨false, 0⟩ : S53) [.bool false, .int .i64 0] from (k53_mkM _ _ _ (⟨false, 0⟩ : S53) )) (Reps.none _ _)))); intro v195 w14 ho15 hb hg_ hnew_; clear hg_ hnew_; (first | rw [← Ny194.out] at ho15 | (simp only [Int.reduceToNat] at ho15; rw [← Ny194.out] at ho15)); have n0_ := Aside0.mk (Kd.R_below (by (with_reducible repeat (first | apply Kd.R_alloc | apply Kd.R_drewN | apply Kd.R_drew)); exact HO190.out) hb); have n1_ := Aside0.mk (Kd.N_elder' (by (with_reducible repeat (first | apply Kd.N_alloc | apply Kd.N_drewN | apply Kd.N_drew)); exact HO193.out) (Kd.R_base ho15) hb); have n2_ := Aside0.mk (Kd.R_lower ho15 (below_size (by repeat (first | (with_reducible first | exact HB.out | apply below_alloc | apply pw_below_drewN | apply below_drew1) | exact HB.out)))); have n3_ := Aside0.mk (below_step (by repeat (first | (with_reducible first | exact HB.out | apply below_alloc | apply pw_below_drewN | apply below_drew1) | exact HB.out)) hb); clear HO190; clear HO193; clear HB; have HO190 := n0_; have HO193 := n1_; have HO196 := n2_; have HB := n3_; clear n0_ n1_ n2_ n3_; clear hb ho15; obtain ⟨Ao16, co16, eo16⟩ := Kd.R_slice HO196.out; subst eo16) | ((with_reducible refine gate_dst (N := 13) rfl ?_); (try (refine gate_guard (by rfl) ?_; dsimp only)); refine Kd.N_lit k30 _ 30 ?hg (N' := 13) ?hd (xs := ([(⟨0, y194⟩ : S30), (⟨0, ([] : List (S53))⟩ : S30)] : List (S30))) (inner := [.int .i64 0, .slice Ao16 y194.length co16, .int .i64 0, .slice none 0 0]) (ok := (fun k_ => some k_ ≠ (v189 : Value).ownBlock ∧ some k_ ≠ (v192 : Value).ownBlock)) (okp := (fun k_ => some k_ ≠ (v189 : Value).ownBlock ∧ some k_ ≠ (v192 : Value).ownBlock)) ?hr ?hp (fun _ hk => hk) ((show ∀ k_, w14.heap.size ≤ k_ → (fun k_ => some k_ ≠ (v189 : Value).ownBlock ∧ some k_ ≠ (v192 : Value).ownBlock) k_ from fun k_ hk => ⟨Kd.fresh' (Kd.R_lt (by (with_reducible repeat (first | apply Kd.R_alloc | apply Kd.R_drewN | apply Kd.R_drew)); exact HO190.out)) k_ hk, Kd.fresh' (Kd.N_lt (by (with_reducible repeat (first | apply Kd.N_alloc | apply Kd.N_drewN | apply Kd.N_drew)); exact HO193.out)) k_ hk⟩) _ (Nat.le_refl _)) (Below.refl _ _) (Nat.le_refl _) (by simp) ?_; (case hd => rfl); (case hg => rfl); (case hr => first | (go_simp; done) | (go_simp; rfl)); (case hp => exact (Reps.c2 (show Kd.FK k30 _ _ (⟨0, y194⟩ : S30) [.int .i64 0, .slice Ao16 y194.length co16] from (k30_mkF _ _ (⟨0, y194⟩ : S30) (Kd.R_reads' (Kd.R_mono (ok' := (fun k_ => some k_ ≠ (v189 : Value).ownBlock ∧ some k_ ≠ (v192 : Value).ownBlock)) (Kd.R_apart' (Kd.R_apart' (HO196.out) (Kd.R_typed HO190.out) (by decide)) (Kd.N_typed HO193.out) (by decide)) (fun k_ hk => ⟨hk.1.2, hk.2⟩))).2.1 (Kd.R_F (Kd.R_mono (ok' := (fun k_ => some k_ ≠ (v189 : Value).ownBlock ∧ some k_ ≠ (v192 : Value).ownBlock)) (Kd.R_apart' (Kd.R_apart' (HO196.out) (Kd.R_typed HO190.out) (by decide)) (Kd.N_typed HO193.out) (by decide)) (fun k_ hk => ⟨hk.1.2, hk.2⟩))))) (Reps.c2 (show Kd.FK k30 _ _ (⟨0, ([] : List (S53))⟩ : S30) [.int .i64 0, .slice none 0 0] from (k30_mkF _ _ (⟨0, ([] : List (S53))⟩ : S30) (Nat.le_refl _) (Kd.F_nil _ _ _))) (Reps.none _ _)))); intro v198 w17 ho18 hb hg_ hnew_; clear hg_ hnew_; (first | rw [← Ny197.out] at ho18 | (simp only [Int.reduceToNat] at ho18; rw [← Ny197.out] at ho18)); have n0_ := Aside0.mk (Kd.R_below (by (with_reducible repeat (first | apply Kd.R_alloc | apply Kd.R_drewN | apply Kd.R_drew)); exact HO190.out) hb); have n1_ := Aside0.mk (Kd.N_elder' (by (with_reducible repeat (first | apply Kd.N_alloc | apply Kd.N_drewN | apply Kd.N_drew)); exact HO193.out) (Kd.N_base ho18) hb); have n2_ := Aside0.mk (Kd.N_lower ho18 (below_size (by repeat (first | (with_reducible first | exact HB.out | apply below_alloc | apply pw_below_drewN | apply below_drew1) | exact HB.out)))); have n3_ := Aside0.mk (below_step (by repeat (first | (with_reducible first | exact HB.out | apply below_alloc | apply pw_below_drewN | apply below_drew1) | exact HB.out)) hb); clear HO190; clear HO193; clear HB; clear HO196; have HO190 := n0_; have HO193 := n1_; have HO199 := n2_; have HB := n3_; clear n0_ n1_ n2_ n3_; clear hb ho18; obtain ⟨Ao19, co19, eo19⟩ := Kd.N_slice HO199.out; subst eo19; obtain ⟨Ao20, co20, eo20⟩ := Kd.N_slice HO193.out; subst eo20; obtain ⟨Ao21, co21, eo21⟩ := Kd.R_slice HO190.out; subst eo21) | ((with_reducible refine gate_dst (N := 1) rfl ?_); (try (refine gate_guard (by rfl) ?_; dsimp only)); refine box_event ?hg (N := 1) ?hd (cs := #[.slice none 0 0, .slice none 0 0, .int .i64 0, .int .i64 0, .slice none 0 0]) (t := 26) ?hr ?_; (case hd => rfl); (case hg => rfl); (case hr => first | (go_simp; done) | (go_simp; rfl)); intro gb200 hg w22 hbox hb; have n0_ := Aside0.mk (Kd.R_below (by (with_reducible repeat (first | apply Kd.R_alloc | apply Kd.R_drewN | apply Kd.R_drew)); exact HO190.out) hb); have n1_ := Aside0.mk (Kd.N_below (Kd.N_elderB (by (with_reducible repeat (first | apply Kd.N_alloc | apply Kd.N_drewN | apply Kd.N_drew)); exact HO193.out) gb200 (Nat.le_of_eq hg.symm)) hb); have n2_ := Aside0.mk (Kd.N_below (Kd.N_elderB (by (with_reducible repeat (first | apply Kd.N_alloc | apply Kd.N_drewN | apply Kd.N_drew)); exact HO199.out) gb200 (Nat.le_of_eq hg.symm)) hb); have n3_ := Aside0.mk (below_step (by repeat (first | (with_reducible first | exact HB.out | apply below_alloc | apply pw_below_drewN | apply below_drew1) | exact HB.out)) hb); have n4_ := Aside0.mk (hbox); have n5_ := Aside0.mk ((by rw [hg]; exact (below_size (by repeat (first | (with_reducible first | exact HB.out | apply below_alloc | apply pw_below_drewN | apply below_drew1) | exact HB.out))) : w.heap.size ≤ gb200)); have n6_ := Aside0.mk ((by rw [hg]; exact (below_size (by repeat (first | (with_reducible first | exact HB.out | apply below_alloc | apply pw_below_drewN | apply below_drew1) | exact HB.out))) : w.heap.size ≤ gb200)); clear HO190; clear HO193; clear HO199; clear HB; have HO190 := n0_; have HO193 := n1_; have HO199 := n2_; have HB := n3_; have BK200 := n4_; have GW200 := n5_; have GE200 := n6_; clear n0_ n1_ n2_ n3_ n4_ n5_ n6_; clear hb hbox hg; have hcz23_0 : w22.cell? ⟨gb200, 0, none⟩ = some (.slice none 0 0) := (blk_cell BK200.out 0).trans rfl; have hcz23_1 : w22.cell? ⟨gb200, 1, none⟩ = some (.slice none 0 0) := (blk_cell BK200.out 1).trans rfl; have hcz23_2 : w22.cell? ⟨gb200, 2, none⟩ = some (.int .i64 0) := (blk_cell BK200.out 2).trans rfl; have hcz23_3 : w22.cell? ⟨gb200, 3, none⟩ = some (.int .i64 0) := (blk_cell BK200.out 3).trans rfl; have hcz23_4 : w22.cell? ⟨gb200, 4, none⟩ = some (.slice none 0 0) := (blk_cell BK200.out 4).trans rfl; have hfz23_0 := blk_frozen BK200.out 0; have hfz23_1 := blk_frozen BK200.out 1; have hfz23_2 := blk_frozen BK200.out 2; have hfz23_3 := blk_frozen BK200.out 3; have hfz23_4 := blk_frozen BK200.out 4) | ((with_reducible refine gate_callee (f := 13) rfl ?_); refine goesL_ (some 17) rfl rfl Try.func13 (by kernel_rfl) rfl #[.agg #[.slice Ao21 y188.length co21, .slice Ao20 y191.length co20, .int .i64 0, .int .i64 0, .slice Ao19 y197.length co19]] rfl (by (try simp only [List.map_toArray, List.map_cons, List.map_nil]); first | done | rfl | (simp only [List.length_drop, List.length_take]; rfl)) ?_; (with_reducible refine (predict_Predict.calls k _ _ y188 _ _ y191 0 0 _ _ y197 t201 t204 _ ?side1 ?side2 ?side3 ?side4 ?side5 ?side6 A2.out).mono ?_); (case side1 => refine (Kd.R_reads' (e := 9) (base := w.heap.size) (ok := fun k_ => True) (n := y188.length) (c := co21) ?_).2.2; exact (by (with_reducible repeat (first | apply Kd.R_alloc | apply Kd.R_drewN | apply Kd.R_drew)); exact (Kd.R_mono (Kd.R_far (p := ⟨gb200, 4, none⟩) (Kd.R_far (p := ⟨gb200, 3, none⟩) (Kd.R_far (p := ⟨gb200, 2, none⟩) (Kd.R_far (p := ⟨gb200, 1, none⟩) (Kd.R_far (p := ⟨gb200, 0, none⟩) (Kd.R_types HO190.out BK200.out (by decide)) (fun _ hk => hk.2) (.slice Ao21 y188.length co21)) (fun _ hk => hk.2) (.slice Ao20 y191.length co20)) (fun _ hk => hk.2) (.int .i64 0)) (fun _ hk => hk.2) (.int .i64 0)) (fun _ hk => hk.2) (.slice Ao19 y197.length co19)) (fun _ h_ => h_.1)))); (case side2 => exact (Kd.R_reads' HO190.out).2.1); (case side3 => exact (Kd.N_reads' (Kd.N_mono (Kd.N_far (p := ⟨gb200, 4, none⟩) (Kd.N_far (p := ⟨gb200, 3, none⟩) (Kd.N_far (p := ⟨gb200, 2, none⟩) (Kd.N_far (p := ⟨gb200, 1, none⟩) (Kd.N_far (p := ⟨gb200, 0, none⟩) (Kd.N_mono HO193.out (fun k_ hk => (⟨hk, hk.2⟩ : _ ∧ k_ ≠ gb200))) (fun _ hk => hk.2) (.slice Ao21 y188.length co21)) (fun _ hk => hk.2) (.slice Ao20 y191.length co20)) (fun _ hk => hk.2) (.int .i64 0)) (fun _ hk => hk.2) (.int .i64 0)) (fun _ hk => hk.2) (.slice Ao19 y197.length co19)) (fun _ h_ => h_.1))).2.2); (case side4 => exact (Kd.N_reads' HO193.out).2.1); (case side5 => refine (Kd.N_reads' (e := 30) (base := w.heap.size) (ok := fun k_ => ((some k_ ≠ (.slice Ao21 y188.length co21 : Value).ownBlock ∧ some k_ ≠ (.slice Ao20 y191.length co20 : Value).ownBlock) ∧ k_ ≠ gb200)) (n := y197.length) (c := co19) ?_).2.2; exact (by (with_reducible repeat (first | apply Kd.N_alloc | apply Kd.N_drewN | apply Kd.N_drew)); exact (Kd.N_mono (Kd.N_far (p := ⟨gb200, 4, none⟩) (Kd.N_far (p := ⟨gb200, 3, none⟩) (Kd.N_far (p := ⟨gb200, 2, none⟩) (Kd.N_far (p := ⟨gb200, 1, none⟩) (Kd.N_far (p := ⟨gb200, 0, none⟩) (Kd.N_mono HO199.out (fun k_ hk => (⟨hk, hk.2⟩ : _ ∧ k_ ≠ gb200))) (fun _ hk => hk.2) (.slice Ao21 y188.length co21)) (fun _ hk => hk.2) (.slice Ao20 y191.length co20)) (fun _ hk => hk.2) (.int .i64 0)) (fun _ hk => hk.2) (.int .i64 0)) (fun _ hk => hk.2) (.slice Ao19 y197.length co19)) (fun _ h_ => h_.1)))); (case side6 => exact (Kd.N_reads' HO199.out).2.1); rintro e w24 ⟨v202, v205, rfl, ho0, ho1, hb⟩; refine ⟨_, rfl, ?_⟩; have n0_ := Aside0.mk (Kd.R_below (by (with_reducible repeat (first | apply Kd.R_alloc | apply Kd.R_drewN | apply Kd.R_drew)); exact (Kd.R_mono (Kd.R_far (p := ⟨gb200, 4, none⟩) (Kd.R_far (p := ⟨gb200, 3, none⟩) (Kd.R_far (p := ⟨gb200, 2, none⟩) (Kd.R_far (p := ⟨gb200, 1, none⟩) (Kd.R_far (p := ⟨gb200, 0, none⟩) (Kd.R_types HO190.out BK200.out (by decide)) (fun _ hk => hk.2) (.slice Ao21 y188.length co21)) (fun _ hk => hk.2) (.slice Ao20 y191.length co20)) (fun _ hk => hk.2) (.int .i64 0)) (fun _ hk => hk.2) (.int .i64 0)) (fun _ hk => hk.2) (.slice Ao19 y197.length co19)) (fun _ h_ => h_.1))) hb); have n1_ := Aside0.mk (Kd.N_mono (Kd.N_told (Kd.N_told (Kd.N_old (by (with_reducible repeat (first | apply Kd.N_alloc | apply Kd.N_drewN | apply Kd.N_drew)); exact (Kd.N_mono (Kd.N_far (p := ⟨gb200, 4, none⟩) (Kd.N_far (p := ⟨gb200, 3, none⟩) (Kd.N_far (p := ⟨gb200, 2, none⟩) (Kd.N_far (p := ⟨gb200, 1, none⟩) (Kd.N_far (p := ⟨gb200, 0, none⟩) (Kd.N_mono HO193.out (fun k_ hk => (⟨hk, hk.2⟩ : _ ∧ k_ ≠ gb200))) (fun _ hk => hk.2) (.slice Ao21 y188.length co21)) (fun _ hk => hk.2) (.slice Ao20 y191.length co20)) (fun _ hk => hk.2) (.int .i64 0)) (fun _ hk => hk.2) (.int .i64 0)) (fun _ hk => hk.2) (.slice Ao19 y197.length co19)) (fun _ h_ => h_.1))) hb) (Kd.N_base (Kd.S_N ho0))) (Kd.R_base ho1)) (fun _ h_ => h_.1)); have n2_ := Aside0.mk (Kd.N_mono (Kd.N_told (Kd.N_told (Kd.N_old (by (with_reducible repeat (first | apply Kd.N_alloc | apply Kd.N_drewN | apply Kd.N_drew)); exact (Kd.N_mono (Kd.N_far (p := ⟨gb200, 4, none⟩) (Kd.N_far (p := ⟨gb200, 3, none⟩) (Kd.N_far (p := ⟨gb200, 2, none⟩) (Kd.N_far (p := ⟨gb200, 1, none⟩) (Kd.N_far (p := ⟨gb200, 0, none⟩) (Kd.N_mono HO199.out (fun k_ hk => (⟨hk, hk.2⟩ : _ ∧ k_ ≠ gb200))) (fun _ hk => hk.2) (.slice Ao21 y188.length co21)) (fun _ hk => hk.2) (.slice Ao20 y191.length co20)) (fun _ hk => hk.2) (.int .i64 0)) (fun _ hk => hk.2) (.int .i64 0)) (fun _ hk => hk.2) (.slice Ao19 y197.length co19)) (fun _ h_ => h_.1))) hb) (Kd.N_base (Kd.S_N ho0))) (Kd.R_base ho1)) (fun _ h_ => h_.1)); have n3_ := Aside0.mk (Kd.N_lower (Kd.N_mono (ok' := fun k_ => some k_ ≠ (v205 : Value).ownBlock ∧ some k_ ≠ (.slice Ao21 y188.length co21 : Value).ownBlock ∧ some k_ ≠ (.slice Ao20 y191.length co20 : Value).ownBlock ∧ some k_ ≠ (.slice Ao19 y197.length co19 : Value).ownBlock ∧ k_ ≠ gb200) (Kd.S_N (Kd.S_bound (Kd.S_apart' ho0 (Kd.R_typed ho1) (by decide)))) (fun k_ hk_ => ⟨hk_.1.2, (Kd.fresh' (Kd.R_lt (by (with_reducible repeat (first | apply Kd.R_alloc | apply Kd.R_drewN | apply Kd.R_drew)); exact (Kd.R_mono (Kd.R_far (p := ⟨gb200, 4, none⟩) (Kd.R_far (p := ⟨gb200, 3, none⟩) (Kd.R_far (p := ⟨gb200, 2, none⟩) (Kd.R_far (p := ⟨gb200, 1, none⟩) (Kd.R_far (p := ⟨gb200, 0, none⟩) (Kd.R_types HO190.out BK200.out (by decide)) (fun _ hk => hk.2) (.slice Ao21 y188.length co21)) (fun _ hk => hk.2) (.slice Ao20 y191.length co20)) (fun _ hk => hk.2) (.int .i64 0)) (fun _ hk => hk.2) (.int .i64 0)) (fun _ hk => hk.2) (.slice Ao19 y197.length co19)) (fun _ h_ => h_.1)))) k_ hk_.2.1), (Kd.fresh' (Kd.N_lt (by (with_reducible repeat (first | apply Kd.N_alloc | apply Kd.N_drewN | apply Kd.N_drew)); exact (Kd.N_mono (Kd.N_far (p := ⟨gb200, 4, none⟩) (Kd.N_far (p := ⟨gb200, 3, none⟩) (Kd.N_far (p := ⟨gb200, 2, none⟩) (Kd.N_far (p := ⟨gb200, 1, none⟩) (Kd.N_far (p := ⟨gb200, 0, none⟩) (Kd.N_mono HO193.out (fun k_ hk => (⟨hk, hk.2⟩ : _ ∧ k_ ≠ gb200))) (fun _ hk => hk.2) (.slice Ao21 y188.length co21)) (fun _ hk => hk.2) (.slice Ao20 y191.length co20)) (fun _ hk => hk.2) (.int .i64 0)) (fun _ hk => hk.2) (.int .i64 0)) (fun _ hk => hk.2) (.slice Ao19 y197.length co19)) (fun _ h_ => h_.1)))) k_ hk_.2.1), (Kd.fresh' (Kd.N_lt (by (with_reducible repeat (first | apply Kd.N_alloc | apply Kd.N_drewN | apply Kd.N_drew)); exact (Kd.N_mono (Kd.N_far (p := ⟨gb200, 4, none⟩) (Kd.N_far (p := ⟨gb200, 3, none⟩) (Kd.N_far (p := ⟨gb200, 2, none⟩) (Kd.N_far (p := ⟨gb200, 1, none⟩) (Kd.N_far (p := ⟨gb200, 0, none⟩) (Kd.N_mono HO199.out (fun k_ hk => (⟨hk, hk.2⟩ : _ ∧ k_ ≠ gb200))) (fun _ hk => hk.2) (.slice Ao21 y188.length co21)) (fun _ hk => hk.2) (.slice Ao20 y191.length co20)) (fun _ hk => hk.2) (.int .i64 0)) (fun _ hk => hk.2) (.int .i64 0)) (fun _ hk => hk.2) (.slice Ao19 y197.length co19)) (fun _ h_ => h_.1)))) k_ hk_.2.1), (Kd.freshB (g := gb200) (o := .cells #[.slice Ao21 y188.length co21, .slice Ao20 y191.length co20, .int .i64 0, .int .i64 0, .slice Ao19 y197.length co19] 26 (0, 0)) (by (with_reducible repeat (first | refine blk_drewN ?_ _ | refine blk_drew ?_ | refine blk_alloc ?_ _)); refine blk_put (cs := #[.slice Ao21 y188.length co21, .slice Ao20 y191.length co20, .int .i64 0, .int .i64 0, .slice none 0 0]) ?_ 4 _ rfl; (with_reducible repeat (first | refine blk_drewN ?_ _ | refine blk_drew ?_ | refine blk_alloc ?_ _)); refine blk_put (cs := #[.slice Ao21 y188.length co21, .slice Ao20 y191.length co20, .int .i64 0, .int .i64 0, .slice none 0 0]) ?_ 3 _ rfl; (with_reducible repeat (first | refine blk_drewN ?_ _ | refine blk_drew ?_ | refine blk_alloc ?_ _)); refine blk_put (cs := #[.slice Ao21 y188.length co21, .slice Ao20 y191.length co20, .int .i64 0, .int .i64 0, .slice none 0 0]) ?_ 2 _ rfl; (with_reducible repeat (first | refine blk_drewN ?_ _ | refine blk_drew ?_ | refine blk_alloc ?_ _)); refine blk_put (cs := #[.slice Ao21 y188.length co21, .slice none 0 0, .int .i64 0, .int .i64 0, .slice none 0 0]) ?_ 1 _ rfl; (with_reducible repeat (first | refine blk_drewN ?_ _ | refine blk_drew ?_ | refine blk_alloc ?_ _)); refine blk_put (cs := #[.slice none 0 0, .slice none 0 0, .int .i64 0, .int .i64 0, .slice none 0 0]) ?_ 0 _ rfl; (with_reducible repeat (first | refine blk_drewN ?_ _ | refine blk_drew ?_ | refine blk_alloc ?_ _)); exact BK200.out) k_ hk_.2.1)⟩)) (below_size (by repeat (first | (with_reducible first | exact HB.out | apply below_alloc | apply pw_below_drewN | apply below_drew1 | refine below_set ?_ GE200.out) | exact HB.out)))); have n4_ := Aside0.mk (Kd.R_lower ho1 (below_size (by repeat (first | (with_reducible first | exact HB.out | apply below_alloc | apply pw_below_drewN | apply below_drew1 | refine below_set ?_ GE200.out) | exact HB.out)))); have n5_ := Aside0.mk (blk_below (g := gb200) (o := .cells #[.slice Ao21 y188.length co21, .slice Ao20 y191.length co20, .int .i64 0, .int .i64 0, .slice Ao19 y197.length co19] 26 (0, 0)) (by (with_reducible repeat (first | refine blk_drewN ?_ _ | refine blk_drew ?_ | refine blk_alloc ?_ _)); refine blk_put (cs := #[.slice Ao21 y188.length co21, .slice Ao20 y191.length co20, .int .i64 0, .int .i64 0, .slice none 0 0]) ?_ 4 _ rfl; (with_reducible repeat (first | refine blk_drewN ?_ _ | refine blk_drew ?_ | refine blk_alloc ?_ _)); refine blk_put (cs := #[.slice Ao21 y188.length co21, .slice Ao20 y191.length co20, .int .i64 0, .int .i64 0, .slice none 0 0]) ?_ 3 _ rfl; (with_reducible repeat (first | refine blk_drewN ?_ _ | refine blk_drew ?_ | refine blk_alloc ?_ _)); refine blk_put (cs := #[.slice Ao21 y188.length co21, .slice Ao20 y191.length co20, .int .i64 0, .int .i64 0, .slice none 0 0]) ?_ 2 _ rfl; (with_reducible repeat (first | refine blk_drewN ?_ _ | refine blk_drew ?_ | refine blk_alloc ?_ _)); refine blk_put (cs := #[.slice Ao21 y188.length co21, .slice none 0 0, .int .i64 0, .int .i64 0, .slice none 0 0]) ?_ 1 _ rfl; (with_reducible repeat (first | refine blk_drewN ?_ _ | refine blk_drew ?_ | refine blk_alloc ?_ _)); refine blk_put (cs := #[.slice none 0 0, .slice none 0 0, .int .i64 0, .int .i64 0, .slice none 0 0]) ?_ 0 _ rfl; (with_reducible repeat (first | refine blk_drewN ?_ _ | refine blk_drew ?_ | refine blk_alloc ?_ _)); exact BK200.out) hb); have n6_ := Aside0.mk (below_step (by repeat (first | (with_reducible first | exact HB.out | apply below_alloc | apply pw_below_drewN | apply below_drew1 | refine below_set ?_ GE200.out) | exact HB.out)) hb); clear HO190; clear HO193; clear HO199; clear BK200; clear HB; have HO190 := n0_; have HO193 := n1_; have HO199 := n2_; have HO203 := n3_; have HO206 := n4_; have BK200 := n5_; have HB := n6_; clear n0_ n1_ n2_ n3_ n4_ n5_ n6_; (try clear hb); (try clear hb2); (try clear hk); (try clear hi); (try clear ho0); (try clear ho1); have hcz25_0 : w24.cell? ⟨gb200, 0, none⟩ = some (.slice Ao21 y188.length co21) := (blk_cell BK200.out 0).trans rfl; have hcz25_1 : w24.cell? ⟨gb200, 1, none⟩ = some (.slice Ao20 y191.length co20) := (blk_cell BK200.out 1).trans rfl; have hcz25_2 : w24.cell? ⟨gb200, 2, none⟩ = some (.int .i64 0) := (blk_cell BK200.out 2).trans rfl; have hcz25_3 : w24.cell? ⟨gb200, 3, none⟩ = some (.int .i64 0) := (blk_cell BK200.out 3).trans rfl; have hcz25_4 : w24.cell? ⟨gb200, 4, none⟩ = some (.slice Ao19 y197.length co19) := (blk_cell BK200.out 4).trans rfl; have hfz25_0 := blk_frozen BK200.out 0; have hfz25_1 := blk_frozen BK200.out 1; have hfz25_2 := blk_frozen BK200.out 2; have hfz25_3 := blk_frozen BK200.out 3; have hfz25_4 := blk_frozen BK200.out 4) | ((with_reducible refine gate_builtin (b := .append) (xs := #[.tmp 21, .tmp 23]) rfl ?_); (try (refine gate_guard (by rfl) ?_; dsimp only)); at_builtin; refine Kd.N_append k30 (w0 := w) w.heap.size rfl (.tmp 21) (.tmp 23) 24 30 (.agg #[(.int .i64 0), (.slice none 0 0)]) 32 rfl Try.underlying24 info30 rfl (by decide) (by omega) (.slice Ao19 y197.length co19) y197 (⟨0, ([] : List (S53))⟩ : S30) [.int .i64 0, .slice none 0 0] (fun k_ => some k_ ≠ (.slice Ao21 y188.length co21 : Value).ownBlock ∧ some k_ ≠ (.slice Ao20 y191.length co20 : Value).ownBlock ∧ some k_ ≠ (v202 : Value).ownBlock ∧ some k_ ≠ (v205 : Value).ownBlock ∧ k_ ≠ gb200) (fun k_ => ((fun k_ => some k_ ≠ (.slice Ao21 y188.length co21 : Value).ownBlock ∧ some k_ ≠ (.slice Ao20 y191.length co20 : Value).ownBlock ∧ some k_ ≠ (v202 : Value).ownBlock ∧ some k_ ≠ (v205 : Value).ownBlock ∧ k_ ≠ gb200)) k_ ∧ some k_ ≠ (.slice Ao19 y197.length co19 : Value).ownBlock) rfl rfl ?aP (fun _ hk => hk) ?aF ?aO ?aB ?aS ?aL ?_; (case aP => exact (k30_mkF _ _ (⟨0, ([] : List (S53))⟩ : S30) (Nat.le_refl _) (Kd.F_nil _ _ _))); (case aB => exact (by repeat (first | (with_reducible first | exact HB.out | apply below_alloc | apply pw_below_drewN | apply below_drew1 | refine below_set ?_ GE200.out) | exact HB.out))); (case aF => exact (fun k_ hk => ⟨Kd.fresh' (Kd.R_lt (by (with_reducible repeat (first | apply Kd.R_alloc | apply Kd.R_drewN | apply Kd.R_drew)); exact HO190.out)) k_ hk, Kd.fresh' (Kd.N_lt (by (with_reducible repeat (first | apply Kd.N_alloc | apply Kd.N_drewN | apply Kd.N_drew)); exact HO193.out)) k_ hk, Kd.fresh' (Kd.N_lt (by (with_reducible repeat (first | apply Kd.N_alloc | apply Kd.N_drewN | apply Kd.N_drew)); exact HO203.out)) k_ hk, Kd.fresh' (Kd.R_lt (by (with_reducible repeat (first | apply Kd.R_alloc | apply Kd.R_drewN | apply Kd.R_drew)); exact HO206.out)) k_ hk, Kd.freshB (g := gb200) (o := .cells #[.slice Ao21 y188.length co21, .slice Ao20 y191.length co20, .int .i64 0, .int .i64 0, .slice Ao19 y197.length co19] 26 (0, 0)) (by (with_reducible repeat (first | refine blk_drewN ?_ _ | refine blk_drew ?_ | refine blk_alloc ?_ _)); exact BK200.out) k_ hk⟩)); (case aO => exact (by (with_reducible repeat (first | apply Kd.N_alloc | apply Kd.N_drewN | apply Kd.N_drew)); exact Kd.N_mono HO199.out (fun _ hk => ⟨hk.1.1.1.1, ⟨hk.1.1.1.2, ⟨hk.1.2, ⟨hk.2, hk.1.1.2⟩⟩⟩⟩))); (case aS => exact (below_size (by repeat (first | (with_reducible first | exact HB.out | apply below_alloc | apply pw_below_drewN | apply below_drew1 | refine below_set ?_ GE200.out) | exact HB.out)))); (case aL => have := LMc3.out; omega); intro v208 w26 ho hb hg hat; rw [← Ny207.out] at ho; have n0_ := Aside0.mk (Kd.R_over' (by (with_reducible repeat (first | apply Kd.R_alloc | apply Kd.R_drewN | apply Kd.R_drew)); exact HO190.out) (Kd.N_typed (by (with_reducible repeat (first | apply Kd.N_alloc | apply Kd.N_drewN | apply Kd.N_drew)); exact HO199.out)) (by decide) hg); have n1_ := Aside0.mk (Kd.N_afterv (ok := (fun k_ => some k_ ≠ (.slice Ao21 y188.length co21 : Value).ownBlock ∧ some k_ ≠ (v202 : Value).ownBlock ∧ some k_ ≠ (v205 : Value).ownBlock ∧ k_ ≠ gb200)) (by (with_reducible repeat (first | apply Kd.N_alloc | apply Kd.N_drewN | apply Kd.N_drew)); exact Kd.N_mono HO193.out (fun _ hk => ⟨⟨hk.1.1.1.1.1, ⟨hk.1.2, ⟨hk.2, hk.1.1.2⟩⟩⟩, hk.1.1.1.2⟩)) hg hat); have n2_ := Aside0.mk (blk_grown (g := gb200) (o := .cells #[.slice Ao21 y188.length co21, .slice Ao20 y191.length co20, .int .i64 0, .int .i64 0, .slice Ao19 y197.length co19] 26 (0, 0)) (by (with_reducible repeat (first | refine blk_drewN ?_ _ | refine blk_drew ?_ | refine blk_alloc ?_ _)); exact BK200.out) hg (Kd.N_ne HO199.out BK200.out (by decide))); have n3_ := Aside0.mk (Kd.N_afterv (ok := (fun k_ => some k_ ≠ (.slice Ao21 y188.length co21 : Value).ownBlock ∧ some k_ ≠ (.slice Ao20 y191.length co20 : Value).ownBlock ∧ some k_ ≠ (v205 : Value).ownBlock ∧ k_ ≠ gb200)) (by (with_reducible repeat (first | apply Kd.N_alloc | apply Kd.N_drewN | apply Kd.N_drew)); exact Kd.N_mono HO203.out (fun _ hk => ⟨⟨hk.2.1, ⟨hk.2.2.1, ⟨hk.1, hk.2.2.2.2⟩⟩⟩, hk.2.2.2.1⟩)) hg hat); have n4_ := Aside0.mk (Kd.R_over' (by (with_reducible repeat (first | apply Kd.R_alloc | apply Kd.R_drewN | apply Kd.R_drew)); exact HO206.out) (Kd.N_typed (by (with_reducible repeat (first | apply Kd.N_alloc | apply Kd.N_drewN | apply Kd.N_drew)); exact HO199.out)) (by decide) hg); have n5_ := Aside0.mk (hb); have n6_ := Aside0.mk (ho); clear HO190; clear HO193; clear BK200; clear HO203; clear HO206; clear HB; clear HO199; have HO190 := n0_; have HO193 := n1_; have BK200 := n2_; have HO203 := n3_; have HO206 := n4_; have HB := n5_; have HO209 := n6_; clear n0_ n1_ n2_ n3_ n4_ n5_ n6_; clear ho hb hg hat; obtain ⟨Ao27, co27, eo27⟩ := Kd.N_slice HO209.out; subst eo27; have hcz28_0 : w26.cell? ⟨gb200, 0, none⟩ = some (.slice Ao21 y188.length co21) := (blk_cell BK200.out 0).trans rfl; have hcz28_1 : w26.cell? ⟨gb200, 1, none⟩ = some (.slice Ao20 y191.length co20) := (blk_cell BK200.out 1).trans rfl; have hcz28_2 : w26.cell? ⟨gb200, 2, none⟩ = some (.int .i64 0) := (blk_cell BK200.out 2).trans rfl; have hcz28_3 : w26.cell? ⟨gb200, 3, none⟩ = some (.int .i64 0) := (blk_cell BK200.out 3).trans rfl; have hcz28_4 : w26.cell? ⟨gb200, 4, none⟩ = some (.slice Ao19 y197.length co19) := (blk_cell BK200.out 4).trans rfl; have hfz28_0 := blk_frozen BK200.out 0; have hfz28_1 := blk_frozen BK200.out 1; have hfz28_2 := blk_frozen BK200.out 2; have hfz28_3 := blk_frozen BK200.out 3; have hfz28_4 := blk_frozen BK200.out 4) | ((with_reducible refine gate_callee (f := 13) rfl ?_); refine goesL_ (some 28) rfl rfl Try.func13 (by kernel_rfl) rfl #[.agg #[.slice Ao21 y188.length co21, .slice Ao20 y191.length co20, .int .i64 0, .int .i64 0, .slice Ao27 y207.length co27]] rfl (by (try simp only [List.map_toArray, List.map_cons, List.map_nil]); first | done | rfl | (simp only [List.length_drop, List.length_take]; rfl)) ?_; (with_reducible refine (predict_Predict.calls k _ _ y188 _ _ y191 0 0 _ _ y207 t210 t213 _ ?side1 ?side2 ?side3 ?side4 ?side5 ?side6 A4.out).mono ?_); (case side1 => refine (Kd.R_reads' (e := 9) (base := w.heap.size) (ok := fun k_ => True) (n := y188.length) (c := co21) ?_).2.2; exact (by (with_reducible repeat (first | apply Kd.R_alloc | apply Kd.R_drewN | apply Kd.R_drew)); exact (Kd.R_mono (Kd.R_far (p := ⟨gb200, 4, none⟩) (Kd.R_types HO190.out BK200.out (by decide)) (fun _ hk => hk.2) (.slice Ao27 y207.length co27)) (fun _ h_ => h_.1)))); (case side2 => exact (Kd.R_reads' HO190.out).2.1); (case side3 => refine (Kd.N_reads' (e := 61) (base := w.heap.size) (ok := fun k_ => ((some k_ ≠ (.slice Ao21 y188.length co21 : Value).ownBlock ∧ (some k_ ≠ (v202 : Value).ownBlock ∧ (some k_ ≠ (v205 : Value).ownBlock ∧ k_ ≠ gb200))) ∧ some k_ ≠ (.slice Ao27 y207.length co27 : Value).ownBlock)) (n := y191.length) (c := co20) ?_).2.2; exact (by (with_reducible repeat (first | apply Kd.N_alloc | apply Kd.N_drewN | apply Kd.N_drew)); exact (Kd.N_mono (Kd.N_far (p := ⟨gb200, 4, none⟩) (Kd.N_mono HO193.out (fun k_ hk => (⟨hk, hk.1.2.2.2⟩ : _ ∧ k_ ≠ gb200))) (fun _ hk => hk.2) (.slice Ao27 y207.length co27)) (fun _ h_ => h_.1)))); (case side4 => exact (Kd.N_reads' HO193.out).2.1); (case side5 => refine (Kd.N_reads' (e := 30) (base := w.heap.size) (ok := fun k_ => (some k_ ≠ (.slice Ao21 y188.length co21 : Value).ownBlock ∧ (some k_ ≠ (.slice Ao20 y191.length co20 : Value).ownBlock ∧ (some k_ ≠ (v202 : Value).ownBlock ∧ (some k_ ≠ (v205 : Value).ownBlock ∧ k_ ≠ gb200))))) (n := y207.length) (c := co27) ?_).2.2; exact (by (with_reducible repeat (first | apply Kd.N_alloc | apply Kd.N_drewN | apply Kd.N_drew)); exact (Kd.N_mono (Kd.N_far (p := ⟨gb200, 4, none⟩) (Kd.N_mono HO209.out (fun k_ hk => (⟨hk, hk.2.2.2.2⟩ : _ ∧ k_ ≠ gb200))) (fun _ hk => hk.2) (.slice Ao27 y207.length co27)) (fun _ h_ => h_.1)))); (case side6 => exact (Kd.N_reads' HO209.out).2.1); rintro e w29 ⟨v211, v214, rfl, ho0, ho1, hb⟩; refine ⟨_, rfl, ?_⟩; have n0_ := Aside0.mk (Kd.R_below (by (with_reducible repeat (first | apply Kd.R_alloc | apply Kd.R_drewN | apply Kd.R_drew)); exact (Kd.R_mono (Kd.R_far (p := ⟨gb200, 4, none⟩) (Kd.R_types HO190.out BK200.out (by decide)) (fun _ hk => hk.2) (.slice Ao27 y207.length co27)) (fun _ h_ => h_.1))) hb); have n1_ := Aside0.mk (Kd.N_mono (Kd.N_told (Kd.N_told (Kd.N_old (by (with_reducible repeat (first | apply Kd.N_alloc | apply Kd.N_drewN | apply Kd.N_drew)); exact (Kd.N_mono (Kd.N_far (p := ⟨gb200, 4, none⟩) (Kd.N_mono HO193.out (fun k_ hk => (⟨hk, hk.1.2.2.2⟩ : _ ∧ k_ ≠ gb200))) (fun _ hk => hk.2) (.slice Ao27 y207.length co27)) (fun _ h_ => h_.1))) hb) (Kd.N_base (Kd.S_N ho0))) (Kd.R_base ho1)) (fun _ h_ => h_.1)); have n2_ := Aside0.mk (Kd.N_mono (Kd.N_told (Kd.N_told (Kd.N_old (by (with_reducible repeat (first | apply Kd.N_alloc | apply Kd.N_drewN | apply Kd.N_drew)); exact (Kd.N_mono (Kd.N_far (p := ⟨gb200, 4, none⟩) (Kd.N_mono HO203.out (fun k_ hk => (⟨hk, hk.1.2.2.2⟩ : _ ∧ k_ ≠ gb200))) (fun _ hk => hk.2) (.slice Ao27 y207.length co27)) (fun _ h_ => h_.1))) hb) (Kd.N_base (Kd.S_N ho0))) (Kd.R_base ho1)) (fun _ h_ => h_.1)); have n3_ := Aside0.mk (Kd.R_elder' (by (with_reducible repeat (first | apply Kd.R_alloc | apply Kd.R_drewN | apply Kd.R_drew)); exact (Kd.R_mono (Kd.R_far (p := ⟨gb200, 4, none⟩) (Kd.R_types HO206.out BK200.out (by decide)) (fun _ hk => hk.2) (.slice Ao27 y207.length co27)) (fun _ h_ => h_.1))) (Kd.R_base ho1) hb); have n4_ := Aside0.mk (Kd.N_mono (Kd.N_told (Kd.N_told (Kd.N_old (by (with_reducible repeat (first | apply Kd.N_alloc | apply Kd.N_drewN | apply Kd.N_drew)); exact (Kd.N_mono (Kd.N_far (p := ⟨gb200, 4, none⟩) (Kd.N_mono HO209.out (fun k_ hk => (⟨hk, hk.2.2.2.2⟩ : _ ∧ k_ ≠ gb200))) (fun _ hk => hk.2) (.slice Ao27 y207.length co27)) (fun _ h_ => h_.1))) hb) (Kd.N_base (Kd.S_N ho0))) (Kd.R_base ho1)) (fun _ h_ => h_.1)); have n5_ := Aside0.mk (Kd.N_lower (Kd.N_mono (ok' := fun k_ => some k_ ≠ (v214 : Value).ownBlock ∧ some k_ ≠ (.slice Ao21 y188.length co21 : Value).ownBlock ∧ some k_ ≠ (.slice Ao20 y191.length co20 : Value).ownBlock ∧ some k_ ≠ (v202 : Value).ownBlock ∧ some k_ ≠ (v205 : Value).ownBlock ∧ some k_ ≠ (.slice Ao27 y207.length co27 : Value).ownBlock ∧ k_ ≠ gb200) (Kd.S_N (Kd.S_bound (Kd.S_apart' ho0 (Kd.R_typed ho1) (by decide)))) (fun k_ hk_ => ⟨hk_.1.2, (Kd.fresh' (Kd.R_lt (by (with_reducible repeat (first | apply Kd.R_alloc | apply Kd.R_drewN | apply Kd.R_drew)); exact (Kd.R_mono (Kd.R_far (p := ⟨gb200, 4, none⟩) (Kd.R_types HO190.out BK200.out (by decide)) (fun _ hk => hk.2) (.slice Ao27 y207.length co27)) (fun _ h_ => h_.1)))) k_ hk_.2.1), (Kd.fresh' (Kd.N_lt (by (with_reducible repeat (first | apply Kd.N_alloc | apply Kd.N_drewN | apply Kd.N_drew)); exact (Kd.N_mono (Kd.N_far (p := ⟨gb200, 4, none⟩) (Kd.N_mono HO193.out (fun k_ hk => (⟨hk, hk.1.2.2.2⟩ : _ ∧ k_ ≠ gb200))) (fun _ hk => hk.2) (.slice Ao27 y207.length co27)) (fun _ h_ => h_.1)))) k_ hk_.2.1), (Kd.fresh' (Kd.N_lt (by (with_reducible repeat (first | apply Kd.N_alloc | apply Kd.N_drewN | apply Kd.N_drew)); exact (Kd.N_mono (Kd.N_far (p := ⟨gb200, 4, none⟩) (Kd.N_mono HO203.out (fun k_ hk => (⟨hk, hk.1.2.2.2⟩ : _ ∧ k_ ≠ gb200))) (fun _ hk => hk.2) (.slice Ao27 y207.length co27)) (fun _ h_ => h_.1)))) k_ hk_.2.1), (Kd.fresh' (Kd.R_lt (by (with_reducible repeat (first | apply Kd.R_alloc | apply Kd.R_drewN | apply Kd.R_drew)); exact (Kd.R_mono (Kd.R_far (p := ⟨gb200, 4, none⟩) (Kd.R_types HO206.out BK200.out (by decide)) (fun _ hk => hk.2) (.slice Ao27 y207.length co27)) (fun _ h_ => h_.1)))) k_ hk_.2.1), (Kd.fresh' (Kd.N_lt (by (with_reducible repeat (first | apply Kd.N_alloc | apply Kd.N_drewN | apply Kd.N_drew)); exact (Kd.N_mono (Kd.N_far (p := ⟨gb200, 4, none⟩) (Kd.N_mono HO209.out (fun k_ hk => (⟨hk, hk.2.2.2.2⟩ : _ ∧ k_ ≠ gb200))) (fun _ hk => hk.2) (.slice Ao27 y207.length co27)) (fun _ h_ => h_.1)))) k_ hk_.2.1), (Kd.freshB (g := gb200) (o := .cells #[.slice Ao21 y188.length co21, .slice Ao20 y191.length co20, .int .i64 0, .int .i64 0, .slice Ao27 y207.length co27] 26 (0, 0)) (by (with_reducible repeat (first | refine blk_drewN ?_ _ | refine blk_drew ?_ | refine blk_alloc ?_ _)); refine blk_put (cs := #[.slice Ao21 y188.length co21, .slice Ao20 y191.length co20, .int .i64 0, .int .i64 0, .slice Ao19 y197.length co19]) ?_ 4 _ rfl; (with_reducible repeat (first | refine blk_drewN ?_ _ | refine blk_drew ?_ | refine blk_alloc ?_ _)); exact BK200.out) k_ hk_.2.1)⟩)) (below_size (by repeat (first | (with_reducible first | exact HB.out | apply below_alloc | apply pw_below_drewN | apply below_drew1 | refine below_set ?_ GE200.out) | exact HB.out)))); have n6_ := Aside0.mk (Kd.R_lower (Kd.R_new' ho1 (Kd.R_lt (by (with_reducible repeat (first | apply Kd.R_alloc | apply Kd.R_drewN | apply Kd.R_drew)); exact (Kd.R_mono (Kd.R_far (p := ⟨gb200, 4, none⟩) (Kd.R_types HO206.out BK200.out (by decide)) (fun _ hk => hk.2) (.slice Ao27 y207.length co27)) (fun _ h_ => h_.1))))) (below_size (by repeat (first | (with_reducible first | exact HB.out | apply below_alloc | apply pw_below_drewN | apply below_drew1 | refine below_set ?_ GE200.out) | exact HB.out)))); have n7_ := Aside0.mk (blk_below (g := gb200) (o := .cells #[.slice Ao21 y188.length co21, .slice Ao20 y191.length co20, .int .i64 0, .int .i64 0, .slice Ao27 y207.length co27] 26 (0, 0)) (by (with_reducible repeat (first | refine blk_drewN ?_ _ | refine blk_drew ?_ | refine blk_alloc ?_ _)); refine blk_put (cs := #[.slice Ao21 y188.length co21, .slice Ao20 y191.length co20, .int .i64 0, .int .i64 0, .slice Ao19 y197.length co19]) ?_ 4 _ rfl; (with_reducible repeat (first | refine blk_drewN ?_ _ | refine blk_drew ?_ | refine blk_alloc ?_ _)); exact BK200.out) hb); have n8_ := Aside0.mk (below_step (by repeat (first | (with_reducible first | exact HB.out | apply below_alloc | apply pw_below_drewN | apply below_drew1 | refine below_set ?_ GE200.out) | exact HB.out)) hb); clear HO190; clear HO193; clear HO203; clear HO206; clear HO209; clear BK200; clear HB; have HO190 := n0_; have HO193 := n1_; have HO203 := n2_; have HO206 := n3_; have HO209 := n4_; have HO212 := n5_; have HO215 := n6_; have BK200 := n7_; have HB := n8_; clear n0_ n1_ n2_ n3_ n4_ n5_ n6_ n7_ n8_; (try clear hb); (try clear hb2); (try clear hk); (try clear hi); (try clear ho0); (try clear ho1); obtain ⟨Ao30, co30, eo30⟩ := Kd.R_slice HO206.out; subst eo30) | ((with_reducible refine gate_dst (N := 36) rfl ?_); (try (refine gate_guard (by rfl) ?_; dsimp only)); refine Kd.R_lit (Kd.int .i64) _ 3 ?hg (N := 36) ?hd (xs := ([0, 1] : List Int)) (inner := [.int .i64 0, .int .i64 1]) (ok := fun _ => True) (okp := fun _ => True) ?hr ?hp (fun _ hk => hk) trivial (Below.refl _ _) (Nat.le_refl _) (by simp) ?_; (case hd => rfl); (case hg => rfl); (case hr => first | (go_simp; done) | (go_simp; rfl)); (case hp => exact (Reps.one (show Kd.M (Kd.int .i64) _ _ _ 0 [.int .i64 0] from rfl) (Reps.one (show Kd.M (Kd.int .i64) _ _ _ 1 [.int .i64 1] from rfl) (Reps.none _ _)))); intro v217 w31 ho32 hb hg_ hnew_; clear hg_ hnew_; (first | rw [← Ny216.out] at ho32 | (simp only [Int.reduceToNat] at ho32; rw [← Ny216.out] at ho32)); have n0_ := Aside0.mk (Kd.R_below (by (with_reducible repeat (first | apply Kd.R_alloc | apply Kd.R_drewN | apply Kd.R_drew)); exact HO190.out) hb); have n1_ := Aside0.mk (Kd.N_elder' (by (with_reducible repeat (first | apply Kd.N_alloc | apply Kd.N_drewN | apply Kd.N_drew)); exact HO193.out) (Kd.R_base ho32) hb); have n2_ := Aside0.mk (Kd.N_elder' (by (with_reducible repeat (first | apply Kd.N_alloc | apply Kd.N_drewN | apply Kd.N_drew)); exact HO203.out) (Kd.R_base ho32) hb); have n3_ := Aside0.mk (Kd.R_below (by (with_reducible repeat (first | apply Kd.R_alloc | apply Kd.R_drewN | apply Kd.R_drew)); exact HO206.out) hb); have n4_ := Aside0.mk (Kd.N_elder' (by (with_reducible repeat (first | apply Kd.N_alloc | apply Kd.N_drewN | apply Kd.N_drew)); exact HO209.out) (Kd.R_base ho32) hb); have n5_ := Aside0.mk (Kd.N_elder' (by (with_reducible repeat (first | apply Kd.N_alloc | apply Kd.N_drewN | apply Kd.N_drew)); exact HO212.out) (Kd.R_base ho32) hb); have n6_ := Aside0.mk (Kd.R_below (by (with_reducible repeat (first | apply Kd.R_alloc | apply Kd.R_drewN | apply Kd.R_drew)); exact HO215.out) hb); have n7_ := Aside0.mk (Kd.R_lower ho32 (below_size (by repeat (first | (with_reducible first | exact HB.out | apply below_alloc | apply pw_below_drewN | apply below_drew1 | refine below_set ?_ GE200.out) | exact HB.out)))); have n8_ := Aside0.mk (blk_below (g := gb200) (o := .cells #[.slice Ao21 y188.length co21, .slice Ao20 y191.length co20, .int .i64 0, .int .i64 0, .slice Ao27 y207.length co27] 26 (0, 0)) (by (with_reducible repeat (first | refine blk_drewN ?_ _ | refine blk_drew ?_ | refine blk_alloc ?_ _)); exact BK200.out) hb); have n9_ := Aside0.mk (below_step (by repeat (first | (with_reducible first | exact HB.out | apply below_alloc | apply pw_below_drewN | apply below_drew1 | refine below_set ?_ GE200.out) | exact HB.out)) hb); clear HO190; clear HO193; clear HO203; clear HO206; clear HO209; clear HO212; clear HO215; clear BK200; clear HB; have HO190 := n0_; have HO193 := n1_; have HO203 := n2_; have HO206 := n3_; have HO209 := n4_; have HO212 := n5_; have HO215 := n6_; have HO218 := n7_; have BK200 := n8_; have HB := n9_; clear n0_ n1_ n2_ n3_ n4_ n5_ n6_ n7_ n8_ n9_; clear hb ho32; obtain ⟨Ao33, co33, eo33⟩ := Kd.R_slice HO218.out; subst eo33) | ((with_reducible refine gate_dst (N := 37) rfl ?_); (try (refine gate_guard (by rfl) ?_; dsimp only)); refine Kd.N_lit (Kd.slice 3 (Kd.int .i64)) _ 43 ?hg (N' := 37) ?hd (xs := ([y216] : List (List Int))) (inner := [.slice Ao33 y216.length co33]) (ok := (fun k_ => some k_ ≠ (.slice Ao21 y188.length co21 : Value).ownBlock ∧ some k_ ≠ (.slice Ao20 y191.length co20 : Value).ownBlock ∧ some k_ ≠ (v202 : Value).ownBlock ∧ some k_ ≠ (.slice Ao30 t204.length co30 : Value).ownBlock ∧ some k_ ≠ (.slice Ao27 y207.length co27 : Value).ownBlock ∧ some k_ ≠ (v211 : Value).ownBlock ∧ some k_ ≠ (v214 : Value).ownBlock ∧ k_ ≠ gb200)) (okp := (fun k_ => some k_ ≠ (.slice Ao21 y188.length co21 : Value).ownBlock ∧ some k_ ≠ (.slice Ao20 y191.length co20 : Value).ownBlock ∧ some k_ ≠ (v202 : Value).ownBlock ∧ some k_ ≠ (.slice Ao30 t204.length co30 : Value).ownBlock ∧ some k_ ≠ (.slice Ao27 y207.length co27 : Value).ownBlock ∧ some k_ ≠ (v211 : Value).ownBlock ∧ some k_ ≠ (v214 : Value).ownBlock ∧ k_ ≠ gb200)) ?hr ?hp (fun _ hk => hk) ((show ∀ k_, w31.heap.size ≤ k_ → (fun k_ => some k_ ≠ (.slice Ao21 y188.length co21 : Value).ownBlock ∧ some k_ ≠ (.slice Ao20 y191.length co20 : Value).ownBlock ∧ some k_ ≠ (v202 : Value).ownBlock ∧ some k_ ≠ (.slice Ao30 t204.length co30 : Value).ownBlock ∧ some k_ ≠ (.slice Ao27 y207.length co27 : Value).ownBlock ∧ some k_ ≠ (v211 : Value).ownBlock ∧ some k_ ≠ (v214 : Value).ownBlock ∧ k_ ≠ gb200) k_ from fun k_ hk => ⟨Kd.fresh' (Kd.R_lt (by (with_reducible repeat (first | apply Kd.R_alloc | apply Kd.R_drewN | apply Kd.R_drew)); exact HO190.out)) k_ hk, Kd.fresh' (Kd.N_lt (by (with_reducible repeat (first | apply Kd.N_alloc | apply Kd.N_drewN | apply Kd.N_drew)); exact HO193.out)) k_ hk, Kd.fresh' (Kd.N_lt (by (with_reducible repeat (first | apply Kd.N_alloc | apply Kd.N_drewN | apply Kd.N_drew)); exact HO203.out)) k_ hk, Kd.fresh' (Kd.R_lt (by (with_reducible repeat (first | apply Kd.R_alloc | apply Kd.R_drewN | apply Kd.R_drew)); exact HO206.out)) k_ hk, Kd.fresh' (Kd.N_lt (by (with_reducible repeat (first | apply Kd.N_alloc | apply Kd.N_drewN | apply Kd.N_drew)); exact HO209.out)) k_ hk, Kd.fresh' (Kd.N_lt (by (with_reducible repeat (first | apply Kd.N_alloc | apply Kd.N_drewN | apply Kd.N_drew)); exact HO212.out)) k_ hk, Kd.fresh' (Kd.R_lt (by (with_reducible repeat (first | apply Kd.R_alloc | apply Kd.R_drewN | apply Kd.R_drew)); exact HO215.out)) k_ hk, Kd.freshB (g := gb200) (o := .cells #[.slice Ao21 y188.length co21, .slice Ao20 y191.length co20, .int .i64 0, .int .i64 0, .slice Ao27 y207.length co27] 26 (0, 0)) (by (with_reducible repeat (first | refine blk_drewN ?_ _ | refine blk_drew ?_ | refine blk_alloc ?_ _)); exact BK200.out) k_ hk⟩) _ (Nat.le_refl _)) (Below.refl _ _) (Nat.le_refl _) (by simp) ?_; (case hd => rfl); (case hg => rfl); (case hr => first | (go_simp; done) | (go_simp; rfl)); (case hp => exact (Reps.one (show Kd.FK (Kd.slice 3 (Kd.int .i64)) _ _ y216 [.slice Ao33 y216.length co33] from (Kd.FK_slice_mk (Kd.R_reads' (Kd.R_mono (ok' := (fun k_ => some k_ ≠ (.slice Ao21 y188.length co21 : Value).ownBlock ∧ some k_ ≠ (.slice Ao20 y191.length co20 : Value).ownBlock ∧ some k_ ≠ (v202 : Value).ownBlock ∧ some k_ ≠ (.slice Ao30 t204.length co30 : Value).ownBlock ∧ some k_ ≠ (.slice Ao27 y207.length co27 : Value).ownBlock ∧ some k_ ≠ (v211 : Value).ownBlock ∧ some k_ ≠ (v214 : Value).ownBlock ∧ k_ ≠ gb200)) (Kd.R_types (Kd.R_apart' (Kd.R_apart' (Kd.R_apart' (Kd.R_apart' (Kd.R_apart' (Kd.R_apart' (Kd.R_apart' (HO218.out) (Kd.R_typed HO190.out) (by decide)) (Kd.N_typed HO193.out) (by decide)) (Kd.N_typed HO203.out) (by decide)) (Kd.R_typed HO206.out) (by decide)) (Kd.N_typed HO209.out) (by decide)) (Kd.N_typed HO212.out) (by decide)) (Kd.R_typed HO215.out) (by decide)) BK200.out (by decide)) (fun k_ hk => ⟨hk.1.1.1.1.1.1.1.2, ⟨hk.1.1.1.1.1.1.2, ⟨hk.1.1.1.1.1.2, ⟨hk.1.1.1.1.2, ⟨hk.1.1.1.2, ⟨hk.1.1.2, ⟨hk.1.2, hk.2⟩⟩⟩⟩⟩⟩⟩))).2.1 (Kd.R_F (Kd.R_mono (ok' := (fun k_ => some k_ ≠ (.slice Ao21 y188.length co21 : Value).ownBlock ∧ some k_ ≠ (.slice Ao20 y191.length co20 : Value).ownBlock ∧ some k_ ≠ (v202 : Value).ownBlock ∧ some k_ ≠ (.slice Ao30 t204.length co30 : Value).ownBlock ∧ some k_ ≠ (.slice Ao27 y207.length co27 : Value).ownBlock ∧ some k_ ≠ (v211 : Value).ownBlock ∧ some k_ ≠ (v214 : Value).ownBlock ∧ k_ ≠ gb200)) (Kd.R_types (Kd.R_apart' (Kd.R_apart' (Kd.R_apart' (Kd.R_apart' (Kd.R_apart' (Kd.R_apart' (Kd.R_apart' (HO218.out) (Kd.R_typed HO190.out) (by decide)) (Kd.N_typed HO193.out) (by decide)) (Kd.N_typed HO203.out) (by decide)) (Kd.R_typed HO206.out) (by decide)) (Kd.N_typed HO209.out) (by decide)) (Kd.N_typed HO212.out) (by decide)) (Kd.R_typed HO215.out) (by decide)) BK200.out (by decide)) (fun k_ hk => ⟨hk.1.1.1.1.1.1.1.2, ⟨hk.1.1.1.1.1.1.2, ⟨hk.1.1.1.1.1.2, ⟨hk.1.1.1.1.2, ⟨hk.1.1.1.2, ⟨hk.1.1.2, ⟨hk.1.2, hk.2⟩⟩⟩⟩⟩⟩⟩))))) (Reps.none _ _))); intro v220 w34 ho35 hb hg_ hnew_; clear hg_ hnew_; (first | rw [← Ny219.out] at ho35 | (simp only [Int.reduceToNat] at ho35; rw [← Ny219.out] at ho35)); have n0_ := Aside0.mk (Kd.R_below (by (with_reducible repeat (first | apply Kd.R_alloc | apply Kd.R_drewN | apply Kd.R_drew)); exact HO190.out) hb); have n1_ := Aside0.mk (Kd.N_elder' (by (with_reducible repeat (first | apply Kd.N_alloc | apply Kd.N_drewN | apply Kd.N_drew)); exact HO193.out) (Kd.N_base ho35) hb); have n2_ := Aside0.mk (Kd.N_elder' (by (with_reducible repeat (first | apply Kd.N_alloc | apply Kd.N_drewN | apply Kd.N_drew)); exact HO203.out) (Kd.N_base ho35) hb); have n3_ := Aside0.mk (Kd.R_below (by (with_reducible repeat (first | apply Kd.R_alloc | apply Kd.R_drewN | apply Kd.R_drew)); exact HO206.out) hb); have n4_ := Aside0.mk (Kd.N_elder' (by (with_reducible repeat (first | apply Kd.N_alloc | apply Kd.N_drewN | apply Kd.N_drew)); exact HO209.out) (Kd.N_base ho35) hb); have n5_ := Aside0.mk (Kd.N_elder' (by (with_reducible repeat (first | apply Kd.N_alloc | apply Kd.N_drewN | apply Kd.N_drew)); exact HO212.out) (Kd.N_base ho35) hb); have n6_ := Aside0.mk (Kd.R_below (by (with_reducible repeat (first | apply Kd.R_alloc | apply Kd.R_drewN | apply Kd.R_drew)); exact HO215.out) hb); have n7_ := Aside0.mk (Kd.N_lower ho35 (below_size (by repeat (first | (with_reducible first | exact HB.out | apply below_alloc | apply pw_below_drewN | apply below_drew1 | refine below_set ?_ GE200.out) | exact HB.out)))); have n8_ := Aside0.mk (blk_below (g := gb200) (o := .cells #[.slice Ao21 y188.length co21, .slice Ao20 y191.length co20, .int .i64 0, .int .i64 0, .slice Ao27 y207.length co27] 26 (0, 0)) (by (with_reducible repeat (first | refine blk_drewN ?_ _ | refine blk_drew ?_ | refine blk_alloc ?_ _)); exact BK200.out) hb); have n9_ := Aside0.mk (below_step (by repeat (first | (with_reducible first | exact HB.out | apply below_alloc | apply pw_below_drewN | apply below_drew1 | refine below_set ?_ GE200.out) | exact HB.out)) hb); clear HO190; clear HO193; clear HO203; clear HO206; clear HO209; clear HO212; clear HO215; clear BK200; clear HB; clear HO218; have HO190 := n0_; have HO193 := n1_; have HO203 := n2_; have HO206 := n3_; have HO209 := n4_; have HO212 := n5_; have HO215 := n6_; have HO221 := n7_; have BK200 := n8_; have HB := n9_; clear n0_ n1_ n2_ n3_ n4_ n5_ n6_ n7_ n8_ n9_; clear hb ho35; obtain ⟨Ao36, co36, eo36⟩ := Kd.N_slice HO203.out; subst eo36; obtain ⟨Ao37, co37, eo37⟩ := Kd.N_slice HO221.out; subst eo37) | (go_at_call 18; (with_reducible refine (regletref13_SameLists.calls k _ _ t201 _ _ y219 true _ ?side1 ?side2 ?side3 ?side4 A6.out).mono ?_); (case side1 => repeat (first | exact (Kd.N_reads' HO203.out).2.2 | (with_reducible refine Kd.C_alloc ?_ _) | (with_reducible refine Kd.C_drewN ?_ _) | (with_reducible refine Kd.C_drew ?_))); (case side2 => exact (Kd.N_reads' HO203.out).2.1); (case side3 => repeat (first | exact (Kd.N_reads' HO221.out).2.2 | (with_reducible refine Kd.C_alloc ?_ _) | (with_reducible refine Kd.C_drewN ?_ _) | (with_reducible refine Kd.C_drew ?_))); (case side4 => exact (Kd.N_reads' HO221.out).2.1); rintro e w' ⟨rfl, ⟨nd, rfl⟩⟩; obtain ⟨Ao38, co38, eo38⟩ := Kd.R_slice HO215.out; subst eo38; have p223 : 0 ≤ (0 : Int) := (by omega); have q223 : 0 < (t213.length : Int) := of_decide_eq_true (by first | (with_reducible assumption) | assumption); obtain ⟨ad223, e223, hx223_0, hx223_1, hx223_2, hx223_3⟩ := at_T50 (Kd.R_reads' HO215.out).2.2 0 p223 q223; cases e223; have qi223 : (0 < t213.length) = True := eq_true (by omega); (try rw [show ((0 : Int)).toNat = 0 from rfl] at hx223_0); (try rw [show 0 * 4 = 0 from rfl] at hx223_0); (try rw [Addr.add_zero'] at hx223_0); (try rw [show ((0 : Int)).toNat = 0 from rfl] at hx223_1); (try rw [show 0 * 4 = 0 from rfl] at hx223_1); (try rw [Addr.add_zero'] at hx223_1); (try rw [show ((0 : Int)).toNat = 0 from rfl] at hx223_2); (try rw [show 0 * 4 = 0 from rfl] at hx223_2); (try rw [Addr.add_zero'] at hx223_2); (try rw [show ((0 : Int)).toNat = 0 from rfl] at hx223_3); (try rw [show 0 * 4 = 0 from rfl] at hx223_3); (try rw [Addr.add_zero'] at hx223_3); replace p223 := eq_true p223; replace q223 := eq_true q223))
              go_ret
              exact ⟨by first | rfl | (simp [errW_none, errW_some] <;> rfl) | (simp [*, errW_none, errW_some] <;> rfl), by repeat (first | (with_reducible first | exact HB.out | apply below_alloc | apply pw_below_drewN | apply below_drew1 | refine below_set ?_ GE200.out) | exact HB.out)⟩
            · rw [if_neg c9] at H
              exact absurd H (by simp)
          · rw [if_neg c8] at H
            exact absurd H (by simp)
        · replace c7 := Bool.eq_false_iff.mpr c7
          subst c7
          have H1 : (none) = some r := by rw [if_neg (show ¬ (false = true) by decide)] at H; exact H
          clear H
          have H := H1
          clear H1
          exact absurd H (by simp)
      · rw [if_neg c5] at H
        exact absurd H (by simp)
    · rw [if_neg c3] at H
      exact absurd H (by simp)
  · rw [if_neg c1] at H
    exact absurd H (by simp)
end Go.Proofs.Ytfdcfihcfegekaa.P
end
