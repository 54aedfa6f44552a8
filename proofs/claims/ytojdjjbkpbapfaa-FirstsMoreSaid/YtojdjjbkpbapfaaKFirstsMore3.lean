/- Packed texts of this claim: the walks of the functions, and their plain laws; see the claim's last text. -/
import Derived.Test.YtojdjjbkpbapfaaKFirstsMore2
section
namespace Go.Proofs.Ytojdjjbkpbapfaa.P
open Go.RowKit Go.Proofs.YtojdjjbkpbapfaaW.PrintWords Go.Proofs.YtojdjjbkpbapfaaW.PrintLast Go.Proofs.YtojdjjbkpbapfaaW.PrintMore
attribute [local go_sem] max2_int min2_int max_two min_two max_three min_three max_four min_four   -- for this text's walks alone
set_option linter.unusedVariables false
set_option linter.unusedSimpArgs false
mutual
def regletref13_Right.l0 : Nat → Int → List ByteArray → List (S62) → Int → Int → List (S34) → Option (Bool)
  | 0, _, _, _, _, _, _ => none
  | k + 1, x3, x228000, x228001, x228002, x228003, x228004 => if x3 < (x228004.length : Int) then (if 0 ≤ x3 then (if ((rd_T34 x228004 x3).f0) < 0 then (regletref13_Right.j1 k x3 true x228000 x228001 x228002 x228003 x228004 ((rd_T34 x228004 x3).f0) ((rd_T34 x228004 x3).f1)) else (regletref13_Right.j1 k x3 (decide (((rd_T34 x228004 x3).f0) ≥ (x228000.length : Int))) x228000 x228001 x228002 x228003 x228004 ((rd_T34 x228004 x3).f0) ((rd_T34 x228004 x3).f1))) else (none)) else (some true)
def regletref13_Right.j1 : Nat → Int → Bool → List ByteArray → List (S62) → Int → Int → List (S34) → Int → List (S49) → Option (Bool)
  | 0, _, _, _, _, _, _, _, _, _ => none
  | k + 1, x3, x29, x228000, x228001, x228002, x228003, x228004, x230000, x230001 => if x29 = true then (some false) else (regletref13_Right.l1 k x3 0 x228000 x228001 x228002 x228003 x228004 x230000 x230001)
def regletref13_Right.l1 : Nat → Int → Int → List ByteArray → List (S62) → Int → Int → List (S34) → Int → List (S49) → Option (Bool)
  | 0, _, _, _, _, _, _, _, _, _ => none
  | k + 1, x3, x5, x228000, x228001, x228002, x228003, x228004, x230000, x230001 => if x5 < (x230001.length : Int) then (if 0 ≤ x5 then (if (rd_T49 x230001 x5).f0 = true then (if ((rd_T49 x230001 x5).f1) < 0 then (some false) else (if ((rd_T49 x230001 x5).f1) ≥ (x228001.length : Int) then (some false) else (regletref13_Right.l1 k x3 (wrap64 (x5 + 1)) x228000 x228001 x228002 x228003 x228004 x230000 x230001))) else (if ((rd_T49 x230001 x5).f1) < 0 then (some false) else (if ((rd_T49 x230001 x5).f1) ≥ (x228000.length : Int) then (some false) else (regletref13_Right.l1 k x3 (wrap64 (x5 + 1)) x228000 x228001 x228002 x228003 x228004 x230000 x230001)))) else (none)) else (regletref13_Right.l0 k (wrap64 (x3 + 1)) x228000 x228001 x228002 x228003 x228004)
end
def regletref13_Right.f (k : Nat) (l0_0 : List ByteArray) (l0_1 : List (S62)) (a0_2 : Int) (a0_3 : Int) (l0_4 : List (S34)) : Option (Bool) := regletref13_Right.l0 k 0 l0_0 l0_1 a0_2 a0_3 l0_4
theorem regletref13_Right.mono_l : ∀ k, (∀ y0 y1 y2 y3 y4 y5, LeO (regletref13_Right.l0 k y0 y1 y2 y3 y4 y5) (regletref13_Right.l0 (k + 1) y0 y1 y2 y3 y4 y5)) ∧ (∀ y0 y1 y2 y3 y4 y5 y6 y7 y8, LeO (regletref13_Right.j1 k y0 y1 y2 y3 y4 y5 y6 y7 y8) (regletref13_Right.j1 (k + 1) y0 y1 y2 y3 y4 y5 y6 y7 y8)) ∧ (∀ y0 y1 y2 y3 y4 y5 y6 y7 y8, LeO (regletref13_Right.l1 k y0 y1 y2 y3 y4 y5 y6 y7 y8) (regletref13_Right.l1 (k + 1) y0 y1 y2 y3 y4 y5 y6 y7 y8))
  | 0 => ⟨fun _ _ _ _ _ _ r h => by simp [regletref13_Right.l0] at h, fun _ _ _ _ _ _ _ _ _ r h => by simp [regletref13_Right.j1] at h, fun _ _ _ _ _ _ _ _ _ r h => by simp [regletref13_Right.l1] at h⟩
  | k + 1 => by
    obtain ⟨ih0, ih1, ih2⟩ := regletref13_Right.mono_l k
    refine ⟨?_, ?_, ?_⟩
    · intro y0 y1 y2 y3 y4 y5
      unfold regletref13_Right.l0
      repeat' first
      | (with_reducible exact ih0 _ _ _ _ _ _)
      | (with_reducible exact ih1 _ _ _ _ _ _ _ _ _)
      | (with_reducible exact ih2 _ _ _ _ _ _ _ _ _)
      | (with_reducible exact LeO.refl _)
      | (with_reducible exact LeO.none _)
      | (with_reducible refine LeO.ite ?_ ?_)
      | (with_reducible refine LeO.bind ?_ (fun _ => ?_))
      | exact ih0 _ _ _ _ _ _
      | exact ih1 _ _ _ _ _ _ _ _ _
      | exact ih2 _ _ _ _ _ _ _ _ _
      | exact LeO.none _
      | refine LeO.ite ?_ ?_
      | refine LeO.bind ?_ (fun _ => ?_)
    · intro y0 y1 y2 y3 y4 y5 y6 y7 y8
      unfold regletref13_Right.j1
      repeat' first
      | (with_reducible exact ih0 _ _ _ _ _ _)
      | (with_reducible exact ih1 _ _ _ _ _ _ _ _ _)
      | (with_reducible exact ih2 _ _ _ _ _ _ _ _ _)
      | (with_reducible exact LeO.refl _)
      | (with_reducible exact LeO.none _)
      | (with_reducible refine LeO.ite ?_ ?_)
      | (with_reducible refine LeO.bind ?_ (fun _ => ?_))
      | exact ih0 _ _ _ _ _ _
      | exact ih1 _ _ _ _ _ _ _ _ _
      | exact ih2 _ _ _ _ _ _ _ _ _
      | exact LeO.none _
      | refine LeO.ite ?_ ?_
      | refine LeO.bind ?_ (fun _ => ?_)
    · intro y0 y1 y2 y3 y4 y5 y6 y7 y8
      unfold regletref13_Right.l1
      repeat' first
      | (with_reducible exact ih0 _ _ _ _ _ _)
      | (with_reducible exact ih1 _ _ _ _ _ _ _ _ _)
      | (with_reducible exact ih2 _ _ _ _ _ _ _ _ _)
      | (with_reducible exact LeO.refl _)
      | (with_reducible exact LeO.none _)
      | (with_reducible refine LeO.ite ?_ ?_)
      | (with_reducible refine LeO.bind ?_ (fun _ => ?_))
      | exact ih0 _ _ _ _ _ _
      | exact ih1 _ _ _ _ _ _ _ _ _
      | exact ih2 _ _ _ _ _ _ _ _ _
      | exact LeO.none _
      | refine LeO.ite ?_ ?_
      | refine LeO.bind ?_ (fun _ => ?_)
theorem regletref13_Right.mono : ∀ a0 a1 a2 a3 a4 k, LeO (regletref13_Right.f k a0 a1 a2 a3 a4) (regletref13_Right.f (k + 1) a0 a1 a2 a3 a4) := by
  intro a0 a1 a2 a3 a4 k
  obtain ⟨ih0, ih1, ih2⟩ := regletref13_Right.mono_l k
  unfold regletref13_Right.f
  repeat' first
      | (with_reducible exact ih0 _ _ _ _ _ _)
      | (with_reducible exact ih1 _ _ _ _ _ _ _ _ _)
      | (with_reducible exact ih2 _ _ _ _ _ _ _ _ _)
      | (with_reducible exact LeO.refl _)
      | (with_reducible exact LeO.none _)
      | (with_reducible refine LeO.ite ?_ ?_)
      | (with_reducible refine LeO.bind ?_ (fun _ => ?_))
      | exact ih0 _ _ _ _ _ _
      | exact ih1 _ _ _ _ _ _ _ _ _
      | exact ih2 _ _ _ _ _ _ _ _ _
      | exact LeO.none _
      | refine LeO.ite ?_ ?_
      | refine LeO.bind ?_ (fun _ => ?_)
set_option maxHeartbeats 8000000 in
set_option maxRecDepth 100000 in
theorem regletref13_Right.calls (k : Nat) (A0_0 : Option Addr) (c0_0 : Nat) (l0_0 : List ByteArray) (A0_1 : Option Addr) (c0_1 : Nat) (l0_1 : List (S62)) (a0_2 : Int) (a0_3 : Int) (A0_4 : Option Addr) (c0_4 : Nat) (l0_4 : List (S34)) (r : Bool) (w : World) (hr0_0 : Kd.C Kd.string w A0_0 l0_0.length l0_0) (hc0_0 : l0_0.length ≤ c0_0) (hr0_1 : Kd.C k62 w A0_1 l0_1.length l0_1) (hc0_1 : l0_1.length ≤ c0_1) (hr0_4 : Kd.C k34 w A0_4 l0_4.length l0_4) (hc0_4 : l0_4.length ≤ c0_4) (h : regletref13_Right.f k l0_0 l0_1 a0_2 a0_3 l0_4 = some r) :
    Calls Try.prog 19 #[.agg #[.slice A0_0 l0_0.length c0_0, .slice A0_1 l0_1.length c0_1, .int .i64 a0_2, .int .i64 a0_3, .slice A0_4 l0_4.length c0_4]] w fun e w' => e = .returned (.bool r) ∧ Below w.heap.size w w' := by
  have hu26 := Try.underlying26
  have hu34 := Try.underlying34
  have HR0_0 := Aside0.mk hr0_0
  have HC0_0 := Aside0.mk hc0_0
  clear hr0_0 hc0_0
  have HR0_1 := Aside0.mk hr0_1
  have HC0_1 := Aside0.mk hc0_1
  clear hr0_1 hc0_1
  have HR0_4 := Aside0.mk hr0_4
  have HC0_4 := Aside0.mk hc0_4
  clear hr0_4 hc0_4
  have HB := Aside0.mk (Below.refl w.heap.size w)
  have H : (regletref13_Right.l0 k 0 l0_0 l0_1 a0_2 a0_3 l0_4) = some r := h
  clear h
  have H' := Aside0.mk H
  clear H
  go_enter Try.func19, Try.ntmps19
  go_wp2_with (first | ((with_reducible refine gate_dst (N := 1) rfl ?_); (try (refine gate_guard (by rfl) ?_; dsimp only)); refine box_event ?hg (N := 1) ?hd (cs := #[.slice A0_0 l0_0.length c0_0, .slice A0_1 l0_1.length c0_1, .int .i64 a0_2, .int .i64 a0_3, .slice A0_4 l0_4.length c0_4]) (t := 26) ?hr ?_; (case hd => rfl); (case hg => rfl); (case hr => first | (go_simp; done) | (go_simp; rfl)); intro gb227 hg w2 hbox hb; have n0_ := Aside0.mk (below_step (by repeat (first | (with_reducible first | exact HB.out | apply below_alloc | apply pw_below_drewN | apply below_drew1) | exact HB.out)) hb); have n1_ := Aside0.mk (hbox); have n2_ := Aside0.mk ((by rw [hg]; exact (below_size (by repeat (first | (with_reducible first | exact HB.out | apply below_alloc | apply pw_below_drewN | apply below_drew1) | exact HB.out))) : w.heap.size ≤ gb227)); have n3_ := Aside0.mk ((by rw [hg]; exact (below_size (by repeat (first | (with_reducible first | exact HB.out | apply below_alloc | apply pw_below_drewN | apply below_drew1) | exact HB.out))) : w.heap.size ≤ gb227)); clear HB; have HB := n0_; have BK227 := n1_; have GW227 := n2_; have GE227 := n3_; clear n0_ n1_ n2_ n3_; clear hb hbox hg))
  go_loopg [3] k (fun kq v3 w' => ∃ (x3_1 : Int), v3 = .int .i64 x3_1 ∧ Aside0 (regletref13_Right.l0 kq x3_1 l0_0 l0_1 a0_2 a0_3 l0_4 = some r) ∧ Aside0 (kq ≤ k) ∧ Aside0 (w'.heap[gb227]? = some (.cells #[(.slice A0_0 l0_0.length c0_0), (.slice A0_1 l0_1.length c0_1), .int .i64 a0_2, .int .i64 a0_3, (.slice A0_4 l0_4.length c0_4)] 26 (0, 0))) ∧ Aside0 (Below w.heap.size w w'))
  case atStart => exact ⟨(0), (by first | rfl | (simp; done) | (simp [*]; done)), H', ⟨Nat.le_refl _⟩, ⟨by (with_reducible repeat (first | refine blk_drewN ?_ _ | refine blk_drew ?_ | refine blk_alloc ?_ _)); exact BK227.out⟩, ⟨by repeat (first | (with_reducible first | exact HB.out | apply below_alloc | apply pw_below_drewN | apply below_drew1 | refine below_set ?_ GE227.out) | exact HB.out)⟩⟩
  case round =>
    clear H'
    try clear c1
    try clear p2
    obtain ⟨x3_1, rfl, HA, HK1, BK227, HB⟩ := hrel
    cases gk with
    | zero => exact absurd HA.out (by simp [regletref13_Right.l0])
    | succ k1 =>
      have H := HA.out
      clear HA
      simp only [regletref13_Right.l0] at H
      by_cases c3 : x3_1 < (l0_4.length : Int)
      · rw [if_pos c3] at H
        have c3b0 : decide (x3_1 < (l0_4.length : Int)) = true := decide_eq_true c3
        clear c3
        by_cases c4 : 0 ≤ x3_1
        · rw [if_pos c4] at H
          have c4b0 : decide (0 ≤ x3_1) = true := decide_eq_true c4
          clear c4
          have HC5 := Aside0.mk H
          clear H
          have hcz6_0 : wr.cell? ⟨gb227, 0, none⟩ = some (.slice A0_0 l0_0.length c0_0) := (blk_cell BK227.out 0).trans rfl
          have hcz6_1 : wr.cell? ⟨gb227, 1, none⟩ = some (.slice A0_1 l0_1.length c0_1) := (blk_cell BK227.out 1).trans rfl
          have hcz6_2 : wr.cell? ⟨gb227, 2, none⟩ = some (.int .i64 a0_2) := (blk_cell BK227.out 2).trans rfl
          have hcz6_3 : wr.cell? ⟨gb227, 3, none⟩ = some (.int .i64 a0_3) := (blk_cell BK227.out 3).trans rfl
          have hcz6_4 : wr.cell? ⟨gb227, 4, none⟩ = some (.slice A0_4 l0_4.length c0_4) := (blk_cell BK227.out 4).trans rfl
          have hfz6_0 := blk_frozen BK227.out 0
          have hfz6_1 := blk_frozen BK227.out 1
          have hfz6_2 := blk_frozen BK227.out 2
          have hfz6_3 := blk_frozen BK227.out 3
          have hfz6_4 := blk_frozen BK227.out 4
          have p228 : 0 ≤ (x3_1 : Int) := of_decide_eq_true (by first | (with_reducible assumption) | assumption)
          have q228 : x3_1 < (l0_4.length : Int) := of_decide_eq_true (by first | (with_reducible assumption) | assumption)
          obtain ⟨ad228, A228_1, c228_1, e228, hx228_0, hx228_1, hl228_1, hi228_1⟩ := at_T34 HR0_4.out x3_1 p228 q228
          cases e228
          replace hx228_0 := (HB.out.cell (World.block_lt_of_cell? w _ hx228_0)).trans hx228_0
          replace hx228_1 := (HB.out.cell (World.block_lt_of_cell? w _ hx228_1)).trans hx228_1
          have HR228_1 := Aside0.mk hi228_1
          have HC228_1 := Aside0.mk hl228_1
          clear hi228_1 hl228_1
          replace p228 := eq_true p228
          replace q228 := eq_true q228
          go_upto_region 5 with (first | ((with_reducible refine gate_dst (N := 4) rfl ?_); (try (refine gate_guard (by rfl) ?_; dsimp only)); refine box_event ?hg (N := 4) ?hd (cs := #[.int .i64 0, .slice none 0 0]) (t := 34) ?hr ?_; (case hd => rfl); (case hg => rfl); (case hr => first | (go_simp; done) | (go_simp; rfl)); intro gb229 hg w7 hbox hb; have n0_ := Aside0.mk (blk_below (g := gb227) (o := .cells #[.slice A0_0 l0_0.length c0_0, .slice A0_1 l0_1.length c0_1, .int .i64 a0_2, .int .i64 a0_3, .slice (some ad228) l0_4.length c0_4] 26 (0, 0)) (by (with_reducible repeat (first | refine blk_drewN ?_ _ | refine blk_drew ?_ | refine blk_alloc ?_ _)); exact BK227.out) hb); have n1_ := Aside0.mk (below_step (by repeat (first | (with_reducible first | exact HB.out | apply below_alloc | apply pw_below_drewN | apply below_drew1 | refine below_set ?_ GE227.out) | exact HB.out)) hb); have n2_ := Aside0.mk (hbox); have n3_ := Aside0.mk ((by rw [hg]; exact (below_size (by repeat (first | (with_reducible first | exact HB.out | apply below_alloc | apply pw_below_drewN | apply below_drew1 | refine below_set ?_ GE227.out) | exact HB.out))) : w.heap.size ≤ gb229)); have n4_ := Aside0.mk ((by rw [hg]; exact (below_size (by repeat (first | (with_reducible first | exact HB.out | apply below_alloc | apply pw_below_drewN | apply below_drew1 | refine below_set ?_ GE227.out) | exact HB.out))) : w.heap.size ≤ gb229)); have n5_ := Aside0.mk ((by rw [hg]; exact Nat.ne_of_lt (blk_lt (g := gb227) (o := .cells #[.slice A0_0 l0_0.length c0_0, .slice A0_1 l0_1.length c0_1, .int .i64 a0_2, .int .i64 a0_3, .slice (some ad228) l0_4.length c0_4] 26 (0, 0)) (by (with_reducible repeat (first | refine blk_drewN ?_ _ | refine blk_drew ?_ | refine blk_alloc ?_ _)); exact BK227.out)) : gb227 ≠ gb229)); have n6_ := Aside0.mk ((by rw [hg]; exact Nat.ne_of_gt (blk_lt (g := gb227) (o := .cells #[.slice A0_0 l0_0.length c0_0, .slice A0_1 l0_1.length c0_1, .int .i64 a0_2, .int .i64 a0_3, .slice (some ad228) l0_4.length c0_4] 26 (0, 0)) (by (with_reducible repeat (first | refine blk_drewN ?_ _ | refine blk_drew ?_ | refine blk_alloc ?_ _)); exact BK227.out)) : gb229 ≠ gb227)); clear BK227; clear HB; have BK227 := n0_; have HB := n1_; have BK229 := n2_; have GW229 := n3_; have GE229 := n4_; have NB227_229 := n5_; have NB229_227 := n6_; clear n0_ n1_ n2_ n3_ n4_ n5_ n6_; clear hb hbox hg; have hnb8 := NB229_227.out; have hnc8 := NB227_229.out; have hcz9_0 : w7.cell? ⟨gb229, 0, none⟩ = some (.int .i64 0) := (blk_cell BK229.out 0).trans rfl; have hcz9_1 : w7.cell? ⟨gb229, 1, none⟩ = some (.slice none 0 0) := (blk_cell BK229.out 1).trans rfl; have hfz9_0 := blk_frozen BK229.out 0; have hfz9_1 := blk_frozen BK229.out 1))
          (try simp only [Act.put, List.setIfInBounds_toArray, List.set_cons_zero, List.set_cons_succ])
          go_cut [29] (fun v29 wc => ∃ (kq : Nat) (x29_4 : Bool), v29 = .bool x29_4 ∧ Aside0 (regletref13_Right.j1 kq x3_1 x29_4 l0_0 l0_1 a0_2 a0_3 l0_4 ((rd_T34 l0_4 x3_1).f0) ((rd_T34 l0_4 x3_1).f1) = some r) ∧ Aside0 (kq ≤ k1) ∧ Aside0 (wc.heap[gb227]? = some (.cells #[(.slice A0_0 l0_0.length c0_0), (.slice A0_1 l0_1.length c0_1), .int .i64 a0_2, .int .i64 a0_3, (.slice (some ad228) l0_4.length c0_4)] 26 (0, 0))) ∧ Aside0 (wc.heap[gb229]? = some (.cells #[.int .i64 ((rd_T34 l0_4 x3_1).f0), (.slice A228_1 ((rd_T34 l0_4 x3_1).f1).length c228_1)] 34 (0, 0))) ∧ Aside0 (Below w.heap.size w wc))
          case first =>
            have H := HC5.out
            clear HC5
            by_cases c10 : ((rd_T34 l0_4 x3_1).f0) < 0
            · rw [if_pos c10] at H
              have c10b0 : decide (((rd_T34 l0_4 x3_1).f0) < 0) = true := decide_eq_true c10
              clear c10
              (first | rw [c10b0] | (simp only [i64_w, i32_w]; rw [c10b0]) | skip)
              have H' := Aside0.mk H
              clear H
              have hnb11 := NB229_227.out
              have hnc11 := NB227_229.out
              have hcz12_0 : w7.cell? ⟨gb229, 0, none⟩ = some (.int .i64 0) := (blk_cell BK229.out 0).trans rfl
              have hcz12_1 : w7.cell? ⟨gb229, 1, none⟩ = some (.slice none 0 0) := (blk_cell BK229.out 1).trans rfl
              have hfz12_0 := blk_frozen BK229.out 0
              have hfz12_1 := blk_frozen BK229.out 1
              go_wp2
              go_meet
              case rel => exact ⟨_, (true), (by first | rfl | (simp; done) | (simp [*]; done)), H', ⟨by have := HK1.out; first | omega | exact Nat.le_refl _⟩, ⟨by (with_reducible repeat (first | refine blk_drewN ?_ _ | refine blk_drew ?_ | refine blk_alloc ?_ _)); refine blk_far ?_ NB227_229.out _; (with_reducible repeat (first | refine blk_drewN ?_ _ | refine blk_drew ?_ | refine blk_alloc ?_ _)); refine blk_far ?_ NB227_229.out _; (with_reducible repeat (first | refine blk_drewN ?_ _ | refine blk_drew ?_ | refine blk_alloc ?_ _)); exact BK227.out⟩, ⟨by (with_reducible repeat (first | refine blk_drewN ?_ _ | refine blk_drew ?_ | refine blk_alloc ?_ _)); refine blk_put (cs := #[.int .i64 ((rd_T34 l0_4 x3_1).f0), .slice none 0 0]) ?_ 1 _ rfl; (with_reducible repeat (first | refine blk_drewN ?_ _ | refine blk_drew ?_ | refine blk_alloc ?_ _)); refine blk_put (cs := #[.int .i64 0, .slice none 0 0]) ?_ 0 _ rfl; (with_reducible repeat (first | refine blk_drewN ?_ _ | refine blk_drew ?_ | refine blk_alloc ?_ _)); exact BK229.out⟩, ⟨by repeat (first | (with_reducible first | exact HB.out | apply below_alloc | apply pw_below_drewN | apply below_drew1 | refine below_set ?_ GE227.out | refine below_set ?_ GE229.out) | exact HB.out)⟩⟩
            · rw [if_neg c10] at H
              have c10b0 : decide (((rd_T34 l0_4 x3_1).f0) < 0) = false := decide_eq_false c10
              clear c10
              (first | rw [c10b0] | (simp only [i64_w, i32_w]; rw [c10b0]) | skip)
              have H' := Aside0.mk H
              clear H
              have hnb13 := NB229_227.out
              have hnc13 := NB227_229.out
              have hcz14_0 : w7.cell? ⟨gb229, 0, none⟩ = some (.int .i64 0) := (blk_cell BK229.out 0).trans rfl
              have hcz14_1 : w7.cell? ⟨gb229, 1, none⟩ = some (.slice none 0 0) := (blk_cell BK229.out 1).trans rfl
              have hfz14_0 := blk_frozen BK229.out 0
              have hfz14_1 := blk_frozen BK229.out 1
              have hcz15_0 : w7.cell? ⟨gb227, 0, none⟩ = some (.slice A0_0 l0_0.length c0_0) := (blk_cell BK227.out 0).trans rfl
              have hcz15_1 : w7.cell? ⟨gb227, 1, none⟩ = some (.slice A0_1 l0_1.length c0_1) := (blk_cell BK227.out 1).trans rfl
              have hcz15_2 : w7.cell? ⟨gb227, 2, none⟩ = some (.int .i64 a0_2) := (blk_cell BK227.out 2).trans rfl
              have hcz15_3 : w7.cell? ⟨gb227, 3, none⟩ = some (.int .i64 a0_3) := (blk_cell BK227.out 3).trans rfl
              have hcz15_4 : w7.cell? ⟨gb227, 4, none⟩ = some (.slice (some ad228) l0_4.length c0_4) := (blk_cell BK227.out 4).trans rfl
              have hfz15_0 := blk_frozen BK227.out 0
              have hfz15_1 := blk_frozen BK227.out 1
              have hfz15_2 := blk_frozen BK227.out 2
              have hfz15_3 := blk_frozen BK227.out 3
              have hfz15_4 := blk_frozen BK227.out 4
              go_wp2
              go_meet
              case rel => exact ⟨_, (decide (((rd_T34 l0_4 x3_1).f0) ≥ (l0_0.length : Int))), (by first | rfl | (simp; done) | (simp [*]; done)), H', ⟨by have := HK1.out; first | omega | exact Nat.le_refl _⟩, ⟨by (with_reducible repeat (first | refine blk_drewN ?_ _ | refine blk_drew ?_ | refine blk_alloc ?_ _)); refine blk_far ?_ NB227_229.out _; (with_reducible repeat (first | refine blk_drewN ?_ _ | refine blk_drew ?_ | refine blk_alloc ?_ _)); refine blk_far ?_ NB227_229.out _; (with_reducible repeat (first | refine blk_drewN ?_ _ | refine blk_drew ?_ | refine blk_alloc ?_ _)); exact BK227.out⟩, ⟨by (with_reducible repeat (first | refine blk_drewN ?_ _ | refine blk_drew ?_ | refine blk_alloc ?_ _)); refine blk_put (cs := #[.int .i64 ((rd_T34 l0_4 x3_1).f0), .slice none 0 0]) ?_ 1 _ rfl; (with_reducible repeat (first | refine blk_drewN ?_ _ | refine blk_drew ?_ | refine blk_alloc ?_ _)); refine blk_put (cs := #[.int .i64 0, .slice none 0 0]) ?_ 0 _ rfl; (with_reducible repeat (first | refine blk_drewN ?_ _ | refine blk_drew ?_ | refine blk_alloc ?_ _)); exact BK229.out⟩, ⟨by repeat (first | (with_reducible first | exact HB.out | apply below_alloc | apply pw_below_drewN | apply below_drew1 | refine below_set ?_ GE227.out | refine below_set ?_ GE229.out) | exact HB.out)⟩⟩
          case rest =>
            clear HC5
            try clear c1
            try clear c2
            try clear p2
            try clear q2
            try clear hx2
            try clear c3
            try clear c3b0
            try clear c4
            try clear c4b0
            try clear c8
            try clear c10
            try clear c10b0
            try clear c11
            try clear c13
            try clear hcz12_0
            try clear hcz12_1
            try clear hcz14_0
            try clear hcz14_1
            try clear hcz15_0
            try clear hcz15_1
            try clear hcz15_2
            try clear hcz15_3
            try clear hcz15_4
            try clear hcz6_0
            try clear hcz6_1
            try clear hcz6_2
            try clear hcz6_3
            try clear hcz6_4
            try clear hcz9_0
            try clear hcz9_1
            try clear hfz12_0
            try clear hfz12_1
            try clear hfz14_0
            try clear hfz14_1
            try clear hfz15_0
            try clear hfz15_1
            try clear hfz15_2
            try clear hfz15_3
            try clear hfz15_4
            try clear hfz6_0
            try clear hfz6_1
            try clear hfz6_2
            try clear hfz6_3
            try clear hfz6_4
            try clear hfz9_0
            try clear hfz9_1
            try clear hx228_0
            try clear hx228_1
            try clear p2
            try clear p228
            try clear q228
            obtain ⟨kq, x29_4, rfl, HA, HJ4, BK227, BK229, HB⟩ := hcut
            cases kq with
            | zero => exact absurd HA.out (by simp [regletref13_Right.j1])
            | succ kj4 =>
              have H := HA.out
              clear HA
              simp only [regletref13_Right.j1] at H
              by_cases c16 : x29_4 = true
              · subst c16
                have H1 : (some false) = some r := by rw [if_pos rfl] at H; exact H
                clear H
                have H := H1
                clear H1
                obtain rfl := Option.some.inj H
                go_wp2
                go_ret
                exact ⟨by first | rfl | (simp [errW_none, errW_some] <;> rfl) | (simp [*, errW_none, errW_some] <;> rfl), by repeat (first | (with_reducible first | exact HB.out | apply below_alloc | apply pw_below_drewN | apply below_drew1 | refine below_set ?_ GE227.out | refine below_set ?_ GE229.out) | exact HB.out)⟩
              · replace c16 := Bool.eq_false_iff.mpr c16
                subst c16
                have H1 : (regletref13_Right.l1 kj4 x3_1 0 l0_0 l0_1 a0_2 a0_3 l0_4 ((rd_T34 l0_4 x3_1).f0) ((rd_T34 l0_4 x3_1).f1)) = some r := by rw [if_neg (show ¬ (false = true) by decide)] at H; exact H
                clear H
                have H := H1
                clear H1
                have H' := Aside0.mk H
                clear H
                go_wp2
                go_loopg [5] kj4 (fun kq v5 w' => ∃ (x5_3 : Int), v5 = .int .i64 x5_3 ∧ Aside0 (regletref13_Right.l1 kq x3_1 x5_3 l0_0 l0_1 a0_2 a0_3 l0_4 ((rd_T34 l0_4 x3_1).f0) ((rd_T34 l0_4 x3_1).f1) = some r) ∧ Aside0 (kq ≤ kj4) ∧ Aside0 (w'.heap[gb227]? = some (.cells #[(.slice A0_0 l0_0.length c0_0), (.slice A0_1 l0_1.length c0_1), .int .i64 a0_2, .int .i64 a0_3, (.slice (some ad228) l0_4.length c0_4)] 26 (0, 0))) ∧ Aside0 (w'.heap[gb229]? = some (.cells #[.int .i64 ((rd_T34 l0_4 x3_1).f0), (.slice A228_1 ((rd_T34 l0_4 x3_1).f1).length c228_1)] 34 (0, 0))) ∧ Aside0 (Below w.heap.size w w'))
                case atStart => exact ⟨(0), (by first | rfl | (simp; done) | (simp [*]; done)), H', ⟨Nat.le_refl _⟩, ⟨by (with_reducible repeat (first | refine blk_drewN ?_ _ | refine blk_drew ?_ | refine blk_alloc ?_ _)); exact BK227.out⟩, ⟨by (with_reducible repeat (first | refine blk_drewN ?_ _ | refine blk_drew ?_ | refine blk_alloc ?_ _)); exact BK229.out⟩, ⟨by repeat (first | (with_reducible first | exact HB.out | apply below_alloc | apply pw_below_drewN | apply below_drew1 | refine below_set ?_ GE227.out | refine below_set ?_ GE229.out) | exact HB.out)⟩⟩
                case round =>
                  clear H'
                  try clear c1
                  try clear c2
                  try clear p2
                  try clear q2
                  try clear hx2
                  try clear c3
                  try clear c3b0
                  try clear c4
                  try clear c4b0
                  try clear c8
                  try clear c10
                  try clear c10b0
                  try clear c11
                  try clear c13
                  try clear c16
                  try clear hcz12_0
                  try clear hcz12_1
                  try clear hcz14_0
                  try clear hcz14_1
                  try clear hcz15_0
                  try clear hcz15_1
                  try clear hcz15_2
                  try clear hcz15_3
                  try clear hcz15_4
                  try clear hcz6_0
                  try clear hcz6_1
                  try clear hcz6_2
                  try clear hcz6_3
                  try clear hcz6_4
                  try clear hcz9_0
                  try clear hcz9_1
                  try clear hfz12_0
                  try clear hfz12_1
                  try clear hfz14_0
                  try clear hfz14_1
                  try clear hfz15_0
                  try clear hfz15_1
                  try clear hfz15_2
                  try clear hfz15_3
                  try clear hfz15_4
                  try clear hfz6_0
                  try clear hfz6_1
                  try clear hfz6_2
                  try clear hfz6_3
                  try clear hfz6_4
                  try clear hfz9_0
                  try clear hfz9_1
                  try clear hx228_0
                  try clear hx228_1
                  try clear p2
                  try clear p228
                  try clear q2
                  try clear q228
                  obtain ⟨x5_3, rfl, HA, HK3, BK227, BK229, HB⟩ := hrel
                  cases gk with
                  | zero => exact absurd HA.out (by simp [regletref13_Right.l1])
                  | succ k3 =>
                    have H := HA.out
                    clear HA
                    simp only [regletref13_Right.l1] at H
                    by_cases c17 : x5_3 < (((rd_T34 l0_4 x3_1).f1).length : Int)
                    · rw [if_pos c17] at H
                      have c17b0 : decide (x5_3 < (((rd_T34 l0_4 x3_1).f1).length : Int)) = true := decide_eq_true c17
                      clear c17
                      by_cases c18 : 0 ≤ x5_3
                      · rw [if_pos c18] at H
                        have c18b0 : decide (0 ≤ x5_3) = true := decide_eq_true c18
                        clear c18
                        obtain ⟨bq19, hbq19⟩ : ∃ b_ : Bool, b_ = ((rd_T49 ((rd_T34 l0_4 x3_1).f1) x5_3).f0) := ⟨_, rfl⟩
                        replace H : (if bq19 = true then (if ((rd_T49 ((rd_T34 l0_4 x3_1).f1) x5_3).f1) < 0 then (some false) else (if ((rd_T49 ((rd_T34 l0_4 x3_1).f1) x5_3).f1) ≥ (l0_1.length : Int) then (some false) else (regletref13_Right.l1 k3 x3_1 (wrap64 (x5_3 + 1)) l0_0 l0_1 a0_2 a0_3 l0_4 ((rd_T34 l0_4 x3_1).f0) ((rd_T34 l0_4 x3_1).f1)))) else (if ((rd_T49 ((rd_T34 l0_4 x3_1).f1) x5_3).f1) < 0 then (some false) else (if ((rd_T49 ((rd_T34 l0_4 x3_1).f1) x5_3).f1) ≥ (l0_0.length : Int) then (some false) else (regletref13_Right.l1 k3 x3_1 (wrap64 (x5_3 + 1)) l0_0 l0_1 a0_2 a0_3 l0_4 ((rd_T34 l0_4 x3_1).f0) ((rd_T34 l0_4 x3_1).f1))))) = some r := by rw [← hbq19] at H; exact H
                        have Nbq19 := Aside0.mk hbq19
                        clear hbq19
                        by_cases c20 : bq19 = true
                        · subst c20
                          have H1 : (if ((rd_T49 ((rd_T34 l0_4 x3_1).f1) x5_3).f1) < 0 then (some false) else (if ((rd_T49 ((rd_T34 l0_4 x3_1).f1) x5_3).f1) ≥ (l0_1.length : Int) then (some false) else (regletref13_Right.l1 k3 x3_1 (wrap64 (x5_3 + 1)) l0_0 l0_1 a0_2 a0_3 l0_4 ((rd_T34 l0_4 x3_1).f0) ((rd_T34 l0_4 x3_1).f1)))) = some r := by rw [if_pos rfl] at H; exact H
                          clear H
                          have H := H1
                          clear H1
                          by_cases c21 : ((rd_T49 ((rd_T34 l0_4 x3_1).f1) x5_3).f1) < 0
                          · rw [if_pos c21] at H
                            have c21b0 : decide (((rd_T49 ((rd_T34 l0_4 x3_1).f1) x5_3).f1) < 0) = true := decide_eq_true c21
                            clear c21
                            obtain rfl := Option.some.inj H
                            have hnb22 := NB229_227.out
                            have hnc22 := NB227_229.out
                            have hcz23_0 : wr.cell? ⟨gb229, 0, none⟩ = some (.int .i64 ((rd_T34 l0_4 x3_1).f0)) := (blk_cell BK229.out 0).trans rfl
                            have hcz23_1 : wr.cell? ⟨gb229, 1, none⟩ = some (.slice A228_1 ((rd_T34 l0_4 x3_1).f1).length c228_1) := (blk_cell BK229.out 1).trans rfl
                            have hfz23_0 := blk_frozen BK229.out 0
                            have hfz23_1 := blk_frozen BK229.out 1
                            have hcz24_0 : wr.cell? ⟨gb227, 0, none⟩ = some (.slice A0_0 l0_0.length c0_0) := (blk_cell BK227.out 0).trans rfl
                            have hcz24_1 : wr.cell? ⟨gb227, 1, none⟩ = some (.slice A0_1 l0_1.length c0_1) := (blk_cell BK227.out 1).trans rfl
                            have hcz24_2 : wr.cell? ⟨gb227, 2, none⟩ = some (.int .i64 a0_2) := (blk_cell BK227.out 2).trans rfl
                            have hcz24_3 : wr.cell? ⟨gb227, 3, none⟩ = some (.int .i64 a0_3) := (blk_cell BK227.out 3).trans rfl
                            have hcz24_4 : wr.cell? ⟨gb227, 4, none⟩ = some (.slice (some ad228) l0_4.length c0_4) := (blk_cell BK227.out 4).trans rfl
                            have hfz24_0 := blk_frozen BK227.out 0
                            have hfz24_1 := blk_frozen BK227.out 1
                            have hfz24_2 := blk_frozen BK227.out 2
                            have hfz24_3 := blk_frozen BK227.out 3
                            have hfz24_4 := blk_frozen BK227.out 4
                            have p230 : 0 ≤ (x5_3 : Int) := of_decide_eq_true (by first | (with_reducible assumption) | assumption)
                            have q230 : x5_3 < (((rd_T34 l0_4 x3_1).f1).length : Int) := of_decide_eq_true (by first | (with_reducible assumption) | assumption)
                            obtain ⟨ad230, e230, hx230_0, hx230_1⟩ := at_T49 HR228_1.out x5_3 p230 q230
                            (try rw [← Nbq19.out] at hx230_0)
                            cases e230
                            replace hx230_0 := (HB.out.cell (World.block_lt_of_cell? w _ hx230_0)).trans hx230_0
                            replace hx230_1 := (HB.out.cell (World.block_lt_of_cell? w _ hx230_1)).trans hx230_1
                            replace p230 := eq_true p230
                            replace q230 := eq_true q230
                            have p231 : 0 ≤ (x5_3 : Int) := of_decide_eq_true (by first | (with_reducible assumption) | assumption)
                            have q231 : x5_3 < (((rd_T34 l0_4 x3_1).f1).length : Int) := of_decide_eq_true (by first | (with_reducible assumption) | assumption)
                            obtain ⟨ad231, e231, hx231_0, hx231_1⟩ := at_T49 HR228_1.out x5_3 p231 q231
                            (try rw [← Nbq19.out] at hx231_0)
                            obtain rfl : ad230 = ad231 := (by injection e231)
                            replace hx231_0 := (HB.out.cell (World.block_lt_of_cell? w _ hx231_0)).trans hx231_0
                            replace hx231_1 := (HB.out.cell (World.block_lt_of_cell? w _ hx231_1)).trans hx231_1
                            replace p231 := eq_true p231
                            replace q231 := eq_true q231
                            go_wp2
                            go_ret
                            exact ⟨by first | rfl | (simp [errW_none, errW_some] <;> rfl) | (simp [*, errW_none, errW_some] <;> rfl), by repeat (first | (with_reducible first | exact HB.out | apply below_alloc | apply pw_below_drewN | apply below_drew1 | refine below_set ?_ GE227.out | refine below_set ?_ GE229.out) | exact HB.out)⟩
                          · rw [if_neg c21] at H
                            have c21b0 : decide (((rd_T49 ((rd_T34 l0_4 x3_1).f1) x5_3).f1) < 0) = false := decide_eq_false c21
                            clear c21
                            by_cases c25 : ((rd_T49 ((rd_T34 l0_4 x3_1).f1) x5_3).f1) ≥ (l0_1.length : Int)
                            · rw [if_pos c25] at H
                              have c25b0 : decide ((l0_1.length : Int) ≤ ((rd_T49 ((rd_T34 l0_4 x3_1).f1) x5_3).f1)) = true := decide_eq_true c25
                              clear c25
                              obtain rfl := Option.some.inj H
                              have hnb26 := NB229_227.out
                              have hnc26 := NB227_229.out
                              have hcz27_0 : wr.cell? ⟨gb229, 0, none⟩ = some (.int .i64 ((rd_T34 l0_4 x3_1).f0)) := (blk_cell BK229.out 0).trans rfl
                              have hcz27_1 : wr.cell? ⟨gb229, 1, none⟩ = some (.slice A228_1 ((rd_T34 l0_4 x3_1).f1).length c228_1) := (blk_cell BK229.out 1).trans rfl
                              have hfz27_0 := blk_frozen BK229.out 0
                              have hfz27_1 := blk_frozen BK229.out 1
                              have hcz28_0 : wr.cell? ⟨gb227, 0, none⟩ = some (.slice A0_0 l0_0.length c0_0) := (blk_cell BK227.out 0).trans rfl
                              have hcz28_1 : wr.cell? ⟨gb227, 1, none⟩ = some (.slice A0_1 l0_1.length c0_1) := (blk_cell BK227.out 1).trans rfl
                              have hcz28_2 : wr.cell? ⟨gb227, 2, none⟩ = some (.int .i64 a0_2) := (blk_cell BK227.out 2).trans rfl
                              have hcz28_3 : wr.cell? ⟨gb227, 3, none⟩ = some (.int .i64 a0_3) := (blk_cell BK227.out 3).trans rfl
                              have hcz28_4 : wr.cell? ⟨gb227, 4, none⟩ = some (.slice (some ad228) l0_4.length c0_4) := (blk_cell BK227.out 4).trans rfl
                              have hfz28_0 := blk_frozen BK227.out 0
                              have hfz28_1 := blk_frozen BK227.out 1
                              have hfz28_2 := blk_frozen BK227.out 2
                              have hfz28_3 := blk_frozen BK227.out 3
                              have hfz28_4 := blk_frozen BK227.out 4
                              have p230 : 0 ≤ (x5_3 : Int) := of_decide_eq_true (by first | (with_reducible assumption) | assumption)
                              have q230 : x5_3 < (((rd_T34 l0_4 x3_1).f1).length : Int) := of_decide_eq_true (by first | (with_reducible assumption) | assumption)
                              obtain ⟨ad230, e230, hx230_0, hx230_1⟩ := at_T49 HR228_1.out x5_3 p230 q230
                              (try rw [← Nbq19.out] at hx230_0)
                              cases e230
                              replace hx230_0 := (HB.out.cell (World.block_lt_of_cell? w _ hx230_0)).trans hx230_0
                              replace hx230_1 := (HB.out.cell (World.block_lt_of_cell? w _ hx230_1)).trans hx230_1
                              replace p230 := eq_true p230
                              replace q230 := eq_true q230
                              have p231 : 0 ≤ (x5_3 : Int) := of_decide_eq_true (by first | (with_reducible assumption) | assumption)
                              have q231 : x5_3 < (((rd_T34 l0_4 x3_1).f1).length : Int) := of_decide_eq_true (by first | (with_reducible assumption) | assumption)
                              obtain ⟨ad231, e231, hx231_0, hx231_1⟩ := at_T49 HR228_1.out x5_3 p231 q231
                              (try rw [← Nbq19.out] at hx231_0)
                              obtain rfl : ad230 = ad231 := (by injection e231)
                              replace hx231_0 := (HB.out.cell (World.block_lt_of_cell? w _ hx231_0)).trans hx231_0
                              replace hx231_1 := (HB.out.cell (World.block_lt_of_cell? w _ hx231_1)).trans hx231_1
                              replace p231 := eq_true p231
                              replace q231 := eq_true q231
                              have p232 : 0 ≤ (x5_3 : Int) := of_decide_eq_true (by first | (with_reducible assumption) | assumption)
                              have q232 : x5_3 < (((rd_T34 l0_4 x3_1).f1).length : Int) := of_decide_eq_true (by first | (with_reducible assumption) | assumption)
                              obtain ⟨ad232, e232, hx232_0, hx232_1⟩ := at_T49 HR228_1.out x5_3 p232 q232
                              (try rw [← Nbq19.out] at hx232_0)
                              obtain rfl : ad230 = ad232 := (by injection e232)
                              replace hx232_0 := (HB.out.cell (World.block_lt_of_cell? w _ hx232_0)).trans hx232_0
                              replace hx232_1 := (HB.out.cell (World.block_lt_of_cell? w _ hx232_1)).trans hx232_1
                              replace p232 := eq_true p232
                              replace q232 := eq_true q232
                              go_wp2
                              go_ret
                              exact ⟨by first | rfl | (simp [errW_none, errW_some] <;> rfl) | (simp [*, errW_none, errW_some] <;> rfl), by repeat (first | (with_reducible first | exact HB.out | apply below_alloc | apply pw_below_drewN | apply below_drew1 | refine below_set ?_ GE227.out | refine below_set ?_ GE229.out) | exact HB.out)⟩
                            · rw [if_neg c25] at H
                              have c25b0 : decide ((l0_1.length : Int) ≤ ((rd_T49 ((rd_T34 l0_4 x3_1).f1) x5_3).f1)) = false := decide_eq_false c25
                              clear c25
                              have H' := Aside0.mk H
                              clear H
                              have hnb29 := NB229_227.out
                              have hnc29 := NB227_229.out
                              have hcz30_0 : wr.cell? ⟨gb229, 0, none⟩ = some (.int .i64 ((rd_T34 l0_4 x3_1).f0)) := (blk_cell BK229.out 0).trans rfl
                              have hcz30_1 : wr.cell? ⟨gb229, 1, none⟩ = some (.slice A228_1 ((rd_T34 l0_4 x3_1).f1).length c228_1) := (blk_cell BK229.out 1).trans rfl
                              have hfz30_0 := blk_frozen BK229.out 0
                              have hfz30_1 := blk_frozen BK229.out 1
                              have hcz31_0 : wr.cell? ⟨gb227, 0, none⟩ = some (.slice A0_0 l0_0.length c0_0) := (blk_cell BK227.out 0).trans rfl
                              have hcz31_1 : wr.cell? ⟨gb227, 1, none⟩ = some (.slice A0_1 l0_1.length c0_1) := (blk_cell BK227.out 1).trans rfl
                              have hcz31_2 : wr.cell? ⟨gb227, 2, none⟩ = some (.int .i64 a0_2) := (blk_cell BK227.out 2).trans rfl
                              have hcz31_3 : wr.cell? ⟨gb227, 3, none⟩ = some (.int .i64 a0_3) := (blk_cell BK227.out 3).trans rfl
                              have hcz31_4 : wr.cell? ⟨gb227, 4, none⟩ = some (.slice (some ad228) l0_4.length c0_4) := (blk_cell BK227.out 4).trans rfl
                              have hfz31_0 := blk_frozen BK227.out 0
                              have hfz31_1 := blk_frozen BK227.out 1
                              have hfz31_2 := blk_frozen BK227.out 2
                              have hfz31_3 := blk_frozen BK227.out 3
                              have hfz31_4 := blk_frozen BK227.out 4
                              have p230 : 0 ≤ (x5_3 : Int) := of_decide_eq_true (by first | (with_reducible assumption) | assumption)
                              have q230 : x5_3 < (((rd_T34 l0_4 x3_1).f1).length : Int) := of_decide_eq_true (by first | (with_reducible assumption) | assumption)
                              obtain ⟨ad230, e230, hx230_0, hx230_1⟩ := at_T49 HR228_1.out x5_3 p230 q230
                              (try rw [← Nbq19.out] at hx230_0)
                              cases e230
                              replace hx230_0 := (HB.out.cell (World.block_lt_of_cell? w _ hx230_0)).trans hx230_0
                              replace hx230_1 := (HB.out.cell (World.block_lt_of_cell? w _ hx230_1)).trans hx230_1
                              replace p230 := eq_true p230
                              replace q230 := eq_true q230
                              have p231 : 0 ≤ (x5_3 : Int) := of_decide_eq_true (by first | (with_reducible assumption) | assumption)
                              have q231 : x5_3 < (((rd_T34 l0_4 x3_1).f1).length : Int) := of_decide_eq_true (by first | (with_reducible assumption) | assumption)
                              obtain ⟨ad231, e231, hx231_0, hx231_1⟩ := at_T49 HR228_1.out x5_3 p231 q231
                              (try rw [← Nbq19.out] at hx231_0)
                              obtain rfl : ad230 = ad231 := (by injection e231)
                              replace hx231_0 := (HB.out.cell (World.block_lt_of_cell? w _ hx231_0)).trans hx231_0
                              replace hx231_1 := (HB.out.cell (World.block_lt_of_cell? w _ hx231_1)).trans hx231_1
                              replace p231 := eq_true p231
                              replace q231 := eq_true q231
                              have p232 : 0 ≤ (x5_3 : Int) := of_decide_eq_true (by first | (with_reducible assumption) | assumption)
                              have q232 : x5_3 < (((rd_T34 l0_4 x3_1).f1).length : Int) := of_decide_eq_true (by first | (with_reducible assumption) | assumption)
                              obtain ⟨ad232, e232, hx232_0, hx232_1⟩ := at_T49 HR228_1.out x5_3 p232 q232
                              (try rw [← Nbq19.out] at hx232_0)
                              obtain rfl : ad230 = ad232 := (by injection e232)
                              replace hx232_0 := (HB.out.cell (World.block_lt_of_cell? w _ hx232_0)).trans hx232_0
                              replace hx232_1 := (HB.out.cell (World.block_lt_of_cell? w _ hx232_1)).trans hx232_1
                              replace p232 := eq_true p232
                              replace q232 := eq_true q232
                              go_wp2
                              go_roundg k3
                              case measure => have := HK1.out; have := HJ4.out; have := HK3.out; omega
                              case rel => exact ⟨(wrap64 (x5_3 + 1)), (by first | rfl | (simp; done) | (simp [*]; done)), H', ⟨by have := HK1.out; have := HJ4.out; have := HK3.out; omega⟩, ⟨by (with_reducible repeat (first | refine blk_drewN ?_ _ | refine blk_drew ?_ | refine blk_alloc ?_ _)); exact BK227.out⟩, ⟨by (with_reducible repeat (first | refine blk_drewN ?_ _ | refine blk_drew ?_ | refine blk_alloc ?_ _)); exact BK229.out⟩, ⟨by repeat (first | (with_reducible first | exact HB.out | apply below_alloc | apply pw_below_drewN | apply below_drew1 | refine below_set ?_ GE227.out | refine below_set ?_ GE229.out) | exact HB.out)⟩⟩
                        · replace c20 := Bool.eq_false_iff.mpr c20
                          subst c20
                          have H1 : (if ((rd_T49 ((rd_T34 l0_4 x3_1).f1) x5_3).f1) < 0 then (some false) else (if ((rd_T49 ((rd_T34 l0_4 x3_1).f1) x5_3).f1) ≥ (l0_0.length : Int) then (some false) else (regletref13_Right.l1 k3 x3_1 (wrap64 (x5_3 + 1)) l0_0 l0_1 a0_2 a0_3 l0_4 ((rd_T34 l0_4 x3_1).f0) ((rd_T34 l0_4 x3_1).f1)))) = some r := by rw [if_neg (show ¬ (false = true) by decide)] at H; exact H
                          clear H
                          have H := H1
                          clear H1
                          by_cases c32 : ((rd_T49 ((rd_T34 l0_4 x3_1).f1) x5_3).f1) < 0
                          · rw [if_pos c32] at H
                            have c32b0 : decide (((rd_T49 ((rd_T34 l0_4 x3_1).f1) x5_3).f1) < 0) = true := decide_eq_true c32
                            clear c32
                            obtain rfl := Option.some.inj H
                            have hnb33 := NB229_227.out
                            have hnc33 := NB227_229.out
                            have hcz34_0 : wr.cell? ⟨gb229, 0, none⟩ = some (.int .i64 ((rd_T34 l0_4 x3_1).f0)) := (blk_cell BK229.out 0).trans rfl
                            have hcz34_1 : wr.cell? ⟨gb229, 1, none⟩ = some (.slice A228_1 ((rd_T34 l0_4 x3_1).f1).length c228_1) := (blk_cell BK229.out 1).trans rfl
                            have hfz34_0 := blk_frozen BK229.out 0
                            have hfz34_1 := blk_frozen BK229.out 1
                            have hcz35_0 : wr.cell? ⟨gb227, 0, none⟩ = some (.slice A0_0 l0_0.length c0_0) := (blk_cell BK227.out 0).trans rfl
                            have hcz35_1 : wr.cell? ⟨gb227, 1, none⟩ = some (.slice A0_1 l0_1.length c0_1) := (blk_cell BK227.out 1).trans rfl
                            have hcz35_2 : wr.cell? ⟨gb227, 2, none⟩ = some (.int .i64 a0_2) := (blk_cell BK227.out 2).trans rfl
                            have hcz35_3 : wr.cell? ⟨gb227, 3, none⟩ = some (.int .i64 a0_3) := (blk_cell BK227.out 3).trans rfl
                            have hcz35_4 : wr.cell? ⟨gb227, 4, none⟩ = some (.slice (some ad228) l0_4.length c0_4) := (blk_cell BK227.out 4).trans rfl
                            have hfz35_0 := blk_frozen BK227.out 0
                            have hfz35_1 := blk_frozen BK227.out 1
                            have hfz35_2 := blk_frozen BK227.out 2
                            have hfz35_3 := blk_frozen BK227.out 3
                            have hfz35_4 := blk_frozen BK227.out 4
                            have p230 : 0 ≤ (x5_3 : Int) := of_decide_eq_true (by first | (with_reducible assumption) | assumption)
                            have q230 : x5_3 < (((rd_T34 l0_4 x3_1).f1).length : Int) := of_decide_eq_true (by first | (with_reducible assumption) | assumption)
                            obtain ⟨ad230, e230, hx230_0, hx230_1⟩ := at_T49 HR228_1.out x5_3 p230 q230
                            (try rw [← Nbq19.out] at hx230_0)
                            cases e230
                            replace hx230_0 := (HB.out.cell (World.block_lt_of_cell? w _ hx230_0)).trans hx230_0
                            replace hx230_1 := (HB.out.cell (World.block_lt_of_cell? w _ hx230_1)).trans hx230_1
                            replace p230 := eq_true p230
                            replace q230 := eq_true q230
                            have p233 : 0 ≤ (x5_3 : Int) := of_decide_eq_true (by first | (with_reducible assumption) | assumption)
                            have q233 : x5_3 < (((rd_T34 l0_4 x3_1).f1).length : Int) := of_decide_eq_true (by first | (with_reducible assumption) | assumption)
                            obtain ⟨ad233, e233, hx233_0, hx233_1⟩ := at_T49 HR228_1.out x5_3 p233 q233
                            (try rw [← Nbq19.out] at hx233_0)
                            obtain rfl : ad230 = ad233 := (by injection e233)
                            replace hx233_0 := (HB.out.cell (World.block_lt_of_cell? w _ hx233_0)).trans hx233_0
                            replace hx233_1 := (HB.out.cell (World.block_lt_of_cell? w _ hx233_1)).trans hx233_1
                            replace p233 := eq_true p233
                            replace q233 := eq_true q233
                            go_wp2
                            go_ret
                            exact ⟨by first | rfl | (simp [errW_none, errW_some] <;> rfl) | (simp [*, errW_none, errW_some] <;> rfl), by repeat (first | (with_reducible first | exact HB.out | apply below_alloc | apply pw_below_drewN | apply below_drew1 | refine below_set ?_ GE227.out | refine below_set ?_ GE229.out) | exact HB.out)⟩
                          · rw [if_neg c32] at H
                            have c32b0 : decide (((rd_T49 ((rd_T34 l0_4 x3_1).f1) x5_3).f1) < 0) = false := decide_eq_false c32
                            clear c32
                            by_cases c36 : ((rd_T49 ((rd_T34 l0_4 x3_1).f1) x5_3).f1) ≥ (l0_0.length : Int)
                            · rw [if_pos c36] at H
                              have c36b0 : decide ((l0_0.length : Int) ≤ ((rd_T49 ((rd_T34 l0_4 x3_1).f1) x5_3).f1)) = true := decide_eq_true c36
                              clear c36
                              obtain rfl := Option.some.inj H
                              have hnb37 := NB229_227.out
                              have hnc37 := NB227_229.out
                              have hcz38_0 : wr.cell? ⟨gb229, 0, none⟩ = some (.int .i64 ((rd_T34 l0_4 x3_1).f0)) := (blk_cell BK229.out 0).trans rfl
                              have hcz38_1 : wr.cell? ⟨gb229, 1, none⟩ = some (.slice A228_1 ((rd_T34 l0_4 x3_1).f1).length c228_1) := (blk_cell BK229.out 1).trans rfl
                              have hfz38_0 := blk_frozen BK229.out 0
                              have hfz38_1 := blk_frozen BK229.out 1
                              have hcz39_0 : wr.cell? ⟨gb227, 0, none⟩ = some (.slice A0_0 l0_0.length c0_0) := (blk_cell BK227.out 0).trans rfl
                              have hcz39_1 : wr.cell? ⟨gb227, 1, none⟩ = some (.slice A0_1 l0_1.length c0_1) := (blk_cell BK227.out 1).trans rfl
                              have hcz39_2 : wr.cell? ⟨gb227, 2, none⟩ = some (.int .i64 a0_2) := (blk_cell BK227.out 2).trans rfl
                              have hcz39_3 : wr.cell? ⟨gb227, 3, none⟩ = some (.int .i64 a0_3) := (blk_cell BK227.out 3).trans rfl
                              have hcz39_4 : wr.cell? ⟨gb227, 4, none⟩ = some (.slice (some ad228) l0_4.length c0_4) := (blk_cell BK227.out 4).trans rfl
                              have hfz39_0 := blk_frozen BK227.out 0
                              have hfz39_1 := blk_frozen BK227.out 1
                              have hfz39_2 := blk_frozen BK227.out 2
                              have hfz39_3 := blk_frozen BK227.out 3
                              have hfz39_4 := blk_frozen BK227.out 4
                              have p230 : 0 ≤ (x5_3 : Int) := of_decide_eq_true (by first | (with_reducible assumption) | assumption)
                              have q230 : x5_3 < (((rd_T34 l0_4 x3_1).f1).length : Int) := of_decide_eq_true (by first | (with_reducible assumption) | assumption)
                              obtain ⟨ad230, e230, hx230_0, hx230_1⟩ := at_T49 HR228_1.out x5_3 p230 q230
                              (try rw [← Nbq19.out] at hx230_0)
                              cases e230
                              replace hx230_0 := (HB.out.cell (World.block_lt_of_cell? w _ hx230_0)).trans hx230_0
                              replace hx230_1 := (HB.out.cell (World.block_lt_of_cell? w _ hx230_1)).trans hx230_1
                              replace p230 := eq_true p230
                              replace q230 := eq_true q230
                              have p233 : 0 ≤ (x5_3 : Int) := of_decide_eq_true (by first | (with_reducible assumption) | assumption)
                              have q233 : x5_3 < (((rd_T34 l0_4 x3_1).f1).length : Int) := of_decide_eq_true (by first | (with_reducible assumption) | assumption)
                              obtain ⟨ad233, e233, hx233_0, hx233_1⟩ := at_T49 HR228_1.out x5_3 p233 q233
                              (try rw [← Nbq19.out] at hx233_0)
                              obtain rfl : ad230 = ad233 := (by injection e233)
                              replace hx233_0 := (HB.out.cell (World.block_lt_of_cell? w _ hx233_0)).trans hx233_0
                              replace hx233_1 := (HB.out.cell (World.block_lt_of_cell? w _ hx233_1)).trans hx233_1
                              replace p233 := eq_true p233
                              replace q233 := eq_true q233
                              have p234 : 0 ≤ (x5_3 : Int) := of_decide_eq_true (by first | (with_reducible assumption) | assumption)
                              have q234 : x5_3 < (((rd_T34 l0_4 x3_1).f1).length : Int) := of_decide_eq_true (by first | (with_reducible assumption) | assumption)
                              obtain ⟨ad234, e234, hx234_0, hx234_1⟩ := at_T49 HR228_1.out x5_3 p234 q234
                              (try rw [← Nbq19.out] at hx234_0)
                              obtain rfl : ad230 = ad234 := (by injection e234)
                              replace hx234_0 := (HB.out.cell (World.block_lt_of_cell? w _ hx234_0)).trans hx234_0
                              replace hx234_1 := (HB.out.cell (World.block_lt_of_cell? w _ hx234_1)).trans hx234_1
                              replace p234 := eq_true p234
                              replace q234 := eq_true q234
                              go_wp2
                              go_ret
                              exact ⟨by first | rfl | (simp [errW_none, errW_some] <;> rfl) | (simp [*, errW_none, errW_some] <;> rfl), by repeat (first | (with_reducible first | exact HB.out | apply below_alloc | apply pw_below_drewN | apply below_drew1 | refine below_set ?_ GE227.out | refine below_set ?_ GE229.out) | exact HB.out)⟩
                            · rw [if_neg c36] at H
                              have c36b0 : decide ((l0_0.length : Int) ≤ ((rd_T49 ((rd_T34 l0_4 x3_1).f1) x5_3).f1)) = false := decide_eq_false c36
                              clear c36
                              have H' := Aside0.mk H
                              clear H
                              have hnb40 := NB229_227.out
                              have hnc40 := NB227_229.out
                              have hcz41_0 : wr.cell? ⟨gb229, 0, none⟩ = some (.int .i64 ((rd_T34 l0_4 x3_1).f0)) := (blk_cell BK229.out 0).trans rfl
                              have hcz41_1 : wr.cell? ⟨gb229, 1, none⟩ = some (.slice A228_1 ((rd_T34 l0_4 x3_1).f1).length c228_1) := (blk_cell BK229.out 1).trans rfl
                              have hfz41_0 := blk_frozen BK229.out 0
                              have hfz41_1 := blk_frozen BK229.out 1
                              have hcz42_0 : wr.cell? ⟨gb227, 0, none⟩ = some (.slice A0_0 l0_0.length c0_0) := (blk_cell BK227.out 0).trans rfl
                              have hcz42_1 : wr.cell? ⟨gb227, 1, none⟩ = some (.slice A0_1 l0_1.length c0_1) := (blk_cell BK227.out 1).trans rfl
                              have hcz42_2 : wr.cell? ⟨gb227, 2, none⟩ = some (.int .i64 a0_2) := (blk_cell BK227.out 2).trans rfl
                              have hcz42_3 : wr.cell? ⟨gb227, 3, none⟩ = some (.int .i64 a0_3) := (blk_cell BK227.out 3).trans rfl
                              have hcz42_4 : wr.cell? ⟨gb227, 4, none⟩ = some (.slice (some ad228) l0_4.length c0_4) := (blk_cell BK227.out 4).trans rfl
                              have hfz42_0 := blk_frozen BK227.out 0
                              have hfz42_1 := blk_frozen BK227.out 1
                              have hfz42_2 := blk_frozen BK227.out 2
                              have hfz42_3 := blk_frozen BK227.out 3
                              have hfz42_4 := blk_frozen BK227.out 4
                              have p230 : 0 ≤ (x5_3 : Int) := of_decide_eq_true (by first | (with_reducible assumption) | assumption)
                              have q230 : x5_3 < (((rd_T34 l0_4 x3_1).f1).length : Int) := of_decide_eq_true (by first | (with_reducible assumption) | assumption)
                              obtain ⟨ad230, e230, hx230_0, hx230_1⟩ := at_T49 HR228_1.out x5_3 p230 q230
                              (try rw [← Nbq19.out] at hx230_0)
                              cases e230
                              replace hx230_0 := (HB.out.cell (World.block_lt_of_cell? w _ hx230_0)).trans hx230_0
                              replace hx230_1 := (HB.out.cell (World.block_lt_of_cell? w _ hx230_1)).trans hx230_1
                              replace p230 := eq_true p230
                              replace q230 := eq_true q230
                              have p233 : 0 ≤ (x5_3 : Int) := of_decide_eq_true (by first | (with_reducible assumption) | assumption)
                              have q233 : x5_3 < (((rd_T34 l0_4 x3_1).f1).length : Int) := of_decide_eq_true (by first | (with_reducible assumption) | assumption)
                              obtain ⟨ad233, e233, hx233_0, hx233_1⟩ := at_T49 HR228_1.out x5_3 p233 q233
                              (try rw [← Nbq19.out] at hx233_0)
                              obtain rfl : ad230 = ad233 := (by injection e233)
                              replace hx233_0 := (HB.out.cell (World.block_lt_of_cell? w _ hx233_0)).trans hx233_0
                              replace hx233_1 := (HB.out.cell (World.block_lt_of_cell? w _ hx233_1)).trans hx233_1
                              replace p233 := eq_true p233
                              replace q233 := eq_true q233
                              have p234 : 0 ≤ (x5_3 : Int) := of_decide_eq_true (by first | (with_reducible assumption) | assumption)
                              have q234 : x5_3 < (((rd_T34 l0_4 x3_1).f1).length : Int) := of_decide_eq_true (by first | (with_reducible assumption) | assumption)
                              obtain ⟨ad234, e234, hx234_0, hx234_1⟩ := at_T49 HR228_1.out x5_3 p234 q234
                              (try rw [← Nbq19.out] at hx234_0)
                              obtain rfl : ad230 = ad234 := (by injection e234)
                              replace hx234_0 := (HB.out.cell (World.block_lt_of_cell? w _ hx234_0)).trans hx234_0
                              replace hx234_1 := (HB.out.cell (World.block_lt_of_cell? w _ hx234_1)).trans hx234_1
                              replace p234 := eq_true p234
                              replace q234 := eq_true q234
                              go_wp2
                              go_roundg k3
                              case measure => have := HK1.out; have := HJ4.out; have := HK3.out; omega
                              case rel => exact ⟨(wrap64 (x5_3 + 1)), (by first | rfl | (simp; done) | (simp [*]; done)), H', ⟨by have := HK1.out; have := HJ4.out; have := HK3.out; omega⟩, ⟨by (with_reducible repeat (first | refine blk_drewN ?_ _ | refine blk_drew ?_ | refine blk_alloc ?_ _)); exact BK227.out⟩, ⟨by (with_reducible repeat (first | refine blk_drewN ?_ _ | refine blk_drew ?_ | refine blk_alloc ?_ _)); exact BK229.out⟩, ⟨by repeat (first | (with_reducible first | exact HB.out | apply below_alloc | apply pw_below_drewN | apply below_drew1 | refine below_set ?_ GE227.out | refine below_set ?_ GE229.out) | exact HB.out)⟩⟩
                      · rw [if_neg c18] at H
                        exact absurd H (by simp)
                    · rw [if_neg c17] at H
                      have c17b0 : decide (x5_3 < (((rd_T34 l0_4 x3_1).f1).length : Int)) = false := decide_eq_false c17
                      clear c17
                      have H' := Aside0.mk H
                      clear H
                      have hnb43 := NB229_227.out
                      have hnc43 := NB227_229.out
                      have hcz44_0 : wr.cell? ⟨gb229, 0, none⟩ = some (.int .i64 ((rd_T34 l0_4 x3_1).f0)) := (blk_cell BK229.out 0).trans rfl
                      have hcz44_1 : wr.cell? ⟨gb229, 1, none⟩ = some (.slice A228_1 ((rd_T34 l0_4 x3_1).f1).length c228_1) := (blk_cell BK229.out 1).trans rfl
                      have hfz44_0 := blk_frozen BK229.out 0
                      have hfz44_1 := blk_frozen BK229.out 1
                      go_wp2
                      go_roundg k3
                      case measure => have := HK1.out; have := HJ4.out; have := HK3.out; omega
                      case rel => exact ⟨(wrap64 (x3_1 + 1)), (by first | rfl | (simp; done) | (simp [*]; done)), H', ⟨by have := HK1.out; have := HJ4.out; have := HK3.out; omega⟩, ⟨by (with_reducible repeat (first | refine blk_drewN ?_ _ | refine blk_drew ?_ | refine blk_alloc ?_ _)); exact BK227.out⟩, ⟨by repeat (first | (with_reducible first | exact HB.out | apply below_alloc | apply pw_below_drewN | apply below_drew1 | refine below_set ?_ GE227.out | refine below_set ?_ GE229.out) | exact HB.out)⟩⟩
        · rw [if_neg c4] at H
          exact absurd H (by simp)
      · rw [if_neg c3] at H
        have c3b0 : decide (x3_1 < (l0_4.length : Int)) = false := decide_eq_false c3
        clear c3
        obtain rfl := Option.some.inj H
        have hcz45_0 : wr.cell? ⟨gb227, 0, none⟩ = some (.slice A0_0 l0_0.length c0_0) := (blk_cell BK227.out 0).trans rfl
        have hcz45_1 : wr.cell? ⟨gb227, 1, none⟩ = some (.slice A0_1 l0_1.length c0_1) := (blk_cell BK227.out 1).trans rfl
        have hcz45_2 : wr.cell? ⟨gb227, 2, none⟩ = some (.int .i64 a0_2) := (blk_cell BK227.out 2).trans rfl
        have hcz45_3 : wr.cell? ⟨gb227, 3, none⟩ = some (.int .i64 a0_3) := (blk_cell BK227.out 3).trans rfl
        have hcz45_4 : wr.cell? ⟨gb227, 4, none⟩ = some (.slice A0_4 l0_4.length c0_4) := (blk_cell BK227.out 4).trans rfl
        have hfz45_0 := blk_frozen BK227.out 0
        have hfz45_1 := blk_frozen BK227.out 1
        have hfz45_2 := blk_frozen BK227.out 2
        have hfz45_3 := blk_frozen BK227.out 3
        have hfz45_4 := blk_frozen BK227.out 4
        go_wp2
        go_ret
        exact ⟨by first | rfl | (simp [errW_none, errW_some] <;> rfl) | (simp [*, errW_none, errW_some] <;> rfl), by repeat (first | (with_reducible first | exact HB.out | apply below_alloc | apply pw_below_drewN | apply below_drew1 | refine below_set ?_ GE227.out) | exact HB.out)⟩
end Go.Proofs.Ytojdjjbkpbapfaa.P
end

section
namespace Go.Proofs.Ytojdjjbkpbapfaa.P
open Go.RowKit Go.Proofs.YtojdjjbkpbapfaaW.PrintWords Go.Proofs.YtojdjjbkpbapfaaW.PrintLast Go.Proofs.YtojdjjbkpbapfaaW.PrintMore
attribute [local go_sem] max2_int min2_int max_two min_two max_three min_three max_four min_four   -- for this text's walks alone
set_option linter.unusedVariables false
set_option linter.unusedSimpArgs false
def regletref13_SameLists.l0 : Nat → List (List Int) → List (List Int) → Int → Option (Bool)
  | 0, _, _, _ => none
  | k + 1, x0, x1, x5 => if x5 < (x0.length : Int) then (if 0 ≤ x5 then (if x5 < (x1.length : Int) then ((regletref13_SameInts.f k (rd_L3 x0 x5) (rd_L3 x1 x5)).bind fun t150 => (if t150 = true then (regletref13_SameLists.l0 k x0 x1 (wrap64 (x5 + 1))) else (some false))) else (none)) else (none)) else (some true)
def regletref13_SameLists.f (k : Nat) (l0 : List (List Int)) (l1 : List (List Int)) : Option (Bool) := if (l0.length : Int) = (l1.length : Int) then (regletref13_SameLists.l0 k l0 l1 0) else (some false)
theorem regletref13_SameLists.mono_l : ∀ k, (∀ y0 y1 y2, LeO (regletref13_SameLists.l0 k y0 y1 y2) (regletref13_SameLists.l0 (k + 1) y0 y1 y2))
  | 0 => fun _ _ _ r h => by simp [regletref13_SameLists.l0] at h
  | k + 1 => by
    have ih0 := regletref13_SameLists.mono_l k
    · intro y0 y1 y2
      unfold regletref13_SameLists.l0
      repeat' first
      | (with_reducible exact ih0 _ _ _)
      | (with_reducible exact regletref13_SameInts.mono _ _ _)
      | (with_reducible exact LeO.refl _)
      | (with_reducible exact LeO.none _)
      | (with_reducible refine LeO.ite ?_ ?_)
      | (with_reducible refine LeO.bind ?_ (fun _ => ?_))
      | exact ih0 _ _ _
      | exact regletref13_SameInts.mono _ _ _
      | exact LeO.none _
      | refine LeO.ite ?_ ?_
      | refine LeO.bind ?_ (fun _ => ?_)
theorem regletref13_SameLists.mono : ∀ a0 a1 k, LeO (regletref13_SameLists.f k a0 a1) (regletref13_SameLists.f (k + 1) a0 a1) := by
  intro a0 a1 k
  have ih0 := regletref13_SameLists.mono_l k
  unfold regletref13_SameLists.f
  repeat' first
      | (with_reducible exact ih0 _ _ _)
      | (with_reducible exact regletref13_SameInts.mono _ _ _)
      | (with_reducible exact LeO.refl _)
      | (with_reducible exact LeO.none _)
      | (with_reducible refine LeO.ite ?_ ?_)
      | (with_reducible refine LeO.bind ?_ (fun _ => ?_))
      | exact ih0 _ _ _
      | exact regletref13_SameInts.mono _ _ _
      | exact LeO.none _
      | refine LeO.ite ?_ ?_
      | refine LeO.bind ?_ (fun _ => ?_)
set_option maxHeartbeats 8000000 in
set_option maxRecDepth 100000 in
theorem regletref13_SameLists.calls (k : Nat) (A0 : Option Addr) (c0 : Nat) (l0 : List (List Int)) (A1 : Option Addr) (c1 : Nat) (l1 : List (List Int)) (r : Bool) (w : World) (hr0 : Kd.C (Kd.slice 3 (Kd.int .i64)) w A0 l0.length l0) (hc0 : l0.length ≤ c0) (hr1 : Kd.C (Kd.slice 3 (Kd.int .i64)) w A1 l1.length l1) (hc1 : l1.length ≤ c1) (h : regletref13_SameLists.f k l0 l1 = some r) :
    Calls Try.prog 24 #[.slice A0 l0.length c0, .slice A1 l1.length c1] w fun e w' => e = .returned (.bool r) ∧ Drawn0 w w' := by
  have HR0 := Aside0.mk hr0
  have HC0 := Aside0.mk hc0
  clear hr0 hc0
  have HR1 := Aside0.mk hr1
  have HC1 := Aside0.mk hc1
  clear hr1 hc1
  have H : (if (l0.length : Int) = (l1.length : Int) then (regletref13_SameLists.l0 k l0 l1 0) else (some false)) = some r := h
  clear h
  by_cases c3 : (l0.length : Int) = (l1.length : Int)
  · rw [if_pos c3] at H
    have c3b0 : ((l0.length : Int) == (l1.length : Int)) = true := beq_iff_eq.mpr c3
    have c3b1 : ((l0.length : Int) != (l1.length : Int)) = false := bne_eq_false_iff_eq.mpr c3
    have c3b2 : (l0.length == l1.length) = true := by first | simpa using c3 | (simp at c3 ⊢; omega)
    clear c3
    have H' := Aside0.mk H
    clear H
    go_enter Try.func24, Try.ntmps24
    go_wp2
    repeat (go_quiet (fail); try go_wp2)
    go_loopg [5] k (fun kq v5 w' => ∃ (x5_1 : Int), v5 = .int .i64 x5_1 ∧ Aside0 (regletref13_SameLists.l0 kq l0 l1 x5_1 = some r) ∧ Aside0 (kq ≤ k) ∧ Drawn0 w w')
    case atStart => exact ⟨(0), (by first | rfl | (simp; done) | (simp [*]; done)), H', ⟨Nat.le_refl _⟩, by repeat (first | exact Drawn0.refl _ | apply Drawn0.step)⟩
    case round =>
      clear H'
      try clear c1
      try clear c2
      try clear p2
      try clear c3
      try clear c3b0
      try clear c3b1
      try clear c3b2
      obtain ⟨x5_1, rfl, HA, HK1, ⟨m1, rfl⟩⟩ := hrel
      cases gk with
      | zero => exact absurd HA.out (by simp [regletref13_SameLists.l0])
      | succ k1 =>
        have H := HA.out
        clear HA
        simp only [regletref13_SameLists.l0] at H
        by_cases c4 : x5_1 < (l0.length : Int)
        · rw [if_pos c4] at H
          have c4b0 : decide (x5_1 < (l0.length : Int)) = true := decide_eq_true c4
          clear c4
          by_cases c5 : 0 ≤ x5_1
          · rw [if_pos c5] at H
            have c5b0 : decide (0 ≤ x5_1) = true := decide_eq_true c5
            clear c5
            by_cases c6 : x5_1 < (l1.length : Int)
            · rw [if_pos c6] at H
              have c6b0 : decide (x5_1 < (l1.length : Int)) = true := decide_eq_true c6
              clear c6
              replace H := Option.bind_eq_some_iff.mp H
              obtain ⟨t150, A70, H⟩ := H
              replace H : (if t150 = true then (regletref13_SameLists.l0 k1 l0 l1 (wrap64 (x5_1 + 1))) else (some false)) = some r := H
              have A7 := Aside0.mk A70
              clear A70
              by_cases c8 : t150 = true
              · subst c8
                have H1 : (regletref13_SameLists.l0 k1 l0 l1 (wrap64 (x5_1 + 1))) = some r := by rw [if_pos rfl] at H; exact H
                clear H
                have H := H1
                clear H1
                have H' := Aside0.mk H
                clear H
                have p148 : 0 ≤ (x5_1 : Int) := of_decide_eq_true (by first | (with_reducible assumption) | assumption)
                have q148 : x5_1 < (l0.length : Int) := of_decide_eq_true (by first | (with_reducible assumption) | assumption)
                obtain ⟨ad148, A148_0, c148_0, e148, hx148_0, hl148_0, hi148_0⟩ := at_L3 HR0.out x5_1 p148 q148
                cases e148
                have HR148_0 := Aside0.mk hi148_0
                have HC148_0 := Aside0.mk hl148_0
                clear hi148_0 hl148_0
                replace p148 := eq_true p148
                replace q148 := eq_true q148
                have p149 : 0 ≤ (x5_1 : Int) := of_decide_eq_true (by first | (with_reducible assumption) | assumption)
                have q149 : x5_1 < (l1.length : Int) := of_decide_eq_true (by first | (with_reducible assumption) | assumption)
                obtain ⟨ad149, A149_0, c149_0, e149, hx149_0, hl149_0, hi149_0⟩ := at_L3 HR1.out x5_1 p149 q149
                cases e149
                have HR149_0 := Aside0.mk hi149_0
                have HC149_0 := Aside0.mk hl149_0
                clear hi149_0 hl149_0
                replace p149 := eq_true p149
                replace q149 := eq_true q149
                go_wp2_with (first | (go_at_call 22; (with_reducible refine (regletref13_SameInts.calls k1 _ _ (rd_L3 l0 x5_1) _ _ (rd_L3 l1 x5_1) true _ ?side1 ?side2 ?side3 ?side4 A7.out).mono ?_); (case side1 => repeat (first | exact HR148_0.out | (with_reducible refine Kd.C_alloc ?_ _) | (with_reducible refine Kd.C_drewN ?_ _) | (with_reducible refine Kd.C_drew ?_))); (case side2 => exact HC148_0.out); (case side3 => repeat (first | exact HR149_0.out | (with_reducible refine Kd.C_alloc ?_ _) | (with_reducible refine Kd.C_drewN ?_ _) | (with_reducible refine Kd.C_drew ?_))); (case side4 => exact HC149_0.out); rintro e w' ⟨rfl, ⟨nd, rfl⟩⟩; (try first | exact ⟨rfl, _, World.drewN_drewN _ _ _⟩ | exact ⟨rfl, _, Eq.trans (World.drewN_drewN _ _ _) (congrArg (World.drewN _) (Nat.add_assoc _ _ _))⟩)))
                repeat (go_quiet (first | (go_at_call 22; (with_reducible refine (regletref13_SameInts.calls k1 _ _ (rd_L3 l0 x5_1) _ _ (rd_L3 l1 x5_1) true _ ?side1 ?side2 ?side3 ?side4 A7.out).mono ?_); (case side1 => repeat (first | exact HR148_0.out | (with_reducible refine Kd.C_alloc ?_ _) | (with_reducible refine Kd.C_drewN ?_ _) | (with_reducible refine Kd.C_drew ?_))); (case side2 => exact HC148_0.out); (case side3 => repeat (first | exact HR149_0.out | (with_reducible refine Kd.C_alloc ?_ _) | (with_reducible refine Kd.C_drewN ?_ _) | (with_reducible refine Kd.C_drew ?_))); (case side4 => exact HC149_0.out); rintro e w' ⟨rfl, ⟨nd, rfl⟩⟩; (try first | exact ⟨rfl, _, World.drewN_drewN _ _ _⟩ | exact ⟨rfl, _, Eq.trans (World.drewN_drewN _ _ _) (congrArg (World.drewN _) (Nat.add_assoc _ _ _))⟩))); try go_wp2_with (first | (go_at_call 22; (with_reducible refine (regletref13_SameInts.calls k1 _ _ (rd_L3 l0 x5_1) _ _ (rd_L3 l1 x5_1) true _ ?side1 ?side2 ?side3 ?side4 A7.out).mono ?_); (case side1 => repeat (first | exact HR148_0.out | (with_reducible refine Kd.C_alloc ?_ _) | (with_reducible refine Kd.C_drewN ?_ _) | (with_reducible refine Kd.C_drew ?_))); (case side2 => exact HC148_0.out); (case side3 => repeat (first | exact HR149_0.out | (with_reducible refine Kd.C_alloc ?_ _) | (with_reducible refine Kd.C_drewN ?_ _) | (with_reducible refine Kd.C_drew ?_))); (case side4 => exact HC149_0.out); rintro e w' ⟨rfl, ⟨nd, rfl⟩⟩; (try first | exact ⟨rfl, _, World.drewN_drewN _ _ _⟩ | exact ⟨rfl, _, Eq.trans (World.drewN_drewN _ _ _) (congrArg (World.drewN _) (Nat.add_assoc _ _ _))⟩))))
                go_roundg k1
                case measure => have := HK1.out; omega
                case rel => exact ⟨(wrap64 (x5_1 + 1)), (by first | rfl | (simp; done) | (simp [*]; done)), H', ⟨by have := HK1.out; omega⟩, by repeat (first | exact Drawn0.refl _ | apply Drawn0.step)⟩
              · replace c8 := Bool.eq_false_iff.mpr c8
                subst c8
                have H1 : (some false) = some r := by rw [if_neg (show ¬ (false = true) by decide)] at H; exact H
                clear H
                have H := H1
                clear H1
                obtain rfl := Option.some.inj H
                have p148 : 0 ≤ (x5_1 : Int) := of_decide_eq_true (by first | (with_reducible assumption) | assumption)
                have q148 : x5_1 < (l0.length : Int) := of_decide_eq_true (by first | (with_reducible assumption) | assumption)
                obtain ⟨ad148, A148_0, c148_0, e148, hx148_0, hl148_0, hi148_0⟩ := at_L3 HR0.out x5_1 p148 q148
                cases e148
                have HR148_0 := Aside0.mk hi148_0
                have HC148_0 := Aside0.mk hl148_0
                clear hi148_0 hl148_0
                replace p148 := eq_true p148
                replace q148 := eq_true q148
                have p149 : 0 ≤ (x5_1 : Int) := of_decide_eq_true (by first | (with_reducible assumption) | assumption)
                have q149 : x5_1 < (l1.length : Int) := of_decide_eq_true (by first | (with_reducible assumption) | assumption)
                obtain ⟨ad149, A149_0, c149_0, e149, hx149_0, hl149_0, hi149_0⟩ := at_L3 HR1.out x5_1 p149 q149
                cases e149
                have HR149_0 := Aside0.mk hi149_0
                have HC149_0 := Aside0.mk hl149_0
                clear hi149_0 hl149_0
                replace p149 := eq_true p149
                replace q149 := eq_true q149
                go_wp2_with (first | (go_at_call 22; (with_reducible refine (regletref13_SameInts.calls k1 _ _ (rd_L3 l0 x5_1) _ _ (rd_L3 l1 x5_1) false _ ?side1 ?side2 ?side3 ?side4 A7.out).mono ?_); (case side1 => repeat (first | exact HR148_0.out | (with_reducible refine Kd.C_alloc ?_ _) | (with_reducible refine Kd.C_drewN ?_ _) | (with_reducible refine Kd.C_drew ?_))); (case side2 => exact HC148_0.out); (case side3 => repeat (first | exact HR149_0.out | (with_reducible refine Kd.C_alloc ?_ _) | (with_reducible refine Kd.C_drewN ?_ _) | (with_reducible refine Kd.C_drew ?_))); (case side4 => exact HC149_0.out); rintro e w' ⟨rfl, ⟨nd, rfl⟩⟩; (try first | exact ⟨rfl, _, World.drewN_drewN _ _ _⟩ | exact ⟨rfl, _, Eq.trans (World.drewN_drewN _ _ _) (congrArg (World.drewN _) (Nat.add_assoc _ _ _))⟩)))
                repeat (go_quiet (first | (go_at_call 22; (with_reducible refine (regletref13_SameInts.calls k1 _ _ (rd_L3 l0 x5_1) _ _ (rd_L3 l1 x5_1) false _ ?side1 ?side2 ?side3 ?side4 A7.out).mono ?_); (case side1 => repeat (first | exact HR148_0.out | (with_reducible refine Kd.C_alloc ?_ _) | (with_reducible refine Kd.C_drewN ?_ _) | (with_reducible refine Kd.C_drew ?_))); (case side2 => exact HC148_0.out); (case side3 => repeat (first | exact HR149_0.out | (with_reducible refine Kd.C_alloc ?_ _) | (with_reducible refine Kd.C_drewN ?_ _) | (with_reducible refine Kd.C_drew ?_))); (case side4 => exact HC149_0.out); rintro e w' ⟨rfl, ⟨nd, rfl⟩⟩; (try first | exact ⟨rfl, _, World.drewN_drewN _ _ _⟩ | exact ⟨rfl, _, Eq.trans (World.drewN_drewN _ _ _) (congrArg (World.drewN _) (Nat.add_assoc _ _ _))⟩))); try go_wp2_with (first | (go_at_call 22; (with_reducible refine (regletref13_SameInts.calls k1 _ _ (rd_L3 l0 x5_1) _ _ (rd_L3 l1 x5_1) false _ ?side1 ?side2 ?side3 ?side4 A7.out).mono ?_); (case side1 => repeat (first | exact HR148_0.out | (with_reducible refine Kd.C_alloc ?_ _) | (with_reducible refine Kd.C_drewN ?_ _) | (with_reducible refine Kd.C_drew ?_))); (case side2 => exact HC148_0.out); (case side3 => repeat (first | exact HR149_0.out | (with_reducible refine Kd.C_alloc ?_ _) | (with_reducible refine Kd.C_drewN ?_ _) | (with_reducible refine Kd.C_drew ?_))); (case side4 => exact HC149_0.out); rintro e w' ⟨rfl, ⟨nd, rfl⟩⟩; (try first | exact ⟨rfl, _, World.drewN_drewN _ _ _⟩ | exact ⟨rfl, _, Eq.trans (World.drewN_drewN _ _ _) (congrArg (World.drewN _) (Nat.add_assoc _ _ _))⟩))))
                go_ret
                exact ⟨by first | rfl | (simp; done) | (simp [*]; done), by repeat (first | exact Drawn0.refl _ | apply Drawn0.step)⟩
            · rw [if_neg c6] at H
              exact absurd H (by simp)
          · rw [if_neg c5] at H
            exact absurd H (by simp)
        · rw [if_neg c4] at H
          have c4b0 : decide (x5_1 < (l0.length : Int)) = false := decide_eq_false c4
          clear c4
          obtain rfl := Option.some.inj H
          go_wp2
          repeat (go_quiet (fail); try go_wp2)
          go_ret
          exact ⟨by first | rfl | (simp; done) | (simp [*]; done), by repeat (first | exact Drawn0.refl _ | apply Drawn0.step)⟩
  · rw [if_neg c3] at H
    have c3b0 : ((l0.length : Int) == (l1.length : Int)) = false := beq_eq_false_iff_ne.mpr c3
    have c3b1 : ((l0.length : Int) != (l1.length : Int)) = true := bne_iff_ne.mpr c3
    have c3b2 : (l0.length == l1.length) = false := by first | simpa using c3 | (simp at c3 ⊢; omega)
    obtain rfl := Option.some.inj H
    go_enter Try.func24, Try.ntmps24
    go_wp2
    repeat (go_quiet (fail); try go_wp2)
    go_ret
    exact ⟨by first | rfl | (simp; done) | (simp [*]; done), by repeat (first | exact Drawn0.refl _ | apply Drawn0.step)⟩
def regletref13_SameBools.l0 : Nat → List Bool → List Bool → Int → Option (Bool)
  | 0, _, _, _ => none
  | k + 1, x0, x1, x5 => if x5 < (x0.length : Int) then (if 0 ≤ x5 then (if x5 < (x1.length : Int) then (if ((rdOf false x0 x5) != (rdOf false x1 x5)) = true then (some false) else (regletref13_SameBools.l0 k x0 x1 (wrap64 (x5 + 1)))) else (none)) else (none)) else (some true)
def regletref13_SameBools.f (k : Nat) (l0 : List Bool) (l1 : List Bool) : Option (Bool) := if (l0.length : Int) = (l1.length : Int) then (regletref13_SameBools.l0 k l0 l1 0) else (some false)
theorem regletref13_SameBools.mono_l : ∀ k, (∀ y0 y1 y2, LeO (regletref13_SameBools.l0 k y0 y1 y2) (regletref13_SameBools.l0 (k + 1) y0 y1 y2))
  | 0 => fun _ _ _ r h => by simp [regletref13_SameBools.l0] at h
  | k + 1 => by
    have ih0 := regletref13_SameBools.mono_l k
    · intro y0 y1 y2
      unfold regletref13_SameBools.l0
      repeat' first
      | (with_reducible exact ih0 _ _ _)
      | (with_reducible exact LeO.refl _)
      | (with_reducible exact LeO.none _)
      | (with_reducible refine LeO.ite ?_ ?_)
      | (with_reducible refine LeO.bind ?_ (fun _ => ?_))
      | exact ih0 _ _ _
      | exact LeO.none _
      | refine LeO.ite ?_ ?_
      | refine LeO.bind ?_ (fun _ => ?_)
theorem regletref13_SameBools.mono : ∀ a0 a1 k, LeO (regletref13_SameBools.f k a0 a1) (regletref13_SameBools.f (k + 1) a0 a1) := by
  intro a0 a1 k
  have ih0 := regletref13_SameBools.mono_l k
  unfold regletref13_SameBools.f
  repeat' first
      | (with_reducible exact ih0 _ _ _)
      | (with_reducible exact LeO.refl _)
      | (with_reducible exact LeO.none _)
      | (with_reducible refine LeO.ite ?_ ?_)
      | (with_reducible refine LeO.bind ?_ (fun _ => ?_))
      | exact ih0 _ _ _
      | exact LeO.none _
      | refine LeO.ite ?_ ?_
      | refine LeO.bind ?_ (fun _ => ?_)
set_option maxHeartbeats 8000000 in
set_option maxRecDepth 100000 in
theorem regletref13_SameBools.calls (k : Nat) (A0 : Option Addr) (c0 : Nat) (l0 : List Bool) (A1 : Option Addr) (c1 : Nat) (l1 : List Bool) (r : Bool) (w : World) (hr0 : Kd.C Kd.bool w A0 l0.length l0) (hc0 : l0.length ≤ c0) (hr1 : Kd.C Kd.bool w A1 l1.length l1) (hc1 : l1.length ≤ c1) (h : regletref13_SameBools.f k l0 l1 = some r) :
    Calls Try.prog 25 #[.slice A0 l0.length c0, .slice A1 l1.length c1] w fun e w' => e = .returned (.bool r) ∧ Drawn0 w w' := by
  have HR0 := Aside0.mk hr0
  have HC0 := Aside0.mk hc0
  clear hr0 hc0
  have HR1 := Aside0.mk hr1
  have HC1 := Aside0.mk hc1
  clear hr1 hc1
  have H : (if (l0.length : Int) = (l1.length : Int) then (regletref13_SameBools.l0 k l0 l1 0) else (some false)) = some r := h
  clear h
  by_cases c3 : (l0.length : Int) = (l1.length : Int)
  · rw [if_pos c3] at H
    have c3b0 : ((l0.length : Int) == (l1.length : Int)) = true := beq_iff_eq.mpr c3
    have c3b1 : ((l0.length : Int) != (l1.length : Int)) = false := bne_eq_false_iff_eq.mpr c3
    have c3b2 : (l0.length == l1.length) = true := by first | simpa using c3 | (simp at c3 ⊢; omega)
    clear c3
    have H' := Aside0.mk H
    clear H
    go_enter Try.func25, Try.ntmps25
    go_wp2
    repeat (go_quiet (fail); try go_wp2)
    go_loopg [5] k (fun kq v5 w' => ∃ (x5_1 : Int), v5 = .int .i64 x5_1 ∧ Aside0 (regletref13_SameBools.l0 kq l0 l1 x5_1 = some r) ∧ Aside0 (kq ≤ k) ∧ Drawn0 w w')
    case atStart => exact ⟨(0), (by first | rfl | (simp; done) | (simp [*]; done)), H', ⟨Nat.le_refl _⟩, by repeat (first | exact Drawn0.refl _ | apply Drawn0.step)⟩
    case round =>
      clear H'
      try clear c1
      try clear c2
      try clear p2
      try clear c3
      try clear c3b0
      try clear c3b1
      try clear c3b2
      obtain ⟨x5_1, rfl, HA, HK1, ⟨m1, rfl⟩⟩ := hrel
      cases gk with
      | zero => exact absurd HA.out (by simp [regletref13_SameBools.l0])
      | succ k1 =>
        have H := HA.out
        clear HA
        simp only [regletref13_SameBools.l0] at H
        by_cases c4 : x5_1 < (l0.length : Int)
        · rw [if_pos c4] at H
          have c4b0 : decide (x5_1 < (l0.length : Int)) = true := decide_eq_true c4
          clear c4
          by_cases c5 : 0 ≤ x5_1
          · rw [if_pos c5] at H
            have c5b0 : decide (0 ≤ x5_1) = true := decide_eq_true c5
            clear c5
            by_cases c6 : x5_1 < (l1.length : Int)
            · rw [if_pos c6] at H
              have c6b0 : decide (x5_1 < (l1.length : Int)) = true := decide_eq_true c6
              clear c6
              by_cases c7 : ((rdOf false l0 x5_1) != (rdOf false l1 x5_1)) = true
              · rw [if_pos c7] at H
                have c7b0 : ((rdOf false l0 x5_1) != (rdOf false l1 x5_1)) = true := c7
                (try (have c7b1 : decide ((rdOf false l0 x5_1) = (rdOf false l1 x5_1)) = false := by simpa using c7))
                (try (have c7b2 : ((rdOf false l0 x5_1) == (rdOf false l1 x5_1)) = false := by simpa using c7))
                (try (have c7b3 : ¬ ((rdOf false l0 x5_1) = (rdOf false l1 x5_1)) := by simpa using c7))
                clear c7
                obtain rfl := Option.some.inj H
                have p151 : 0 ≤ (x5_1 : Int) := of_decide_eq_true (by first | (with_reducible assumption) | assumption)
                have q151 : x5_1 < (l0.length : Int) := of_decide_eq_true (by first | (with_reducible assumption) | assumption)
                obtain ⟨ad151, e151, hx151_0⟩ := Kd.at_bool HR0.out x5_1 p151 q151
                cases e151
                replace p151 := eq_true p151
                replace q151 := eq_true q151
                have p152 : 0 ≤ (x5_1 : Int) := of_decide_eq_true (by first | (with_reducible assumption) | assumption)
                have q152 : x5_1 < (l1.length : Int) := of_decide_eq_true (by first | (with_reducible assumption) | assumption)
                obtain ⟨ad152, e152, hx152_0⟩ := Kd.at_bool HR1.out x5_1 p152 q152
                cases e152
                replace p152 := eq_true p152
                replace q152 := eq_true q152
                go_wp2
                repeat (go_quiet (fail); try go_wp2)
                go_ret
                exact ⟨by first | rfl | (simp; done) | (simp [*]; done), by repeat (first | exact Drawn0.refl _ | apply Drawn0.step)⟩
              · rw [if_neg c7] at H
                have c7b0 : ((rdOf false l0 x5_1) != (rdOf false l1 x5_1)) = false := by simpa using c7
                (try (have c7b1 : decide ((rdOf false l0 x5_1) = (rdOf false l1 x5_1)) = true := by simpa using c7))
                (try (have c7b2 : ((rdOf false l0 x5_1) == (rdOf false l1 x5_1)) = true := by simpa using c7))
                clear c7
                have H' := Aside0.mk H
                clear H
                have p151 : 0 ≤ (x5_1 : Int) := of_decide_eq_true (by first | (with_reducible assumption) | assumption)
                have q151 : x5_1 < (l0.length : Int) := of_decide_eq_true (by first | (with_reducible assumption) | assumption)
                obtain ⟨ad151, e151, hx151_0⟩ := Kd.at_bool HR0.out x5_1 p151 q151
                cases e151
                replace p151 := eq_true p151
                replace q151 := eq_true q151
                have p152 : 0 ≤ (x5_1 : Int) := of_decide_eq_true (by first | (with_reducible assumption) | assumption)
                have q152 : x5_1 < (l1.length : Int) := of_decide_eq_true (by first | (with_reducible assumption) | assumption)
                obtain ⟨ad152, e152, hx152_0⟩ := Kd.at_bool HR1.out x5_1 p152 q152
                cases e152
                replace p152 := eq_true p152
                replace q152 := eq_true q152
                go_wp2
                repeat (go_quiet (fail); try go_wp2)
                go_roundg k1
                case measure => have := HK1.out; omega
                case rel => exact ⟨(wrap64 (x5_1 + 1)), (by first | rfl | (simp; done) | (simp [*]; done)), H', ⟨by have := HK1.out; omega⟩, by repeat (first | exact Drawn0.refl _ | apply Drawn0.step)⟩
            · rw [if_neg c6] at H
              exact absurd H (by simp)
          · rw [if_neg c5] at H
            exact absurd H (by simp)
        · rw [if_neg c4] at H
          have c4b0 : decide (x5_1 < (l0.length : Int)) = false := decide_eq_false c4
          clear c4
          obtain rfl := Option.some.inj H
          go_wp2
          repeat (go_quiet (fail); try go_wp2)
          go_ret
          exact ⟨by first | rfl | (simp; done) | (simp [*]; done), by repeat (first | exact Drawn0.refl _ | apply Drawn0.step)⟩
  · rw [if_neg c3] at H
    have c3b0 : ((l0.length : Int) == (l1.length : Int)) = false := beq_eq_false_iff_ne.mpr c3
    have c3b1 : ((l0.length : Int) != (l1.length : Int)) = true := bne_iff_ne.mpr c3
    have c3b2 : (l0.length == l1.length) = false := by first | simpa using c3 | (simp at c3 ⊢; omega)
    obtain rfl := Option.some.inj H
    go_enter Try.func25, Try.ntmps25
    go_wp2
    repeat (go_quiet (fail); try go_wp2)
    go_ret
    exact ⟨by first | rfl | (simp; done) | (simp [*]; done), by repeat (first | exact Drawn0.refl _ | apply Drawn0.step)⟩
end Go.Proofs.Ytojdjjbkpbapfaa.P
end

section
namespace Go.Proofs.Ytojdjjbkpbapfaa.M
open Go.RowKit Go.Proofs.YtojdjjbkpbapfaaW.PrintWords Go.Proofs.YtojdjjbkpbapfaaW.PrintLast Go.Proofs.YtojdjjbkpbapfaaW.PrintMore Go.Proofs.Ytojdjjbkpbapfaa.P Go.Proofs.Ytojdjjbkpbapfaa.H
set_option linter.unusedVariables false
set_option linter.unusedSimpArgs false
abbrev Sym := S49
abbrev Prod := S34
abbrev Tok := S62
theorem rdOf_mid {α : Type} (d : α) (p : List α) (x : α) (a : List α) (n : Int) (h : n = p.length) : rdOf d (p ++ x :: a) n = x := by
  subst h; simp [rdOf]
theorem getD_mid {α : Type} (d : α) (p : List α) (x : α) (a : List α) (n : Int) (h : n = p.length) : (p ++ x :: a).getD n.toNat d = x := by
  subst h; simp
theorem set_mid {α : Type} (p : List α) (x v : α) (a : List α) (n : Int) (h : n = p.length) : (p ++ x :: a).set n.toNat v = p ++ v :: a := by
  subst h; simp
theorem wrap_next {α : Type} (p : List α) (v : α) (h : p.length ≤ 1000000) : wrap64 ((p.length : Int) + 1) = ((p ++ [v]).length : Int) := by
  rw [wrap64_id (by omega) (by omega)]; simp
def orL (a b : List Bool) : List Bool := List.zipWith (· || ·) a b
def moreL : List Bool → List Bool → Bool
  | x :: a, y :: b => (y && !x) || moreL a b
  | _, _ => false
theorem orL_length {a b : List Bool} (h : a.length = b.length) : (orL a b).length = a.length := by simp [orL, h]
theorem add_l0_ev : ∀ (a b pre preb : List Bool) (g : Bool), a.length = b.length → pre.length = preb.length → pre.length + a.length ≤ 1000000 → Ev (fun k => firsts_set_add.l0 k (pre ++ a) g (preb ++ b) ((preb ++ b).length : Int) (pre.length : Int)) (g || moreL a b, pre ++ orL a b)
  | [], [], pre, preb, g, _, h2, _ => by
    refine Ev.step (fun k => by rw [firsts_set_add.l0]) (Ev.neg (by simp [h2]) (Ev.some (by simp [moreL, orL])))
  | x :: a, y :: b, pre, preb, g, h1, h2, h3 => by
    have h1' : a.length = b.length := by simpa using h1
    simp only [List.length_cons] at h3
    have ih := fun g v => add_l0_ev a b (pre ++ [v]) (preb ++ [y]) g h1' (by simp [h2]) (by simp; omega)
    simp only [← wrap_next pre _ (show pre.length ≤ 1000000 by omega), List.append_assoc, List.singleton_append] at ih
    refine Ev.step (fun k => by rw [firsts_set_add.l0]) ?_
    refine Ev.pos (by simp; omega) (Ev.pos (by omega) (Ev.pos (by simp; omega) ?_))
    rw [rdOf_mid _ preb y b _ (by rw [h2]), rdOf_mid _ pre x a _ rfl]
    cases y
    · refine Ev.neg (by simp) (Ev.val (ih g x) ?_)
      simp [moreL, orL]
    · refine Ev.pos rfl (Ev.pos (by simp; omega) ?_)
      cases x
      · refine Ev.neg (by simp) ?_
        rw [set_mid _ _ _ _ _ rfl]
        refine Ev.val (ih true true) ?_
        simp [moreL, orL]
      · refine Ev.pos rfl (Ev.val (ih g true) ?_)
        simp [moreL, orL]
theorem add_ev (a b : List Bool) (h1 : a.length = b.length) (h2 : a.length ≤ 1000000) : Ev (fun k => firsts_set_add.f k a b) (moreL a b, orL a b) := by
  exact Ev.congr (fun k => by rw [firsts_set_add.f]) (by simpa using add_l0_ev a b [] [] false h1 rfl (by simpa using h2) : Ev (fun k => firsts_set_add.l0 k a false b (b.length : Int) 0) _)
def idx : Nat → List Bool → List Int
  | _, [] => []
  | n, x :: a => if x = true then (n : Int) :: idx (n + 1) a else idx (n + 1) a
theorem idx_length : ∀ (n : Nat) (a : List Bool), (idx n a).length ≤ a.length
  | _, [] => by simp [idx]
  | n, x :: a => by have := idx_length (n + 1) a; unfold idx; split <;> simp <;> omega
theorem rising_l0_ev : ∀ (a pre : List Bool) (out : List Int), out.length ≤ pre.length → pre.length + a.length ≤ 1000000 → Ev (fun k => firsts_set_rising.l0 k out (pre ++ a) ((pre ++ a).length : Int) (pre.length : Int)) (out ++ idx pre.length a)
  | [], pre, out, _, _ => by
    refine Ev.step (fun k => by rw [firsts_set_rising.l0]) (Ev.neg (by simp) (Ev.some (by simp [idx])))
  | x :: a, pre, out, h2, h3 => by
    simp only [List.length_cons] at h3
    have ih := fun out h => rising_l0_ev a (pre ++ [x]) out h (by simp; omega)
    simp only [← wrap_next pre _ (show pre.length ≤ 1000000 by omega), List.append_assoc, List.singleton_append] at ih
    refine Ev.step (fun k => by rw [firsts_set_rising.l0]) ?_
    refine Ev.pos (by simp; omega) (Ev.pos (by omega) (Ev.pos (by simp; omega) ?_))
    rw [rdOf_mid _ pre x a _ rfl]
    cases x
    · exact Ev.neg (by simp) (Ev.val (ih out (by simp; omega)) (by simp [idx]))
    · exact Ev.pos rfl (Ev.pos (by omega) (Ev.val (ih _ (by simp; omega)) (by simp [idx])))
theorem rising_ev (a : List Bool) (h2 : a.length ≤ 1000000) : Ev (fun k => firsts_set_rising.f k a) (idx 0 a) := by
  exact Ev.congr (fun k => by rw [firsts_set_rising.f]) (by simpa using rising_l0_ev a [] [] (by simp) (by simpa using h2) : Ev (fun k => firsts_set_rising.l0 k [] a (a.length : Int) 0) _)
def idxs (m : List (List Bool)) : List (List Int) := m.map (idx 0)
theorem all_l0_ev : ∀ (m pre : List (List Bool)) (out : List (List Int)), out.length = pre.length → pre.length + m.length ≤ 1000000 → (∀ r ∈ m, r.length ≤ 1000000) → Ev (fun k => firsts_all.l0 k (out ++ List.replicate m.length []) (pre ++ m) ((pre ++ m).length : Int) (pre.length : Int)) (out ++ idxs m)
  | [], pre, out, _, _, _ => by
    refine Ev.step (fun k => by rw [firsts_all.l0]) (Ev.neg (by simp) (Ev.some (by simp [idxs])))
  | r :: m, pre, out, h2, h3, h4 => by
    simp only [List.length_cons] at h3
    have ih := all_l0_ev m (pre ++ [r]) (out ++ [idx 0 r]) (by simp [h2]) (by simp; omega) (fun r hr => h4 r (List.mem_cons_of_mem _ hr))
    simp only [← wrap_next pre _ (show pre.length ≤ 1000000 by omega), List.append_assoc, List.singleton_append] at ih
    refine Ev.step (fun k => by rw [firsts_all.l0]) ?_
    refine Ev.pos (by simp; omega) (Ev.pos (by omega) (Ev.pos (by simp; omega) ?_))
    refine Ev.bind (a := idx 0 r) (Ev.congr (fun k => congrArg (firsts_set_rising.f k) (getD_mid _ pre r m _ rfl)) (rising_ev r (h4 r List.mem_cons_self))) (Ev.pos (by simp; omega) ?_)
    simp only [List.length_cons, List.replicate_succ]
    rw [set_mid _ _ _ _ _ (by rw [h2])]
    exact Ev.val ih (by simp [idxs])
theorem all_ev (m : List (List Bool)) (h2 : m.length ≤ 1000000) (h4 : ∀ r ∈ m, r.length ≤ 1000000) : Ev (fun k => firsts_all.f k m) (idxs m) := by
  refine Ev.congr (fun k => by rw [firsts_all.f]) (Ev.pos (by omega) (Ev.pos (by omega) ?_))
  rw [Int.toNat_natCast]
  simpa using all_l0_ev m [] [] rfl (by simpa using h2) h4
end Go.Proofs.Ytojdjjbkpbapfaa.M
end

section
namespace Go.Proofs.Ytojdjjbkpbapfaa.M
open Go.RowKit Go.Proofs.YtojdjjbkpbapfaaW.PrintWords Go.Proofs.YtojdjjbkpbapfaaW.PrintLast Go.Proofs.YtojdjjbkpbapfaaW.PrintMore Go.Proofs.Ytojdjjbkpbapfaa.P Go.Proofs.Ytojdjjbkpbapfaa.H
set_option linter.unusedVariables false
set_option linter.unusedSimpArgs false
def Sh (nn nt : Nat) (m : List (List Bool)) : Prop := m.length = nn ∧ ∀ r ∈ m, r.length = nt + 1
theorem Sh.get {nn nt : Nat} {m : List (List Bool)} (h : Sh nn nt m) {i : Nat} (hi : i < nn) : (m.getD i []).length = nt + 1 := by
  have hi' : i < m.length := by rw [h.1]; exact hi
  rw [List.getD_eq_getElem?_getD, List.getElem?_eq_getElem hi']
  exact h.2 _ (List.getElem_mem hi')
theorem Sh.set {nn nt : Nat} {m : List (List Bool)} (h : Sh nn nt m) (i : Nat) {r : List Bool} (hr : r.length = nt + 1) : Sh nn nt (m.set i r) :=
  ⟨by rw [List.length_set]; exact h.1, fun r' hr' => by
    rcases List.mem_or_eq_of_mem_set hr' with h1 | rfl
    · exact h.2 _ h1
    · exact hr⟩
def bg (em : List Bool) (first : List (List Bool)) : List Sym → List Bool → List Bool × Bool
  | [], out => (out, true)
  | x :: l, out => if x.f0 = true then (out.set x.f1.toNat true, false) else
      if em.getD x.f1.toNat false = true then bg em first l (orL out (first.getD x.f1.toNat [])) else (orL out (first.getD x.f1.toNat []), false)
theorem bg_length (em : List Bool) {first : List (List Bool)} {nn nt : Nat} (hs : Sh nn nt first) : ∀ (l : List Sym) (out : List Bool), l.all (okSym nn nt) = true → out.length = nt + 1 → (bg em first l out).1.length = nt + 1
  | [], out, _, h => h
  | x :: l, out, hl, h => by
    simp only [List.all_cons, Bool.and_eq_true] at hl
    unfold bg
    split
    · simpa using h
    · rename_i hx
      have hn : x.f1.toNat < nn := by
        have := hl.1
        simp only [okSym, hx, if_neg, Bool.and_eq_true, decide_eq_true_eq] at this
        simp at this
        omega
      have ho : (orL out (first.getD x.f1.toNat [])).length = nt + 1 := by rw [orL_length (by rw [h, hs.get hn]), h]
      split
      · exact bg_length em hs l _ hl.2 ho
      · exact ho
theorem okSym_tok {nn nt : Nat} {x : Sym} (h : okSym nn nt x = true) (hx : x.f0 = true) : 0 ≤ x.f1 ∧ x.f1 < (nt : Int) := by
  simp only [okSym, hx, if_pos, Bool.and_eq_true, decide_eq_true_eq] at h; exact h
theorem okSym_rule {nn nt : Nat} {x : Sym} (h : okSym nn nt x = true) (hx : x.f0 = false) : 0 ≤ x.f1 ∧ x.f1 < (nn : Int) := by
  simp [okSym, hx] at h; exact h
theorem begins_l0_ev {nn nt : Nat} {em : List Bool} {first : List (List Bool)} (hs : Sh nn nt first) (he : em.length = nn) (hnt : nt ≤ 1000) : ∀ (l pre : List Sym) (out : List Bool), l.all (okSym nn nt) = true → out.length = nt + 1 → pre.length + l.length ≤ 1000000 → Ev (fun k => begins_l0 em first (pre ++ l) k out (pre.length : Int)) (bg em first l out)
  | [], pre, out, _, _, _ => Ev.step (fun k => by rw [begins_l0]) (Ev.neg (by simp) (Ev.some (by simp [bg])))
  | x :: l, pre, out, hl, ho, h3 => by
    simp only [List.all_cons, Bool.and_eq_true] at hl
    simp only [List.length_cons] at h3
    have ih := fun out ho => begins_l0_ev hs he hnt l (pre ++ [x]) out hl.2 ho (by simp; omega)
    simp only [← wrap_next pre _ (show pre.length ≤ 1000000 by omega), List.append_assoc, List.singleton_append] at ih
    have e : rd_T49 (pre ++ x :: l) (pre.length : Int) = x := getD_mid _ pre x l _ rfl
    refine Ev.step (fun k => by rw [begins_l0]) ?_
    rw [e]
    refine Ev.pos (by simp; omega) (Ev.pos (by omega) ?_)
    cases hx : x.f0 with
    | true =>
      have hb := okSym_tok hl.1 hx
      exact Ev.pos rfl (Ev.pos hb.1 (Ev.pos (by omega) (Ev.some (by simp [bg, hx]))))
    | false =>
      have hb := okSym_rule hl.1 hx
      have hr := hs.get (i := x.f1.toNat) (by omega)
      have hs1 := hs.1
      refine Ev.neg (by simp) (Ev.pos hb.1 (Ev.pos (by omega) (Ev.bind (add_ev out _ (by rw [ho, hr]) (by omega)) (Ev.pos (by omega) ?_))))
      have e2 : rdOf false em x.f1 = em.getD x.f1.toNat false := rfl
      rw [e2]
      cases hem : em.getD x.f1.toNat false with
      | true => exact Ev.pos rfl (Ev.val (ih _ (by rw [orL_length (by rw [ho, hr]), ho])) (by rw [bg, hx, if_neg (by simp), hem, if_pos rfl]))
      | false => exact Ev.neg (by simp) (Ev.some (by rw [bg, hx, if_neg (by simp), hem, if_neg (by simp)]))
def none0 (nt : Nat) : List Bool := List.replicate (nt + 1) false
theorem begins_ev {nn nt : Nat} {em : List Bool} {first : List (List Bool)} (hs : Sh nn nt first) (he : em.length = nn) (hnt : nt ≤ 1000) (l : List Sym) (hl : l.all (okSym nn nt) = true) (h3 : l.length ≤ 1000000) : Ev (fun k => begins_f k nt em first l) (bg em first l (none0 nt)) := by
  have h := begins_l0_ev hs he hnt l [] (List.replicate (nt + 1) false) hl (by simp) (by simpa using h3)
  exact Ev.congr (fun k => by rw [begins_f, if_pos (by omega)]) (by simpa [none0] using h)
def gIn {σ : Type} (stp : σ → Prod → Bool × σ) : List Prod → Bool → σ → Bool × σ
  | [], ag, st => (ag, st)
  | p :: ps, ag, st => gIn stp ps ((stp st p).1 || ag) (stp st p).2
def gOut {σ : Type} (stp : σ → Prod → Bool × σ) (ps : List Prod) : Nat → σ → σ
  | 0, st => (gIn stp ps false st).2
  | n + 1, st => if (gIn stp ps false st).1 = true then gOut stp ps n (gIn stp ps false st).2 else (gIn stp ps false st).2
def Good {σ : Type} (I : σ → Prop) (μ : σ → Nat) (stp : σ → Prod → Bool × σ) (ps : List Prod) : Prop :=
  ∀ st p, I st → p ∈ ps → I (stp st p).2 ∧ μ (stp st p).2 ≤ μ st ∧ ((stp st p).1 = true → μ (stp st p).2 < μ st)
theorem gIn_good {σ : Type} {I : σ → Prop} {μ : σ → Nat} {stp : σ → Prod → Bool × σ} : ∀ {ps : List Prod}, Good I μ stp ps → ∀ (ag : Bool) (st : σ), I st → I (gIn stp ps ag st).2 ∧ μ (gIn stp ps ag st).2 ≤ μ st ∧ ((gIn stp ps ag st).1 = true → ag = true ∨ μ (gIn stp ps ag st).2 < μ st)
  | [], _, ag, st, h => ⟨h, Nat.le_refl _, fun h => .inl h⟩
  | p :: ps, hg, ag, st, h => by
    obtain ⟨h1, h2, h3⟩ := hg st p h List.mem_cons_self
    obtain ⟨h4, h5, h6⟩ := gIn_good (fun st p hI hp => hg st p hI (List.mem_cons_of_mem _ hp)) ((stp st p).1 || ag) _ h1
    refine ⟨h4, Nat.le_trans h5 h2, fun h => ?_⟩
    rcases h6 h with h7 | h7
    · rcases (Bool.or_eq_true _ _).mp h7 with h8 | h8
      · exact .inr (Nat.lt_of_le_of_lt h5 (h3 h8))
      · exact .inl h8
    · exact .inr (Nat.lt_of_lt_of_le h7 h2)
theorem gOut_I {σ : Type} {I : σ → Prop} {μ : σ → Nat} {stp : σ → Prod → Bool × σ} {ps : List Prod} (hg : Good I μ stp ps) : ∀ (n : Nat) (st : σ), I st → I (gOut stp ps n st)
  | 0, st, h => (gIn_good hg false st h).1
  | n + 1, st, h => by
    unfold gOut
    split
    · exact gOut_I hg n _ (gIn_good hg false st h).1
    · exact (gIn_good hg false st h).1
theorem growIn_ev {σ : Type} {I : σ → Prop} {μ : σ → Nat} {stp : σ → Prod → Bool × σ} {f : Nat → σ → Prod → Option (Bool × σ)} : ∀ {ps : List Prod}, Good I μ stp ps → (∀ st p, I st → p ∈ ps → Ev (fun k => f k st p) (stp st p)) → ∀ (ag : Bool) (st : σ), I st → Ev (fun k => growIn (f k) ps ag st) (gIn stp ps ag st)
  | [], _, _, ag, st, _ => Ev.congr (fun k => by rw [growIn]) (Ev.some (by rw [gIn]))
  | p :: ps, hg, hf, ag, st, h => by
    refine Ev.congr (fun k => by rw [growIn]) (Ev.bind (hf st p h List.mem_cons_self) ?_)
    exact Ev.val (growIn_ev (fun st p hI hp => hg st p hI (List.mem_cons_of_mem _ hp)) (fun st p hI hp => hf st p hI (List.mem_cons_of_mem _ hp)) _ _ (hg st p h List.mem_cons_self).1) (by rw [gIn])
theorem out_ev {σ : Type} {I : σ → Prop} {μ : σ → Nat} {stp : σ → Prod → Bool × σ} {ps : List Prod} (hg : Good I μ stp ps) (g : Nat → Nat → σ → Option σ) (b : Nat → σ → Option (Bool × σ)) (hb : ∀ st, I st → Ev (fun k => b k st) (gIn stp ps false st))
    (hgs : ∀ kk k st, g kk (k + 1) st = (b kk st).bind fun r => if r.1 = true then g kk k r.2 else some r.2) : ∀ (n : Nat) (st : σ), I st → μ st ≤ n → ∃ K, ∀ kk, K ≤ kk → ∀ k, K ≤ k → g kk k st = some (gOut stp ps n st)
  | n, st, h, hn => by
    obtain ⟨K1, hK1⟩ := hb st h
    obtain ⟨h1, h2, h3⟩ := gIn_good hg false st h
    cases hr : (gIn stp ps false st).1 with
    | false =>
      refine ⟨K1 + 1, fun kk hkk k hk => ?_⟩
      obtain ⟨k', rfl⟩ : ∃ k', k = k' + 1 := ⟨k - 1, by omega⟩
      rw [hgs, show b kk st = _ from hK1 kk (by omega)]
      simp only [Option.bind_some, hr]
      cases n <;> simp [gOut, hr]
    | true =>
      have hlt : μ (gIn stp ps false st).2 < μ st := (h3 hr).resolve_left (by simp)
      cases n with
      | zero => omega
      | succ n =>
        obtain ⟨K2, hK2⟩ := out_ev hg g b hb hgs n _ h1 (by omega)
        refine ⟨max K1 K2 + 1, fun kk hkk k hk => ?_⟩
        obtain ⟨k', rfl⟩ : ∃ k', k = k' + 1 := ⟨k - 1, by omega⟩
        rw [hgs, show b kk st = _ from hK1 kk (by omega)]
        simp only [Option.bind_some, hr, if_true]
        rw [hK2 kk (by omega) k' (by omega), gOut, if_pos hr]
theorem growOut_ev {σ : Type} {I : σ → Prop} {μ : σ → Nat} {stp : σ → Prod → Bool × σ} {ps : List Prod} (hg : Good I μ stp ps) (f : Nat → σ → Prod → Option (Bool × σ)) (hf : ∀ st p, I st → p ∈ ps → Ev (fun k => f k st p) (stp st p)) (n : Nat) (st : σ) (h : I st) (hn : μ st ≤ n) : Ev (fun k => growOut (f k) ps k st) (gOut stp ps n st) := by
  obtain ⟨K, hK⟩ := out_ev hg (fun kk k st => growOut (f kk) ps k st) (fun kk st => growIn (f kk) ps false st) (fun st h => growIn_ev hg hf false st h) (fun kk k st => by rw [growOut]) n st h hn
  exact ⟨K, fun k hk => hK k hk k hk⟩
def cf : List Bool → Nat
  | [] => 0
  | x :: a => (if x = true then 0 else 1) + cf a
theorem cf_orL : ∀ (a b : List Bool), a.length = b.length → cf (orL a b) ≤ cf a ∧ (moreL a b = true → cf (orL a b) < cf a)
  | [], [], _ => by simp [orL, cf, moreL]
  | x :: a, y :: b, h => by
    obtain ⟨h1, h2⟩ := cf_orL a b (by simpa using h)
    have e : orL (x :: a) (y :: b) = (x || y) :: orL a b := rfl
    rw [e]
    cases x <;> cases y <;> simp [cf, moreL] <;> first | exact ⟨h1, h2⟩ | (refine ⟨by omega, fun h => ?_⟩; have := h2 h; omega) | omega
theorem cf_set : ∀ (a : List Bool) (i : Nat), i < a.length → a.getD i false = false → cf (a.set i true) < cf a
  | x :: a, 0, _, h => by
    have : x = false := by simpa using h
    subst this; simp [cf]
  | x :: a, i + 1, hi, h => by
    have := cf_set a i (by simpa using hi) (by simpa using h)
    simp only [List.set_cons_succ, cf]; omega
def cfs : List (List Bool) → Nat
  | [] => 0
  | r :: m => cf r + cfs m
theorem cfs_set : ∀ (m : List (List Bool)) (i : Nat) (r : List Bool), i < m.length → cf r ≤ cf (m.getD i []) → cfs (m.set i r) ≤ cfs m ∧ (cf r < cf (m.getD i []) → cfs (m.set i r) < cfs m)
  | x :: m, 0, r, _, h => by
    simp only [List.getD_cons_zero, List.set_cons_zero, cfs] at h ⊢
    omega
  | x :: m, i + 1, r, hi, h => by
    have := cfs_set m i r (by simpa using hi) (by simpa using h)
    simp only [List.getD_cons_succ, List.set_cons_succ, cfs] at h ⊢
    omega
end Go.Proofs.Ytojdjjbkpbapfaa.M
end

section
namespace Go.Proofs.Ytojdjjbkpbapfaa.M
open Go.RowKit Go.Proofs.YtojdjjbkpbapfaaW.PrintWords Go.Proofs.YtojdjjbkpbapfaaW.PrintLast Go.Proofs.YtojdjjbkpbapfaaW.PrintMore Go.Proofs.Ytojdjjbkpbapfaa.P Go.Proofs.Ytojdjjbkpbapfaa.H
set_option linter.unusedVariables false
set_option linter.unusedSimpArgs false
def Small (ps : List Prod) : Prop := ps.length ≤ 1000000 ∧ ∀ p ∈ ps, p.f1.length ≤ 1000000
theorem firstsRight_val (l0 : List ByteArray) (l1 : List Tok) (a2 a3 : Int) (l4 : List Prod) (h : Small l4) : firsts_Right.f l0 l1 a2 a3 l4 = some (l4.all (okProd l0.length l1.length)) := by
  unfold firsts_Right.f
  rw [if_pos ⟨by have := h.1; omega, by rw [List.all_eq_true]; intro p hp; have := h.2 p hp; exact decide_eq_true (by omega)⟩]
theorem refRight_l1_ev (l0 : List ByteArray) (l1 : List Tok) (a2 a3 : Int) (l4 : List Prod) (x3 left : Int) (r : Bool) : ∀ (l pre : List Sym), pre.length + l.length ≤ 1000000 → (l.all (okSym l0.length l1.length) = true → Ev (fun k => regletref13_Right.l0 k (wrap64 (x3 + 1)) l0 l1 a2 a3 l4) r) → (l.all (okSym l0.length l1.length) = false → r = false) → Ev (fun k => regletref13_Right.l1 k x3 (pre.length : Int) l0 l1 a2 a3 l4 left (pre ++ l)) r
  | [], pre, _, h1, _ => Ev.step (fun k => by rw [regletref13_Right.l1]) (Ev.neg (by simp) (h1 rfl))
  | x :: l, pre, h3, h1, h2 => by
    simp only [List.length_cons] at h3
    have ih := refRight_l1_ev l0 l1 a2 a3 l4 x3 left r l (pre ++ [x]) (by simp; omega)
    simp only [← wrap_next pre _ (show pre.length ≤ 1000000 by omega), List.append_assoc, List.singleton_append] at ih
    have e : rd_T49 (pre ++ x :: l) (pre.length : Int) = x := getD_mid _ pre x l _ rfl
    refine Ev.step (fun k => by rw [regletref13_Right.l1]) ?_
    rw [e]
    refine Ev.pos (by simp; omega) (Ev.pos (by omega) ?_)
    cases hx : x.f0 with
    | true =>
      refine Ev.pos rfl ?_
      by_cases h0 : x.f1 < 0
      · exact Ev.pos h0 (Ev.some (h2 (by simp [okSym, hx]; omega)).symm)
      · refine Ev.neg h0 ?_
        by_cases h5 : x.f1 ≥ (l1.length : Int)
        · exact Ev.pos h5 (Ev.some (h2 (by simp [okSym, hx]; omega)).symm)
        · refine Ev.neg h5 (ih (fun h => h1 ?_) (fun h => h2 ?_))
          · simp [okSym, hx, -List.all_eq_true] ; exact ⟨by omega, h⟩
          · rw [List.all_cons, h, Bool.and_false]
    | false =>
      refine Ev.neg (by simp) ?_
      by_cases h0 : x.f1 < 0
      · exact Ev.pos h0 (Ev.some (h2 (by simp [okSym, hx]; omega)).symm)
      · refine Ev.neg h0 ?_
        by_cases h5 : x.f1 ≥ (l0.length : Int)
        · exact Ev.pos h5 (Ev.some (h2 (by simp [okSym, hx]; omega)).symm)
        · refine Ev.neg h5 (ih (fun h => h1 ?_) (fun h => h2 ?_))
          · simp [okSym, hx, -List.all_eq_true] ; exact ⟨by omega, h⟩
          · rw [List.all_cons, h, Bool.and_false]
theorem refRight_l0_ev (l0 : List ByteArray) (l1 : List Tok) (a2 a3 : Int) : ∀ (qs pre : List Prod), pre.length + qs.length ≤ 1000000 → (∀ p ∈ qs, p.f1.length ≤ 1000000) → Ev (fun k => regletref13_Right.l0 k (pre.length : Int) l0 l1 a2 a3 (pre ++ qs)) (qs.all (okProd l0.length l1.length))
  | [], pre, _, _ => Ev.step (fun k => by rw [regletref13_Right.l0]) (Ev.neg (by simp) (Ev.some (by simp)))
  | p :: qs, pre, h3, h4 => by
    simp only [List.length_cons] at h3
    have ih := refRight_l0_ev l0 l1 a2 a3 qs (pre ++ [p]) (by simp; omega) (fun p hp => h4 p (List.mem_cons_of_mem _ hp))
    simp only [← wrap_next pre _ (show pre.length ≤ 1000000 by omega), List.append_assoc, List.singleton_append] at ih
    have e : rd_T34 (pre ++ p :: qs) (pre.length : Int) = p := getD_mid _ pre p qs _ rfl
    refine Ev.step (fun k => by rw [regletref13_Right.l0]) ?_
    rw [e]
    refine Ev.pos (by simp; omega) (Ev.pos (by omega) ?_)
    by_cases h0 : p.f0 < 0
    · refine Ev.pos h0 (Ev.step (fun k => by rw [regletref13_Right.j1]) (Ev.pos rfl (Ev.some ?_)))
      simp [okProd]; omega
    · refine Ev.neg h0 (Ev.step (fun k => by rw [regletref13_Right.j1]) ?_)
      by_cases h5 : p.f0 ≥ (l0.length : Int)
      · refine Ev.pos (decide_eq_true h5) (Ev.some ?_)
        simp [okProd]; omega
      · refine Ev.neg (by simpa using h5) ?_
        have h := refRight_l1_ev l0 l1 a2 a3 (pre ++ p :: qs) (pre.length : Int) p.f0 ((p :: qs).all (okProd l0.length l1.length)) p.f1 [] (by have := h4 p List.mem_cons_self; simpa using this) (fun h => Ev.val ih (by
            have : okProd l0.length l1.length p = true := by simp only [okProd, h, Bool.and_true, Bool.and_eq_true, decide_eq_true_eq]; omega
            rw [List.all_cons, this, Bool.true_and])) (fun h => by
            have : okProd l0.length l1.length p = false := by simp only [okProd, h, Bool.and_false]
            rw [List.all_cons, this, Bool.false_and])
        simpa only [List.nil_append, List.length_nil, Int.natCast_zero] using h
theorem refRight_ev (l0 : List ByteArray) (l1 : List Tok) (a2 a3 : Int) (l4 : List Prod) (h : Small l4) : Ev (fun k => regletref13_Right.f k l0 l1 a2 a3 l4) (l4.all (okProd l0.length l1.length)) :=
  Ev.congr (fun k => by rw [regletref13_Right.f]) (by simpa only [List.nil_append, List.length_nil, Int.natCast_zero] using refRight_l0_ev l0 l1 a2 a3 l4 [] (by have := h.1; simpa using this) h.2)
def cNew (token : Bool) (out : List Bool) (p : Prod) : Bool := !(p.f1.any (oddP token out)) && !(out.getD p.f0.toNat false)
def cStep (token : Bool) (out : List Bool) (p : Prod) : Bool × List Bool := (cNew token out p, if cNew token out p = true then out.set p.f0.toNat true else out)
theorem closedStep_val (token : Bool) (out : List Bool) (p : Prod) : closedStep token out p = some (cStep token out p) := by
  have e : rdOf false out p.f0 = out.getD p.f0.toNat false := rfl
  unfold closedStep cStep cNew
  rw [e]
  cases out.getD p.f0.toNat false <;> cases p.f1.any (oddP token out) <;> rfl
theorem okProd_left {nn nt : Nat} {p : Prod} (h : okProd nn nt p = true) : 0 ≤ p.f0 ∧ p.f0 < (nn : Int) := by
  simp only [okProd, Bool.and_eq_true, decide_eq_true_eq] at h; exact h.1
theorem okProd_right {nn nt : Nat} {p : Prod} (h : okProd nn nt p = true) : p.f1.all (okSym nn nt) = true := by
  simp only [okProd, Bool.and_eq_true, decide_eq_true_eq] at h; exact h.2
theorem cStep_good (nn nt : Nat) (token : Bool) {ps : List Prod} (hps : ps.all (okProd nn nt) = true) : Good (fun out : List Bool => out.length = nn) cf (cStep token) ps := by
  intro st p hI hp
  have hl := okProd_left (List.all_eq_true.1 hps p hp)
  unfold cStep
  simp only
  cases hc : cNew token st p with
  | false => simp [hI]
  | true =>
    have h0 : st.getD p.f0.toNat false = false := by
      simp only [cNew, Bool.and_eq_true, Bool.not_eq_true'] at hc; exact hc.2
    have h := cf_set st p.f0.toNat (by omega) h0
    simp only [if_true]
    exact ⟨by simpa using hI, Nat.le_of_lt h, fun _ => h⟩
def clo (token : Bool) (nn : Nat) (ps : List Prod) : List Bool := gOut (cStep token) ps (cf (List.replicate nn false)) (List.replicate nn false)
theorem clo_length (nn nt : Nat) (token : Bool) {ps : List Prod} (hps : ps.all (okProd nn nt) = true) : (clo token nn ps).length = nn :=
  gOut_I (cStep_good nn nt token hps) _ _ (by simp)
theorem closed_ev (l0 : List ByteArray) (l1 : List Tok) (a2 a3 : Int) (l4 : List Prod) (h : Small l4) (hn : l0.length ≤ 1000000) (token : Bool) : Ev (fun k => firsts_closed.f k l0 l1 a2 a3 l4 token) (if l4.all (okProd l0.length l1.length) = true then clo token l0.length l4 else []) := by
  refine Ev.congr (fun k => by rw [firsts_closed.f]) (Ev.bind0 (firstsRight_val l0 l1 a2 a3 l4 h) ?_)
  cases hr : l4.all (okProd l0.length l1.length) with
  | false => exact Ev.neg (by simp) (Ev.some (by simp))
  | true =>
    rw [if_pos rfl]
    refine Ev.pos rfl (Ev.pos (by omega) ?_)
    exact growOut_ev (cStep_good l0.length l1.length token hr) (fun _ => closedStep token) (fun st p _ _ => Ev.some' (closedStep_val token st p)) _ _ (by simp) (Nat.le_refl _)
theorem empty_ev (l0 : List ByteArray) (l1 : List Tok) (a2 a3 : Int) (l4 : List Prod) (h : Small l4) (hn : l0.length ≤ 1000000) : Ev (fun k => firsts_Empty.f k l0 l1 a2 a3 l4) (if l4.all (okProd l0.length l1.length) = true then clo false l0.length l4 else []) :=
  Ev.congr (fun k => by rw [firsts_Empty.f]) (Ev.bind (closed_ev l0 l1 a2 a3 l4 h hn false) (Ev.some rfl))
theorem useful_ev (l0 : List ByteArray) (l1 : List Tok) (a2 a3 : Int) (l4 : List Prod) (h : Small l4) (hn : l0.length ≤ 1000000) : Ev (fun k => firsts_Useful.f k l0 l1 a2 a3 l4) (if l4.all (okProd l0.length l1.length) = true then clo true l0.length l4 else []) :=
  Ev.congr (fun k => by rw [firsts_Useful.f]) (Ev.bind (closed_ev l0 l1 a2 a3 l4 h hn true) (Ev.some rfl))
end Go.Proofs.Ytojdjjbkpbapfaa.M
end

section
namespace Go.Proofs.Ytojdjjbkpbapfaa.M
open Go.RowKit Go.Proofs.YtojdjjbkpbapfaaW.PrintWords Go.Proofs.YtojdjjbkpbapfaaW.PrintLast Go.Proofs.YtojdjjbkpbapfaaW.PrintMore Go.Proofs.Ytojdjjbkpbapfaa.P Go.Proofs.Ytojdjjbkpbapfaa.H
set_option linter.unusedVariables false
set_option linter.unusedSimpArgs false
def rows0 (nn nt : Nat) : List (List Bool) := List.replicate nn (none0 nt)
theorem rows0_sh (nn nt : Nat) : Sh nn nt (rows0 nn nt) := ⟨by simp [rows0], fun r hr => by rw [List.eq_of_mem_replicate hr]; simp [none0]⟩
def sStep (nt : Nat) (em : List Bool) (m : List (List Bool)) (p : Prod) : Bool × List (List Bool) :=
  (moreL (m.getD p.f0.toNat []) (bg em m p.f1 (none0 nt)).1, m.set p.f0.toNat (orL (m.getD p.f0.toNat []) (bg em m p.f1 (none0 nt)).1))
theorem none0_length (nt : Nat) : (none0 nt).length = nt + 1 := by simp [none0]
theorem row_step {nn nt : Nat} {m : List (List Bool)} (hs : Sh nn nt m) {i : Nat} (hi : i < nn) {b : List Bool} (hb : b.length = nt + 1) : Sh nn nt (m.set i (orL (m.getD i []) b)) ∧ cfs (m.set i (orL (m.getD i []) b)) ≤ cfs m ∧ (moreL (m.getD i []) b = true → cfs (m.set i (orL (m.getD i []) b)) < cfs m) := by
  have hr := hs.get hi
  have h1 := cf_orL (m.getD i []) b (by rw [hr, hb])
  have h2 := cfs_set m i (orL (m.getD i []) b) (by rw [hs.1]; exact hi) h1.1
  exact ⟨hs.set i (by rw [orL_length (by rw [hr, hb]), hr]), h2.1, fun h => h2.2 (h1.2 h)⟩
theorem sStep_good {nn nt : Nat} (em : List Bool) {ps : List Prod} (hps : ps.all (okProd nn nt) = true) : Good (Sh nn nt) cfs (sStep nt em) ps := by
  intro st p hI hp
  have hok := List.all_eq_true.1 hps p hp
  have hl := okProd_left hok
  exact row_step hI (by omega) (bg_length em hI p.f1 _ (okProd_right hok) (none0_length nt))
def fst (nn nt : Nat) (em : List Bool) (ps : List Prod) : List (List Bool) := gOut (sStep nt em) ps (cfs (rows0 nn nt)) (rows0 nn nt)
theorem fst_sh (nn nt : Nat) (em : List Bool) {ps : List Prod} (hps : ps.all (okProd nn nt) = true) : Sh nn nt (fst nn nt em ps) :=
  gOut_I (sStep_good em hps) _ _ (rows0_sh nn nt)
theorem studiedStep_ev {nn nt : Nat} {em : List Bool} (he : em.length = nn) (hnt : nt ≤ 1000) {m : List (List Bool)} (hs : Sh nn nt m) {p : Prod} (hok : okProd nn nt p = true) (h3 : p.f1.length ≤ 1000000) : Ev (fun k => studiedStep k nt em m p) (sStep nt em m p) := by
  have hl := okProd_left hok
  have hs1 := hs.1
  have hb := bg_length em hs p.f1 _ (okProd_right hok) (none0_length nt)
  have hr := hs.get (i := p.f0.toNat) (by omega)
  refine Ev.congr (fun k => by rw [studiedStep]) (Ev.bind (begins_ev hs he hnt p.f1 (okProd_right hok) h3) ?_)
  refine Ev.pos hl.1 (Ev.pos (by omega) ?_)
  exact Ev.bind (add_ev (m.getD p.f0.toNat []) (bg em m p.f1 (none0 nt)).1 (by rw [hr, hb]) (by omega)) (Ev.some rfl)
theorem studied_ev (l0 : List ByteArray) (l1 : List Tok) (a2 a3 : Int) (l4 : List Prod) (h : Small l4) (h0 : l0.length ≤ 1000000) (h1 : l1.length ≤ 1000) (hok : l4.all (okProd l0.length l1.length) = true) : Ev (fun k => studied_f k l0 l1 a2 a3 l4) (clo false l0.length l4, fst l0.length l1.length (clo false l0.length l4) l4) := by
  refine Ev.congr (fun k => by rw [studied_f, if_pos ⟨by omega, by omega, by have := h.1; omega⟩]) (Ev.bind (Ev.val (empty_ev l0 l1 a2 a3 l4 h h0) (if_pos hok)) ?_)
  have he := clo_length l0.length l1.length false hok
  refine Ev.bind (growOut_ev (sStep_good _ hok) (fun k => studiedStep k l1.length (clo false l0.length l4)) (fun st p hI hp => studiedStep_ev he h1 hI (List.all_eq_true.1 hok p hp) (h.2 p hp)) _ _ (rows0_sh l0.length l1.length) (Nat.le_refl _)) (Ev.some rfl)
theorem or_self : ∀ a : List Bool, orL a a = a
  | [] => rfl
  | x :: a => by show (x || x) :: orL a a = x :: a; rw [or_self a, Bool.or_self]
theorem more_self : ∀ a : List Bool, moreL a a = false
  | [] => rfl
  | x :: a => by show ((x && !x) || moreL a a) = false; rw [more_self a]; cases x <;> rfl
theorem or_three : ∀ (a b c : List Bool), a.length = b.length → b.length = c.length → orL a (orL b c) = orL (orL a b) c ∧ moreL a (orL b c) = (moreL (orL a b) c || moreL a b)
  | [], [], [], _, _ => ⟨rfl, rfl⟩
  | x :: a, y :: b, z :: c, h1, h2 => by
    obtain ⟨h3, h4⟩ := or_three a b c (by simpa using h1) (by simpa using h2)
    constructor
    · show (x || (y || z)) :: orL a (orL b c) = (x || y || z) :: orL (orL a b) c
      rw [h3, Bool.or_assoc]
    · show (((y || z) && !x) || moreL a (orL b c)) = (((z && !(x || y)) || moreL (orL a b) c) || ((y && !x) || moreL a b))
      rw [h4]
      cases x <;> cases y <;> cases z <;> simp
theorem or_back : ∀ (a b : List Bool), a.length = b.length → orL a (orL b a) = orL a b ∧ moreL a (orL b a) = moreL a b
  | [], [], _ => ⟨rfl, rfl⟩
  | x :: a, y :: b, h1 => by
    obtain ⟨h3, h4⟩ := or_back a b (by simpa using h1)
    constructor
    · show (x || (y || x)) :: orL a (orL b a) = (x || y) :: orL a b
      rw [h3]; cases x <;> cases y <;> rfl
    · show (((y || x) && !x) || moreL a (orL b a)) = ((y && !x) || moreL a b)
      rw [h4]; cases x <;> cases y <;> rfl
def fAdd (nt : Nat) (em : List Bool) (first : List (List Bool)) (left : Nat) (ys : List Sym) (out : List (List Bool)) : List Bool :=
  if (bg em first ys (none0 nt)).2 = true then orL (bg em first ys (none0 nt)).1 (out.getD left []) else (bg em first ys (none0 nt)).1
def fIn (nt : Nat) (em : List Bool) (first : List (List Bool)) (left : Nat) : List Sym → Bool → List (List Bool) → Bool × List (List Bool)
  | [], g, out => (g, out)
  | y :: ys, g, out => if y.f0 = true then fIn nt em first left ys g out else
    fIn nt em first left ys (moreL (out.getD y.f1.toNat []) (fAdd nt em first left ys out) || g) (out.set y.f1.toNat (orL (out.getD y.f1.toNat []) (fAdd nt em first left ys out)))
def fStep (nt : Nat) (em : List Bool) (first : List (List Bool)) (out : List (List Bool)) (p : Prod) : Bool × List (List Bool) := fIn nt em first p.f0.toNat p.f1 false out
theorem fAdd_length {nn nt : Nat} (em : List Bool) {first out : List (List Bool)} (hf : Sh nn nt first) (hs : Sh nn nt out) {left : Nat} (hl : left < nn) {ys : List Sym} (hok : ys.all (okSym nn nt) = true) : (fAdd nt em first left ys out).length = nt + 1 := by
  have hb := bg_length em hf ys _ hok (none0_length nt)
  unfold fAdd
  split
  · rw [orL_length (by rw [hb, hs.get hl]), hb]
  · exact hb
theorem fIn_good {nn nt : Nat} (em : List Bool) {first : List (List Bool)} (hf : Sh nn nt first) {left : Nat} (hl : left < nn) : ∀ (ys : List Sym) (g : Bool) (out : List (List Bool)), ys.all (okSym nn nt) = true → Sh nn nt out → Sh nn nt (fIn nt em first left ys g out).2 ∧ cfs (fIn nt em first left ys g out).2 ≤ cfs out ∧ ((fIn nt em first left ys g out).1 = true → g = true ∨ cfs (fIn nt em first left ys g out).2 < cfs out)
  | [], g, out, _, hs => ⟨hs, Nat.le_refl _, fun h => .inl h⟩
  | y :: ys, g, out, hok, hs => by
    simp only [List.all_cons, Bool.and_eq_true] at hok
    unfold fIn
    cases hy : y.f0 with
    | true => rw [if_pos rfl]; exact fIn_good em hf hl ys g out hok.2 hs
    | false =>
      rw [if_neg (by simp)]
      have hb := okSym_rule hok.1 hy
      obtain ⟨h1, h2, h3⟩ := row_step hs (i := y.f1.toNat) (by omega) (fAdd_length em hf hs hl hok.2)
      obtain ⟨h4, h5, h6⟩ := fIn_good em hf hl ys (moreL (out.getD y.f1.toNat []) (fAdd nt em first left ys out) || g) _ hok.2 h1
      refine ⟨h4, Nat.le_trans h5 h2, fun h => ?_⟩
      rcases h6 h with h7 | h7
      · rcases (Bool.or_eq_true _ _).mp h7 with h8 | h8
        · exact .inr (Nat.lt_of_le_of_lt h5 (h3 h8))
        · exact .inl h8
      · exact .inr (Nat.lt_of_lt_of_le h7 h2)
theorem fStep_good {nn nt : Nat} (em : List Bool) {first : List (List Bool)} (hf : Sh nn nt first) {ps : List Prod} (hps : ps.all (okProd nn nt) = true) : Good (Sh nn nt) cfs (fStep nt em first) ps := by
  intro st p hI hp
  have hok := List.all_eq_true.1 hps p hp
  have hl := okProd_left hok
  obtain ⟨h1, h2, h3⟩ := fIn_good em hf (left := p.f0.toNat) (by omega) p.f1 false st (okProd_right hok) hI
  exact ⟨h1, h2, fun h => (h3 h).resolve_left (by simp)⟩
theorem followAdd_ev {nn nt : Nat} (hnt : nt ≤ 1000) {out : List (List Bool)} (hs : Sh nn nt out) {n : Int} (h0 : 0 ≤ n) (h1 : n < (nn : Int)) {l : List Bool} (hl : l.length = nt + 1) : Ev (fun k => followAdd k n l out) (moreL (out.getD n.toNat []) l, out.set n.toNat (orL (out.getD n.toNat []) l)) := by
  have hr := hs.get (i := n.toNat) (by omega)
  have hs1 := hs.1
  exact Ev.congr (fun k => by rw [followAdd]) (Ev.pos h0 (Ev.pos (by omega) (Ev.bind (add_ev _ _ (by rw [hr, hl]) (by omega)) (Ev.some rfl))))
theorem followIn_ev {nn nt : Nat} {em : List Bool} (he : em.length = nn) (hnt : nt ≤ 1000) {first : List (List Bool)} (hf : Sh nn nt first) {left : Int} (hl0 : 0 ≤ left) (hl1 : left < (nn : Int)) : ∀ (ys : List Sym) (g : Bool) (out : List (List Bool)), ys.all (okSym nn nt) = true → ys.length ≤ 1000000 → Sh nn nt out → Ev (fun k => followIn k nt em first left ys g out) (fIn nt em first left.toNat ys g out)
  | [], g, out, _, _, hs => Ev.congr (fun k => by rw [followIn]) (Ev.some (by rw [fIn]))
  | y :: ys, g, out, hok, h3, hs => by
    simp only [List.all_cons, Bool.and_eq_true] at hok
    simp only [List.length_cons] at h3
    refine Ev.congr (fun k => by rw [followIn]) ?_
    unfold fIn
    cases hy : y.f0 with
    | true => rw [if_pos rfl]; exact Ev.pos rfl (followIn_ev he hnt hf hl0 hl1 ys g out hok.2 (by omega) hs)
    | false =>
      rw [if_neg (by simp)]
      have hb := okSym_rule hok.1 hy
      have hbl := bg_length em hf ys _ hok.2 (none0_length nt)
      have hn : y.f1.toNat < nn := by omega
      have hrow := hs.get hn
      obtain ⟨h1, _, _⟩ := row_step hs hn hbl
      obtain ⟨h1a, _, _⟩ := row_step hs hn (fAdd_length em hf hs (left := left.toNat) (by omega) hok.2)
      refine Ev.neg (by simp) (Ev.bind (begins_ev hf he hnt ys hok.2 (by omega)) (Ev.bind (followAdd_ev hnt hs hb.1 hb.2 hbl) ?_))
      cases hem : (bg em first ys (none0 nt)).2 with
      | false =>
        have e : fAdd nt em first left.toNat ys out = (bg em first ys (none0 nt)).1 := by rw [fAdd, hem, if_neg (by simp)]
        rw [e] at h1a ⊢
        exact Ev.neg (by simp) (followIn_ev he hnt hf hl0 hl1 ys _ _ hok.2 (by omega) h1a)
      | true =>
        have e : fAdd nt em first left.toNat ys out = orL (bg em first ys (none0 nt)).1 (out.getD left.toNat []) := by rw [fAdd, hem, if_pos rfl]
        rw [e] at h1a ⊢
        have hs1 := h1.1
        have hlr := hs.get (i := left.toNat) (by omega)
        have hlr2 := h1.get (i := left.toNat) (by omega)
        refine Ev.pos rfl (Ev.pos hl0 (Ev.pos (by simp only; rw [hs1]; exact hl1) (Ev.bind (followAdd_ev hnt h1 hb.1 hb.2 hlr2) ?_)))
        have hrow2 : (out.set y.f1.toNat (orL (out.getD y.f1.toNat []) (bg em first ys (none0 nt)).1)).getD y.f1.toNat [] = orL (out.getD y.f1.toNat []) (bg em first ys (none0 nt)).1 := by
          rw [List.getD_eq_getElem?_getD, List.getElem?_set_self (by rw [hs.1]; exact hn)]; rfl
        by_cases hyl : y.f1.toNat = left.toNat
        · rw [← hyl] at h1a ⊢
          dsimp only
          rw [hrow2, or_self, more_self, List.set_set]
          obtain ⟨e1, e2⟩ := or_back (out.getD y.f1.toNat []) (bg em first ys (none0 nt)).1 (by rw [hrow, hbl])
          rw [e1] at h1a ⊢
          rw [e2]
          have hres := followIn_ev he hnt hf hl0 hl1 ys (moreL (out.getD y.f1.toNat []) (bg em first ys (none0 nt)).1 || g) _ hok.2 (by omega) h1a
          rw [← hyl] at hres
          rw [Bool.false_or]
          exact hres
        · have hl2 : (out.set y.f1.toNat (orL (out.getD y.f1.toNat []) (bg em first ys (none0 nt)).1)).getD left.toNat [] = out.getD left.toNat [] := by
            rw [List.getD_eq_getElem?_getD, List.getElem?_set_ne hyl, List.getD_eq_getElem?_getD]
          dsimp only
          rw [hrow2, hl2, List.set_set]
          obtain ⟨e1, e2⟩ := or_three (out.getD y.f1.toNat []) (bg em first ys (none0 nt)).1 (out.getD left.toNat []) (by rw [hrow, hbl]) (by rw [hlr, hbl])
          rw [e1] at h1a ⊢
          rw [e2, Bool.or_assoc]
          exact followIn_ev he hnt hf hl0 hl1 ys _ _ hok.2 (by omega) h1a
end Go.Proofs.Ytojdjjbkpbapfaa.M
end

section
namespace Go.Proofs.Ytojdjjbkpbapfaa.P
open Go.RowKit Go.Proofs.YtojdjjbkpbapfaaW.PrintWords Go.Proofs.YtojdjjbkpbapfaaW.PrintLast Go.Proofs.YtojdjjbkpbapfaaW.PrintMore Go.Proofs.Ytojdjjbkpbapfaa.R
set_option linter.unusedVariables false
set_option linter.unusedSimpArgs false
def firsts_First.f (k : Nat) (l0_0 : List ByteArray) (l0_1 : List (S62)) (a0_2 : Int) (a0_3 : Int) (l0_4 : List (S34)) : Option (List (List Int)) :=
  (firsts_Right.f l0_0 l0_1 a0_2 a0_3 l0_4).bind fun r => if r = true then (studied_f k l0_0 l0_1 a0_2 a0_3 l0_4).bind fun x => firsts_all.f k x.2 else some []
theorem firsts_First.mono : ∀ (l0_0 : List ByteArray) (l0_1 : List (S62)) (a0_2 : Int) (a0_3 : Int) (l0_4 : List (S34)) k, LeO (firsts_First.f k l0_0 l0_1 a0_2 a0_3 l0_4) (firsts_First.f (k + 1) l0_0 l0_1 a0_2 a0_3 l0_4) := by
  intro l0_0 l0_1 a0_2 a0_3 l0_4 k
  unfold firsts_First.f
  exact LeO.bind (LeO.refl _) (fun _ => LeO.ite (LeO.bind (studied_mono _ _ _ _ _ _) (fun _ => firsts_all.mono _ _)) (LeO.refl _))
set_option maxHeartbeats 2000000 in
theorem firsts_First.calls (k : Nat) (A0_0 : Option Addr) (c0_0 : Nat) (l0_0 : List ByteArray) (A0_1 : Option Addr) (c0_1 : Nat) (l0_1 : List (S62)) (a0_2 : Int) (a0_3 : Int) (A0_4 : Option Addr) (c0_4 : Nat) (l0_4 : List (S34)) (r : List (List Int)) (w : World) (hr0_0 : Kd.C Kd.string w A0_0 l0_0.length l0_0) (hc0_0 : l0_0.length ≤ c0_0) (hr0_1 : Kd.C k62 w A0_1 l0_1.length l0_1) (hc0_1 : l0_1.length ≤ c0_1) (hr0_4 : Kd.C k34 w A0_4 l0_4.length l0_4) (hc0_4 : l0_4.length ≤ c0_4) (h : firsts_First.f k l0_0 l0_1 a0_2 a0_3 l0_4 = some r) :
    Calls Try.prog 14 #[.agg #[.slice A0_0 l0_0.length c0_0, .slice A0_1 l0_1.length c0_1, .int .i64 a0_2, .int .i64 a0_3, .slice A0_4 l0_4.length c0_4]] w fun e w' => ∃ v0_ : Value, e = .returned (v0_) ∧ Kd.S (Kd.slice 3 (Kd.int .i64)) 39 w' w.heap.size (fun _ => True) v0_ r ∧ Below w.heap.size w w' := by
  obtain ⟨rt, hrt, h2⟩ := Option.bind_eq_some_iff.1 h
  have HRT := Aside0.mk hrt
  clear h hrt
  have HA1 : Aside0 (Below w.heap.size w (w.alloc (.cells #[.slice A0_0 l0_0.length c0_0, .slice A0_1 l0_1.length c0_1, .int .i64 a0_2, .int .i64 a0_3, .slice A0_4 l0_4.length c0_4] 26))) := ⟨(Below.refl _ w).alloc (Nat.le_refl _) _⟩
  have HC : Aside0 (∀ W, Below (w.heap.size + 1) (w.alloc (.cells #[.slice A0_0 l0_0.length c0_0, .slice A0_1 l0_1.length c0_1, .int .i64 a0_2, .int .i64 a0_3, .slice A0_4 l0_4.length c0_4] 26)) W → W.cell? ⟨w.heap.size, 0, none⟩ = some (.slice A0_0 l0_0.length c0_0) ∧ W.cell? ⟨w.heap.size, 1, none⟩ = some (.slice A0_1 l0_1.length c0_1) ∧ W.cell? ⟨w.heap.size, 2, none⟩ = some (.int .i64 a0_2) ∧ W.cell? ⟨w.heap.size, 3, none⟩ = some (.int .i64 a0_3) ∧ W.cell? ⟨w.heap.size, 4, none⟩ = some (.slice A0_4 l0_4.length c0_4)) := ⟨fun W hW => ⟨(hW.cell (p := ⟨w.heap.size, 0, none⟩) (by simp)).trans (by simp), (hW.cell (p := ⟨w.heap.size, 1, none⟩) (by simp)).trans (by simp), (hW.cell (p := ⟨w.heap.size, 2, none⟩) (by simp)).trans (by simp), (hW.cell (p := ⟨w.heap.size, 3, none⟩) (by simp)).trans (by simp), (hW.cell (p := ⟨w.heap.size, 4, none⟩) (by simp)).trans (by simp)⟩⟩
  cases rt with
  | false =>
    rw [if_neg (by simp)] at h2
    obtain rfl := Option.some.inj h2
    clear h2
    go_enter Try.func14, Try.ntmps14
    go_wp2_with (go_at_call 23; (with_reducible refine (firsts_Right.calls A0_0 c0_0 l0_0 A0_1 c0_1 l0_1 a0_2 a0_3 A0_4 c0_4 l0_4 false _ (Kd.C_below hr0_0 HA1.out) hc0_0 (Kd.C_below hr0_1 HA1.out) hc0_1 (Kd.C_below hr0_4 HA1.out) hc0_4 HRT.out).mono ?_); rintro e w1 ⟨rfl, hb1⟩)
    go_ret
    exact ⟨_, rfl, Kd.S_nil _ _ _ _ _, HA1.out.trans (hb1.mono (by simp))⟩
  | true =>
    rw [if_pos rfl] at h2
    obtain ⟨⟨em, first⟩, hst, hal⟩ := Option.bind_eq_some_iff.1 h2
    have HST := Aside0.mk hst
    have HAL := Aside0.mk hal
    clear h2 hst hal
    go_enter Try.func14, Try.ntmps14
    go_wp2_with (first
      | (go_at_call 23; (with_reducible refine (firsts_Right.calls A0_0 c0_0 l0_0 A0_1 c0_1 l0_1 a0_2 a0_3 A0_4 c0_4 l0_4 true _ (Kd.C_below hr0_0 HA1.out) hc0_0 (Kd.C_below hr0_1 HA1.out) hc0_1 (Kd.C_below hr0_4 HA1.out) hc0_4 HRT.out).mono ?_); rintro e w1 ⟨rfl, hb1⟩; have HB1 : Aside0 (Below (w.heap.size + 1) (w.alloc (.cells #[.slice A0_0 l0_0.length c0_0, .slice A0_1 l0_1.length c0_1, .int .i64 a0_2, .int .i64 a0_3, .slice A0_4 l0_4.length c0_4] 26)) w1) := ⟨hb1.mono (by simp)⟩; have HB01 : Aside0 (Below w.heap.size w w1) := ⟨HA1.out.trans (hb1.mono (by simp))⟩; clear hb1; obtain ⟨q0, q1, q2, q3, q4⟩ := HC.out w1 HB1.out)
      | (go_at_call 33; (with_reducible refine (studied_any k A0_0 c0_0 l0_0 A0_1 c0_1 l0_1 a0_2 a0_3 A0_4 c0_4 l0_4 em first _ (Kd.C_below hr0_0 HB01.out) hc0_0 (Kd.C_below hr0_1 HB01.out) hc0_1 (Kd.C_below hr0_4 HB01.out) hc0_4 HST.out).mono ?_); rintro e w2 ⟨G, A5, c5, A6, c6, okE, okF, rfl, hs2⟩; have hn := (Kd.S_reads' hs2.rf).1; rw [hn] at hs2; have HS2 := Aside0.mk hs2; have g6 := (blk_cell HS2.out.g 6).trans (show _ = some (.slice A6 first.length c6) from rfl); clear hs2 hn q0 q1 q2 q3 q4)
      | (go_at_call 32; (with_reducible refine (firsts_all.calls k A6 c6 first r _ (Kd.S_reads' HS2.out.rf).2.2 (Kd.S_reads' HS2.out.rf).2.1 HAL.out).mono ?_); rintro e w3 ⟨v3, rfl, hS3, hb3⟩; have HS3 := Aside0.mk hS3; have HB3 := Aside0.mk hb3; clear hS3 hb3))
    go_ret
    exact ⟨_, rfl, Kd.S_lower HS3.out (HB01.out.trans (HS2.out.bel.mono HB01.out.size)).size, (HB01.out.trans (HS2.out.bel.mono HB01.out.size)).trans (HB3.out.mono (HB01.out.trans (HS2.out.bel.mono HB01.out.size)).size)⟩
def firsts_Of.f (k : Nat) (l0_0 : List ByteArray) (l0_1 : List (S62)) (a0_2 : Int) (a0_3 : Int) (l0_4 : List (S34)) (l1 : List (S49)) : Option (List Int × Bool) :=
  (firsts_Right.f l0_0 l0_1 a0_2 a0_3 l0_4).bind fun r => if r = true then (firsts_symbols.f l0_0 l0_1 a0_2 a0_3 l0_4 l1).bind fun r2 => if r2 = true then if (l0_0.length : Int) = 0 then some ([], false) else (studied_f k l0_0 l0_1 a0_2 a0_3 l0_4).bind fun x => (begins_f k l0_1.length x.1 x.2 l1).bind fun y => (firsts_set_rising.f k y.1).bind fun z => some (z, y.2) else some ([], false) else some ([], false)
theorem firsts_Of.mono : ∀ (l0_0 : List ByteArray) (l0_1 : List (S62)) (a0_2 : Int) (a0_3 : Int) (l0_4 : List (S34)) (l1 : List (S49)) k, LeO (firsts_Of.f k l0_0 l0_1 a0_2 a0_3 l0_4 l1) (firsts_Of.f (k + 1) l0_0 l0_1 a0_2 a0_3 l0_4 l1) := by
  intro l0_0 l0_1 a0_2 a0_3 l0_4 l1 k
  unfold firsts_Of.f
  exact LeO.bind (LeO.refl _) (fun _ => LeO.ite (LeO.bind (LeO.refl _) (fun _ => LeO.ite (LeO.ite (LeO.refl _) (LeO.bind (studied_mono _ _ _ _ _ _) (fun _ => LeO.bind (begins_f_mono _ _ _ _ _) (fun _ => LeO.bind (firsts_set_rising.mono _ _) (fun _ => LeO.refl _))))) (LeO.refl _))) (LeO.refl _))
set_option maxHeartbeats 4000000 in
theorem firsts_Of.calls (k : Nat) (A0_0 : Option Addr) (c0_0 : Nat) (l0_0 : List ByteArray) (A0_1 : Option Addr) (c0_1 : Nat) (l0_1 : List (S62)) (a0_2 : Int) (a0_3 : Int) (A0_4 : Option Addr) (c0_4 : Nat) (l0_4 : List (S34)) (A1 : Option Addr) (c1 : Nat) (l1 : List (S49)) (r1 : List Int) (r2 : Bool) (w : World) (hr0_0 : Kd.C Kd.string w A0_0 l0_0.length l0_0) (hc0_0 : l0_0.length ≤ c0_0) (hr0_1 : Kd.C k62 w A0_1 l0_1.length l0_1) (hc0_1 : l0_1.length ≤ c0_1) (hr0_4 : Kd.C k34 w A0_4 l0_4.length l0_4) (hc0_4 : l0_4.length ≤ c0_4) (hr1 : Kd.C k49 w A1 l1.length l1) (hc1 : l1.length ≤ c1) (h : firsts_Of.f k l0_0 l0_1 a0_2 a0_3 l0_4 l1 = some (r1, r2)) :
    Calls Try.prog 21 #[.agg #[.slice A0_0 l0_0.length c0_0, .slice A0_1 l0_1.length c0_1, .int .i64 a0_2, .int .i64 a0_3, .slice A0_4 l0_4.length c0_4], .slice A1 l1.length c1] w fun e w' => ∃ v0_ : Value, e = .returned (.tuple #[v0_, .bool r2]) ∧ Kd.R (Kd.int .i64) 3 w' w.heap.size (fun _ => True) v0_ r1 ∧ Below w.heap.size w w' := by
  obtain ⟨rt, hrt, h2⟩ := Option.bind_eq_some_iff.1 h
  have HRT := Aside0.mk hrt
  clear h hrt
  have HA1 : Aside0 (Below w.heap.size w (w.alloc (.cells #[.slice A0_0 l0_0.length c0_0, .slice A0_1 l0_1.length c0_1, .int .i64 a0_2, .int .i64 a0_3, .slice A0_4 l0_4.length c0_4] 26))) := ⟨(Below.refl _ w).alloc (Nat.le_refl _) _⟩
  have HC : Aside0 (∀ W, Below (w.heap.size + 1) (w.alloc (.cells #[.slice A0_0 l0_0.length c0_0, .slice A0_1 l0_1.length c0_1, .int .i64 a0_2, .int .i64 a0_3, .slice A0_4 l0_4.length c0_4] 26)) W → W.cell? ⟨w.heap.size, 0, none⟩ = some (.slice A0_0 l0_0.length c0_0) ∧ W.cell? ⟨w.heap.size, 1, none⟩ = some (.slice A0_1 l0_1.length c0_1) ∧ W.cell? ⟨w.heap.size, 2, none⟩ = some (.int .i64 a0_2) ∧ W.cell? ⟨w.heap.size, 3, none⟩ = some (.int .i64 a0_3) ∧ W.cell? ⟨w.heap.size, 4, none⟩ = some (.slice A0_4 l0_4.length c0_4)) := ⟨fun W hW => ⟨(hW.cell (p := ⟨w.heap.size, 0, none⟩) (by simp)).trans (by simp), (hW.cell (p := ⟨w.heap.size, 1, none⟩) (by simp)).trans (by simp), (hW.cell (p := ⟨w.heap.size, 2, none⟩) (by simp)).trans (by simp), (hW.cell (p := ⟨w.heap.size, 3, none⟩) (by simp)).trans (by simp), (hW.cell (p := ⟨w.heap.size, 4, none⟩) (by simp)).trans (by simp)⟩⟩
  cases rt with
  | false =>
    rw [if_neg (by simp)] at h2
    obtain ⟨rfl, rfl⟩ := Prod.mk.inj (Option.some.inj h2)
    clear h2
    go_enter Try.func21, Try.ntmps21
    go_wp2_with (go_at_call 23; (with_reducible refine (firsts_Right.calls A0_0 c0_0 l0_0 A0_1 c0_1 l0_1 a0_2 a0_3 A0_4 c0_4 l0_4 false _ (Kd.C_below hr0_0 HA1.out) hc0_0 (Kd.C_below hr0_1 HA1.out) hc0_1 (Kd.C_below hr0_4 HA1.out) hc0_4 HRT.out).mono ?_); rintro e w1 ⟨rfl, hb1⟩)
    go_ret2
    exact ⟨_, rfl, Kd.R_nil _ _ _ _ _, HA1.out.trans (hb1.mono (by simp))⟩
  | true =>
    rw [if_pos rfl] at h2
    obtain ⟨rt2, hrt2, h3⟩ := Option.bind_eq_some_iff.1 h2
    have HRT2 := Aside0.mk hrt2
    clear h2 hrt2
    cases rt2 with
    | false =>
      rw [if_neg (by simp)] at h3
      obtain ⟨rfl, rfl⟩ := Prod.mk.inj (Option.some.inj h3)
      clear h3
      go_enter Try.func21, Try.ntmps21
      go_wp2_with (first
        | (go_at_call 23; (with_reducible refine (firsts_Right.calls A0_0 c0_0 l0_0 A0_1 c0_1 l0_1 a0_2 a0_3 A0_4 c0_4 l0_4 true _ (Kd.C_below hr0_0 HA1.out) hc0_0 (Kd.C_below hr0_1 HA1.out) hc0_1 (Kd.C_below hr0_4 HA1.out) hc0_4 HRT.out).mono ?_); rintro e w1 ⟨rfl, hb1⟩; have HB1 : Aside0 (Below (w.heap.size + 1) (w.alloc (.cells #[.slice A0_0 l0_0.length c0_0, .slice A0_1 l0_1.length c0_1, .int .i64 a0_2, .int .i64 a0_3, .slice A0_4 l0_4.length c0_4] 26)) w1) := ⟨hb1.mono (by simp)⟩; have HB01 : Aside0 (Below w.heap.size w w1) := ⟨HA1.out.trans (hb1.mono (by simp))⟩; clear hb1; obtain ⟨q0, q1, q2, q3, q4⟩ := HC.out w1 HB1.out)
        | (go_at_call 40; (with_reducible refine (firsts_symbols.calls A0_0 c0_0 l0_0 A0_1 c0_1 l0_1 a0_2 a0_3 A0_4 c0_4 l0_4 A1 c1 l1 false _ (Kd.C_below hr0_0 HB01.out) hc0_0 (Kd.C_below hr0_1 HB01.out) hc0_1 (Kd.C_below hr0_4 HB01.out) hc0_4 (Kd.C_below hr1 HB01.out) hc1 HRT2.out).mono ?_); rintro e w2 ⟨rfl, hb2⟩; have HB2 := Aside0.mk hb2; clear hb2 q0 q1 q2 q3 q4))
      go_ret2
      exact ⟨_, rfl, Kd.R_nil _ _ _ _ _, HB01.out.trans (HB2.out.mono HB01.out.size)⟩
    | true =>
      rw [if_pos rfl] at h3
      by_cases hz : (l0_0.length : Int) = 0
      · rw [if_pos hz] at h3
        obtain ⟨rfl, rfl⟩ := Prod.mk.inj (Option.some.inj h3)
        clear h3
        have hzb : ((l0_0.length : Int) == 0) = true := beq_iff_eq.mpr hz
        go_enter Try.func21, Try.ntmps21
        go_wp2_with (first
          | (go_at_call 23; (with_reducible refine (firsts_Right.calls A0_0 c0_0 l0_0 A0_1 c0_1 l0_1 a0_2 a0_3 A0_4 c0_4 l0_4 true _ (Kd.C_below hr0_0 HA1.out) hc0_0 (Kd.C_below hr0_1 HA1.out) hc0_1 (Kd.C_below hr0_4 HA1.out) hc0_4 HRT.out).mono ?_); rintro e w1 ⟨rfl, hb1⟩; have HB1 : Aside0 (Below (w.heap.size + 1) (w.alloc (.cells #[.slice A0_0 l0_0.length c0_0, .slice A0_1 l0_1.length c0_1, .int .i64 a0_2, .int .i64 a0_3, .slice A0_4 l0_4.length c0_4] 26)) w1) := ⟨hb1.mono (by simp)⟩; have HB01 : Aside0 (Below w.heap.size w w1) := ⟨HA1.out.trans (hb1.mono (by simp))⟩; clear hb1; obtain ⟨q0, q1, q2, q3, q4⟩ := HC.out w1 HB1.out)
          | (go_at_call 40; (with_reducible refine (firsts_symbols.calls A0_0 c0_0 l0_0 A0_1 c0_1 l0_1 a0_2 a0_3 A0_4 c0_4 l0_4 A1 c1 l1 true _ (Kd.C_below hr0_0 HB01.out) hc0_0 (Kd.C_below hr0_1 HB01.out) hc0_1 (Kd.C_below hr0_4 HB01.out) hc0_4 (Kd.C_below hr1 HB01.out) hc1 HRT2.out).mono ?_); rintro e w2 ⟨rfl, hb2⟩; have HB2 := Aside0.mk hb2; clear q0 q1 q2 q3 q4; obtain ⟨q0, q1, q2, q3, q4⟩ := HC.out w2 (HB1.out.trans (HB2.out.mono (by have := HB1.out.size; simpa using this))); clear hb2))
        go_ret2
        exact ⟨_, rfl, Kd.R_nil _ _ _ _ _, HB01.out.trans (HB2.out.mono HB01.out.size)⟩
      · rw [if_neg hz] at h3
        have hzb : ((l0_0.length : Int) == 0) = false := beq_eq_false_iff_ne.mpr hz
        obtain ⟨⟨em, first⟩, hst, h4⟩ := Option.bind_eq_some_iff.1 h3
        obtain ⟨⟨bl, bb⟩, hbg, h5⟩ := Option.bind_eq_some_iff.1 h4
        obtain ⟨ri, hri, h6⟩ := Option.bind_eq_some_iff.1 h5
        obtain ⟨rfl, rfl⟩ := Prod.mk.inj (Option.some.inj h6)
        have HST := Aside0.mk hst
        have HBG := Aside0.mk hbg
        have HRI := Aside0.mk hri
        clear h3 h4 h5 h6 hst hbg hri
        go_enter Try.func21, Try.ntmps21
        go_wp2_with (first
          | (go_at_call 23; (with_reducible refine (firsts_Right.calls A0_0 c0_0 l0_0 A0_1 c0_1 l0_1 a0_2 a0_3 A0_4 c0_4 l0_4 true _ (Kd.C_below hr0_0 HA1.out) hc0_0 (Kd.C_below hr0_1 HA1.out) hc0_1 (Kd.C_below hr0_4 HA1.out) hc0_4 HRT.out).mono ?_); rintro e w1 ⟨rfl, hb1⟩; have HB1 : Aside0 (Below (w.heap.size + 1) (w.alloc (.cells #[.slice A0_0 l0_0.length c0_0, .slice A0_1 l0_1.length c0_1, .int .i64 a0_2, .int .i64 a0_3, .slice A0_4 l0_4.length c0_4] 26)) w1) := ⟨hb1.mono (by simp)⟩; have HB01 : Aside0 (Below w.heap.size w w1) := ⟨HA1.out.trans (hb1.mono (by simp))⟩; clear hb1; obtain ⟨q0, q1, q2, q3, q4⟩ := HC.out w1 HB1.out)
          | (go_at_call 40; (with_reducible refine (firsts_symbols.calls A0_0 c0_0 l0_0 A0_1 c0_1 l0_1 a0_2 a0_3 A0_4 c0_4 l0_4 A1 c1 l1 true _ (Kd.C_below hr0_0 HB01.out) hc0_0 (Kd.C_below hr0_1 HB01.out) hc0_1 (Kd.C_below hr0_4 HB01.out) hc0_4 (Kd.C_below hr1 HB01.out) hc1 HRT2.out).mono ?_); rintro e w2 ⟨rfl, hb2⟩; have HB2 := Aside0.mk hb2; clear q0 q1 q2 q3 q4; obtain ⟨q0, q1, q2, q3, q4⟩ := HC.out w2 (HB1.out.trans (HB2.out.mono (by have := HB1.out.size; simpa using this))); have HB02 : Aside0 (Below w.heap.size w w2) := ⟨HB01.out.trans (HB2.out.mono HB01.out.size)⟩; clear hb2)
          | (go_at_call 33; (with_reducible refine (studied_any k A0_0 c0_0 l0_0 A0_1 c0_1 l0_1 a0_2 a0_3 A0_4 c0_4 l0_4 em first _ (Kd.C_below hr0_0 HB02.out) hc0_0 (Kd.C_below hr0_1 HB02.out) hc0_1 (Kd.C_below hr0_4 HB02.out) hc0_4 HST.out).mono ?_); rintro e w3 ⟨G, A5, c5, A6, c6, okE, okF, rfl, hs2⟩; have hn := (Kd.S_reads' hs2.rf).1; rw [hn] at hs2; have HS2 := Aside0.mk hs2; have HB03 : Aside0 (Below w.heap.size w w3) := ⟨HB02.out.trans (HS2.out.bel.mono HB02.out.size)⟩; clear hs2 hn q0 q1 q2 q3 q4)
          | (go_at_call 38; (with_reducible refine (begins_any k G _ A0_1 A5 A6 A1 l0_1.length c0_1 c5 c6 c1 em first l1 bl bb ((blk_cell HS2.out.g 1).trans rfl) ((blk_cell HS2.out.g 5).trans rfl) ((blk_cell HS2.out.g 6).trans rfl) (Kd.R_reads' HS2.out.re).2.2 (Kd.S_reads' HS2.out.rf).2.2 (Kd.C_below hr1 HB03.out) HBG.out).mono ?_); rintro e w4 ⟨v4, rfl, hR4, hb4⟩; obtain ⟨A7, c7, rfl⟩ := Kd.R_slice hR4; have HR4 := Aside0.mk hR4; have HB04 : Aside0 (Below w.heap.size w w4) := ⟨HB03.out.trans (hb4.mono HB03.out.size)⟩; clear hR4 hb4)
          | (go_at_call 41; (with_reducible refine (firsts_set_rising.calls k A7 c7 bl ri _ (Kd.R_reads' HR4.out).2.2 (Kd.R_reads' HR4.out).2.1 HRI.out).mono ?_); rintro e w5 ⟨v5, rfl, hR5, hb5⟩; have HR5 := Aside0.mk hR5; have HB5 := Aside0.mk hb5; clear hR5 hb5))
        go_ret2
        exact ⟨_, rfl, Kd.R_lower HR5.out HB04.out.size, HB04.out.trans (HB5.out.mono HB04.out.size)⟩
end Go.Proofs.Ytojdjjbkpbapfaa.P
end

section
namespace Go.Proofs.Ytojdjjbkpbapfaa.M
open Go.RowKit Go.Proofs.YtojdjjbkpbapfaaW.PrintWords Go.Proofs.YtojdjjbkpbapfaaW.PrintLast Go.Proofs.YtojdjjbkpbapfaaW.PrintMore Go.Proofs.Ytojdjjbkpbapfaa.P Go.Proofs.Ytojdjjbkpbapfaa.H
set_option linter.unusedVariables false
set_option linter.unusedSimpArgs false
def fol0 (nn nt : Nat) : List (List Bool) := if 0 < nn then (rows0 nn nt).set 0 ((none0 nt).set nt true) else []
theorem fol0_sh (nn nt : Nat) : Sh nn nt (fol0 nn nt) := by
  unfold fol0
  split
  · exact (rows0_sh nn nt).set 0 (by simp [none0_length])
  · obtain rfl : nn = 0 := by omega
    exact ⟨rfl, fun r hr => by simp at hr⟩
def fol (nn nt : Nat) (em : List Bool) (first : List (List Bool)) (ps : List Prod) : List (List Bool) := gOut (fStep nt em first) ps (cfs (fol0 nn nt)) (fol0 nn nt)
theorem fol_sh {nn nt : Nat} (em : List Bool) {first : List (List Bool)} (hf : Sh nn nt first) {ps : List Prod} (hps : ps.all (okProd nn nt) = true) : Sh nn nt (fol nn nt em first ps) :=
  gOut_I (fStep_good em hf hps) _ _ (fol0_sh nn nt)
theorem Sh.small {nn nt : Nat} {m : List (List Bool)} (h : Sh nn nt m) (h1 : nt ≤ 1000) : ∀ r ∈ m, r.length ≤ 1000000 := fun r hr => by rw [h.2 r hr]; omega
section
variable (l0 : List ByteArray) (l1 : List Tok) (a2 a3 : Int) (l4 : List Prod)
def dFirst (nn nt : Nat) (ps : List Prod) : List (List Int) := if ps.all (okProd nn nt) = true then idxs (fst nn nt (clo false nn ps) ps) else []
def dFollow (nn nt : Nat) (ps : List Prod) : List (List Int) := if ps.all (okProd nn nt) = true then idxs (fol nn nt (clo false nn ps) (fst nn nt (clo false nn ps) ps) ps) else []
variable (h : Small l4) (h0 : l0.length ≤ 1000000) (h1 : l1.length ≤ 1000)
include h h0 h1
theorem first_ev : Ev (fun k => firsts_First.f k l0 l1 a2 a3 l4) (dFirst l0.length l1.length l4) := by
  refine Ev.congr (fun k => by rw [firsts_First.f]) (Ev.bind0 (firstsRight_val l0 l1 a2 a3 l4 h) ?_)
  unfold dFirst
  cases hr : l4.all (okProd l0.length l1.length) with
  | false => exact Ev.neg (by simp) (Ev.some (by simp))
  | true =>
    have hs := fst_sh l0.length l1.length (clo false l0.length l4) hr
    rw [if_pos rfl]
    exact Ev.pos rfl (Ev.bind (studied_ev l0 l1 a2 a3 l4 h h0 h1 hr) (all_ev _ (by rw [hs.1]; exact h0) (hs.small h1)))
theorem follow_ev : Ev (fun k => firsts_Follow.f k l0 l1 a2 a3 l4) (dFollow l0.length l1.length l4) := by
  refine Ev.congr (fun k => by rw [firsts_Follow.f]) (Ev.bind0 (firstsRight_val l0 l1 a2 a3 l4 h) ?_)
  unfold dFollow
  cases hr : l4.all (okProd l0.length l1.length) with
  | false => exact Ev.neg (by simp) (Ev.some (by simp))
  | true =>
    have hs := fst_sh l0.length l1.length (clo false l0.length l4) hr
    have hs2 := fol_sh (clo false l0.length l4) hs hr
    have he := clo_length l0.length l1.length false hr
    rw [if_pos rfl]
    refine Ev.pos rfl (Ev.bind (studied_ev l0 l1 a2 a3 l4 h h0 h1 hr) ?_)
    refine Ev.bind (growOut_ev (fStep_good _ hs hr) (fun k => followStep k l1.length (clo false l0.length l4) (fst l0.length l1.length (clo false l0.length l4) l4)) (fun st p hI hp => ?_) (cfs (fol0 l0.length l1.length)) (fol0 l0.length l1.length) (fol0_sh _ _) (Nat.le_refl _)) (all_ev _ (by have := hs2.1; exact Nat.le_trans (Nat.le_of_eq this) h0) (hs2.small h1))
    have hok := List.all_eq_true.1 hr p hp
    have hl := okProd_left hok
    exact Ev.congr (fun k => by rw [followStep]) (followIn_ev he h1 hs hl.1 hl.2 p.f1 false st (okProd_right hok) (h.2 p hp) hI)
end
end Go.Proofs.Ytojdjjbkpbapfaa.M
end

section
namespace Go.Proofs.Ytojdjjbkpbapfaa.P
open Go.RowKit Go.Proofs.YtojdjjbkpbapfaaW.PrintWords Go.Proofs.YtojdjjbkpbapfaaW.PrintLast Go.Proofs.YtojdjjbkpbapfaaW.PrintMore
set_option linter.unusedVariables false
set_option linter.unusedSimpArgs false
def mPick (l : List Int) (at_ : Nat) (n : Int) : Int := if l.length < at_ + 1 then 0 else Int.tmod (l.getD at_ 0) n
theorem wrap_u8 {x : Int} (h0 : 0 ≤ x) (h1 : x ≤ 255) : IntKind.i64.wrap x = x := by rw [IntKind.wrap_i64]; omega
theorem wrap_tmod {x n : Int} (h0 : 0 ≤ x) (h1 : x ≤ 255) : IntKind.i64.wrap (x.tmod n) = x.tmod n := by
  have h2 : 0 ≤ x.tmod n := Int.tmod_nonneg n h0
  have h3 : x.tmod n ≤ x := by
    obtain ⟨a, rfl⟩ := Int.eq_ofNat_of_zero_le h0
    rcases Int.lt_or_le n 0 with hn | hn
    · obtain ⟨b, hb⟩ := Int.eq_ofNat_of_zero_le (show 0 ≤ -n by omega)
      have : (a : Int).tmod n = (a : Int).tmod b := by rw [show n = -(b : Int) by omega, Int.tmod_neg]
      rw [this, ← Int.ofNat_tmod]
      exact_mod_cast Nat.mod_le a b
    · obtain ⟨b, rfl⟩ := Int.eq_ofNat_of_zero_le hn
      rw [← Int.ofNat_tmod]
      exact_mod_cast Nat.mod_le a b
  rw [IntKind.wrap_i64]; omega
set_option maxHeartbeats 1000000 in
theorem pick_any (l : List Int) (A0 : Option Addr) (c0 at_ : Nat) (n : Int) (LB AB : Nat) (W : World) (hne : LB ≠ AB) (hl : W.cell? ⟨LB, 0, none⟩ = some (.slice A0 l.length c0)) (hab : W.heap[AB]? = some (.cells #[.int .i64 (at_ : Int)] 3 (0, 0)))
    (hr : ∀ W', Kept W W' (fun k => k = AB) → Kd.C (Kd.int .u8) W' A0 l.length l) (hn : n ≠ 0) (hat : at_ < 1000000) (hu : ∀ x ∈ l, 0 ≤ x ∧ x ≤ 255) :
    Calls Try.prog 31 #[.int .i64 n, .pointer (some ⟨AB, 0, none⟩), .pointer (some ⟨LB, 0, none⟩)] W fun e w' => e = .returned (.int .i64 (mPick l at_ n)) ∧ Aside0 (Kept W w' (fun k => k = AB)) ∧ Aside0 (w'.heap[AB]? = some (.cells #[.int .i64 ((at_ + 1 : Nat) : Int)] 3 (0, 0))) ∧ Aside0 (Below AB W w') := by
  have ha : W.cell? ⟨AB, 0, none⟩ = some (.int .i64 (at_ : Int)) := (blk_cell hab 0).trans rfl
  have hf := blk_frozen hab 0
  have HA3 := Aside0.mk (blk_put hab 0 (.int .i64 ((at_ : Int) + 1)) (cs' := #[.int .i64 ((at_ + 1 : Nat) : Int)]) rfl)
  have hK := Kept.setCell (Kept.refl W (fun k => k = AB)) (p := ⟨AB, 0, none⟩) (.inl rfl) (.int .i64 ((at_ : Int) + 1))
  have hw1 : IntKind.i64.wrap ((at_ : Int) + 1) = (at_ : Int) + 1 := by rw [IntKind.wrap_i64]; omega
  have hw2 : IntKind.i64.wrap ((at_ : Int) + 1 - 1) = (at_ : Int) := by rw [IntKind.wrap_i64]; omega
  have hl2 : (W.setCell ⟨AB, 0, none⟩ (.int .i64 ((at_ : Int) + 1))).cell? ⟨LB, 0, none⟩ = some (.slice A0 l.length c0) := cell_kept hl hK hne
  have ha2 : (W.setCell ⟨AB, 0, none⟩ (.int .i64 ((at_ : Int) + 1))).cell? ⟨AB, 0, none⟩ = some (.int .i64 ((at_ : Int) + 1)) := World.cell?_setCell_same' _ _ _ (by rw [ha]; rfl)
  have HB : Aside0 (Below AB W (W.setCell ⟨AB, 0, none⟩ (.int .i64 ((at_ : Int) + 1)))) := ⟨(Below.refl AB W).setCell (Nat.le_refl _) _⟩
  have HK := Aside0.mk hK
  have HU := Aside0.mk hu
  have HR := Aside0.mk hr
  clear hK hu hr hab
  by_cases hlt : l.length < at_ + 1
  · have e : mPick l at_ n = 0 := if_pos hlt
    rw [e]
    have d0 : decide ((at_ : Int) + 1 > (l.length : Int)) = true := decide_eq_true (by omega)
    clear hlt e
    go_enter Try.func31, Try.ntmps31
    go_wp2
    go_ret
    exact ⟨rfl, HK, HA3, HB⟩
  · have e : mPick l at_ n = Int.tmod (l.getD at_ 0) n := if_neg hlt
    rw [e]
    have d0 : decide ((at_ : Int) + 1 > (l.length : Int)) = false := decide_eq_false (by omega)
    obtain ⟨ad, ead, hc⟩ := Kd.at_int (HR.out _ HK.out) (at_ : Int) (by omega) (by omega)
    cases ead
    have p0 : (0 ≤ (at_ : Int)) = True := eq_true (by omega)
    have p1 : ((at_ : Int) < (l.length : Int)) = True := eq_true (by omega)
    have hx := HU.out (l.getD at_ 0) (by rw [List.getD_eq_getElem?_getD, List.getElem?_eq_getElem (by omega)]; exact List.getElem_mem _)
    have hx0 : rd l (at_ : Int) = l.getD at_ 0 := rfl
    rw [hx0] at hc
    generalize l.getD at_ 0 = x at hc hx
    have hw3 := wrap_u8 hx.1 hx.2
    have hw4 := wrap_tmod (n := n) hx.1 hx.2
    rw [Int.toNat_natCast] at hc
    clear hx hx0 hlt e
    go_enter Try.func31, Try.ntmps31
    go_wp2
    go_ret
    exact ⟨rfl, HK, HA3, HB⟩
theorem mPick_lt {l : List Int} (hu : ∀ x ∈ l, 0 ≤ x ∧ x ≤ 255) (at_ : Nat) {n : Int} (hn : 0 < n) : 0 ≤ mPick l at_ n ∧ mPick l at_ n < n := by
  unfold mPick
  split
  · omega
  · have hx := hu (l.getD at_ 0) (by rw [List.getD_eq_getElem?_getD, List.getElem?_eq_getElem (by omega)]; exact List.getElem_mem _)
    exact ⟨Int.tmod_nonneg n hx.1, Int.tmod_lt_of_pos _ hn⟩
def mRight (l : List Int) (n t : Int) : Nat → Nat → List S49 → List S49 × Nat
  | 0, at_, acc => (acc, at_)
  | c + 1, at_, acc => mRight l n t c (at_ + 2) (acc ++ [if mPick l at_ 2 = 0 then ⟨true, mPick l (at_ + 1) t⟩ else ⟨false, mPick l (at_ + 1) n⟩])
def mProds (l : List Int) (n t : Int) : Nat → Nat → List S34 → List S34
  | 0, _, acc => acc
  | i + 1, at_, acc => mProds l n t i (mRight l n t (mPick l (at_ + 1) 4).toNat (at_ + 2) []).2 (acc ++ [⟨mPick l at_ n, (mRight l n t (mPick l (at_ + 1) 4).toNat (at_ + 2) []).1⟩])
def mNames : List ByteArray := [⟨#[97]⟩, ⟨#[98]⟩, ⟨#[99]⟩, ⟨#[100]⟩, ⟨#[101]⟩]
def mTexts : List ByteArray := [⟨#[120]⟩, ⟨#[121]⟩, ⟨#[122]⟩, ⟨#[119]⟩]
def mTok (s : ByteArray) : S62 := ⟨⟨#[]⟩, ⟨5, s, [], 0, 0, []⟩⟩
def regletlaw13_Made.f (k : Nat) (l : List Int) : Option (List ByteArray × List S62 × Int × Int × List S34) :=
  if l.all (fun x => decide (0 ≤ x ∧ x ≤ 255)) = true then some (mNames.take (1 + mPick l 0 5).toNat, (mTexts.map mTok).take (1 + mPick l 1 4).toNat, 0, 0, mProds l (1 + mPick l 0 5) (1 + mPick l 1 4) (1 + mPick l 2 10).toNat 3 []) else none
theorem regletlaw13_Made.mono : ∀ l k, LeO (regletlaw13_Made.f k l) (regletlaw13_Made.f (k + 1) l) := fun _ _ => LeO.refl _
structure MadeI (w : World) (A0 : Option Addr) (n0 c0 : Nat) (at_ : Nat) (vn vt vp : Value) (W : World) : Prop where
  bel : Below w.heap.size w W
  l : W.heap[w.heap.size]? = some (.cells #[.slice A0 n0 c0] 31 (0, 0))
  r : W.heap[w.heap.size + 1]? = some (.cells #[.slice none 0 0, .slice none 0 0, .int .i64 0, .int .i64 0, .slice none 0 0] 26 (0, 0))
  s : W.heap[w.heap.size + 2]? = some (.cells #[vn, vt, .int .i64 0, .int .i64 0, vp] 26 (0, 0))
  a : W.heap[w.heap.size + 3]? = some (.cells #[.int .i64 (at_ : Int)] 3 (0, 0))
theorem MadeI.pick {w W W' : World} {A0 : Option Addr} {n0 c0 at_ : Nat} {vn vt vp : Value} (h : MadeI w A0 n0 c0 at_ vn vt vp W) (hk : Kept W W' (fun k => k = w.heap.size + 3)) (ha : W'.heap[w.heap.size + 3]? = some (.cells #[.int .i64 ((at_ + 1 : Nat) : Int)] 3 (0, 0))) (hb : Below (w.heap.size + 3) W W') : MadeI w A0 n0 c0 (at_ + 1) vn vt vp W' :=
  ⟨h.bel.trans (hb.mono (by omega)), blk_kept h.l hk (by simp), blk_kept h.r hk (by simp), blk_kept h.s hk (by simp), ha⟩
theorem MadeI.calls {w W : World} {A0 : Option Addr} {l : List Int} {c0 at_ : Nat} {vn vt vp : Value} (h : MadeI w A0 l.length c0 at_ vn vt vp W) (hr : Kd.C (Kd.int .u8) w A0 l.length l) (n : Int) (hn : n ≠ 0) (hat : at_ < 1000000) (hu : ∀ x ∈ l, 0 ≤ x ∧ x ≤ 255) :
    Calls Try.prog 31 #[.int .i64 n, .pointer (some ⟨w.heap.size + 3, 0, none⟩), .pointer (some ⟨w.heap.size, 0, none⟩)] W fun e w' => e = .returned (.int .i64 (mPick l at_ n)) ∧ Aside0 (MadeI w A0 l.length c0 (at_ + 1) vn vt vp w') ∧ Aside0 (Kept W w' (fun k => k = w.heap.size + 3)) := by
  refine (pick_any l A0 c0 at_ n w.heap.size (w.heap.size + 3) W (by omega) ((blk_cell h.l 0).trans rfl) h.a (fun W' hk => ?_) hn hat hu).mono ?_
  · refine Kd.C_kept_came (Kd.heap_int _) hr h.bel (S := fun k => k = w.heap.size + 3) (fun k hk => by omega) W' hk
  · rintro e w' ⟨rfl, hk, ha, hb⟩
    exact ⟨rfl, ⟨h.pick hk.out ha.out hb.out⟩, hk⟩
end Go.Proofs.Ytojdjjbkpbapfaa.P
end
