/- Packed texts of this claim: the walks of the functions, and their plain laws; see the claim's last text. -/
import Derived.Test.YtfdcfihcfegekaaKPredictClear5
section
namespace Go.Proofs.Ytfdcfihcfegekaa.P
open Go.RowKit Go.Proofs.YtfdcfihcfegekaaW.PrintWords Go.Proofs.YtfdcfihcfegekaaW.PrintLast Go.Proofs.YtfdcfihcfegekaaW.PrintMore
attribute [local go_sem] max2_int min2_int max_two min_two max_three min_three max_four min_four   -- for this text's walks alone
set_option linter.unusedVariables false
set_option linter.unusedSimpArgs false
mutual
def regletref14_Predict.l0 : Nat → List (List Int) → List (List Int) → Int → List ByteArray → List (S61) → Int → Int → List (S30) → Option ((List (List Int)) × (List (S50)))
  | 0, _, _, _, _, _, _, _, _ => none
  | k + 1, x4, x5, x6, x293000, x293001, x293002, x293003, x293004 => if x6 < (x293004.length : Int) then (if 0 ≤ x6 then ((regletref13_Of.f k x293000 x293001 x293002 x293003 x293004 ((rd_T30 x293004 x6).f1)).bind fun bt298 => (if bt298.2 = true then (if 0 ≤ ((rd_T30 x293004 x6).f0) then (if ((rd_T30 x293004 x6).f0) < (x5.length : Int) then (if bt298.1.length + (rd_L3 x5 ((rd_T30 x293004 x6).f0)).length < 17592186044416 then (if x4.length < 5864062014805 then (regletref14_Predict.l0 k (x4 ++ [(bt298.1 ++ (rd_L3 x5 ((rd_T30 x293004 x6).f0)))]) x5 (wrap64 (x6 + 1)) x293000 x293001 x293002 x293003 x293004) else (none)) else (none)) else (none)) else (none)) else (if x4.length < 5864062014805 then (regletref14_Predict.l0 k (x4 ++ [bt298.1]) x5 (wrap64 (x6 + 1)) x293000 x293001 x293002 x293003 x293004) else (none)))) else (none)) else (regletref14_Predict.l1 k x4 ([] : List (List Int)) ([] : List (S50)) 0 x293000 x293001 x293002 x293003 x293004)
def regletref14_Predict.l1 : Nat → List (List Int) → List (List Int) → List (S50) → Int → List ByteArray → List (S61) → Int → Int → List (S30) → Option ((List (List Int)) × (List (S50)))
  | 0, _, _, _, _, _, _, _, _, _ => none
  | k + 1, x4, x9, x10, x11, x293000, x293001, x293002, x293003, x293004 => if x11 < (x293000.length : Int) then (regletref14_Predict.l2 k x4 x9 x10 x11 ([] : List Int) 0 x293000 x293001 x293002 x293003 x293004) else (some (x9, x10))
def regletref14_Predict.l2 : Nat → List (List Int) → List (List Int) → List (S50) → Int → List Int → Int → List ByteArray → List (S61) → Int → Int → List (S30) → Option ((List (List Int)) × (List (S50)))
  | 0, _, _, _, _, _, _, _, _, _, _, _ => none
  | k + 1, x4, x9, x10, x11, x12, x13, x293000, x293001, x293002, x293003, x293004 => if x13 ≤ (x293001.length : Int) then (regletref14_Predict.l3 k x4 x9 x10 x11 x12 x13 (-1) 0 x293000 x293001 x293002 x293003 x293004) else (if x9.length < 5864062014805 then (regletref14_Predict.l1 k x4 (x9 ++ [x12]) x10 (wrap64 (x11 + 1)) x293000 x293001 x293002 x293003 x293004) else (none))
def regletref14_Predict.l3 : Nat → List (List Int) → List (List Int) → List (S50) → Int → List Int → Int → Int → Int → List ByteArray → List (S61) → Int → Int → List (S30) → Option ((List (List Int)) × (List (S50)))
  | 0, _, _, _, _, _, _, _, _, _, _, _, _, _ => none
  | k + 1, x4, x9, x10, x11, x12, x13, x14, x15, x293000, x293001, x293002, x293003, x293004 => if x15 < (x293004.length : Int) then (if 0 ≤ x15 then (if ((rd_T30 x293004 x15).f0) = x11 then (if x15 < (x4.length : Int) then ((regletref14_has.f k (rd_L3 x4 x15) x13).bind fun t321 => (regletref14_Predict.j4 k x4 x9 x10 x11 x12 x13 x14 x15 (!t321) x293000 x293001 x293002 x293003 x293004)) else (none)) else (regletref14_Predict.j4 k x4 x9 x10 x11 x12 x13 x14 x15 true x293000 x293001 x293002 x293003 x293004)) else (none)) else (if x12.length < 17592186044416 then (regletref14_Predict.l2 k x4 x9 x10 x11 (x12 ++ [x14]) (wrap64 (x13 + 1)) x293000 x293001 x293002 x293003 x293004) else (none))
def regletref14_Predict.j4 : Nat → List (List Int) → List (List Int) → List (S50) → Int → List Int → Int → Int → Int → Bool → List ByteArray → List (S61) → Int → Int → List (S30) → Option ((List (List Int)) × (List (S50)))
  | 0, _, _, _, _, _, _, _, _, _, _, _, _, _, _ => none
  | k + 1, x4, x9, x10, x11, x12, x13, x14, x15, x92, x293000, x293001, x293002, x293003, x293004 => if x92 = true then (regletref14_Predict.l3 k x4 x9 x10 x11 x12 x13 x14 (wrap64 (x15 + 1)) x293000 x293001 x293002 x293003 x293004) else (if x14 < 0 then (regletref14_Predict.l3 k x4 x9 x10 x11 x12 x13 x15 (wrap64 (x15 + 1)) x293000 x293001 x293002 x293003 x293004) else (if x10.length < 4398046511104 then (regletref14_Predict.l3 k x4 x9 (x10 ++ [(⟨x11, x13, x14, x15⟩ : S50)]) x11 x12 x13 x14 (wrap64 (x15 + 1)) x293000 x293001 x293002 x293003 x293004) else (none)))
end
def regletref14_Predict.f (k : Nat) (l0_0 : List ByteArray) (l0_1 : List (S61)) (a0_2 : Int) (a0_3 : Int) (l0_4 : List (S30)) : Option ((List (List Int)) × (List (S50))) := (regletref13_Right.f k l0_0 l0_1 a0_2 a0_3 l0_4).bind fun t293 => (if t293 = true then ((regletref13_Follow.f k l0_0 l0_1 a0_2 a0_3 l0_4).bind fun t294 => (regletref14_Predict.l0 k ([] : List (List Int)) t294 0 l0_0 l0_1 a0_2 a0_3 l0_4)) else (some (([] : List (List Int)), ([] : List (S50)))))
def regletref14_Predict.T8 : Bool × List (List Nat × List Nat) := (true, [([], []), ([], []), ([1], [1]), ([], []), ([2, 3], [2, 3]), ([4], [4]), ([5], [5]), ([0, 6], [0, 6]), ([7], [7]), ([8], [8]), ([8], [8]), ([9, 7, 0, 1, 2, 3, 4, 5, 6, 7, 8, 9], [9]), ([10, 11, 0, 1, 2, 3, 4, 5, 6, 7, 8, 9, 10, 11], [10])])
def regletref14_Predict.B8 : List Nat := [0, 0, 2, 0, 14, 30, 62, 127, 255, 511, 511, 1023, 4095]
theorem regletref14_Predict.tab8 : rtab .any (opsOf Try.f19 8) = regletref14_Predict.T8 := by kernel_rfl
theorem regletref14_Predict.bits8 : waitsOk regletref14_Predict.T8.2 regletref14_Predict.B8 = true := by kernel_rfl
set_option maxHeartbeats 8000000 in
set_option maxRecDepth 100000 in
theorem regletref14_Predict.calls (k : Nat) (A0_0 : Option Addr) (c0_0 : Nat) (l0_0 : List ByteArray) (A0_1 : Option Addr) (c0_1 : Nat) (l0_1 : List (S61)) (a0_2 : Int) (a0_3 : Int) (A0_4 : Option Addr) (c0_4 : Nat) (l0_4 : List (S30)) (r1 : List (List Int)) (r2 : List (S50)) (w : World) (hr0_0 : Kd.C Kd.string w A0_0 l0_0.length l0_0) (hc0_0 : l0_0.length ≤ c0_0) (hr0_1 : Kd.C k61 w A0_1 l0_1.length l0_1) (hc0_1 : l0_1.length ≤ c0_1) (hr0_4 : Kd.C k30 w A0_4 l0_4.length l0_4) (hc0_4 : l0_4.length ≤ c0_4) (h : regletref14_Predict.f k l0_0 l0_1 a0_2 a0_3 l0_4 = some (r1, r2)) :
    Calls Try.prog 19 #[.agg #[.slice A0_0 l0_0.length c0_0, .slice A0_1 l0_1.length c0_1, .int .i64 a0_2, .int .i64 a0_3, .slice A0_4 l0_4.length c0_4]] w fun e w' => ∃ v0_ v1_ : Value, e = .returned (.tuple #[v0_, v1_]) ∧ Kd.S (Kd.slice 3 (Kd.int .i64)) 43 w' w.heap.size (fun _ => True) v0_ r1 ∧ Kd.R k50 50 w' w.heap.size (fun _ => True) v1_ r2 ∧ Below w.heap.size w w' := by
 have hu26 := Try.underlying26
 have hu50 := Try.underlying50
 have HR0_0 := Aside0.mk hr0_0
 have HC0_0 := Aside0.mk hc0_0
 clear hr0_0 hc0_0
 have HR0_1 := Aside0.mk hr0_1
 have HC0_1 := Aside0.mk hc0_1
 clear hr0_1 hc0_1
 have HR0_4 := Aside0.mk hr0_4
 have HC0_4 := Aside0.mk hc0_4
 clear hr0_4 hc0_4
 have HB := Aside0.mk (Below.refl w.heap.size w)
 have H : ((regletref13_Right.f k l0_0 l0_1 a0_2 a0_3 l0_4).bind fun t293 => (if t293 = true then ((regletref13_Follow.f k l0_0 l0_1 a0_2 a0_3 l0_4).bind fun t294 => (regletref14_Predict.l0 k ([] : List (List Int)) t294 0 l0_0 l0_1 a0_2 a0_3 l0_4)) else (some (([] : List (List Int)), ([] : List (S50)))))) = some (r1, r2) := h
 clear h
 replace H := Option.bind_eq_some_iff.mp H
 obtain ⟨t293, A20, H⟩ := H
 replace H : (if t293 = true then ((regletref13_Follow.f k l0_0 l0_1 a0_2 a0_3 l0_4).bind fun t294 => (regletref14_Predict.l0 k ([] : List (List Int)) t294 0 l0_0 l0_1 a0_2 a0_3 l0_4)) else (some (([] : List (List Int)), ([] : List (S50))))) = some (r1, r2) := H
 have A2 := Aside0.mk A20
 clear A20
 by_cases c3 : t293 = true
 · subst c3
   have H1 : ((regletref13_Follow.f k l0_0 l0_1 a0_2 a0_3 l0_4).bind fun t294 => (regletref14_Predict.l0 k ([] : List (List Int)) t294 0 l0_0 l0_1 a0_2 a0_3 l0_4)) = some (r1, r2) := by rw [if_pos rfl] at H; exact H
   clear H
   have H := H1
   clear H1
   replace H := Option.bind_eq_some_iff.mp H
   obtain ⟨t294, A40, H⟩ := H
   replace H : (regletref14_Predict.l0 k ([] : List (List Int)) t294 0 l0_0 l0_1 a0_2 a0_3 l0_4) = some (r1, r2) := H
   have A4 := Aside0.mk A40
   clear A40
   have H' := Aside0.mk H
   clear H
   go_enter Try.func19, Try.ntmps19
   go_wp2_with (first | ((with_reducible refine gate_dst (N := 1) rfl ?_); refine box_event ?hg (N := 1) ?hd (cs := #[.slice A0_0 l0_0.length c0_0, .slice A0_1 l0_1.length c0_1, .int .i64 a0_2, .int .i64 a0_3, .slice A0_4 l0_4.length c0_4]) (t := 26) ?hr ?_; (case hd => rfl); (case hg => rfl); (case hr => first | (go_simp; done) | (go_simp; rfl)); intro gb292 hg w5 hbox hb; have n0_ := Aside0.mk (below_step (by repeat (first | (with_reducible first | exact HB.out | apply below_alloc | apply pw_below_drewN | apply below_drew1) | exact HB.out)) hb); have n1_ := Aside0.mk (hbox); have n2_ := Aside0.mk ((by rw [hg]; exact (below_size (by repeat (first | (with_reducible first | exact HB.out | apply below_alloc | apply pw_below_drewN | apply below_drew1) | exact HB.out))) : w.heap.size ≤ gb292)); have n3_ := Aside0.mk ((by rw [hg]; exact (below_size (by repeat (first | (with_reducible first | exact HB.out | apply below_alloc | apply pw_below_drewN | apply below_drew1) | exact HB.out))) : w.heap.size ≤ gb292)); clear HB; have HB := n0_; have BK292 := n1_; have GW292 := n2_; have GE292 := n3_; clear n0_ n1_ n2_ n3_; clear hb hbox hg; have hcz6_0 : w5.cell? ⟨gb292, 0, none⟩ = some (.slice A0_0 l0_0.length c0_0) := (blk_cell BK292.out 0).trans rfl; have hcz6_1 : w5.cell? ⟨gb292, 1, none⟩ = some (.slice A0_1 l0_1.length c0_1) := (blk_cell BK292.out 1).trans rfl; have hcz6_2 : w5.cell? ⟨gb292, 2, none⟩ = some (.int .i64 a0_2) := (blk_cell BK292.out 2).trans rfl; have hcz6_3 : w5.cell? ⟨gb292, 3, none⟩ = some (.int .i64 a0_3) := (blk_cell BK292.out 3).trans rfl; have hcz6_4 : w5.cell? ⟨gb292, 4, none⟩ = some (.slice A0_4 l0_4.length c0_4) := (blk_cell BK292.out 4).trans rfl; have hfz6_0 := blk_frozen BK292.out 0; have hfz6_1 := blk_frozen BK292.out 1; have hfz6_2 := blk_frozen BK292.out 2; have hfz6_3 := blk_frozen BK292.out 3; have hfz6_4 := blk_frozen BK292.out 4) | ((with_reducible refine gate_callee (f := 25) rfl ?_); refine goesL_ (some 17) rfl rfl Try.func25 (by kernel_rfl) rfl #[.agg #[.slice A0_0 l0_0.length c0_0, .slice A0_1 l0_1.length c0_1, .int .i64 a0_2, .int .i64 a0_3, .slice A0_4 l0_4.length c0_4]] rfl (by (try simp only [List.map_toArray, List.map_cons, List.map_nil]); first | done | rfl | (simp only [List.length_drop, List.length_take]; rfl)) ?_; (with_reducible refine (regletref13_Right.calls k _ _ l0_0 _ _ l0_1 a0_2 a0_3 _ _ l0_4 true _ ?side1 ?side2 ?side3 ?side4 ?side5 ?side6 A2.out).mono ?_); (case side1 => repeat (first | exact (Kd.C_below HR0_0.out HB.out) | (with_reducible refine Kd.C_alloc ?_ _) | (with_reducible refine Kd.C_drewN ?_ _) | (with_reducible refine Kd.C_drew ?_))); (case side2 => exact HC0_0.out); (case side3 => repeat (first | exact (Kd.C_below HR0_1.out HB.out) | (with_reducible refine Kd.C_alloc ?_ _) | (with_reducible refine Kd.C_drewN ?_ _) | (with_reducible refine Kd.C_drew ?_))); (case side4 => exact HC0_1.out); (case side5 => repeat (first | exact (Kd.C_below HR0_4.out HB.out) | (with_reducible refine Kd.C_alloc ?_ _) | (with_reducible refine Kd.C_drewN ?_ _) | (with_reducible refine Kd.C_drew ?_))); (case side6 => exact HC0_4.out); rintro e w7 ⟨rfl, hb⟩; refine ⟨_, rfl, ?_⟩; have n0_ := Aside0.mk (blk_below (g := gb292) (o := .cells #[.slice A0_0 l0_0.length c0_0, .slice A0_1 l0_1.length c0_1, .int .i64 a0_2, .int .i64 a0_3, .slice A0_4 l0_4.length c0_4] 26 (0, 0)) (by (with_reducible repeat (first | refine blk_drewN ?_ _ | refine blk_drew ?_ | refine blk_alloc ?_ _)); exact BK292.out) hb); have n1_ := Aside0.mk (below_step (by repeat (first | (with_reducible first | exact HB.out | apply below_alloc | apply pw_below_drewN | apply below_drew1 | refine below_set ?_ GE292.out) | exact HB.out)) hb); clear BK292; clear HB; have BK292 := n0_; have HB := n1_; clear n0_ n1_; (try clear hb); (try clear hb2); (try clear hk); (try clear hi); have hcz8_0 : w7.cell? ⟨gb292, 0, none⟩ = some (.slice A0_0 l0_0.length c0_0) := (blk_cell BK292.out 0).trans rfl; have hcz8_1 : w7.cell? ⟨gb292, 1, none⟩ = some (.slice A0_1 l0_1.length c0_1) := (blk_cell BK292.out 1).trans rfl; have hcz8_2 : w7.cell? ⟨gb292, 2, none⟩ = some (.int .i64 a0_2) := (blk_cell BK292.out 2).trans rfl; have hcz8_3 : w7.cell? ⟨gb292, 3, none⟩ = some (.int .i64 a0_3) := (blk_cell BK292.out 3).trans rfl; have hcz8_4 : w7.cell? ⟨gb292, 4, none⟩ = some (.slice A0_4 l0_4.length c0_4) := (blk_cell BK292.out 4).trans rfl; have hfz8_0 := blk_frozen BK292.out 0; have hfz8_1 := blk_frozen BK292.out 1; have hfz8_2 := blk_frozen BK292.out 2; have hfz8_3 := blk_frozen BK292.out 3; have hfz8_4 := blk_frozen BK292.out 4) | ((with_reducible refine gate_callee (f := 16) rfl ?_); refine goesL_ (some 20) rfl rfl Try.func16 (by kernel_rfl) rfl #[.agg #[.slice A0_0 l0_0.length c0_0, .slice A0_1 l0_1.length c0_1, .int .i64 a0_2, .int .i64 a0_3, .slice A0_4 l0_4.length c0_4]] rfl (by (try simp only [List.map_toArray, List.map_cons, List.map_nil]); first | done | rfl | (simp only [List.length_drop, List.length_take]; rfl)) ?_; (with_reducible refine (regletref13_Follow.calls k _ _ l0_0 _ _ l0_1 a0_2 a0_3 _ _ l0_4 t294 _ ?side1 ?side2 ?side3 ?side4 ?side5 ?side6 A4.out).mono ?_); (case side1 => repeat (first | exact (Kd.C_below HR0_0.out HB.out) | (with_reducible refine Kd.C_alloc ?_ _) | (with_reducible refine Kd.C_drewN ?_ _) | (with_reducible refine Kd.C_drew ?_))); (case side2 => exact HC0_0.out); (case side3 => repeat (first | exact (Kd.C_below HR0_1.out HB.out) | (with_reducible refine Kd.C_alloc ?_ _) | (with_reducible refine Kd.C_drewN ?_ _) | (with_reducible refine Kd.C_drew ?_))); (case side4 => exact HC0_1.out); (case side5 => repeat (first | exact (Kd.C_below HR0_4.out HB.out) | (with_reducible refine Kd.C_alloc ?_ _) | (with_reducible refine Kd.C_drewN ?_ _) | (with_reducible refine Kd.C_drew ?_))); (case side6 => exact HC0_4.out); rintro e w9 ⟨v295, rfl, ho0, hb⟩; refine ⟨_, rfl, ?_⟩; have n0_ := Aside0.mk (Kd.S_lower ho0 (below_size (by repeat (first | (with_reducible first | exact HB.out | apply below_alloc | apply pw_below_drewN | apply below_drew1 | refine below_set ?_ GE292.out) | exact HB.out)))); have n1_ := Aside0.mk (blk_below (g := gb292) (o := .cells #[.slice A0_0 l0_0.length c0_0, .slice A0_1 l0_1.length c0_1, .int .i64 a0_2, .int .i64 a0_3, .slice A0_4 l0_4.length c0_4] 26 (0, 0)) (by (with_reducible repeat (first | refine blk_drewN ?_ _ | refine blk_drew ?_ | refine blk_alloc ?_ _)); exact BK292.out) hb); have n2_ := Aside0.mk (below_step (by repeat (first | (with_reducible first | exact HB.out | apply below_alloc | apply pw_below_drewN | apply below_drew1 | refine below_set ?_ GE292.out) | exact HB.out)) hb); clear BK292; clear HB; have HO296 := n0_; have BK292 := n1_; have HB := n2_; clear n0_ n1_ n2_; (try clear hb); (try clear hb2); (try clear hk); (try clear hi); (try clear ho0)))
   go_loopg [4, 6] k (fun kq v4 v6 w' => ∃ (x4_1 : List (List Int)) (x6_1 : Int), v6 = .int .i64 x6_1 ∧ Aside0 (regletref14_Predict.l0 kq x4_1 t294 x6_1 l0_0 l0_1 a0_2 a0_3 l0_4 = some (r1, r2)) ∧ Aside0 (kq ≤ k) ∧ Aside0 (Kd.S (Kd.slice 3 (Kd.int .i64)) 43 w' w.heap.size (fun k_ => some k_ ≠ (v295 : Value).ownBlock) v4 x4_1) ∧ Aside0 (Kd.S (Kd.slice 3 (Kd.int .i64)) 43 w' w.heap.size (fun k_ => some k_ ≠ (v4 : Value).ownBlock) v295 t294) ∧ Aside0 (w'.heap[gb292]? = some (.cells #[(.slice A0_0 l0_0.length c0_0), (.slice A0_1 l0_1.length c0_1), .int .i64 a0_2, .int .i64 a0_3, (.slice A0_4 l0_4.length c0_4)] 26 (0, 0))) ∧ Aside0 (Below w.heap.size w w'))
   case atStart => exact ⟨(([] : List (List Int))), (0), (by first | rfl | (simp; done) | (simp [*]; done)), H', ⟨Nat.le_refl _⟩, ⟨by first | exact Kd.S_nil _ _ _ _ _ | exact Kd.N_nil _ _ _ _ _ | exact Kd.V_nil _ _ _ _ _ | exact Kd.Q_nil _ _ _ _ _ | exact Kd.R_nil _ _ _ _ _⟩, ⟨by (with_reducible repeat (first | apply Kd.S_alloc | apply Kd.S_drewN | apply Kd.S_drew)); exact Kd.S_mono HO296.out (fun _ hk => (by simp [Value.ownBlock]))⟩, ⟨by (with_reducible repeat (first | refine blk_drewN ?_ _ | refine blk_drew ?_ | refine blk_alloc ?_ _)); exact BK292.out⟩, ⟨by repeat (first | (with_reducible first | exact HB.out | apply below_alloc | apply pw_below_drewN | apply below_drew1 | refine below_set ?_ GE292.out) | exact HB.out)⟩⟩
   case round =>
    clear H'
    (try clear c1);(try clear c2);(try clear p2);(try clear c3);(try clear hcz6_0);(try clear hcz6_1);(try clear hcz6_2);(try clear hcz6_3);(try clear hcz6_4);(try clear hcz8_0);(try clear hcz8_1);(try clear hcz8_2);(try clear hcz8_3);(try clear hcz8_4);(try clear hfz6_0);(try clear hfz6_1);(try clear hfz6_2);(try clear hfz6_3);(try clear hfz6_4);(try clear hfz8_0);(try clear hfz8_1);(try clear hfz8_2)
    (try clear hfz8_3);(try clear hfz8_4)
    obtain ⟨x4_1, x6_1, rfl, HA, HK1, HO_4, HO_5, BK292, HB⟩ := hrel
    cases gk with
    | zero => exact absurd HA.out (by simp [regletref14_Predict.l0])
    | succ k1 =>
     have H := HA.out
     clear HA
     simp only [regletref14_Predict.l0] at H
     by_cases c10 : x6_1 < (l0_4.length : Int)
     · rw [if_pos c10] at H
       have c10b0 : decide (x6_1 < (l0_4.length : Int)) = true := decide_eq_true c10
       clear c10
       by_cases c11 : 0 ≤ x6_1
       rotate_left
       · rw [if_neg c11] at H
         exact absurd H (by simp)
       rw [if_pos c11] at H
       have c11b0 : decide (0 ≤ x6_1) = true := decide_eq_true c11
       clear c11
       replace H := Option.bind_eq_some_iff.mp H
       obtain ⟨⟨t298, t301⟩, A120, H⟩ := H
       replace H : (if t301 = true then (if 0 ≤ ((rd_T30 l0_4 x6_1).f0) then (if ((rd_T30 l0_4 x6_1).f0) < (t294.length : Int) then (if t298.length + (rd_L3 t294 ((rd_T30 l0_4 x6_1).f0)).length < 17592186044416 then (if x4_1.length < 5864062014805 then (regletref14_Predict.l0 k1 (x4_1 ++ [(t298 ++ (rd_L3 t294 ((rd_T30 l0_4 x6_1).f0)))]) t294 (wrap64 (x6_1 + 1)) l0_0 l0_1 a0_2 a0_3 l0_4) else (none)) else (none)) else (none)) else (none)) else (if x4_1.length < 5864062014805 then (regletref14_Predict.l0 k1 (x4_1 ++ [t298]) t294 (wrap64 (x6_1 + 1)) l0_0 l0_1 a0_2 a0_3 l0_4) else (none))) = some (r1, r2) := H
       have A12 := Aside0.mk A120
       clear A120
       by_cases c13 : t301 = true
       · subst c13
         have H1 : (if 0 ≤ ((rd_T30 l0_4 x6_1).f0) then (if ((rd_T30 l0_4 x6_1).f0) < (t294.length : Int) then (if t298.length + (rd_L3 t294 ((rd_T30 l0_4 x6_1).f0)).length < 17592186044416 then (if x4_1.length < 5864062014805 then (regletref14_Predict.l0 k1 (x4_1 ++ [(t298 ++ (rd_L3 t294 ((rd_T30 l0_4 x6_1).f0)))]) t294 (wrap64 (x6_1 + 1)) l0_0 l0_1 a0_2 a0_3 l0_4) else (none)) else (none)) else (none)) else (none)) = some (r1, r2) := by rw [if_pos rfl] at H; exact H
         clear H
         have H := H1
         clear H1
         by_cases c14 : 0 ≤ ((rd_T30 l0_4 x6_1).f0)
         rotate_left
         · rw [if_neg c14] at H
           exact absurd H (by simp)
         rw [if_pos c14] at H
         have c14b0 : decide (0 ≤ ((rd_T30 l0_4 x6_1).f0)) = true := decide_eq_true c14
         clear c14
         by_cases c15 : ((rd_T30 l0_4 x6_1).f0) < (t294.length : Int)
         rotate_left
         · rw [if_neg c15] at H
           exact absurd H (by simp)
         rw [if_pos c15] at H
         have c15b0 : decide (((rd_T30 l0_4 x6_1).f0) < (t294.length : Int)) = true := decide_eq_true c15
         clear c15
         by_cases c16 : t298.length + (rd_L3 t294 ((rd_T30 l0_4 x6_1).f0)).length < 17592186044416
         rotate_left
         · rw [if_neg c16] at H
           exact absurd H (by simp)
         rw [if_pos c16] at H
         have LMc16 := Aside0.mk c16
         clear c16
         obtain ⟨y304, hy304⟩ : ∃ y_ : List Int, y_ = (t298 ++ (rd_L3 t294 ((rd_T30 l0_4 x6_1).f0))) := ⟨_, rfl⟩
         replace H : (if x4_1.length < 5864062014805 then (regletref14_Predict.l0 k1 (x4_1 ++ [y304]) t294 (wrap64 (x6_1 + 1)) l0_0 l0_1 a0_2 a0_3 l0_4) else (none)) = some (r1, r2) := by first | (rw [hy304]; with_reducible exact H) | (have H2_ := (Option.bind_some _ _).symm.trans H; rw [hy304]; with_reducible exact H2_) | (have H2_ := (Option.bind_some _ _).symm.trans H; with_reducible exact H2_) | with_reducible exact H | (rw [hy304]; exact H) | exact H
         have Ny304 := Aside0.mk hy304
         clear hy304
         by_cases c17 : x4_1.length < 5864062014805
         rotate_left
         · rw [if_neg c17] at H
           exact absurd H (by simp)
         rw [if_pos c17] at H
         have LMc17 := Aside0.mk c17
         clear c17
         obtain ⟨y307, hy307⟩ : ∃ y_ : List (List Int), y_ = (x4_1 ++ [y304]) := ⟨_, rfl⟩
         replace H : (regletref14_Predict.l0 k1 y307 t294 (wrap64 (x6_1 + 1)) l0_0 l0_1 a0_2 a0_3 l0_4) = some (r1, r2) := by first | (rw [hy307]; with_reducible exact H) | (have H2_ := (Option.bind_some _ _).symm.trans H; rw [hy307]; with_reducible exact H2_) | (have H2_ := (Option.bind_some _ _).symm.trans H; with_reducible exact H2_) | with_reducible exact H | (rw [hy307]; exact H) | exact H
         have Ny307 := Aside0.mk hy307
         clear hy307
         have H' := Aside0.mk H
         clear H
         have hcz18_0 : wr.cell? ⟨gb292, 0, none⟩ = some (.slice A0_0 l0_0.length c0_0) := (blk_cell BK292.out 0).trans rfl
         have hcz18_1 : wr.cell? ⟨gb292, 1, none⟩ = some (.slice A0_1 l0_1.length c0_1) := (blk_cell BK292.out 1).trans rfl
         have hcz18_2 : wr.cell? ⟨gb292, 2, none⟩ = some (.int .i64 a0_2) := (blk_cell BK292.out 2).trans rfl
         have hcz18_3 : wr.cell? ⟨gb292, 3, none⟩ = some (.int .i64 a0_3) := (blk_cell BK292.out 3).trans rfl
         have hcz18_4 : wr.cell? ⟨gb292, 4, none⟩ = some (.slice A0_4 l0_4.length c0_4) := (blk_cell BK292.out 4).trans rfl
         have hfz18_0 := blk_frozen BK292.out 0
         have hfz18_1 := blk_frozen BK292.out 1
         have hfz18_2 := blk_frozen BK292.out 2
         have hfz18_3 := blk_frozen BK292.out 3
         have hfz18_4 := blk_frozen BK292.out 4
         try go_wp2
         have n0_ := Aside0.mk (Kd.S_drew HO_4.out)
         have n1_ := Aside0.mk (Kd.S_drew HO_5.out)
         have n2_ := Aside0.mk (blk_drew BK292.out)
         have n3_ := Aside0.mk (below_drew1 HB.out)
         clear HO_4
         clear HO_5
         clear BK292
         clear HB
         have HO_4 := n0_
         have HO_5 := n1_
         have BK292 := n2_
         have HB := n3_
         clear n0_ n1_ n2_ n3_
         have p297 : 0 ≤ (x6_1 : Int) := of_decide_eq_true (by first | (with_reducible assumption) | assumption)
         have q297 : x6_1 < (l0_4.length : Int) := of_decide_eq_true (by first | (with_reducible assumption) | assumption)
         obtain ⟨ad297, A297_1, c297_1, e297, hx297_0, hx297_1, hl297_1, hi297_1⟩ := at_T30 HR0_4.out x6_1 p297 q297
         have hw297_1 := hx297_1
         have hw297_0 := hx297_0
         cases e297
         replace hx297_0 := (HB.out.cell (World.block_lt_of_cell? w _ hx297_0)).trans hx297_0
         replace hx297_1 := (HB.out.cell (World.block_lt_of_cell? w _ hx297_1)).trans hx297_1
         have HR297_1 := Aside0.mk hi297_1
         have HC297_1 := Aside0.mk hl297_1
         clear hi297_1 hl297_1
         replace p297 := eq_true p297
         replace q297 := eq_true q297
         refine start_ (n := 13) (S := fun w' => w'.cell? ⟨gb292, 0, none⟩ = some (.slice A0_0 l0_0.length c0_0) ∧ w'.cell? ⟨gb292, 1, none⟩ = some (.slice A0_1 l0_1.length c0_1) ∧ w'.cell? ⟨gb292, 2, none⟩ = some (.int .i64 a0_2) ∧ w'.cell? ⟨gb292, 3, none⟩ = some (.int .i64 a0_3) ∧ w'.cell? ⟨gb292, 4, none⟩ = some (.slice (some ad297) l0_4.length c0_4) ∧ w'.cell? (ad297.add ((x6_1).toNat * 2)) = some (.int .i64 ((rd_T30 l0_4 x6_1).f0)) ∧ w'.cell? ⟨(ad297.add ((x6_1).toNat * 2)).block, (ad297.add ((x6_1).toNat * 2)).off + 1, none⟩ = some (.slice A297_1 ((rd_T30 l0_4 x6_1).f1).length c297_1)) (ds := []) #[false, false, false, false, false, false, false, false, false, false, false, false, false] (by kernel_rfl) rfl rfl ⟨(blk_cell BK292.out 0).trans rfl, (blk_cell BK292.out 1).trans rfl, (blk_cell BK292.out 2).trans rfl, (blk_cell BK292.out 3).trans rfl, (blk_cell BK292.out 4).trans rfl, ((HB.out.cell (World.block_lt_of_cell? w _ hw297_0)).trans hw297_0), ((HB.out.cell (World.block_lt_of_cell? w _ hw297_1)).trans hw297_1)⟩ (fun hHeld => ?_); refine with_tabW regletref14_Predict.tab8 regletref14_Predict.bits8 (fun HT_ HW_ => ?_)
         generalize wr.drew = w19 at HO_4 HO_5 BK292 HB HR297_1 hx297_0 hx297_1 hHeld ⊢
         refine pure_ (i := 1) (N := some 30) (v := ?_) (a' := ?_) #[false, true, false, false, false, false, false, false, false, false, false, false, false] rfl rfl (any_of HT_.out (by kernel_rfl)) (fun _ _ _ h => h) (Or.inl ⟨by rfl, ?_⟩) ?_ ?_
         rotate_left
         · intro w'
           go_simp
           with_reducible rfl
         rotate_left
         · simp only [Act.put, List.setIfInBounds_toArray, List.set_cons_zero, List.set_cons_succ, i64_w, i32_w]
           rfl
         refine pure_ (i := 3) (N := some 32) (v := ?_) (a' := ?_) #[false, true, false, true, false, false, false, false, false, false, false, false, false] rfl rfl (any_of HT_.out (by kernel_rfl)) (fun _ _ _ h => h) (Or.inl ⟨by rfl, ?_⟩) ?_ ?_
         rotate_left
         · intro w'
           go_simp
           with_reducible rfl
         rotate_left
         · simp only [Act.put, List.setIfInBounds_toArray, List.set_cons_zero, List.set_cons_succ, i64_w, i32_w]
           rfl
         refine take_ (i := 0) (N := some 29) (v := ?_) (a' := ?_) #[true, true, false, true, false, false, false, false, false, false, false, false, false] rfl rfl (take_ofW HT_.out HW_.out (by kernel_rfl)) (fun _ _ _ h => h) (Or.inl ⟨by rfl, ?_⟩) hHeld ?_ ?_
         rotate_left
         · rintro w' ⟨s0, s1, s2, s3, s4, s5, s6⟩
           go_simp
           with_reducible rfl
         rotate_left
         · simp only [Act.put, List.setIfInBounds_toArray, List.set_cons_zero, List.set_cons_succ, i64_w, i32_w]
           rfl
         refine take_ (i := 2) (N := some 31) (v := ?_) (a' := ?_) #[true, true, true, true, false, false, false, false, false, false, false, false, false] rfl rfl (take_ofW HT_.out HW_.out (by kernel_rfl)) (fun _ _ _ h => h) (Or.inl ⟨by rfl, ?_⟩) hHeld ?_ ?_
         rotate_left
         · rintro w' ⟨s0, s1, s2, s3, s4, s5, s6⟩
           go_simp
           with_reducible rfl
         rotate_left
         · simp only [Act.put, List.setIfInBounds_toArray, List.set_cons_zero, List.set_cons_succ, i64_w, i32_w]
           rfl
         refine pure_ (i := 4) (N := some 33) (v := ?_) (a' := ?_) #[true, true, true, true, true, false, false, false, false, false, false, false, false] rfl rfl (any_of HT_.out (by kernel_rfl)) (fun _ _ _ h => h) (Or.inl ⟨by rfl, ?_⟩) ?_ ?_
         rotate_left
         · intro w'
           go_simp
           with_reducible rfl
         rotate_left
         · simp only [Act.put, List.setIfInBounds_toArray, List.set_cons_zero, List.set_cons_succ, i64_w, i32_w]
           rfl
         refine pure_ (i := 5) (N := some 34) (v := ?_) (a' := ?_) #[true, true, true, true, true, true, false, false, false, false, false, false, false] rfl rfl (any_of HT_.out (by kernel_rfl)) (fun _ _ _ h => h) (Or.inl ⟨by rfl, ?_⟩) ?_ ?_
         rotate_left
         · intro w'
           go_simp
           with_reducible rfl
         rotate_left
         · simp only [Act.put, List.setIfInBounds_toArray, List.set_cons_zero, List.set_cons_succ, i64_w, i32_w]
           rfl
         refine take_ (i := 6) (N := some 35) (v := ?_) (a' := ?_) #[true, true, true, true, true, true, true, false, false, false, false, false, false] rfl rfl (take_ofW HT_.out HW_.out (by kernel_rfl)) (fun _ _ _ h => h) (Or.inl ⟨by rfl, ?_⟩) hHeld ?_ ?_
         rotate_left
         · rintro w' ⟨s0, s1, s2, s3, s4, s5, s6⟩
           go_simp
           with_reducible rfl
         rotate_left
         · simp only [Act.put, List.setIfInBounds_toArray, List.set_cons_zero, List.set_cons_succ, i64_w, i32_w]
           rfl
         refine one_ (i := 7) (N := some 36) #[true, true, true, true, true, true, true, true, false, false, false, false, false] rfl rfl (one_of HT_.out (by kernel_rfl)) (by decide) (fun K hK => ?_)
         refine goes_ Try.func17 (by kernel_rfl) rfl #[.agg #[.slice A0_0 l0_0.length c0_0, .slice A0_1 l0_1.length c0_1, .int .i64 a0_2, .int .i64 a0_3, .slice (some ad297) l0_4.length c0_4], .slice A297_1 ((rd_T30 l0_4 x6_1).f1).length c297_1] (by rfl) rfl rfl (by (try simp only [List.map_toArray, List.map_cons, List.map_nil]); first | done | rfl | (simp only [List.length_drop, List.length_take]; rfl)) ?_
         with_reducible refine (regletref13_Of.calls k1 _ _ l0_0 _ _ l0_1 a0_2 a0_3 _ _ l0_4 _ _ ((rd_T30 l0_4 x6_1).f1) t298 true _ ?side1 ?side2 ?side3 ?side4 ?side5 ?side6 ?side7 ?side8 A12.out).mono ?_
         (case side1 => repeat (first | exact (Kd.C_below HR0_0.out HB.out) | (with_reducible refine Kd.C_alloc ?_ _) | (with_reducible refine Kd.C_drewN ?_ _) | (with_reducible refine Kd.C_drew ?_)))
         (case side2 => exact HC0_0.out)
         (case side3 => repeat (first | exact (Kd.C_below HR0_1.out HB.out) | (with_reducible refine Kd.C_alloc ?_ _) | (with_reducible refine Kd.C_drewN ?_ _) | (with_reducible refine Kd.C_drew ?_)))
         (case side4 => exact HC0_1.out)
         (case side5 => repeat (first | exact (Kd.C_below HR0_4.out HB.out) | (with_reducible refine Kd.C_alloc ?_ _) | (with_reducible refine Kd.C_drewN ?_ _) | (with_reducible refine Kd.C_drew ?_)))
         (case side6 => exact HC0_4.out)
         (case side7 => repeat (first | exact (Kd.C_below HR297_1.out HB.out) | (with_reducible refine Kd.C_alloc ?_ _) | (with_reducible refine Kd.C_drewN ?_ _) | (with_reducible refine Kd.C_drew ?_)))
         (case side8 => exact HC297_1.out)
         rintro e w20 ⟨v299, rfl, ho0, hb⟩
         refine ⟨_, rfl, ?_⟩
         have n0_ := Aside0.mk (Kd.S_elder' (by (with_reducible repeat (first | apply Kd.S_alloc | apply Kd.S_drewN | apply Kd.S_drew)); exact HO_4.out) (Kd.R_base ho0) hb)
         have n1_ := Aside0.mk (Kd.S_elder' (by (with_reducible repeat (first | apply Kd.S_alloc | apply Kd.S_drewN | apply Kd.S_drew)); exact HO_5.out) (Kd.R_base ho0) hb)
         have n2_ := Aside0.mk (Kd.R_lower ho0 (below_size (by repeat (first | (with_reducible first | exact HB.out | apply below_alloc | apply pw_below_drewN | apply below_drew1 | refine below_set ?_ GE292.out) | exact HB.out))))
         have n3_ := Aside0.mk (blk_below (g := gb292) (o := .cells #[.slice A0_0 l0_0.length c0_0, .slice A0_1 l0_1.length c0_1, .int .i64 a0_2, .int .i64 a0_3, .slice (some ad297) l0_4.length c0_4] 26 (0, 0)) (by (with_reducible repeat (first | refine blk_drewN ?_ _ | refine blk_drew ?_ | refine blk_alloc ?_ _)); exact BK292.out) hb)
         have n4_ := Aside0.mk (below_step (by repeat (first | (with_reducible first | exact HB.out | apply below_alloc | apply pw_below_drewN | apply below_drew1 | refine below_set ?_ GE292.out) | exact HB.out)) hb)
         clear HO_4
         clear HO_5
         clear BK292
         clear HB
         have HO_4 := n0_
         have HO_5 := n1_
         have HO300 := n2_
         have BK292 := n3_
         have HB := n4_
         clear n0_ n1_ n2_ n3_ n4_
         (try have HR297_1 := Aside0.mk (Kd.C_below HR297_1.out hb))
         (try clear hb);(try clear hb2);(try clear hk);(try clear hi);(try clear ho0)
         refine hK.out _ _ ⟨(blk_cell BK292.out 0).trans rfl, (blk_cell BK292.out 1).trans rfl, (blk_cell BK292.out 2).trans rfl, (blk_cell BK292.out 3).trans rfl, (blk_cell BK292.out 4).trans rfl, ((HB.out.cell (World.block_lt_of_cell? w _ hw297_0)).trans hw297_0), ((HB.out.cell (World.block_lt_of_cell? w _ hw297_1)).trans hw297_1)⟩ (fun hHeld => ?_)
         clear hK K
         refine norm_ (a' := ?_) ?_ ?_
         rotate_left
         · show Act.put _ (some 36) _ = _
           simp only [Act.put, List.setIfInBounds_toArray, List.set_cons_zero, List.set_cons_succ, i64_w, i32_w]
           rfl
         refine pure_ (i := 8) (N := some 28) (v := ?_) (a' := ?_) #[true, true, true, true, true, true, true, true, true, false, false, false, false] rfl rfl (any_of HT_.out (by kernel_rfl)) (fun _ _ _ h => h) (Or.inl ⟨by rfl, ?_⟩) ?_ ?_
         rotate_left
         · intro w'
           go_simp
           with_reducible rfl
         rotate_left
         · simp only [Act.put, List.setIfInBounds_toArray, List.set_cons_zero, List.set_cons_succ, i64_w, i32_w]
           rfl
         refine pure_ (i := 9) (N := some 37) (v := ?_) (a' := ?_) #[true, true, true, true, true, true, true, true, true, true, false, false, false] rfl rfl (any_of HT_.out (by kernel_rfl)) (fun _ _ _ h => h) (Or.inl ⟨by rfl, ?_⟩) ?_ ?_
         rotate_left
         · intro w'
           go_simp
           with_reducible rfl
         rotate_left
         · simp only [Act.put, List.setIfInBounds_toArray, List.set_cons_zero, List.set_cons_succ, i64_w, i32_w]
           rfl
         refine pure_ (i := 10) (N := some 38) (v := ?_) (a' := ?_) #[true, true, true, true, true, true, true, true, true, true, true, false, false] rfl rfl (any_of HT_.out (by kernel_rfl)) (fun _ _ _ h => h) (Or.inl ⟨by rfl, ?_⟩) ?_ ?_
         rotate_left
         · intro w'
           go_simp
           with_reducible rfl
         rotate_left
         · simp only [Act.put, List.setIfInBounds_toArray, List.set_cons_zero, List.set_cons_succ, i64_w, i32_w]
           rfl
         refine pure_ (i := 11) (N := some 7) (v := ?_) (a' := ?_) #[true, true, true, true, true, true, true, true, true, true, true, true, false] rfl rfl (any_of HT_.out (by kernel_rfl)) (fun _ _ _ h => h) (Or.inl ⟨by rfl, ?_⟩) ?_ ?_
         rotate_left
         · intro w'
           go_simp
           with_reducible rfl
         rotate_left
         · simp only [Act.put, List.setIfInBounds_toArray, List.set_cons_zero, List.set_cons_succ, i64_w, i32_w]
           rfl
         refine pure_ (i := 12) (N := some 8) (v := ?_) (a' := ?_) #[true, true, true, true, true, true, true, true, true, true, true, true, true] rfl rfl (any_of HT_.out (by kernel_rfl)) (fun _ _ _ h => h) (Or.inl ⟨by rfl, ?_⟩) ?_ ?_
         rotate_left
         · intro w'
           go_simp
           with_reducible rfl
         rotate_left
         · simp only [Act.put, List.setIfInBounds_toArray, List.set_cons_zero, List.set_cons_succ, i64_w, i32_w]
           rfl
         refine done_ (done_of HT_.out (by kernel_rfl)) ?_
         have hcz21_0 : w20.cell? ⟨gb292, 0, none⟩ = some (.slice A0_0 l0_0.length c0_0) := (blk_cell BK292.out 0).trans rfl
         have hcz21_1 : w20.cell? ⟨gb292, 1, none⟩ = some (.slice A0_1 l0_1.length c0_1) := (blk_cell BK292.out 1).trans rfl
         have hcz21_2 : w20.cell? ⟨gb292, 2, none⟩ = some (.int .i64 a0_2) := (blk_cell BK292.out 2).trans rfl
         have hcz21_3 : w20.cell? ⟨gb292, 3, none⟩ = some (.int .i64 a0_3) := (blk_cell BK292.out 3).trans rfl
         have hcz21_4 : w20.cell? ⟨gb292, 4, none⟩ = some (.slice (some ad297) l0_4.length c0_4) := (blk_cell BK292.out 4).trans rfl
         have hfz21_0 := blk_frozen BK292.out 0
         have hfz21_1 := blk_frozen BK292.out 1
         have hfz21_2 := blk_frozen BK292.out 2
         have hfz21_3 := blk_frozen BK292.out 3
         have hfz21_4 := blk_frozen BK292.out 4
         have p302 : 0 ≤ (x6_1 : Int) := of_decide_eq_true (by first | (with_reducible assumption) | assumption)
         have q302 : x6_1 < (l0_4.length : Int) := of_decide_eq_true (by first | (with_reducible assumption) | assumption)
         obtain ⟨ad302, A302_1, c302_1, e302, hx302_0, hx302_1, hl302_1, hi302_1⟩ := at_T30 HR0_4.out x6_1 p302 q302
         obtain rfl : ad297 = ad302 := (by injection e302)
         replace hx302_0 := (HB.out.cell (World.block_lt_of_cell? w _ hx302_0)).trans hx302_0
         replace hx302_1 := (HB.out.cell (World.block_lt_of_cell? w _ hx302_1)).trans hx302_1
         have HR302_1 := Aside0.mk hi302_1
         have HC302_1 := Aside0.mk hl302_1
         clear hi302_1 hl302_1
         replace p302 := eq_true p302
         replace q302 := eq_true q302
         obtain ⟨Ao22, co22, eo22⟩ := Kd.S_slice HO_5.out
         subst eo22
         have p303 : 0 ≤ (((rd_T30 l0_4 x6_1).f0) : Int) := of_decide_eq_true (by first | (with_reducible assumption) | assumption)
         have q303 : ((rd_T30 l0_4 x6_1).f0) < (t294.length : Int) := of_decide_eq_true (by first | (with_reducible assumption) | assumption)
         obtain ⟨ad303, A303_0, c303_0, e303, hx303_0, hl303_0, hi303_0⟩ := at_L3 (Kd.S_reads' HO_5.out).2.2 ((rd_T30 l0_4 x6_1).f0) p303 q303
         cases e303
         obtain ⟨ce303, hce303, hMe303, hcc303⟩ := Kd.S_get HO_5.out [] ((rd_T30 l0_4 x6_1).f0) p303 (by first | exact q303 | exact of_decide_eq_true (by first | (with_reducible assumption) | assumption) | (have e_ := (Kd.S_reads' HO_5.out).1; omega))
         obtain ⟨ve303_0, rfl, ge303_0⟩ := hMe303
         have hv303_0 := hcc303 0 _ rfl
         rw [Nat.add_zero, show ((Kd.slice 3 (Kd.int .i64))).sz = 1 from rfl, Nat.mul_one] at hv303_0
         replace hv303_0 := Option.some.inj (hv303_0.symm.trans hx303_0)
         rw [hv303_0] at ge303_0
         have HL303_0 := Aside0.mk (show Kd.R (Kd.int .i64) 3 _ _ _ _ (rd_L3 t294 ((rd_T30 l0_4 x6_1).f0)) from ge303_0)
         clear hv303_0 ge303_0
         clear hcc303 hce303
         have HR303_0 := Aside0.mk hi303_0
         have HC303_0 := Aside0.mk hl303_0
         clear hi303_0 hl303_0
         replace p303 := eq_true p303
         replace q303 := eq_true q303
         try go_wp2_with (first | ((with_reducible refine gate_builtin (b := .append) (xs := #[.tmp 40, .tmp 49]) rfl ?_); at_builtin; refine Kd.R_append_rows (Kd.int .i64) (w0 := w) w.heap.size rfl (.tmp 40) (.tmp 49) 43 3 (.int .i64 0) 8 rfl Try.underlying43 info3 rfl (by decide) (by omega) v299 t298 (rd_L3 t294 ((rd_T30 l0_4 x6_1).f0)) _ _ _ (fun _ => True) (fun _ => False) rfl rfl ?aO ?aR (fun _ _ h => h) (fun _ h => h.elim) ?aF ?aB ?aS ?aL ?_; (case aR => repeat (first | exact (by repeat (first | (with_reducible exact HR303_0.out) | (with_reducible refine Kd.C_alloc ?_ _) | (with_reducible refine Kd.C_drewN ?_ _) | (with_reducible refine Kd.C_drew ?_) | exact HR303_0.out)) | (with_reducible refine Kd.C_alloc ?_ _) | (with_reducible refine Kd.C_drewN ?_ _) | (with_reducible refine Kd.C_drew ?_))); (case aB => exact (by repeat (first | (with_reducible first | exact HB.out | apply below_alloc | apply pw_below_drewN | apply below_drew1 | refine below_set ?_ GE292.out) | exact HB.out))); (case aF => exact (fun _ _ => trivial)); (case aO => exact (by (with_reducible repeat (first | apply Kd.R_alloc | apply Kd.R_drewN | apply Kd.R_drew)); exact HO300.out)); (case aS => exact (below_size (by repeat (first | (with_reducible first | exact HB.out | apply below_alloc | apply pw_below_drewN | apply below_drew1 | refine below_set ?_ GE292.out) | exact HB.out)))); (case aL => have := LMc16.out; omega); intro v305 w23 ho hb hg hat; rw [← Ny304.out] at ho; have n0_ := Aside0.mk (Kd.S_after (ok := (fun k_ => some k_ ≠ (.slice (some ad303) t294.length co22 : Value).ownBlock)) (by (with_reducible repeat (first | apply Kd.S_alloc | apply Kd.S_drewN | apply Kd.S_drew)); exact HO_4.out) hg hat); have n1_ := Aside0.mk (Kd.S_after (ok := (fun k_ => some k_ ≠ (u4 : Value).ownBlock)) (by (with_reducible repeat (first | apply Kd.S_alloc | apply Kd.S_drewN | apply Kd.S_drew)); exact HO_5.out) hg hat); have n2_ := Aside0.mk (blk_grown (g := gb292) (o := .cells #[.slice A0_0 l0_0.length c0_0, .slice A0_1 l0_1.length c0_1, .int .i64 a0_2, .int .i64 a0_3, .slice (some ad297) l0_4.length c0_4] 26 (0, 0)) (by (with_reducible repeat (first | refine blk_drewN ?_ _ | refine blk_drew ?_ | refine blk_alloc ?_ _)); exact BK292.out) hg (Kd.R_ne HO300.out BK292.out (by decide))); have n3_ := Aside0.mk (Kd.R_after (ok := (fun k_ => some k_ ≠ (u4 : Value).ownBlock ∧ some k_ ≠ (.slice (some ad303) t294.length co22 : Value).ownBlock)) (by (with_reducible repeat (first | apply Kd.R_alloc | apply Kd.R_drewN | apply Kd.R_drew)); exact Kd.R_mono HL303_0.out (fun _ hk => ⟨⟨hk.1.1, hk.2⟩, hk.1.2⟩)) hg hat); have n4_ := Aside0.mk (hb); have n5_ := Aside0.mk (ho); clear HO_4; clear HO_5; clear BK292; clear HL303_0; clear HB; clear HO300; have HO_4 := n0_; have HO_5 := n1_; have BK292 := n2_; have HL303_0 := n3_; have HB := n4_; have HO306 := n5_; clear n0_ n1_ n2_ n3_ n4_ n5_; clear ho hb hg hat; obtain ⟨Ao25, co25, eo25⟩ := Kd.R_slice HO306.out; subst eo25) | ((with_reducible refine gate_builtin (b := .append) (xs := #[.tmp 51, .tmp 53]) rfl ?_); at_builtin; refine Kd.S_append (Kd.slice 3 (Kd.int .i64)) (w0 := w) w.heap.size rfl (.tmp 51) (.tmp 53) 35 43 (.slice none 0 0) 24 rfl Try.underlying35 info43 rfl (by decide) (by omega) u4 x4_1 y304 [.slice Ao25 y304.length co25] (fun k_ => some k_ ≠ (.slice (some ad303) t294.length co22 : Value).ownBlock) (fun k_ => some k_ = (.slice Ao25 y304.length co25 : Value).ownBlock) rfl rfl ?aP (fun k_ hk_ => ((Kd.R_mono (ok' := fun k_ => ((fun k_ => some k_ ≠ (.slice (some ad303) t294.length co22 : Value).ownBlock)) k_ ∧ some k_ ≠ (u4 : Value).ownBlock) (Kd.R_apart' (Kd.R_apart' (HO306.out) (Kd.S_typed HO_5.out) (by decide)) (Kd.S_typed HO_4.out) (by decide)) (fun k_ hk => ⟨hk.1.2, hk.2⟩))).1 k_ hk_.symm) ?aF ?aO ?aB ?aS ?aL ?_; (case aP => exact Kd.M_row (Kd.R_mono (Kd.R_tight rfl (Kd.R_mono (ok' := fun k_ => ((fun k_ => some k_ ≠ (.slice (some ad303) t294.length co22 : Value).ownBlock)) k_ ∧ some k_ ≠ (u4 : Value).ownBlock) (Kd.R_apart' (Kd.R_apart' (HO306.out) (Kd.S_typed HO_5.out) (by decide)) (Kd.S_typed HO_4.out) (by decide)) (fun k_ hk => ⟨hk.1.2, hk.2⟩))) (fun _ h_ => h_))); (case aB => exact (by repeat (first | (with_reducible first | exact HB.out | apply below_alloc | apply pw_below_drewN | apply below_drew1 | refine below_set ?_ GE292.out) | exact HB.out))); (case aF => exact (fun k_ hk => Kd.fresh' (Kd.S_lt (by (with_reducible repeat (first | apply Kd.S_alloc | apply Kd.S_drewN | apply Kd.S_drew)); exact HO_5.out)) k_ hk)); (case aO => exact (by (with_reducible repeat (first | apply Kd.S_alloc | apply Kd.S_drewN | apply Kd.S_drew)); exact Kd.S_mono HO_4.out (fun k_ hk => ⟨hk.1, fun e_ => hk.2 e_⟩))); (case aS => exact (below_size (by repeat (first | (with_reducible first | exact HB.out | apply below_alloc | apply pw_below_drewN | apply below_drew1 | refine below_set ?_ GE292.out) | exact HB.out)))); (case aL => have := LMc17.out; omega); intro v308 w24 ho hb hg hat; rw [← Ny307.out] at ho; have n0_ := Aside0.mk (Kd.S_after (ok := (fun k_ => some k_ ≠ (.slice Ao25 y304.length co25 : Value).ownBlock)) (by (with_reducible repeat (first | apply Kd.S_alloc | apply Kd.S_drewN | apply Kd.S_drew)); exact Kd.S_mono HO_5.out (fun _ hk => ⟨hk.2, hk.1⟩)) hg hat); have n1_ := Aside0.mk (blk_grown (g := gb292) (o := .cells #[.slice A0_0 l0_0.length c0_0, .slice A0_1 l0_1.length c0_1, .int .i64 a0_2, .int .i64 a0_3, .slice (some ad297) l0_4.length c0_4] 26 (0, 0)) (by (with_reducible repeat (first | refine blk_drewN ?_ _ | refine blk_drew ?_ | refine blk_alloc ?_ _)); exact BK292.out) hg (Kd.S_ne HO_4.out BK292.out (by decide))); have n2_ := Aside0.mk (Kd.R_after (ok := (fun k_ => some k_ ≠ (.slice (some ad303) t294.length co22 : Value).ownBlock ∧ some k_ ≠ (.slice Ao25 y304.length co25 : Value).ownBlock)) (by (with_reducible repeat (first | apply Kd.R_alloc | apply Kd.R_drewN | apply Kd.R_drew)); exact Kd.R_mono HL303_0.out (fun _ hk => ⟨⟨hk.1.2, hk.2⟩, hk.1.1⟩)) hg hat); have n3_ := Aside0.mk (hb); have n4_ := Aside0.mk (ho); clear HO_5; clear BK292; clear HL303_0; clear HB; clear HO_4; clear HO306; have HO_5 := n0_; have BK292 := n1_; have HL303_0 := n2_; have HB := n3_; have HO309 := n4_; clear n0_ n1_ n2_ n3_ n4_; clear ho hb hg hat))
         go_roundg k1
         case measure => have := HK1.out; omega
         case rel => exact ⟨(y307), (wrap64 (x6_1 + 1)), (by first | rfl | (simp; done) | (simp [*]; done)), H', ⟨by have := HK1.out; omega⟩, ⟨by (with_reducible repeat (first | apply Kd.S_alloc | apply Kd.S_drewN | apply Kd.S_drew)); exact HO309.out⟩, ⟨by (with_reducible repeat (first | apply Kd.S_alloc | apply Kd.S_drewN | apply Kd.S_drew)); exact Kd.S_mono HO_5.out (fun _ hk => hk.2)⟩, ⟨by (with_reducible repeat (first | refine blk_drewN ?_ _ | refine blk_drew ?_ | refine blk_alloc ?_ _)); exact BK292.out⟩, ⟨by repeat (first | (with_reducible first | exact HB.out | apply below_alloc | apply pw_below_drewN | apply below_drew1 | refine below_set ?_ GE292.out) | exact HB.out)⟩⟩
       · replace c13 := Bool.eq_false_iff.mpr c13
         subst c13
         have H1 : (if x4_1.length < 5864062014805 then (regletref14_Predict.l0 k1 (x4_1 ++ [t298]) t294 (wrap64 (x6_1 + 1)) l0_0 l0_1 a0_2 a0_3 l0_4) else (none)) = some (r1, r2) := by rw [if_neg (show ¬ (false = true) by decide)] at H; exact H
         clear H
         have H := H1
         clear H1
         by_cases c26 : x4_1.length < 5864062014805
         rotate_left
         · rw [if_neg c26] at H
           exact absurd H (by simp)
         rw [if_pos c26] at H
         have LMc26 := Aside0.mk c26
         clear c26
         obtain ⟨y310, hy310⟩ : ∃ y_ : List (List Int), y_ = (x4_1 ++ [t298]) := ⟨_, rfl⟩
         replace H : (regletref14_Predict.l0 k1 y310 t294 (wrap64 (x6_1 + 1)) l0_0 l0_1 a0_2 a0_3 l0_4) = some (r1, r2) := by first | (rw [hy310]; with_reducible exact H) | (have H2_ := (Option.bind_some _ _).symm.trans H; rw [hy310]; with_reducible exact H2_) | (have H2_ := (Option.bind_some _ _).symm.trans H; with_reducible exact H2_) | with_reducible exact H | (rw [hy310]; exact H) | exact H
         have Ny310 := Aside0.mk hy310
         clear hy310
         have H' := Aside0.mk H
         clear H
         have hcz27_0 : wr.cell? ⟨gb292, 0, none⟩ = some (.slice A0_0 l0_0.length c0_0) := (blk_cell BK292.out 0).trans rfl
         have hcz27_1 : wr.cell? ⟨gb292, 1, none⟩ = some (.slice A0_1 l0_1.length c0_1) := (blk_cell BK292.out 1).trans rfl
         have hcz27_2 : wr.cell? ⟨gb292, 2, none⟩ = some (.int .i64 a0_2) := (blk_cell BK292.out 2).trans rfl
         have hcz27_3 : wr.cell? ⟨gb292, 3, none⟩ = some (.int .i64 a0_3) := (blk_cell BK292.out 3).trans rfl
         have hcz27_4 : wr.cell? ⟨gb292, 4, none⟩ = some (.slice A0_4 l0_4.length c0_4) := (blk_cell BK292.out 4).trans rfl
         have hfz27_0 := blk_frozen BK292.out 0
         have hfz27_1 := blk_frozen BK292.out 1
         have hfz27_2 := blk_frozen BK292.out 2
         have hfz27_3 := blk_frozen BK292.out 3
         have hfz27_4 := blk_frozen BK292.out 4
         try go_wp2
         have n0_ := Aside0.mk (Kd.S_drew HO_4.out)
         have n1_ := Aside0.mk (Kd.S_drew HO_5.out)
         have n2_ := Aside0.mk (blk_drew BK292.out)
         have n3_ := Aside0.mk (below_drew1 HB.out)
         clear HO_4
         clear HO_5
         clear BK292
         clear HB
         have HO_4 := n0_
         have HO_5 := n1_
         have BK292 := n2_
         have HB := n3_
         clear n0_ n1_ n2_ n3_
         have p297 : 0 ≤ (x6_1 : Int) := of_decide_eq_true (by first | (with_reducible assumption) | assumption)
         have q297 : x6_1 < (l0_4.length : Int) := of_decide_eq_true (by first | (with_reducible assumption) | assumption)
         obtain ⟨ad297, A297_1, c297_1, e297, hx297_0, hx297_1, hl297_1, hi297_1⟩ := at_T30 HR0_4.out x6_1 p297 q297
         have hw297_1 := hx297_1
         have hw297_0 := hx297_0
         cases e297
         replace hx297_0 := (HB.out.cell (World.block_lt_of_cell? w _ hx297_0)).trans hx297_0
         replace hx297_1 := (HB.out.cell (World.block_lt_of_cell? w _ hx297_1)).trans hx297_1
         have HR297_1 := Aside0.mk hi297_1
         have HC297_1 := Aside0.mk hl297_1
         clear hi297_1 hl297_1
         replace p297 := eq_true p297
         replace q297 := eq_true q297
         refine start_ (n := 13) (S := fun w' => w'.cell? ⟨gb292, 0, none⟩ = some (.slice A0_0 l0_0.length c0_0) ∧ w'.cell? ⟨gb292, 1, none⟩ = some (.slice A0_1 l0_1.length c0_1) ∧ w'.cell? ⟨gb292, 2, none⟩ = some (.int .i64 a0_2) ∧ w'.cell? ⟨gb292, 3, none⟩ = some (.int .i64 a0_3) ∧ w'.cell? ⟨gb292, 4, none⟩ = some (.slice (some ad297) l0_4.length c0_4) ∧ w'.cell? (ad297.add ((x6_1).toNat * 2)) = some (.int .i64 ((rd_T30 l0_4 x6_1).f0)) ∧ w'.cell? ⟨(ad297.add ((x6_1).toNat * 2)).block, (ad297.add ((x6_1).toNat * 2)).off + 1, none⟩ = some (.slice A297_1 ((rd_T30 l0_4 x6_1).f1).length c297_1)) (ds := []) #[false, false, false, false, false, false, false, false, false, false, false, false, false] (by kernel_rfl) rfl rfl ⟨(blk_cell BK292.out 0).trans rfl, (blk_cell BK292.out 1).trans rfl, (blk_cell BK292.out 2).trans rfl, (blk_cell BK292.out 3).trans rfl, (blk_cell BK292.out 4).trans rfl, ((HB.out.cell (World.block_lt_of_cell? w _ hw297_0)).trans hw297_0), ((HB.out.cell (World.block_lt_of_cell? w _ hw297_1)).trans hw297_1)⟩ (fun hHeld => ?_); refine with_tabW regletref14_Predict.tab8 regletref14_Predict.bits8 (fun HT_ HW_ => ?_)
         generalize wr.drew = w28 at HO_4 HO_5 BK292 HB HR297_1 hx297_0 hx297_1 hHeld ⊢
         refine pure_ (i := 1) (N := some 30) (v := ?_) (a' := ?_) #[false, true, false, false, false, false, false, false, false, false, false, false, false] rfl rfl (any_of HT_.out (by kernel_rfl)) (fun _ _ _ h => h) (Or.inl ⟨by rfl, ?_⟩) ?_ ?_
         rotate_left
         · intro w'
           go_simp
           with_reducible rfl
         rotate_left
         · simp only [Act.put, List.setIfInBounds_toArray, List.set_cons_zero, List.set_cons_succ, i64_w, i32_w]
           rfl
         refine pure_ (i := 3) (N := some 32) (v := ?_) (a' := ?_) #[false, true, false, true, false, false, false, false, false, false, false, false, false] rfl rfl (any_of HT_.out (by kernel_rfl)) (fun _ _ _ h => h) (Or.inl ⟨by rfl, ?_⟩) ?_ ?_
         rotate_left
         · intro w'
           go_simp
           with_reducible rfl
         rotate_left
         · simp only [Act.put, List.setIfInBounds_toArray, List.set_cons_zero, List.set_cons_succ, i64_w, i32_w]
           rfl
         refine take_ (i := 0) (N := some 29) (v := ?_) (a' := ?_) #[true, true, false, true, false, false, false, false, false, false, false, false, false] rfl rfl (take_ofW HT_.out HW_.out (by kernel_rfl)) (fun _ _ _ h => h) (Or.inl ⟨by rfl, ?_⟩) hHeld ?_ ?_
         rotate_left
         · rintro w' ⟨s0, s1, s2, s3, s4, s5, s6⟩
           go_simp
           with_reducible rfl
         rotate_left
         · simp only [Act.put, List.setIfInBounds_toArray, List.set_cons_zero, List.set_cons_succ, i64_w, i32_w]
           rfl
         refine take_ (i := 2) (N := some 31) (v := ?_) (a' := ?_) #[true, true, true, true, false, false, false, false, false, false, false, false, false] rfl rfl (take_ofW HT_.out HW_.out (by kernel_rfl)) (fun _ _ _ h => h) (Or.inl ⟨by rfl, ?_⟩) hHeld ?_ ?_
         rotate_left
         · rintro w' ⟨s0, s1, s2, s3, s4, s5, s6⟩
           go_simp
           with_reducible rfl
         rotate_left
         · simp only [Act.put, List.setIfInBounds_toArray, List.set_cons_zero, List.set_cons_succ, i64_w, i32_w]
           rfl
         refine pure_ (i := 4) (N := some 33) (v := ?_) (a' := ?_) #[true, true, true, true, true, false, false, false, false, false, false, false, false] rfl rfl (any_of HT_.out (by kernel_rfl)) (fun _ _ _ h => h) (Or.inl ⟨by rfl, ?_⟩) ?_ ?_
         rotate_left
         · intro w'
           go_simp
           with_reducible rfl
         rotate_left
         · simp only [Act.put, List.setIfInBounds_toArray, List.set_cons_zero, List.set_cons_succ, i64_w, i32_w]
           rfl
         refine pure_ (i := 5) (N := some 34) (v := ?_) (a' := ?_) #[true, true, true, true, true, true, false, false, false, false, false, false, false] rfl rfl (any_of HT_.out (by kernel_rfl)) (fun _ _ _ h => h) (Or.inl ⟨by rfl, ?_⟩) ?_ ?_
         rotate_left
         · intro w'
           go_simp
           with_reducible rfl
         rotate_left
         · simp only [Act.put, List.setIfInBounds_toArray, List.set_cons_zero, List.set_cons_succ, i64_w, i32_w]
           rfl
         refine take_ (i := 6) (N := some 35) (v := ?_) (a' := ?_) #[true, true, true, true, true, true, true, false, false, false, false, false, false] rfl rfl (take_ofW HT_.out HW_.out (by kernel_rfl)) (fun _ _ _ h => h) (Or.inl ⟨by rfl, ?_⟩) hHeld ?_ ?_
         rotate_left
         · rintro w' ⟨s0, s1, s2, s3, s4, s5, s6⟩
           go_simp
           with_reducible rfl
         rotate_left
         · simp only [Act.put, List.setIfInBounds_toArray, List.set_cons_zero, List.set_cons_succ, i64_w, i32_w]
           rfl
         refine one_ (i := 7) (N := some 36) #[true, true, true, true, true, true, true, true, false, false, false, false, false] rfl rfl (one_of HT_.out (by kernel_rfl)) (by decide) (fun K hK => ?_)
         refine goes_ Try.func17 (by kernel_rfl) rfl #[.agg #[.slice A0_0 l0_0.length c0_0, .slice A0_1 l0_1.length c0_1, .int .i64 a0_2, .int .i64 a0_3, .slice (some ad297) l0_4.length c0_4], .slice A297_1 ((rd_T30 l0_4 x6_1).f1).length c297_1] (by rfl) rfl rfl (by (try simp only [List.map_toArray, List.map_cons, List.map_nil]); first | done | rfl | (simp only [List.length_drop, List.length_take]; rfl)) ?_
         with_reducible refine (regletref13_Of.calls k1 _ _ l0_0 _ _ l0_1 a0_2 a0_3 _ _ l0_4 _ _ ((rd_T30 l0_4 x6_1).f1) t298 false _ ?side1 ?side2 ?side3 ?side4 ?side5 ?side6 ?side7 ?side8 A12.out).mono ?_
         (case side1 => repeat (first | exact (Kd.C_below HR0_0.out HB.out) | (with_reducible refine Kd.C_alloc ?_ _) | (with_reducible refine Kd.C_drewN ?_ _) | (with_reducible refine Kd.C_drew ?_)))
         (case side2 => exact HC0_0.out)
         (case side3 => repeat (first | exact (Kd.C_below HR0_1.out HB.out) | (with_reducible refine Kd.C_alloc ?_ _) | (with_reducible refine Kd.C_drewN ?_ _) | (with_reducible refine Kd.C_drew ?_)))
         (case side4 => exact HC0_1.out)
         (case side5 => repeat (first | exact (Kd.C_below HR0_4.out HB.out) | (with_reducible refine Kd.C_alloc ?_ _) | (with_reducible refine Kd.C_drewN ?_ _) | (with_reducible refine Kd.C_drew ?_)))
         (case side6 => exact HC0_4.out)
         (case side7 => repeat (first | exact (Kd.C_below HR297_1.out HB.out) | (with_reducible refine Kd.C_alloc ?_ _) | (with_reducible refine Kd.C_drewN ?_ _) | (with_reducible refine Kd.C_drew ?_)))
         (case side8 => exact HC297_1.out)
         rintro e w29 ⟨v299, rfl, ho0, hb⟩
         refine ⟨_, rfl, ?_⟩
         have n0_ := Aside0.mk (Kd.S_elder' (by (with_reducible repeat (first | apply Kd.S_alloc | apply Kd.S_drewN | apply Kd.S_drew)); exact HO_4.out) (Kd.R_base ho0) hb)
         have n1_ := Aside0.mk (Kd.S_elder' (by (with_reducible repeat (first | apply Kd.S_alloc | apply Kd.S_drewN | apply Kd.S_drew)); exact HO_5.out) (Kd.R_base ho0) hb)
         have n2_ := Aside0.mk (Kd.R_lower ho0 (below_size (by repeat (first | (with_reducible first | exact HB.out | apply below_alloc | apply pw_below_drewN | apply below_drew1 | refine below_set ?_ GE292.out) | exact HB.out))))
         have n3_ := Aside0.mk (blk_below (g := gb292) (o := .cells #[.slice A0_0 l0_0.length c0_0, .slice A0_1 l0_1.length c0_1, .int .i64 a0_2, .int .i64 a0_3, .slice (some ad297) l0_4.length c0_4] 26 (0, 0)) (by (with_reducible repeat (first | refine blk_drewN ?_ _ | refine blk_drew ?_ | refine blk_alloc ?_ _)); exact BK292.out) hb)
         have n4_ := Aside0.mk (below_step (by repeat (first | (with_reducible first | exact HB.out | apply below_alloc | apply pw_below_drewN | apply below_drew1 | refine below_set ?_ GE292.out) | exact HB.out)) hb)
         clear HO_4
         clear HO_5
         clear BK292
         clear HB
         have HO_4 := n0_
         have HO_5 := n1_
         have HO300 := n2_
         have BK292 := n3_
         have HB := n4_
         clear n0_ n1_ n2_ n3_ n4_
         (try have HR297_1 := Aside0.mk (Kd.C_below HR297_1.out hb))
         (try clear hb);(try clear hb2);(try clear hk);(try clear hi);(try clear ho0)
         refine hK.out _ _ ⟨(blk_cell BK292.out 0).trans rfl, (blk_cell BK292.out 1).trans rfl, (blk_cell BK292.out 2).trans rfl, (blk_cell BK292.out 3).trans rfl, (blk_cell BK292.out 4).trans rfl, ((HB.out.cell (World.block_lt_of_cell? w _ hw297_0)).trans hw297_0), ((HB.out.cell (World.block_lt_of_cell? w _ hw297_1)).trans hw297_1)⟩ (fun hHeld => ?_)
         clear hK K
         refine norm_ (a' := ?_) ?_ ?_
         rotate_left
         · show Act.put _ (some 36) _ = _
           simp only [Act.put, List.setIfInBounds_toArray, List.set_cons_zero, List.set_cons_succ, i64_w, i32_w]
           rfl
         refine pure_ (i := 8) (N := some 28) (v := ?_) (a' := ?_) #[true, true, true, true, true, true, true, true, true, false, false, false, false] rfl rfl (any_of HT_.out (by kernel_rfl)) (fun _ _ _ h => h) (Or.inl ⟨by rfl, ?_⟩) ?_ ?_
         rotate_left
         · intro w'
           go_simp
           with_reducible rfl
         rotate_left
         · simp only [Act.put, List.setIfInBounds_toArray, List.set_cons_zero, List.set_cons_succ, i64_w, i32_w]
           rfl
         refine pure_ (i := 9) (N := some 37) (v := ?_) (a' := ?_) #[true, true, true, true, true, true, true, true, true, true, false, false, false] rfl rfl (any_of HT_.out (by kernel_rfl)) (fun _ _ _ h => h) (Or.inl ⟨by rfl, ?_⟩) ?_ ?_
         rotate_left
         · intro w'
           go_simp
           with_reducible rfl
         rotate_left
         · simp only [Act.put, List.setIfInBounds_toArray, List.set_cons_zero, List.set_cons_succ, i64_w, i32_w]
           rfl
         refine pure_ (i := 10) (N := some 38) (v := ?_) (a' := ?_) #[true, true, true, true, true, true, true, true, true, true, true, false, false] rfl rfl (any_of HT_.out (by kernel_rfl)) (fun _ _ _ h => h) (Or.inl ⟨by rfl, ?_⟩) ?_ ?_
         rotate_left
         · intro w'
           go_simp
           with_reducible rfl
         rotate_left
         · simp only [Act.put, List.setIfInBounds_toArray, List.set_cons_zero, List.set_cons_succ, i64_w, i32_w]
           rfl
         refine pure_ (i := 11) (N := some 7) (v := ?_) (a' := ?_) #[true, true, true, true, true, true, true, true, true, true, true, true, false] rfl rfl (any_of HT_.out (by kernel_rfl)) (fun _ _ _ h => h) (Or.inl ⟨by rfl, ?_⟩) ?_ ?_
         rotate_left
         · intro w'
           go_simp
           with_reducible rfl
         rotate_left
         · simp only [Act.put, List.setIfInBounds_toArray, List.set_cons_zero, List.set_cons_succ, i64_w, i32_w]
           rfl
         refine pure_ (i := 12) (N := some 8) (v := ?_) (a' := ?_) #[true, true, true, true, true, true, true, true, true, true, true, true, true] rfl rfl (any_of HT_.out (by kernel_rfl)) (fun _ _ _ h => h) (Or.inl ⟨by rfl, ?_⟩) ?_ ?_
         rotate_left
         · intro w'
           go_simp
           with_reducible rfl
         rotate_left
         · simp only [Act.put, List.setIfInBounds_toArray, List.set_cons_zero, List.set_cons_succ, i64_w, i32_w]
           rfl
         refine done_ (done_of HT_.out (by kernel_rfl)) ?_
         obtain ⟨Ao31, co31, eo31⟩ := Kd.R_slice HO300.out
         subst eo31
         try go_wp2_with (first | ((with_reducible refine gate_builtin (b := .append) (xs := #[.tmp 51, .tmp 53]) rfl ?_); at_builtin; refine Kd.S_append (Kd.slice 3 (Kd.int .i64)) (w0 := w) w.heap.size rfl (.tmp 51) (.tmp 53) 35 43 (.slice none 0 0) 24 rfl Try.underlying35 info43 rfl (by decide) (by omega) u4 x4_1 t298 [.slice Ao31 t298.length co31] (fun k_ => some k_ ≠ (v295 : Value).ownBlock) (fun k_ => some k_ = (.slice Ao31 t298.length co31 : Value).ownBlock) rfl rfl ?aP (fun k_ hk_ => ((Kd.R_mono (ok' := fun k_ => ((fun k_ => some k_ ≠ (v295 : Value).ownBlock)) k_ ∧ some k_ ≠ (u4 : Value).ownBlock) (Kd.R_apart' (Kd.R_apart' (HO300.out) (Kd.S_typed HO_5.out) (by decide)) (Kd.S_typed HO_4.out) (by decide)) (fun k_ hk => ⟨hk.1.2, hk.2⟩))).1 k_ hk_.symm) ?aF ?aO ?aB ?aS ?aL ?_; (case aP => exact Kd.M_row (Kd.R_mono (Kd.R_tight rfl (Kd.R_mono (ok' := fun k_ => ((fun k_ => some k_ ≠ (v295 : Value).ownBlock)) k_ ∧ some k_ ≠ (u4 : Value).ownBlock) (Kd.R_apart' (Kd.R_apart' (HO300.out) (Kd.S_typed HO_5.out) (by decide)) (Kd.S_typed HO_4.out) (by decide)) (fun k_ hk => ⟨hk.1.2, hk.2⟩))) (fun _ h_ => h_))); (case aB => exact (by repeat (first | (with_reducible first | exact HB.out | apply below_alloc | apply pw_below_drewN | apply below_drew1 | refine below_set ?_ GE292.out) | exact HB.out))); (case aF => exact (fun k_ hk => Kd.fresh' (Kd.S_lt (by (with_reducible repeat (first | apply Kd.S_alloc | apply Kd.S_drewN | apply Kd.S_drew)); exact HO_5.out)) k_ hk)); (case aO => exact (by (with_reducible repeat (first | apply Kd.S_alloc | apply Kd.S_drewN | apply Kd.S_drew)); exact Kd.S_mono HO_4.out (fun k_ hk => ⟨hk.1, fun e_ => hk.2 e_⟩))); (case aS => exact (below_size (by repeat (first | (with_reducible first | exact HB.out | apply below_alloc | apply pw_below_drewN | apply below_drew1 | refine below_set ?_ GE292.out) | exact HB.out)))); (case aL => have := LMc26.out; omega); intro v311 w30 ho hb hg hat; rw [← Ny310.out] at ho; have n0_ := Aside0.mk (Kd.S_after (ok := (fun k_ => some k_ ≠ (.slice Ao31 t298.length co31 : Value).ownBlock)) (by (with_reducible repeat (first | apply Kd.S_alloc | apply Kd.S_drewN | apply Kd.S_drew)); exact Kd.S_mono HO_5.out (fun _ hk => ⟨hk.2, hk.1⟩)) hg hat); have n1_ := Aside0.mk (blk_grown (g := gb292) (o := .cells #[.slice A0_0 l0_0.length c0_0, .slice A0_1 l0_1.length c0_1, .int .i64 a0_2, .int .i64 a0_3, .slice (some ad297) l0_4.length c0_4] 26 (0, 0)) (by (with_reducible repeat (first | refine blk_drewN ?_ _ | refine blk_drew ?_ | refine blk_alloc ?_ _)); exact BK292.out) hg (Kd.S_ne HO_4.out BK292.out (by decide))); have n2_ := Aside0.mk (hb); have n3_ := Aside0.mk (ho); clear HO_5; clear BK292; clear HB; clear HO_4; clear HO300; have HO_5 := n0_; have BK292 := n1_; have HB := n2_; have HO312 := n3_; clear n0_ n1_ n2_ n3_; clear ho hb hg hat))
         go_roundg k1
         case measure => have := HK1.out; omega
         case rel => exact ⟨(y310), (wrap64 (x6_1 + 1)), (by first | rfl | (simp; done) | (simp [*]; done)), H', ⟨by have := HK1.out; omega⟩, ⟨by (with_reducible repeat (first | apply Kd.S_alloc | apply Kd.S_drewN | apply Kd.S_drew)); exact HO312.out⟩, ⟨by (with_reducible repeat (first | apply Kd.S_alloc | apply Kd.S_drewN | apply Kd.S_drew)); exact Kd.S_mono HO_5.out (fun _ hk => hk.2)⟩, ⟨by (with_reducible repeat (first | refine blk_drewN ?_ _ | refine blk_drew ?_ | refine blk_alloc ?_ _)); exact BK292.out⟩, ⟨by repeat (first | (with_reducible first | exact HB.out | apply below_alloc | apply pw_below_drewN | apply below_drew1 | refine below_set ?_ GE292.out) | exact HB.out)⟩⟩
     · rw [if_neg c10] at H
       have c10b0 : decide (x6_1 < (l0_4.length : Int)) = false := decide_eq_false c10
       clear c10
       have H' := Aside0.mk H
       clear H
       have hcz32_0 : wr.cell? ⟨gb292, 0, none⟩ = some (.slice A0_0 l0_0.length c0_0) := (blk_cell BK292.out 0).trans rfl
       have hcz32_1 : wr.cell? ⟨gb292, 1, none⟩ = some (.slice A0_1 l0_1.length c0_1) := (blk_cell BK292.out 1).trans rfl
       have hcz32_2 : wr.cell? ⟨gb292, 2, none⟩ = some (.int .i64 a0_2) := (blk_cell BK292.out 2).trans rfl
       have hcz32_3 : wr.cell? ⟨gb292, 3, none⟩ = some (.int .i64 a0_3) := (blk_cell BK292.out 3).trans rfl
       have hcz32_4 : wr.cell? ⟨gb292, 4, none⟩ = some (.slice A0_4 l0_4.length c0_4) := (blk_cell BK292.out 4).trans rfl
       have hfz32_0 := blk_frozen BK292.out 0
       have hfz32_1 := blk_frozen BK292.out 1
       have hfz32_2 := blk_frozen BK292.out 2
       have hfz32_3 := blk_frozen BK292.out 3
       have hfz32_4 := blk_frozen BK292.out 4
       go_wp2
       go_loopg [9, 10, 11] k1 (fun kq v9 v10 v11 w' => ∃ (x9_2 : List (List Int)) (x10_2 : List (S50)) (x11_2 : Int), v11 = .int .i64 x11_2 ∧ Aside0 (regletref14_Predict.l1 kq x4_1 x9_2 x10_2 x11_2 l0_0 l0_1 a0_2 a0_3 l0_4 = some (r1, r2)) ∧ Aside0 (kq ≤ k1) ∧ Aside0 (Kd.S (Kd.slice 3 (Kd.int .i64)) 43 w' w.heap.size (fun k_ => some k_ ≠ (v9 : Value).ownBlock) u4 x4_1) ∧ Aside0 (Kd.S (Kd.slice 3 (Kd.int .i64)) 43 w' w.heap.size (fun k_ => some k_ ≠ (u4 : Value).ownBlock) v9 x9_2) ∧ Aside0 (Kd.R k50 50 w' w.heap.size (fun _ => True) v10 x10_2) ∧ Aside0 (w'.heap[gb292]? = some (.cells #[(.slice A0_0 l0_0.length c0_0), (.slice A0_1 l0_1.length c0_1), .int .i64 a0_2, .int .i64 a0_3, (.slice A0_4 l0_4.length c0_4)] 26 (0, 0))) ∧ Aside0 (Below w.heap.size w w'))
       case atStart => exact ⟨(([] : List (List Int))), (([] : List (S50))), (0), (by first | rfl | (simp; done) | (simp [*]; done)), H', ⟨Nat.le_refl _⟩, ⟨by (with_reducible repeat (first | apply Kd.S_alloc | apply Kd.S_drewN | apply Kd.S_drew)); exact Kd.S_mono HO_4.out (fun _ hk => (by simp [Value.ownBlock]))⟩, ⟨by first | exact Kd.S_nil _ _ _ _ _ | exact Kd.N_nil _ _ _ _ _ | exact Kd.V_nil _ _ _ _ _ | exact Kd.Q_nil _ _ _ _ _ | exact Kd.R_nil _ _ _ _ _⟩, ⟨by first | exact Kd.R_nil _ _ _ _ _ | exact Kd.N_nil _ _ _ _ _ | exact Kd.V_nil _ _ _ _ _ | exact Kd.Q_nil _ _ _ _ _ | exact Kd.S_nil _ _ _ _ _⟩, ⟨by (with_reducible repeat (first | refine blk_drewN ?_ _ | refine blk_drew ?_ | refine blk_alloc ?_ _)); exact BK292.out⟩, ⟨by repeat (first | (with_reducible first | exact HB.out | apply below_alloc | apply pw_below_drewN | apply below_drew1 | refine below_set ?_ GE292.out) | exact HB.out)⟩⟩
       case round =>
        clear H'
        (try clear c1);(try clear c2);(try clear p2);(try clear q2);(try clear hx2);(try clear c3);(try clear p3);(try clear q3);(try clear hx3);(try clear p6);(try clear c10);(try clear c10b0);(try clear c11);(try clear c11b0);(try clear c13);(try clear c14);(try clear c14b0);(try clear c15);(try clear c15b0);(try clear c16);(try clear c17);(try clear c19);(try clear c25);(try clear c26);(try clear c29);(try clear p29)
        (try clear q29);(try clear hx29);(try clear c30);(try clear p30);(try clear q30);(try clear hx30);(try clear hcz18_0);(try clear hcz18_1);(try clear hcz18_2);(try clear hcz18_3);(try clear hcz18_4);(try clear hcz21_0);(try clear hcz21_1);(try clear hcz21_2);(try clear hcz21_3);(try clear hcz21_4);(try clear hcz27_0);(try clear hcz27_1);(try clear hcz27_2);(try clear hcz27_3);(try clear hcz27_4);(try clear hcz32_0)
        (try clear hcz32_1);(try clear hcz32_2);(try clear hcz32_3);(try clear hcz32_4);(try clear hcz6_0);(try clear hcz6_1);(try clear hcz6_2);(try clear hcz6_3);(try clear hcz6_4);(try clear hcz8_0);(try clear hcz8_1);(try clear hcz8_2);(try clear hcz8_3);(try clear hcz8_4);(try clear hfz18_0);(try clear hfz18_1);(try clear hfz18_2);(try clear hfz18_3);(try clear hfz18_4);(try clear hfz21_0);(try clear hfz21_1)
        (try clear hfz21_2);(try clear hfz21_3);(try clear hfz21_4);(try clear hfz27_0);(try clear hfz27_1);(try clear hfz27_2);(try clear hfz27_3);(try clear hfz27_4);(try clear hfz32_0);(try clear hfz32_1);(try clear hfz32_2);(try clear hfz32_3);(try clear hfz32_4);(try clear hfz6_0);(try clear hfz6_1);(try clear hfz6_2);(try clear hfz6_3);(try clear hfz6_4);(try clear hfz8_0);(try clear hfz8_1);(try clear hfz8_2)
        (try clear hfz8_3);(try clear hfz8_4);(try clear hx297_0);(try clear hx297_1);(try clear hx302_0);(try clear hx302_1);(try clear hx303_0);(try clear p2);(try clear p297);(try clear p302);(try clear p303);(try clear q297);(try clear q302);(try clear q303)
        obtain ⟨x9_2, x10_2, x11_2, rfl, HA, HK2, HO_4, HO_9, HO_10, BK292, HB⟩ := hrel
        cases gk with
        | zero => exact absurd HA.out (by simp [regletref14_Predict.l1])
        | succ k2 =>
         have H := HA.out
         clear HA
         simp only [regletref14_Predict.l1] at H
         by_cases c33 : x11_2 < (l0_0.length : Int)
         · rw [if_pos c33] at H
           have c33b0 : decide (x11_2 < (l0_0.length : Int)) = true := decide_eq_true c33
           clear c33
           have H' := Aside0.mk H
           clear H
           have hcz34_0 : wr.cell? ⟨gb292, 0, none⟩ = some (.slice A0_0 l0_0.length c0_0) := (blk_cell BK292.out 0).trans rfl
           have hcz34_1 : wr.cell? ⟨gb292, 1, none⟩ = some (.slice A0_1 l0_1.length c0_1) := (blk_cell BK292.out 1).trans rfl
           have hcz34_2 : wr.cell? ⟨gb292, 2, none⟩ = some (.int .i64 a0_2) := (blk_cell BK292.out 2).trans rfl
           have hcz34_3 : wr.cell? ⟨gb292, 3, none⟩ = some (.int .i64 a0_3) := (blk_cell BK292.out 3).trans rfl
           have hcz34_4 : wr.cell? ⟨gb292, 4, none⟩ = some (.slice A0_4 l0_4.length c0_4) := (blk_cell BK292.out 4).trans rfl
           have hfz34_0 := blk_frozen BK292.out 0
           have hfz34_1 := blk_frozen BK292.out 1
           have hfz34_2 := blk_frozen BK292.out 2
           have hfz34_3 := blk_frozen BK292.out 3
           have hfz34_4 := blk_frozen BK292.out 4
           go_wp2
           go_loopg [10, 12, 13] k2 (fun kq v10 v12 v13 w' => ∃ (x10_3 : List (S50)) (x12_3 : List Int) (x13_3 : Int), v13 = .int .i64 x13_3 ∧ Aside0 (regletref14_Predict.l2 kq x4_1 x9_2 x10_3 x11_2 x12_3 x13_3 l0_0 l0_1 a0_2 a0_3 l0_4 = some (r1, r2)) ∧ Aside0 (kq ≤ k2) ∧ Aside0 (Kd.S (Kd.slice 3 (Kd.int .i64)) 43 w' w.heap.size (fun k_ => some k_ ≠ (u9 : Value).ownBlock ∧ some k_ ≠ (v12 : Value).ownBlock) u4 x4_1) ∧ Aside0 (Kd.S (Kd.slice 3 (Kd.int .i64)) 43 w' w.heap.size (fun k_ => some k_ ≠ (u4 : Value).ownBlock ∧ some k_ ≠ (v12 : Value).ownBlock) u9 x9_2) ∧ Aside0 (Kd.R k50 50 w' w.heap.size (fun _ => True) v10 x10_3) ∧ Aside0 (Kd.R (Kd.int .i64) 3 w' w.heap.size (fun _ => True) v12 x12_3) ∧ Aside0 (w'.heap[gb292]? = some (.cells #[(.slice A0_0 l0_0.length c0_0), (.slice A0_1 l0_1.length c0_1), .int .i64 a0_2, .int .i64 a0_3, (.slice A0_4 l0_4.length c0_4)] 26 (0, 0))) ∧ Aside0 (Below w.heap.size w w'))
           case atStart => exact ⟨(x10_2), (([] : List Int)), (0), (by first | rfl | (simp; done) | (simp [*]; done)), H', ⟨Nat.le_refl _⟩, ⟨by (with_reducible repeat (first | apply Kd.S_alloc | apply Kd.S_drewN | apply Kd.S_drew)); exact Kd.S_mono HO_4.out (fun _ hk => ⟨hk, (by simp [Value.ownBlock])⟩)⟩, ⟨by (with_reducible repeat (first | apply Kd.S_alloc | apply Kd.S_drewN | apply Kd.S_drew)); exact Kd.S_mono HO_9.out (fun _ hk => ⟨hk, (by simp [Value.ownBlock])⟩)⟩, ⟨by (with_reducible repeat (first | apply Kd.R_alloc | apply Kd.R_drewN | apply Kd.R_drew)); exact HO_10.out⟩, ⟨by first | exact Kd.R_nil _ _ _ _ _ | exact Kd.N_nil _ _ _ _ _ | exact Kd.V_nil _ _ _ _ _ | exact Kd.Q_nil _ _ _ _ _ | exact Kd.S_nil _ _ _ _ _⟩, ⟨by (with_reducible repeat (first | refine blk_drewN ?_ _ | refine blk_drew ?_ | refine blk_alloc ?_ _)); exact BK292.out⟩, ⟨by repeat (first | (with_reducible first | exact HB.out | apply below_alloc | apply pw_below_drewN | apply below_drew1 | refine below_set ?_ GE292.out) | exact HB.out)⟩⟩
           case round =>
            clear H'
            (try clear c1);(try clear c2);(try clear p2);(try clear q2);(try clear hx2);(try clear c3);(try clear p3);(try clear q3);(try clear hx3);(try clear p6);(try clear c10);(try clear c10b0);(try clear c11);(try clear c11b0);(try clear c13);(try clear c14);(try clear c14b0);(try clear c15);(try clear c15b0);(try clear c16);(try clear c17);(try clear c19);(try clear c25);(try clear c26);(try clear c29);(try clear p29)
            (try clear q29);(try clear hx29);(try clear c30);(try clear p30);(try clear q30);(try clear hx30);(try clear c33);(try clear c33b0);(try clear hcz18_0);(try clear hcz18_1);(try clear hcz18_2);(try clear hcz18_3);(try clear hcz18_4);(try clear hcz21_0);(try clear hcz21_1);(try clear hcz21_2);(try clear hcz21_3);(try clear hcz21_4);(try clear hcz27_0);(try clear hcz27_1);(try clear hcz27_2);(try clear hcz27_3)
            (try clear hcz27_4);(try clear hcz32_0);(try clear hcz32_1);(try clear hcz32_2);(try clear hcz32_3);(try clear hcz32_4);(try clear hcz34_0);(try clear hcz34_1);(try clear hcz34_2);(try clear hcz34_3);(try clear hcz34_4);(try clear hcz6_0);(try clear hcz6_1);(try clear hcz6_2);(try clear hcz6_3);(try clear hcz6_4);(try clear hcz8_0);(try clear hcz8_1);(try clear hcz8_2);(try clear hcz8_3);(try clear hcz8_4)
            (try clear hfz18_0);(try clear hfz18_1);(try clear hfz18_2);(try clear hfz18_3);(try clear hfz18_4);(try clear hfz21_0);(try clear hfz21_1);(try clear hfz21_2);(try clear hfz21_3);(try clear hfz21_4);(try clear hfz27_0);(try clear hfz27_1);(try clear hfz27_2);(try clear hfz27_3);(try clear hfz27_4);(try clear hfz32_0);(try clear hfz32_1);(try clear hfz32_2);(try clear hfz32_3);(try clear hfz32_4);(try clear hfz34_0)
            (try clear hfz34_1);(try clear hfz34_2);(try clear hfz34_3);(try clear hfz34_4);(try clear hfz6_0);(try clear hfz6_1);(try clear hfz6_2);(try clear hfz6_3);(try clear hfz6_4);(try clear hfz8_0);(try clear hfz8_1);(try clear hfz8_2);(try clear hfz8_3);(try clear hfz8_4);(try clear hx297_0);(try clear hx297_1);(try clear hx302_0);(try clear hx302_1);(try clear hx303_0);(try clear p2);(try clear p29)
            (try clear p297);(try clear p3);(try clear p30);(try clear p302);(try clear p303);(try clear p6);(try clear q2);(try clear q29);(try clear q297);(try clear q3);(try clear q30);(try clear q302);(try clear q303)
            obtain ⟨x10_3, x12_3, x13_3, rfl, HA, HK3, HO_4, HO_9, HO_10, HO_12, BK292, HB⟩ := hrel
            cases gk with
            | zero => exact absurd HA.out (by simp [regletref14_Predict.l2])
            | succ k3 =>
             have H := HA.out
             clear HA
             simp only [regletref14_Predict.l2] at H
             by_cases c35 : x13_3 ≤ (l0_1.length : Int)
             · rw [if_pos c35] at H
               have c35b0 : decide (x13_3 ≤ (l0_1.length : Int)) = true := decide_eq_true c35
               clear c35
               have H' := Aside0.mk H
               clear H
               have hcz36_0 : wr.cell? ⟨gb292, 0, none⟩ = some (.slice A0_0 l0_0.length c0_0) := (blk_cell BK292.out 0).trans rfl
               have hcz36_1 : wr.cell? ⟨gb292, 1, none⟩ = some (.slice A0_1 l0_1.length c0_1) := (blk_cell BK292.out 1).trans rfl
               have hcz36_2 : wr.cell? ⟨gb292, 2, none⟩ = some (.int .i64 a0_2) := (blk_cell BK292.out 2).trans rfl
               have hcz36_3 : wr.cell? ⟨gb292, 3, none⟩ = some (.int .i64 a0_3) := (blk_cell BK292.out 3).trans rfl
               have hcz36_4 : wr.cell? ⟨gb292, 4, none⟩ = some (.slice A0_4 l0_4.length c0_4) := (blk_cell BK292.out 4).trans rfl
               have hfz36_0 := blk_frozen BK292.out 0
               have hfz36_1 := blk_frozen BK292.out 1
               have hfz36_2 := blk_frozen BK292.out 2
               have hfz36_3 := blk_frozen BK292.out 3
               have hfz36_4 := blk_frozen BK292.out 4
               go_wp2
               go_loopg [10, 14, 15] k3 (fun kq v10 v14 v15 w' => ∃ (x10_4 : List (S50)) (x14_4 : Int) (x15_4 : Int), v14 = .int .i64 x14_4 ∧ v15 = .int .i64 x15_4 ∧ Aside0 (regletref14_Predict.l3 kq x4_1 x9_2 x10_4 x11_2 x12_3 x13_3 x14_4 x15_4 l0_0 l0_1 a0_2 a0_3 l0_4 = some (r1, r2)) ∧ Aside0 (kq ≤ k3) ∧ Aside0 (Kd.S (Kd.slice 3 (Kd.int .i64)) 43 w' w.heap.size (fun k_ => some k_ ≠ (u9 : Value).ownBlock ∧ some k_ ≠ (u12 : Value).ownBlock) u4 x4_1) ∧ Aside0 (Kd.S (Kd.slice 3 (Kd.int .i64)) 43 w' w.heap.size (fun k_ => some k_ ≠ (u4 : Value).ownBlock ∧ some k_ ≠ (u12 : Value).ownBlock) u9 x9_2) ∧ Aside0 (Kd.R k50 50 w' w.heap.size (fun _ => True) v10 x10_4) ∧ Aside0 (Kd.R (Kd.int .i64) 3 w' w.heap.size (fun _ => True) u12 x12_3) ∧ Aside0 (w'.heap[gb292]? = some (.cells #[(.slice A0_0 l0_0.length c0_0), (.slice A0_1 l0_1.length c0_1), .int .i64 a0_2, .int .i64 a0_3, (.slice A0_4 l0_4.length c0_4)] 26 (0, 0))) ∧ Aside0 (Below w.heap.size w w'))
               case atStart => exact ⟨(x10_3), ((-1)), (0), (by first | rfl | (simp; done) | (simp [*]; done)), (by first | rfl | (simp; done) | (simp [*]; done)), H', ⟨Nat.le_refl _⟩, ⟨by (with_reducible repeat (first | apply Kd.S_alloc | apply Kd.S_drewN | apply Kd.S_drew)); exact HO_4.out⟩, ⟨by (with_reducible repeat (first | apply Kd.S_alloc | apply Kd.S_drewN | apply Kd.S_drew)); exact HO_9.out⟩, ⟨by (with_reducible repeat (first | apply Kd.R_alloc | apply Kd.R_drewN | apply Kd.R_drew)); exact HO_10.out⟩, ⟨by (with_reducible repeat (first | apply Kd.R_alloc | apply Kd.R_drewN | apply Kd.R_drew)); exact HO_12.out⟩, ⟨by (with_reducible repeat (first | refine blk_drewN ?_ _ | refine blk_drew ?_ | refine blk_alloc ?_ _)); exact BK292.out⟩, ⟨by repeat (first | (with_reducible first | exact HB.out | apply below_alloc | apply pw_below_drewN | apply below_drew1 | refine below_set ?_ GE292.out) | exact HB.out)⟩⟩
               case round =>
                clear H'
                (try clear c1);(try clear c2);(try clear p2);(try clear q2);(try clear hx2);(try clear c3);(try clear p3);(try clear q3);(try clear hx3);(try clear p6);(try clear c10);(try clear c10b0);(try clear c11);(try clear c11b0);(try clear c13);(try clear c14);(try clear c14b0);(try clear c15);(try clear c15b0);(try clear c16);(try clear c17);(try clear c19);(try clear c25);(try clear c26);(try clear c29);(try clear p29)
                (try clear q29);(try clear hx29);(try clear c30);(try clear p30);(try clear q30);(try clear hx30);(try clear c33);(try clear c33b0);(try clear c35);(try clear c35b0);(try clear hcz18_0);(try clear hcz18_1);(try clear hcz18_2);(try clear hcz18_3);(try clear hcz18_4);(try clear hcz21_0);(try clear hcz21_1);(try clear hcz21_2);(try clear hcz21_3);(try clear hcz21_4);(try clear hcz27_0);(try clear hcz27_1)
                (try clear hcz27_2);(try clear hcz27_3);(try clear hcz27_4);(try clear hcz32_0);(try clear hcz32_1);(try clear hcz32_2);(try clear hcz32_3);(try clear hcz32_4);(try clear hcz34_0);(try clear hcz34_1);(try clear hcz34_2);(try clear hcz34_3);(try clear hcz34_4);(try clear hcz36_0);(try clear hcz36_1);(try clear hcz36_2);(try clear hcz36_3);(try clear hcz36_4);(try clear hcz6_0);(try clear hcz6_1);(try clear hcz6_2)
                (try clear hcz6_3);(try clear hcz6_4);(try clear hcz8_0);(try clear hcz8_1);(try clear hcz8_2);(try clear hcz8_3);(try clear hcz8_4);(try clear hfz18_0);(try clear hfz18_1);(try clear hfz18_2);(try clear hfz18_3);(try clear hfz18_4);(try clear hfz21_0);(try clear hfz21_1);(try clear hfz21_2);(try clear hfz21_3);(try clear hfz21_4);(try clear hfz27_0);(try clear hfz27_1);(try clear hfz27_2);(try clear hfz27_3)
                (try clear hfz27_4);(try clear hfz32_0);(try clear hfz32_1);(try clear hfz32_2);(try clear hfz32_3);(try clear hfz32_4);(try clear hfz34_0);(try clear hfz34_1);(try clear hfz34_2);(try clear hfz34_3);(try clear hfz34_4);(try clear hfz36_0);(try clear hfz36_1);(try clear hfz36_2);(try clear hfz36_3);(try clear hfz36_4);(try clear hfz6_0);(try clear hfz6_1);(try clear hfz6_2);(try clear hfz6_3);(try clear hfz6_4)
                (try clear hfz8_0);(try clear hfz8_1);(try clear hfz8_2);(try clear hfz8_3);(try clear hfz8_4);(try clear hx297_0);(try clear hx297_1);(try clear hx302_0);(try clear hx302_1);(try clear hx303_0);(try clear p2);(try clear p29);(try clear p297);(try clear p3);(try clear p30);(try clear p302);(try clear p303);(try clear p6);(try clear q2);(try clear q29);(try clear q297);(try clear q3);(try clear q30)
                (try clear q302);(try clear q303)
                obtain ⟨x10_4, x14_4, x15_4, rfl, rfl, HA, HK4, HO_4, HO_9, HO_10, HO_12, BK292, HB⟩ := hrel
                cases gk with
                | zero => exact absurd HA.out (by simp [regletref14_Predict.l3])
                | succ k4 =>
                 have H := HA.out
                 clear HA
                 simp only [regletref14_Predict.l3] at H
                 by_cases c37 : x15_4 < (l0_4.length : Int)
                 · rw [if_pos c37] at H
                   have c37b0 : decide (x15_4 < (l0_4.length : Int)) = true := decide_eq_true c37
                   clear c37
                   have HC38 := Aside0.mk H
                   clear H
                   have hcz39_0 : wr.cell? ⟨gb292, 0, none⟩ = some (.slice A0_0 l0_0.length c0_0) := (blk_cell BK292.out 0).trans rfl
                   have hcz39_1 : wr.cell? ⟨gb292, 1, none⟩ = some (.slice A0_1 l0_1.length c0_1) := (blk_cell BK292.out 1).trans rfl
                   have hcz39_2 : wr.cell? ⟨gb292, 2, none⟩ = some (.int .i64 a0_2) := (blk_cell BK292.out 2).trans rfl
                   have hcz39_3 : wr.cell? ⟨gb292, 3, none⟩ = some (.int .i64 a0_3) := (blk_cell BK292.out 3).trans rfl
                   have hcz39_4 : wr.cell? ⟨gb292, 4, none⟩ = some (.slice A0_4 l0_4.length c0_4) := (blk_cell BK292.out 4).trans rfl
                   have hfz39_0 := blk_frozen BK292.out 0
                   have hfz39_1 := blk_frozen BK292.out 1
                   have hfz39_2 := blk_frozen BK292.out 2
                   have hfz39_3 := blk_frozen BK292.out 3
                   have hfz39_4 := blk_frozen BK292.out 4
                   go_upto_region 25 with (fail)
                   go_cut [92] (fun v92 wc => ∃ (kq : Nat) (x92_37 : Bool), v92 = .bool x92_37 ∧ Aside0 (regletref14_Predict.j4 kq x4_1 x9_2 x10_4 x11_2 x12_3 x13_3 x14_4 x15_4 x92_37 l0_0 l0_1 a0_2 a0_3 l0_4 = some (r1, r2)) ∧ Aside0 (kq ≤ k4) ∧ Aside0 (Kd.S (Kd.slice 3 (Kd.int .i64)) 43 wc w.heap.size (fun k_ => some k_ ≠ (u9 : Value).ownBlock ∧ some k_ ≠ (u12 : Value).ownBlock) u4 x4_1) ∧ Aside0 (Kd.S (Kd.slice 3 (Kd.int .i64)) 43 wc w.heap.size (fun k_ => some k_ ≠ (u4 : Value).ownBlock ∧ some k_ ≠ (u12 : Value).ownBlock) u9 x9_2) ∧ Aside0 (Kd.R k50 50 wc w.heap.size (fun _ => True) u10 x10_4) ∧ Aside0 (Kd.R (Kd.int .i64) 3 wc w.heap.size (fun _ => True) u12 x12_3) ∧ Aside0 (wc.heap[gb292]? = some (.cells #[(.slice A0_0 l0_0.length c0_0), (.slice A0_1 l0_1.length c0_1), .int .i64 a0_2, .int .i64 a0_3, (.slice A0_4 l0_4.length c0_4)] 26 (0, 0))) ∧ Aside0 (Below w.heap.size w wc))
                   case first =>
                    have H := HC38.out
                    clear HC38
                    by_cases c40 : 0 ≤ x15_4
                    rotate_left
                    · rw [if_neg c40] at H
                      exact absurd H (by simp)
                    rw [if_pos c40] at H
                    have c40b0 : decide (0 ≤ x15_4) = true := decide_eq_true c40
                    clear c40
                    (first | rw [c40b0] | (simp only [i64_w, i32_w]; rw [c40b0]) | skip)
                    by_cases c41 : ((rd_T30 l0_4 x15_4).f0) = x11_2
                    · rw [if_pos c41] at H
                      have c41b0 : (((rd_T30 l0_4 x15_4).f0) == x11_2) = true := beq_iff_eq.mpr c41
                      have c41b1 : (((rd_T30 l0_4 x15_4).f0) != x11_2) = false := bne_eq_false_iff_eq.mpr c41
                      clear c41
                      by_cases c42 : x15_4 < (x4_1.length : Int)
                      rotate_left
                      · rw [if_neg c42] at H
                        exact absurd H (by simp)
                      rw [if_pos c42] at H
                      have c42b0 : decide (x15_4 < (x4_1.length : Int)) = true := decide_eq_true c42
                      clear c42
                      replace H := Option.bind_eq_some_iff.mp H
                      obtain ⟨t321, A430, H⟩ := H
                      replace H : (regletref14_Predict.j4 k4 x4_1 x9_2 x10_4 x11_2 x12_3 x13_3 x14_4 x15_4 (!t321) l0_0 l0_1 a0_2 a0_3 l0_4) = some (r1, r2) := H
                      have A43 := Aside0.mk A430
                      clear A430
                      have H' := Aside0.mk H
                      clear H
                      have hcz44_0 : wr.cell? ⟨gb292, 0, none⟩ = some (.slice A0_0 l0_0.length c0_0) := (blk_cell BK292.out 0).trans rfl
                      have hcz44_1 : wr.cell? ⟨gb292, 1, none⟩ = some (.slice A0_1 l0_1.length c0_1) := (blk_cell BK292.out 1).trans rfl
                      have hcz44_2 : wr.cell? ⟨gb292, 2, none⟩ = some (.int .i64 a0_2) := (blk_cell BK292.out 2).trans rfl
                      have hcz44_3 : wr.cell? ⟨gb292, 3, none⟩ = some (.int .i64 a0_3) := (blk_cell BK292.out 3).trans rfl
                      have hcz44_4 : wr.cell? ⟨gb292, 4, none⟩ = some (.slice A0_4 l0_4.length c0_4) := (blk_cell BK292.out 4).trans rfl
                      have hfz44_0 := blk_frozen BK292.out 0
                      have hfz44_1 := blk_frozen BK292.out 1
                      have hfz44_2 := blk_frozen BK292.out 2
                      have hfz44_3 := blk_frozen BK292.out 3
                      have hfz44_4 := blk_frozen BK292.out 4
                      have p319 : 0 ≤ (x15_4 : Int) := of_decide_eq_true (by first | (with_reducible assumption) | assumption)
                      have q319 : x15_4 < (l0_4.length : Int) := of_decide_eq_true (by first | (with_reducible assumption) | assumption)
                      obtain ⟨ad319, A319_1, c319_1, e319, hx319_0, hx319_1, hl319_1, hi319_1⟩ := at_T30 HR0_4.out x15_4 p319 q319
                      cases e319
                      replace hx319_0 := (HB.out.cell (World.block_lt_of_cell? w _ hx319_0)).trans hx319_0
                      replace hx319_1 := (HB.out.cell (World.block_lt_of_cell? w _ hx319_1)).trans hx319_1
                      have HR319_1 := Aside0.mk hi319_1
                      have HC319_1 := Aside0.mk hl319_1
                      clear hi319_1 hl319_1
                      replace p319 := eq_true p319
                      replace q319 := eq_true q319
                      obtain ⟨Ao45, co45, eo45⟩ := Kd.S_slice HO_4.out
                      subst eo45
                      have p320 : 0 ≤ (x15_4 : Int) := of_decide_eq_true (by first | (with_reducible assumption) | assumption)
                      have q320 : x15_4 < (x4_1.length : Int) := of_decide_eq_true (by first | (with_reducible assumption) | assumption)
                      obtain ⟨ad320, A320_0, c320_0, e320, hx320_0, hl320_0, hi320_0⟩ := at_L3 (Kd.S_reads' HO_4.out).2.2 x15_4 p320 q320
                      cases e320
                      obtain ⟨ce320, hce320, hMe320, hcc320⟩ := Kd.S_get HO_4.out [] x15_4 p320 (by first | exact q320 | exact of_decide_eq_true (by first | (with_reducible assumption) | assumption) | (have e_ := (Kd.S_reads' HO_4.out).1; omega))
                      obtain ⟨ve320_0, rfl, ge320_0⟩ := hMe320
                      have hv320_0 := hcc320 0 _ rfl
                      rw [Nat.add_zero, show ((Kd.slice 3 (Kd.int .i64))).sz = 1 from rfl, Nat.mul_one] at hv320_0
                      replace hv320_0 := Option.some.inj (hv320_0.symm.trans hx320_0)
                      rw [hv320_0] at ge320_0
                      have HL320_0 := Aside0.mk (show Kd.R (Kd.int .i64) 3 _ _ _ _ (rd_L3 x4_1 x15_4) from ge320_0)
                      clear hv320_0 ge320_0
                      clear hcc320 hce320
                      have HR320_0 := Aside0.mk hi320_0
                      have HC320_0 := Aside0.mk hl320_0
                      clear hi320_0 hl320_0
                      replace p320 := eq_true p320
                      replace q320 := eq_true q320
                      go_wp2_with (first | (go_at_call 34; (with_reducible refine (regletref14_has.calls k4 _ _ (rd_L3 x4_1 x15_4) x13_3 t321 _ ?side1 ?side2 A43.out).mono ?_); (case side1 => repeat (first | exact (by repeat (first | (with_reducible exact HR320_0.out) | (with_reducible refine Kd.C_alloc ?_ _) | (with_reducible refine Kd.C_drewN ?_ _) | (with_reducible refine Kd.C_drew ?_) | exact HR320_0.out)) | (with_reducible refine Kd.C_alloc ?_ _) | (with_reducible refine Kd.C_drewN ?_ _) | (with_reducible refine Kd.C_drew ?_))); (case side2 => exact HC320_0.out); rintro e w' ⟨rfl, ⟨nd, rfl⟩⟩))
                      go_meet
                      case rel => exact ⟨_, (!t321), (by first | rfl | (simp; done) | (simp [*]; done)), H', ⟨by have := HK1.out; have := HK2.out; have := HK3.out; have := HK4.out; first | omega | exact Nat.le_refl _⟩, ⟨by (with_reducible repeat (first | apply Kd.S_alloc | apply Kd.S_drewN | apply Kd.S_drew)); exact HO_4.out⟩, ⟨by (with_reducible repeat (first | apply Kd.S_alloc | apply Kd.S_drewN | apply Kd.S_drew)); exact HO_9.out⟩, ⟨by (with_reducible repeat (first | apply Kd.R_alloc | apply Kd.R_drewN | apply Kd.R_drew)); exact HO_10.out⟩, ⟨by (with_reducible repeat (first | apply Kd.R_alloc | apply Kd.R_drewN | apply Kd.R_drew)); exact HO_12.out⟩, ⟨by (with_reducible repeat (first | refine blk_drewN ?_ _ | refine blk_drew ?_ | refine blk_alloc ?_ _)); exact BK292.out⟩, ⟨by repeat (first | (with_reducible first | exact HB.out | apply below_alloc | apply pw_below_drewN | apply below_drew1 | refine below_set ?_ GE292.out) | exact HB.out)⟩⟩
                    · rw [if_neg c41] at H
                      have c41b0 : (((rd_T30 l0_4 x15_4).f0) == x11_2) = false := beq_eq_false_iff_ne.mpr c41
                      have c41b1 : (((rd_T30 l0_4 x15_4).f0) != x11_2) = true := bne_iff_ne.mpr c41
                      have H' := Aside0.mk H
                      clear H
                      have hcz46_0 : wr.cell? ⟨gb292, 0, none⟩ = some (.slice A0_0 l0_0.length c0_0) := (blk_cell BK292.out 0).trans rfl
                      have hcz46_1 : wr.cell? ⟨gb292, 1, none⟩ = some (.slice A0_1 l0_1.length c0_1) := (blk_cell BK292.out 1).trans rfl
                      have hcz46_2 : wr.cell? ⟨gb292, 2, none⟩ = some (.int .i64 a0_2) := (blk_cell BK292.out 2).trans rfl
                      have hcz46_3 : wr.cell? ⟨gb292, 3, none⟩ = some (.int .i64 a0_3) := (blk_cell BK292.out 3).trans rfl
                      have hcz46_4 : wr.cell? ⟨gb292, 4, none⟩ = some (.slice A0_4 l0_4.length c0_4) := (blk_cell BK292.out 4).trans rfl
                      have hfz46_0 := blk_frozen BK292.out 0
                      have hfz46_1 := blk_frozen BK292.out 1
                      have hfz46_2 := blk_frozen BK292.out 2
                      have hfz46_3 := blk_frozen BK292.out 3
                      have hfz46_4 := blk_frozen BK292.out 4
                      have p319 : 0 ≤ (x15_4 : Int) := of_decide_eq_true (by first | (with_reducible assumption) | assumption)
                      have q319 : x15_4 < (l0_4.length : Int) := of_decide_eq_true (by first | (with_reducible assumption) | assumption)
                      obtain ⟨ad319, A319_1, c319_1, e319, hx319_0, hx319_1, hl319_1, hi319_1⟩ := at_T30 HR0_4.out x15_4 p319 q319
                      cases e319
                      replace hx319_0 := (HB.out.cell (World.block_lt_of_cell? w _ hx319_0)).trans hx319_0
                      replace hx319_1 := (HB.out.cell (World.block_lt_of_cell? w _ hx319_1)).trans hx319_1
                      have HR319_1 := Aside0.mk hi319_1
                      have HC319_1 := Aside0.mk hl319_1
                      clear hi319_1 hl319_1
                      replace p319 := eq_true p319
                      replace q319 := eq_true q319
                      go_wp2
                      go_meet
                      case rel => exact ⟨_, (true), (by first | rfl | (simp; done) | (simp [*]; done)), H', ⟨by have := HK1.out; have := HK2.out; have := HK3.out; have := HK4.out; first | omega | exact Nat.le_refl _⟩, ⟨by (with_reducible repeat (first | apply Kd.S_alloc | apply Kd.S_drewN | apply Kd.S_drew)); exact HO_4.out⟩, ⟨by (with_reducible repeat (first | apply Kd.S_alloc | apply Kd.S_drewN | apply Kd.S_drew)); exact HO_9.out⟩, ⟨by (with_reducible repeat (first | apply Kd.R_alloc | apply Kd.R_drewN | apply Kd.R_drew)); exact HO_10.out⟩, ⟨by (with_reducible repeat (first | apply Kd.R_alloc | apply Kd.R_drewN | apply Kd.R_drew)); exact HO_12.out⟩, ⟨by (with_reducible repeat (first | refine blk_drewN ?_ _ | refine blk_drew ?_ | refine blk_alloc ?_ _)); exact BK292.out⟩, ⟨by repeat (first | (with_reducible first | exact HB.out | apply below_alloc | apply pw_below_drewN | apply below_drew1 | refine below_set ?_ GE292.out) | exact HB.out)⟩⟩
                   case rest =>
                    clear HC38
                    (try clear c1);(try clear c2);(try clear p2);(try clear q2);(try clear hx2);(try clear c3);(try clear p3);(try clear q3);(try clear hx3);(try clear c4);(try clear p6);(try clear c10);(try clear c10b0);(try clear c11);(try clear c11b0);(try clear c13);(try clear c14);(try clear c14b0);(try clear c15);(try clear c15b0);(try clear c16);(try clear c17);(try clear c19);(try clear c25);(try clear c26);(try clear c29)
                    (try clear p29);(try clear q29);(try clear hx29);(try clear c30);(try clear p30);(try clear q30);(try clear hx30);(try clear c31);(try clear p31);(try clear q31);(try clear hx31);(try clear c32);(try clear p32);(try clear q32);(try clear hx32);(try clear c33);(try clear c33b0);(try clear c35);(try clear c35b0);(try clear c37);(try clear c37b0);(try clear c40);(try clear c40b0);(try clear c41);(try clear c41b0)
                    (try clear c41b1);(try clear c42);(try clear c42b0);(try clear hcz18_0);(try clear hcz18_1);(try clear hcz18_2);(try clear hcz18_3);(try clear hcz18_4);(try clear hcz21_0);(try clear hcz21_1);(try clear hcz21_2);(try clear hcz21_3);(try clear hcz21_4);(try clear hcz27_0);(try clear hcz27_1);(try clear hcz27_2);(try clear hcz27_3);(try clear hcz27_4);(try clear hcz32_0);(try clear hcz32_1);(try clear hcz32_2)
                    (try clear hcz32_3);(try clear hcz32_4);(try clear hcz34_0);(try clear hcz34_1);(try clear hcz34_2);(try clear hcz34_3);(try clear hcz34_4);(try clear hcz36_0);(try clear hcz36_1);(try clear hcz36_2);(try clear hcz36_3);(try clear hcz36_4);(try clear hcz39_0);(try clear hcz39_1);(try clear hcz39_2);(try clear hcz39_3);(try clear hcz39_4);(try clear hcz44_0);(try clear hcz44_1);(try clear hcz44_2);(try clear hcz44_3)
                    (try clear hcz44_4);(try clear hcz46_0);(try clear hcz46_1);(try clear hcz46_2);(try clear hcz46_3);(try clear hcz46_4);(try clear hcz6_0);(try clear hcz6_1);(try clear hcz6_2);(try clear hcz6_3);(try clear hcz6_4);(try clear hcz8_0);(try clear hcz8_1);(try clear hcz8_2);(try clear hcz8_3);(try clear hcz8_4);(try clear hfz18_0);(try clear hfz18_1);(try clear hfz18_2);(try clear hfz18_3);(try clear hfz18_4)
                    (try clear hfz21_0);(try clear hfz21_1);(try clear hfz21_2);(try clear hfz21_3);(try clear hfz21_4);(try clear hfz27_0);(try clear hfz27_1);(try clear hfz27_2);(try clear hfz27_3);(try clear hfz27_4);(try clear hfz32_0);(try clear hfz32_1);(try clear hfz32_2);(try clear hfz32_3);(try clear hfz32_4);(try clear hfz34_0);(try clear hfz34_1);(try clear hfz34_2);(try clear hfz34_3);(try clear hfz34_4);(try clear hfz36_0)
                    (try clear hfz36_1);(try clear hfz36_2);(try clear hfz36_3);(try clear hfz36_4);(try clear hfz39_0);(try clear hfz39_1);(try clear hfz39_2);(try clear hfz39_3);(try clear hfz39_4);(try clear hfz44_0);(try clear hfz44_1);(try clear hfz44_2);(try clear hfz44_3);(try clear hfz44_4);(try clear hfz46_0);(try clear hfz46_1);(try clear hfz46_2);(try clear hfz46_3);(try clear hfz46_4);(try clear hfz6_0);(try clear hfz6_1)
                    (try clear hfz6_2);(try clear hfz6_3);(try clear hfz6_4);(try clear hfz8_0);(try clear hfz8_1);(try clear hfz8_2);(try clear hfz8_3);(try clear hfz8_4);(try clear hx297_0);(try clear hx297_1);(try clear hx302_0);(try clear hx302_1);(try clear hx303_0);(try clear hx319_0);(try clear hx319_1);(try clear hx320_0);(try clear p2);(try clear p29);(try clear p297);(try clear p3);(try clear p30);(try clear p302)
                    (try clear p303);(try clear p319);(try clear p320);(try clear p6);(try clear q2);(try clear q29);(try clear q297);(try clear q3);(try clear q30);(try clear q302);(try clear q303);(try clear q319);(try clear q320)
                    obtain ⟨kq, x92_37, rfl, HA, HJ37, HO_4, HO_9, HO_10, HO_12, BK292, HB⟩ := hcut
                    cases kq with
                    | zero => exact absurd HA.out (by simp [regletref14_Predict.j4])
                    | succ kj37 =>
                     have H := HA.out
                     clear HA
                     simp only [regletref14_Predict.j4] at H
                     by_cases c47 : x92_37 = true
                     · subst c47
                       have H1 : (regletref14_Predict.l3 kj37 x4_1 x9_2 x10_4 x11_2 x12_3 x13_3 x14_4 (wrap64 (x15_4 + 1)) l0_0 l0_1 a0_2 a0_3 l0_4) = some (r1, r2) := by rw [if_pos rfl] at H; exact H
                       clear H
                       have H := H1
                       clear H1
                       have H' := Aside0.mk H
                       clear H
                       go_wp2
                       go_roundg kj37
                       case measure => have := HK1.out; have := HK2.out; have := HK3.out; have := HK4.out; have := HJ37.out; omega
                       case rel => exact ⟨(x10_4), (x14_4), (wrap64 (x15_4 + 1)), (by first | rfl | (simp; done) | (simp [*]; done)), (by first | rfl | (simp; done) | (simp [*]; done)), H', ⟨by have := HK1.out; have := HK2.out; have := HK3.out; have := HK4.out; have := HJ37.out; omega⟩, ⟨by (with_reducible repeat (first | apply Kd.S_alloc | apply Kd.S_drewN | apply Kd.S_drew)); exact HO_4.out⟩, ⟨by (with_reducible repeat (first | apply Kd.S_alloc | apply Kd.S_drewN | apply Kd.S_drew)); exact HO_9.out⟩, ⟨by (with_reducible repeat (first | apply Kd.R_alloc | apply Kd.R_drewN | apply Kd.R_drew)); exact HO_10.out⟩, ⟨by (with_reducible repeat (first | apply Kd.R_alloc | apply Kd.R_drewN | apply Kd.R_drew)); exact HO_12.out⟩, ⟨by (with_reducible repeat (first | refine blk_drewN ?_ _ | refine blk_drew ?_ | refine blk_alloc ?_ _)); exact BK292.out⟩, ⟨by repeat (first | (with_reducible first | exact HB.out | apply below_alloc | apply pw_below_drewN | apply below_drew1 | refine below_set ?_ GE292.out) | exact HB.out)⟩⟩
                     · replace c47 := Bool.eq_false_iff.mpr c47
                       subst c47
                       have H1 : (if x14_4 < 0 then (regletref14_Predict.l3 kj37 x4_1 x9_2 x10_4 x11_2 x12_3 x13_3 x15_4 (wrap64 (x15_4 + 1)) l0_0 l0_1 a0_2 a0_3 l0_4) else (if x10_4.length < 4398046511104 then (regletref14_Predict.l3 kj37 x4_1 x9_2 (x10_4 ++ [(⟨x11_2, x13_3, x14_4, x15_4⟩ : S50)]) x11_2 x12_3 x13_3 x14_4 (wrap64 (x15_4 + 1)) l0_0 l0_1 a0_2 a0_3 l0_4) else (none))) = some (r1, r2) := by rw [if_neg (show ¬ (false = true) by decide)] at H; exact H
                       clear H
                       have H := H1
                       clear H1
                       by_cases c48 : x14_4 < 0
                       · rw [if_pos c48] at H
                         have c48b0 : decide (x14_4 < 0) = true := decide_eq_true c48
                         clear c48
                         have H' := Aside0.mk H
                         clear H
                         go_wp2
                         go_roundg kj37
                         case measure => have := HK1.out; have := HK2.out; have := HK3.out; have := HK4.out; have := HJ37.out; omega
                         case rel => exact ⟨(x10_4), (x15_4), (wrap64 (x15_4 + 1)), (by first | rfl | (simp; done) | (simp [*]; done)), (by first | rfl | (simp; done) | (simp [*]; done)), H', ⟨by have := HK1.out; have := HK2.out; have := HK3.out; have := HK4.out; have := HJ37.out; omega⟩, ⟨by (with_reducible repeat (first | apply Kd.S_alloc | apply Kd.S_drewN | apply Kd.S_drew)); exact HO_4.out⟩, ⟨by (with_reducible repeat (first | apply Kd.S_alloc | apply Kd.S_drewN | apply Kd.S_drew)); exact HO_9.out⟩, ⟨by (with_reducible repeat (first | apply Kd.R_alloc | apply Kd.R_drewN | apply Kd.R_drew)); exact HO_10.out⟩, ⟨by (with_reducible repeat (first | apply Kd.R_alloc | apply Kd.R_drewN | apply Kd.R_drew)); exact HO_12.out⟩, ⟨by (with_reducible repeat (first | refine blk_drewN ?_ _ | refine blk_drew ?_ | refine blk_alloc ?_ _)); exact BK292.out⟩, ⟨by repeat (first | (with_reducible first | exact HB.out | apply below_alloc | apply pw_below_drewN | apply below_drew1 | refine below_set ?_ GE292.out) | exact HB.out)⟩⟩
                       · rw [if_neg c48] at H
                         have c48b0 : decide (x14_4 < 0) = false := decide_eq_false c48
                         clear c48
                         by_cases c49 : x10_4.length < 4398046511104
                         rotate_left
                         · rw [if_neg c49] at H
                           exact absurd H (by simp)
                         rw [if_pos c49] at H
                         have LMc49 := Aside0.mk c49
                         clear c49
                         obtain ⟨y322, hy322⟩ : ∃ y_ : List (S50), y_ = (x10_4 ++ [(⟨x11_2, x13_3, x14_4, x15_4⟩ : S50)]) := ⟨_, rfl⟩
                         replace H : (regletref14_Predict.l3 kj37 x4_1 x9_2 y322 x11_2 x12_3 x13_3 x14_4 (wrap64 (x15_4 + 1)) l0_0 l0_1 a0_2 a0_3 l0_4) = some (r1, r2) := by first | (rw [hy322]; with_reducible exact H) | (have H2_ := (Option.bind_some _ _).symm.trans H; rw [hy322]; with_reducible exact H2_) | (have H2_ := (Option.bind_some _ _).symm.trans H; with_reducible exact H2_) | with_reducible exact H | (rw [hy322]; exact H) | exact H
                         have Ny322 := Aside0.mk hy322
                         clear hy322
                         have H' := Aside0.mk H
                         clear H
                         go_wp2_with (first | ((with_reducible refine gate_builtin (b := .append) (xs := #[.tmp 96, .tmp 102]) rfl ?_); at_builtin; refine Kd.R_append k50 (w0 := w) w.heap.size rfl (.tmp 96) (.tmp 102) 37 50 (.agg #[(.int .i64 0), (.int .i64 0), (.int .i64 0), (.int .i64 0)]) 32 rfl Try.underlying37 info50 rfl (by decide) (by omega) u10 x10_4 (⟨x11_2, x13_3, x14_4, x15_4⟩ : S50) [.int .i64 x11_2, .int .i64 x13_3, .int .i64 x14_4, .int .i64 x15_4] (fun _ => True) (fun _ => False) rfl rfl ?aP (fun _ hk => hk.elim) ?aF ?aO ?aB ?aS ?aL ?_; (case aP => exact k50_mkM _ _ _ (⟨x11_2, x13_3, x14_4, x15_4⟩ : S50)); (case aB => exact (by repeat (first | (with_reducible first | exact HB.out | apply below_alloc | apply pw_below_drewN | apply below_drew1 | refine below_set ?_ GE292.out) | exact HB.out))); (case aF => exact (fun _ _ => trivial)); (case aO => exact (by (with_reducible repeat (first | apply Kd.R_alloc | apply Kd.R_drewN | apply Kd.R_drew)); exact HO_10.out)); (case aS => exact (below_size (by repeat (first | (with_reducible first | exact HB.out | apply below_alloc | apply pw_below_drewN | apply below_drew1 | refine below_set ?_ GE292.out) | exact HB.out)))); (case aL => have := LMc49.out; omega); intro v323 w50 ho hb hg hat; rw [← Ny322.out] at ho; have n0_ := Aside0.mk (Kd.S_over' (by (with_reducible repeat (first | apply Kd.S_alloc | apply Kd.S_drewN | apply Kd.S_drew)); exact HO_4.out) (Kd.R_typed (by (with_reducible repeat (first | apply Kd.R_alloc | apply Kd.R_drewN | apply Kd.R_drew)); exact HO_10.out)) (by decide) hg); have n1_ := Aside0.mk (Kd.S_over' (by (with_reducible repeat (first | apply Kd.S_alloc | apply Kd.S_drewN | apply Kd.S_drew)); exact HO_9.out) (Kd.R_typed (by (with_reducible repeat (first | apply Kd.R_alloc | apply Kd.R_drewN | apply Kd.R_drew)); exact HO_10.out)) (by decide) hg); have n2_ := Aside0.mk (Kd.R_over' (by (with_reducible repeat (first | apply Kd.R_alloc | apply Kd.R_drewN | apply Kd.R_drew)); exact HO_12.out) (Kd.R_typed (by (with_reducible repeat (first | apply Kd.R_alloc | apply Kd.R_drewN | apply Kd.R_drew)); exact HO_10.out)) (by decide) hg); have n3_ := Aside0.mk (blk_grown (g := gb292) (o := .cells #[.slice A0_0 l0_0.length c0_0, .slice A0_1 l0_1.length c0_1, .int .i64 a0_2, .int .i64 a0_3, .slice A0_4 l0_4.length c0_4] 26 (0, 0)) (by (with_reducible repeat (first | refine blk_drewN ?_ _ | refine blk_drew ?_ | refine blk_alloc ?_ _)); exact BK292.out) hg (Kd.R_ne HO_10.out BK292.out (by decide))); have n4_ := Aside0.mk (hb); have n5_ := Aside0.mk (ho); clear HO_4; clear HO_9; clear HO_12; clear BK292; clear HB; clear HO_10; have HO_4 := n0_; have HO_9 := n1_; have HO_12 := n2_; have BK292 := n3_; have HB := n4_; have HO324 := n5_; clear n0_ n1_ n2_ n3_ n4_ n5_; clear ho hb hg hat))
                         go_roundg kj37
                         case measure => have := HK1.out; have := HK2.out; have := HK3.out; have := HK4.out; have := HJ37.out; omega
                         case rel => exact ⟨(y322), (x14_4), (wrap64 (x15_4 + 1)), (by first | rfl | (simp; done) | (simp [*]; done)), (by first | rfl | (simp; done) | (simp [*]; done)), H', ⟨by have := HK1.out; have := HK2.out; have := HK3.out; have := HK4.out; have := HJ37.out; omega⟩, ⟨by (with_reducible repeat (first | apply Kd.S_alloc | apply Kd.S_drewN | apply Kd.S_drew)); exact HO_4.out⟩, ⟨by (with_reducible repeat (first | apply Kd.S_alloc | apply Kd.S_drewN | apply Kd.S_drew)); exact HO_9.out⟩, ⟨by (with_reducible repeat (first | apply Kd.R_alloc | apply Kd.R_drewN | apply Kd.R_drew)); exact HO324.out⟩, ⟨by (with_reducible repeat (first | apply Kd.R_alloc | apply Kd.R_drewN | apply Kd.R_drew)); exact HO_12.out⟩, ⟨by (with_reducible repeat (first | refine blk_drewN ?_ _ | refine blk_drew ?_ | refine blk_alloc ?_ _)); exact BK292.out⟩, ⟨by repeat (first | (with_reducible first | exact HB.out | apply below_alloc | apply pw_below_drewN | apply below_drew1 | refine below_set ?_ GE292.out) | exact HB.out)⟩⟩
                 · rw [if_neg c37] at H
                   have c37b0 : decide (x15_4 < (l0_4.length : Int)) = false := decide_eq_false c37
                   clear c37
                   by_cases c51 : x12_3.length < 17592186044416
                   rotate_left
                   · rw [if_neg c51] at H
                     exact absurd H (by simp)
                   rw [if_pos c51] at H
                   have LMc51 := Aside0.mk c51
                   clear c51
                   obtain ⟨y316, hy316⟩ : ∃ y_ : List Int, y_ = (x12_3 ++ [x14_4]) := ⟨_, rfl⟩
                   replace H : (regletref14_Predict.l2 k4 x4_1 x9_2 x10_4 x11_2 y316 (wrap64 (x13_3 + 1)) l0_0 l0_1 a0_2 a0_3 l0_4) = some (r1, r2) := by first | (rw [hy316]; with_reducible exact H) | (have H2_ := (Option.bind_some _ _).symm.trans H; rw [hy316]; with_reducible exact H2_) | (have H2_ := (Option.bind_some _ _).symm.trans H; with_reducible exact H2_) | with_reducible exact H | (rw [hy316]; exact H) | exact H
                   have Ny316 := Aside0.mk hy316
                   clear hy316
                   have H' := Aside0.mk H
                   clear H
                   have hcz52_0 : wr.cell? ⟨gb292, 0, none⟩ = some (.slice A0_0 l0_0.length c0_0) := (blk_cell BK292.out 0).trans rfl
                   have hcz52_1 : wr.cell? ⟨gb292, 1, none⟩ = some (.slice A0_1 l0_1.length c0_1) := (blk_cell BK292.out 1).trans rfl
                   have hcz52_2 : wr.cell? ⟨gb292, 2, none⟩ = some (.int .i64 a0_2) := (blk_cell BK292.out 2).trans rfl
                   have hcz52_3 : wr.cell? ⟨gb292, 3, none⟩ = some (.int .i64 a0_3) := (blk_cell BK292.out 3).trans rfl
                   have hcz52_4 : wr.cell? ⟨gb292, 4, none⟩ = some (.slice A0_4 l0_4.length c0_4) := (blk_cell BK292.out 4).trans rfl
                   have hfz52_0 := blk_frozen BK292.out 0
                   have hfz52_1 := blk_frozen BK292.out 1
                   have hfz52_2 := blk_frozen BK292.out 2
                   have hfz52_3 := blk_frozen BK292.out 3
                   have hfz52_4 := blk_frozen BK292.out 4
                   go_wp2_with (first | ((with_reducible refine gate_builtin (b := .append) (xs := #[.tmp 104, .tmp 106]) rfl ?_); at_builtin; refine Kd.R_append (Kd.int .i64) (w0 := w) w.heap.size rfl (.tmp 104) (.tmp 106) 43 3 (.int .i64 0) 8 rfl Try.underlying43 info3 rfl (by decide) (by omega) u12 x12_3 x14_4 [.int .i64 x14_4] (fun _ => True) (fun _ => False) rfl rfl ?aP (fun _ hk => hk.elim) ?aF ?aO ?aB ?aS ?aL ?_; (case aP => exact rfl); (case aB => exact (by repeat (first | (with_reducible first | exact HB.out | apply below_alloc | apply pw_below_drewN | apply below_drew1 | refine below_set ?_ GE292.out) | exact HB.out))); (case aF => exact (fun _ _ => trivial)); (case aO => exact (by (with_reducible repeat (first | apply Kd.R_alloc | apply Kd.R_drewN | apply Kd.R_drew)); exact HO_12.out)); (case aS => exact (below_size (by repeat (first | (with_reducible first | exact HB.out | apply below_alloc | apply pw_below_drewN | apply below_drew1 | refine below_set ?_ GE292.out) | exact HB.out)))); (case aL => have := LMc51.out; omega); intro v317 w53 ho hb hg hat; rw [← Ny316.out] at ho; have n0_ := Aside0.mk (Kd.S_after (ok := (fun k_ => some k_ ≠ (u9 : Value).ownBlock)) (by (with_reducible repeat (first | apply Kd.S_alloc | apply Kd.S_drewN | apply Kd.S_drew)); exact HO_4.out) hg hat); have n1_ := Aside0.mk (Kd.S_after (ok := (fun k_ => some k_ ≠ (u4 : Value).ownBlock)) (by (with_reducible repeat (first | apply Kd.S_alloc | apply Kd.S_drewN | apply Kd.S_drew)); exact HO_9.out) hg hat); have n2_ := Aside0.mk (Kd.R_over' (by (with_reducible repeat (first | apply Kd.R_alloc | apply Kd.R_drewN | apply Kd.R_drew)); exact HO_10.out) (Kd.R_typed (by (with_reducible repeat (first | apply Kd.R_alloc | apply Kd.R_drewN | apply Kd.R_drew)); exact HO_12.out)) (by decide) hg); have n3_ := Aside0.mk (blk_grown (g := gb292) (o := .cells #[.slice A0_0 l0_0.length c0_0, .slice A0_1 l0_1.length c0_1, .int .i64 a0_2, .int .i64 a0_3, .slice A0_4 l0_4.length c0_4] 26 (0, 0)) (by (with_reducible repeat (first | refine blk_drewN ?_ _ | refine blk_drew ?_ | refine blk_alloc ?_ _)); exact BK292.out) hg (Kd.R_ne HO_12.out BK292.out (by decide))); have n4_ := Aside0.mk (hb); have n5_ := Aside0.mk (ho); clear HO_4; clear HO_9; clear HO_10; clear BK292; clear HB; clear HO_12; have HO_4 := n0_; have HO_9 := n1_; have HO_10 := n2_; have BK292 := n3_; have HB := n4_; have HO318 := n5_; clear n0_ n1_ n2_ n3_ n4_ n5_; clear ho hb hg hat))
                   go_roundg k4
                   case measure => have := HK1.out; have := HK2.out; have := HK3.out; have := HK4.out; omega
                   case rel => exact ⟨(x10_4), (y316), (wrap64 (x13_3 + 1)), (by first | rfl | (simp; done) | (simp [*]; done)), H', ⟨by have := HK1.out; have := HK2.out; have := HK3.out; have := HK4.out; omega⟩, ⟨by (with_reducible repeat (first | apply Kd.S_alloc | apply Kd.S_drewN | apply Kd.S_drew)); exact HO_4.out⟩, ⟨by (with_reducible repeat (first | apply Kd.S_alloc | apply Kd.S_drewN | apply Kd.S_drew)); exact HO_9.out⟩, ⟨by (with_reducible repeat (first | apply Kd.R_alloc | apply Kd.R_drewN | apply Kd.R_drew)); exact HO_10.out⟩, ⟨by (with_reducible repeat (first | apply Kd.R_alloc | apply Kd.R_drewN | apply Kd.R_drew)); exact HO318.out⟩, ⟨by (with_reducible repeat (first | refine blk_drewN ?_ _ | refine blk_drew ?_ | refine blk_alloc ?_ _)); exact BK292.out⟩, ⟨by repeat (first | (with_reducible first | exact HB.out | apply below_alloc | apply pw_below_drewN | apply below_drew1 | refine below_set ?_ GE292.out) | exact HB.out)⟩⟩
             · rw [if_neg c35] at H
               have c35b0 : decide (x13_3 ≤ (l0_1.length : Int)) = false := decide_eq_false c35
               clear c35
               by_cases c54 : x9_2.length < 5864062014805
               rotate_left
               · rw [if_neg c54] at H
                 exact absurd H (by simp)
               rw [if_pos c54] at H
               have LMc54 := Aside0.mk c54
               clear c54
               obtain ⟨y313, hy313⟩ : ∃ y_ : List (List Int), y_ = (x9_2 ++ [x12_3]) := ⟨_, rfl⟩
               replace H : (regletref14_Predict.l1 k3 x4_1 y313 x10_3 (wrap64 (x11_2 + 1)) l0_0 l0_1 a0_2 a0_3 l0_4) = some (r1, r2) := by first | (rw [hy313]; with_reducible exact H) | (have H2_ := (Option.bind_some _ _).symm.trans H; rw [hy313]; with_reducible exact H2_) | (have H2_ := (Option.bind_some _ _).symm.trans H; with_reducible exact H2_) | with_reducible exact H | (rw [hy313]; exact H) | exact H
               have Ny313 := Aside0.mk hy313
               clear hy313
               have H' := Aside0.mk H
               clear H
               have hcz55_0 : wr.cell? ⟨gb292, 0, none⟩ = some (.slice A0_0 l0_0.length c0_0) := (blk_cell BK292.out 0).trans rfl
               have hcz55_1 : wr.cell? ⟨gb292, 1, none⟩ = some (.slice A0_1 l0_1.length c0_1) := (blk_cell BK292.out 1).trans rfl
               have hcz55_2 : wr.cell? ⟨gb292, 2, none⟩ = some (.int .i64 a0_2) := (blk_cell BK292.out 2).trans rfl
               have hcz55_3 : wr.cell? ⟨gb292, 3, none⟩ = some (.int .i64 a0_3) := (blk_cell BK292.out 3).trans rfl
               have hcz55_4 : wr.cell? ⟨gb292, 4, none⟩ = some (.slice A0_4 l0_4.length c0_4) := (blk_cell BK292.out 4).trans rfl
               have hfz55_0 := blk_frozen BK292.out 0
               have hfz55_1 := blk_frozen BK292.out 1
               have hfz55_2 := blk_frozen BK292.out 2
               have hfz55_3 := blk_frozen BK292.out 3
               have hfz55_4 := blk_frozen BK292.out 4
               obtain ⟨Ao57, co57, eo57⟩ := Kd.R_slice HO_12.out
               subst eo57
               go_wp2_with (first | ((with_reducible refine gate_builtin (b := .append) (xs := #[.tmp 108, .tmp 110]) rfl ?_); at_builtin; refine Kd.S_append (Kd.slice 3 (Kd.int .i64)) (w0 := w) w.heap.size rfl (.tmp 108) (.tmp 110) 36 43 (.slice none 0 0) 24 rfl Try.underlying36 info43 rfl (by decide) (by omega) u9 x9_2 x12_3 [.slice Ao57 x12_3.length co57] (fun k_ => some k_ ≠ (u4 : Value).ownBlock) (fun k_ => some k_ = (.slice Ao57 x12_3.length co57 : Value).ownBlock) rfl rfl ?aP (fun k_ hk_ => ((Kd.R_mono (ok' := fun k_ => ((fun k_ => some k_ ≠ (u4 : Value).ownBlock)) k_ ∧ some k_ ≠ (u9 : Value).ownBlock) (Kd.R_apart' (Kd.R_apart' (HO_12.out) (Kd.S_typed HO_4.out) (by decide)) (Kd.S_typed HO_9.out) (by decide)) (fun k_ hk => ⟨hk.1.2, hk.2⟩))).1 k_ hk_.symm) ?aF ?aO ?aB ?aS ?aL ?_; (case aP => exact Kd.M_row (Kd.R_mono (Kd.R_tight rfl (Kd.R_mono (ok' := fun k_ => ((fun k_ => some k_ ≠ (u4 : Value).ownBlock)) k_ ∧ some k_ ≠ (u9 : Value).ownBlock) (Kd.R_apart' (Kd.R_apart' (HO_12.out) (Kd.S_typed HO_4.out) (by decide)) (Kd.S_typed HO_9.out) (by decide)) (fun k_ hk => ⟨hk.1.2, hk.2⟩))) (fun _ h_ => h_))); (case aB => exact (by repeat (first | (with_reducible first | exact HB.out | apply below_alloc | apply pw_below_drewN | apply below_drew1 | refine below_set ?_ GE292.out) | exact HB.out))); (case aF => exact (fun k_ hk => Kd.fresh' (Kd.S_lt (by (with_reducible repeat (first | apply Kd.S_alloc | apply Kd.S_drewN | apply Kd.S_drew)); exact HO_4.out)) k_ hk)); (case aO => exact (by (with_reducible repeat (first | apply Kd.S_alloc | apply Kd.S_drewN | apply Kd.S_drew)); exact Kd.S_mono HO_9.out (fun k_ hk => ⟨hk.1, fun e_ => hk.2 e_⟩))); (case aS => exact (below_size (by repeat (first | (with_reducible first | exact HB.out | apply below_alloc | apply pw_below_drewN | apply below_drew1 | refine below_set ?_ GE292.out) | exact HB.out)))); (case aL => have := LMc54.out; omega); intro v314 w56 ho hb hg hat; rw [← Ny313.out] at ho; have n0_ := Aside0.mk (Kd.S_after (ok := (fun k_ => some k_ ≠ (.slice Ao57 x12_3.length co57 : Value).ownBlock)) (by (with_reducible repeat (first | apply Kd.S_alloc | apply Kd.S_drewN | apply Kd.S_drew)); exact Kd.S_mono HO_4.out (fun _ hk => ⟨hk.2, hk.1⟩)) hg hat); have n1_ := Aside0.mk (Kd.R_over' (by (with_reducible repeat (first | apply Kd.R_alloc | apply Kd.R_drewN | apply Kd.R_drew)); exact HO_10.out) (Kd.S_typed (by (with_reducible repeat (first | apply Kd.S_alloc | apply Kd.S_drewN | apply Kd.S_drew)); exact HO_9.out)) (by decide) hg); have n2_ := Aside0.mk (blk_grown (g := gb292) (o := .cells #[.slice A0_0 l0_0.length c0_0, .slice A0_1 l0_1.length c0_1, .int .i64 a0_2, .int .i64 a0_3, .slice A0_4 l0_4.length c0_4] 26 (0, 0)) (by (with_reducible repeat (first | refine blk_drewN ?_ _ | refine blk_drew ?_ | refine blk_alloc ?_ _)); exact BK292.out) hg (Kd.S_ne HO_9.out BK292.out (by decide))); have n3_ := Aside0.mk (hb); have n4_ := Aside0.mk (ho); clear HO_4; clear HO_10; clear BK292; clear HB; clear HO_9; clear HO_12; have HO_4 := n0_; have HO_10 := n1_; have BK292 := n2_; have HB := n3_; have HO315 := n4_; clear n0_ n1_ n2_ n3_ n4_; clear ho hb hg hat))
               go_roundg k3
               case measure => have := HK1.out; have := HK2.out; have := HK3.out; omega
               case rel => exact ⟨(y313), (x10_3), (wrap64 (x11_2 + 1)), (by first | rfl | (simp; done) | (simp [*]; done)), H', ⟨by have := HK1.out; have := HK2.out; have := HK3.out; omega⟩, ⟨by (with_reducible repeat (first | apply Kd.S_alloc | apply Kd.S_drewN | apply Kd.S_drew)); exact Kd.S_mono HO_4.out (fun _ hk => hk.2)⟩, ⟨by (with_reducible repeat (first | apply Kd.S_alloc | apply Kd.S_drewN | apply Kd.S_drew)); exact HO315.out⟩, ⟨by (with_reducible repeat (first | apply Kd.R_alloc | apply Kd.R_drewN | apply Kd.R_drew)); exact HO_10.out⟩, ⟨by (with_reducible repeat (first | refine blk_drewN ?_ _ | refine blk_drew ?_ | refine blk_alloc ?_ _)); exact BK292.out⟩, ⟨by repeat (first | (with_reducible first | exact HB.out | apply below_alloc | apply pw_below_drewN | apply below_drew1 | refine below_set ?_ GE292.out) | exact HB.out)⟩⟩
         · rw [if_neg c33] at H
           have c33b0 : decide (x11_2 < (l0_0.length : Int)) = false := decide_eq_false c33
           clear c33
           simp only [Option.some.injEq, Prod.mk.injEq] at H
           obtain ⟨rfl, rfl⟩ := H
           have hcz58_0 : wr.cell? ⟨gb292, 0, none⟩ = some (.slice A0_0 l0_0.length c0_0) := (blk_cell BK292.out 0).trans rfl
           have hcz58_1 : wr.cell? ⟨gb292, 1, none⟩ = some (.slice A0_1 l0_1.length c0_1) := (blk_cell BK292.out 1).trans rfl
           have hcz58_2 : wr.cell? ⟨gb292, 2, none⟩ = some (.int .i64 a0_2) := (blk_cell BK292.out 2).trans rfl
           have hcz58_3 : wr.cell? ⟨gb292, 3, none⟩ = some (.int .i64 a0_3) := (blk_cell BK292.out 3).trans rfl
           have hcz58_4 : wr.cell? ⟨gb292, 4, none⟩ = some (.slice A0_4 l0_4.length c0_4) := (blk_cell BK292.out 4).trans rfl
           have hfz58_0 := blk_frozen BK292.out 0
           have hfz58_1 := blk_frozen BK292.out 1
           have hfz58_2 := blk_frozen BK292.out 2
           have hfz58_3 := blk_frozen BK292.out 3
           have hfz58_4 := blk_frozen BK292.out 4
           go_wp2
           go_ret2
           exact ⟨_, _, by first | rfl | (simp [errW_none, errW_some] <;> rfl) | (simp [*, errW_none, errW_some] <;> rfl), by (with_reducible repeat (first | apply Kd.S_alloc | apply Kd.S_drewN | apply Kd.S_drew)); exact Kd.S_mono HO_9.out (fun _ hk => trivial), by (with_reducible repeat (first | apply Kd.R_alloc | apply Kd.R_drewN | apply Kd.R_drew)); exact HO_10.out, by repeat (first | (with_reducible first | exact HB.out | apply below_alloc | apply pw_below_drewN | apply below_drew1 | refine below_set ?_ GE292.out) | exact HB.out)⟩
 · replace c3 := Bool.eq_false_iff.mpr c3
   subst c3
   have H1 : (some (([] : List (List Int)), ([] : List (S50)))) = some (r1, r2) := by rw [if_neg (show ¬ (false = true) by decide)] at H; exact H
   clear H
   have H := H1
   clear H1
   simp only [Option.some.injEq, Prod.mk.injEq] at H
   obtain ⟨rfl, rfl⟩ := H
   go_enter Try.func19, Try.ntmps19
   go_wp2_with (first | ((with_reducible refine gate_dst (N := 1) rfl ?_); refine box_event ?hg (N := 1) ?hd (cs := #[.slice A0_0 l0_0.length c0_0, .slice A0_1 l0_1.length c0_1, .int .i64 a0_2, .int .i64 a0_3, .slice A0_4 l0_4.length c0_4]) (t := 26) ?hr ?_; (case hd => rfl); (case hg => rfl); (case hr => first | (go_simp; done) | (go_simp; rfl)); intro gb292 hg w59 hbox hb; have n0_ := Aside0.mk (below_step (by repeat (first | (with_reducible first | exact HB.out | apply below_alloc | apply pw_below_drewN | apply below_drew1) | exact HB.out)) hb); have n1_ := Aside0.mk (hbox); have n2_ := Aside0.mk ((by rw [hg]; exact (below_size (by repeat (first | (with_reducible first | exact HB.out | apply below_alloc | apply pw_below_drewN | apply below_drew1) | exact HB.out))) : w.heap.size ≤ gb292)); have n3_ := Aside0.mk ((by rw [hg]; exact (below_size (by repeat (first | (with_reducible first | exact HB.out | apply below_alloc | apply pw_below_drewN | apply below_drew1) | exact HB.out))) : w.heap.size ≤ gb292)); clear HB; have HB := n0_; have BK292 := n1_; have GW292 := n2_; have GE292 := n3_; clear n0_ n1_ n2_ n3_; clear hb hbox hg; have hcz60_0 : w59.cell? ⟨gb292, 0, none⟩ = some (.slice A0_0 l0_0.length c0_0) := (blk_cell BK292.out 0).trans rfl; have hcz60_1 : w59.cell? ⟨gb292, 1, none⟩ = some (.slice A0_1 l0_1.length c0_1) := (blk_cell BK292.out 1).trans rfl; have hcz60_2 : w59.cell? ⟨gb292, 2, none⟩ = some (.int .i64 a0_2) := (blk_cell BK292.out 2).trans rfl; have hcz60_3 : w59.cell? ⟨gb292, 3, none⟩ = some (.int .i64 a0_3) := (blk_cell BK292.out 3).trans rfl; have hcz60_4 : w59.cell? ⟨gb292, 4, none⟩ = some (.slice A0_4 l0_4.length c0_4) := (blk_cell BK292.out 4).trans rfl; have hfz60_0 := blk_frozen BK292.out 0; have hfz60_1 := blk_frozen BK292.out 1; have hfz60_2 := blk_frozen BK292.out 2; have hfz60_3 := blk_frozen BK292.out 3; have hfz60_4 := blk_frozen BK292.out 4) | ((with_reducible refine gate_callee (f := 25) rfl ?_); refine goesL_ (some 17) rfl rfl Try.func25 (by kernel_rfl) rfl #[.agg #[.slice A0_0 l0_0.length c0_0, .slice A0_1 l0_1.length c0_1, .int .i64 a0_2, .int .i64 a0_3, .slice A0_4 l0_4.length c0_4]] rfl (by (try simp only [List.map_toArray, List.map_cons, List.map_nil]); first | done | rfl | (simp only [List.length_drop, List.length_take]; rfl)) ?_; (with_reducible refine (regletref13_Right.calls k _ _ l0_0 _ _ l0_1 a0_2 a0_3 _ _ l0_4 false _ ?side1 ?side2 ?side3 ?side4 ?side5 ?side6 A2.out).mono ?_); (case side1 => repeat (first | exact (Kd.C_below HR0_0.out HB.out) | (with_reducible refine Kd.C_alloc ?_ _) | (with_reducible refine Kd.C_drewN ?_ _) | (with_reducible refine Kd.C_drew ?_))); (case side2 => exact HC0_0.out); (case side3 => repeat (first | exact (Kd.C_below HR0_1.out HB.out) | (with_reducible refine Kd.C_alloc ?_ _) | (with_reducible refine Kd.C_drewN ?_ _) | (with_reducible refine Kd.C_drew ?_))); (case side4 => exact HC0_1.out); (case side5 => repeat (first | exact (Kd.C_below HR0_4.out HB.out) | (with_reducible refine Kd.C_alloc ?_ _) | (with_reducible refine Kd.C_drewN ?_ _) | (with_reducible refine Kd.C_drew ?_))); (case side6 => exact HC0_4.out); rintro e w61 ⟨rfl, hb⟩; refine ⟨_, rfl, ?_⟩; have n0_ := Aside0.mk (blk_below (g := gb292) (o := .cells #[.slice A0_0 l0_0.length c0_0, .slice A0_1 l0_1.length c0_1, .int .i64 a0_2, .int .i64 a0_3, .slice A0_4 l0_4.length c0_4] 26 (0, 0)) (by (with_reducible repeat (first | refine blk_drewN ?_ _ | refine blk_drew ?_ | refine blk_alloc ?_ _)); exact BK292.out) hb); have n1_ := Aside0.mk (below_step (by repeat (first | (with_reducible first | exact HB.out | apply below_alloc | apply pw_below_drewN | apply below_drew1 | refine below_set ?_ GE292.out) | exact HB.out)) hb); clear BK292; clear HB; have BK292 := n0_; have HB := n1_; clear n0_ n1_; (try clear hb); (try clear hb2); (try clear hk); (try clear hi)))
   go_ret2
   exact ⟨_, _, by first | rfl | (simp [errW_none, errW_some] <;> rfl) | (simp [*, errW_none, errW_some] <;> rfl), by first | exact Kd.S_nil _ _ _ _ _ | exact Kd.N_nil _ _ _ _ _ | exact Kd.V_nil _ _ _ _ _ | exact Kd.Q_nil _ _ _ _ _ | exact Kd.R_nil _ _ _ _ _, by first | exact Kd.R_nil _ _ _ _ _ | exact Kd.N_nil _ _ _ _ _ | exact Kd.V_nil _ _ _ _ _ | exact Kd.Q_nil _ _ _ _ _ | exact Kd.S_nil _ _ _ _ _, by repeat (first | (with_reducible first | exact HB.out | apply below_alloc | apply pw_below_drewN | apply below_drew1 | refine below_set ?_ GE292.out) | exact HB.out)⟩
attribute [local go_sem] max2_int min2_int max_two min_two max_three min_three max_four min_four   -- for this text's walks alone
set_option linter.unusedVariables false
set_option linter.unusedSimpArgs false
def regletlaw14_same.f (k : Nat) (l0_0 : List ByteArray) (l0_1 : List (S61)) (a0_2 : Int) (a0_3 : Int) (l0_4 : List (S30)) : Option (Bool) := (predict_Predict.f k l0_0 l0_1 a0_2 a0_3 l0_4).bind fun bt328 => ((regletref14_Predict.f k l0_0 l0_1 a0_2 a0_3 l0_4).bind fun bt334 => ((regletref13_SameLists.f k bt328.1 bt334.1).bind fun t340 => (if t340 = true then ((regletref14_SameClashes.f k bt328.2 bt334.2).bind fun t341 => (some t341)) else (none))))
set_option maxHeartbeats 8000000 in
set_option maxRecDepth 100000 in
theorem regletlaw14_same.calls (k : Nat) (A0_0 : Option Addr) (c0_0 : Nat) (l0_0 : List ByteArray) (A0_1 : Option Addr) (c0_1 : Nat) (l0_1 : List (S61)) (a0_2 : Int) (a0_3 : Int) (A0_4 : Option Addr) (c0_4 : Nat) (l0_4 : List (S30)) (r : Bool) (w : World) (hr0_0 : Kd.C Kd.string w A0_0 l0_0.length l0_0) (hc0_0 : l0_0.length ≤ c0_0) (hr0_1 : Kd.C k61 w A0_1 l0_1.length l0_1) (hc0_1 : l0_1.length ≤ c0_1) (hr0_4 : Kd.C k30 w A0_4 l0_4.length l0_4) (hc0_4 : l0_4.length ≤ c0_4) (h : regletlaw14_same.f k l0_0 l0_1 a0_2 a0_3 l0_4 = some r) :
    Calls Try.prog 10 #[.agg #[.slice A0_0 l0_0.length c0_0, .slice A0_1 l0_1.length c0_1, .int .i64 a0_2, .int .i64 a0_3, .slice A0_4 l0_4.length c0_4]] w fun e w' => e = .returned (.bool r) ∧ Below w.heap.size w w' := by
 have hu26 := Try.underlying26
 have HR0_0 := Aside0.mk hr0_0
 have HC0_0 := Aside0.mk hc0_0
 clear hr0_0 hc0_0
 have HR0_1 := Aside0.mk hr0_1
 have HC0_1 := Aside0.mk hc0_1
 clear hr0_1 hc0_1
 have HR0_4 := Aside0.mk hr0_4
 have HC0_4 := Aside0.mk hc0_4
 clear hr0_4 hc0_4
 have HB := Aside0.mk (Below.refl w.heap.size w)
 have H : ((predict_Predict.f k l0_0 l0_1 a0_2 a0_3 l0_4).bind fun bt328 => ((regletref14_Predict.f k l0_0 l0_1 a0_2 a0_3 l0_4).bind fun bt334 => ((regletref13_SameLists.f k bt328.1 bt334.1).bind fun t340 => (if t340 = true then ((regletref14_SameClashes.f k bt328.2 bt334.2).bind fun t341 => (some t341)) else (none))))) = some r := h
 clear h
 replace H := Option.bind_eq_some_iff.mp H
 obtain ⟨⟨t328, t331⟩, A20, H⟩ := H
 replace H : ((regletref14_Predict.f k l0_0 l0_1 a0_2 a0_3 l0_4).bind fun bt334 => ((regletref13_SameLists.f k t328 bt334.1).bind fun t340 => (if t340 = true then ((regletref14_SameClashes.f k t331 bt334.2).bind fun t341 => (some t341)) else (none)))) = some r := H
 have A2 := Aside0.mk A20
 clear A20
 replace H := Option.bind_eq_some_iff.mp H
 obtain ⟨⟨t334, t337⟩, A30, H⟩ := H
 replace H : ((regletref13_SameLists.f k t328 t334).bind fun t340 => (if t340 = true then ((regletref14_SameClashes.f k t331 t337).bind fun t341 => (some t341)) else (none))) = some r := H
 have A3 := Aside0.mk A30
 clear A30
 replace H := Option.bind_eq_some_iff.mp H
 obtain ⟨t340, A40, H⟩ := H
 replace H : (if t340 = true then ((regletref14_SameClashes.f k t331 t337).bind fun t341 => (some t341)) else (none)) = some r := H
 have A4 := Aside0.mk A40
 clear A40
 by_cases c5 : t340 = true
 · subst c5
   have H1 : ((regletref14_SameClashes.f k t331 t337).bind fun t341 => (some t341)) = some r := by rw [if_pos rfl] at H; exact H
   clear H
   have H := H1
   clear H1
   replace H := Option.bind_eq_some_iff.mp H
   obtain ⟨t341, A60, H⟩ := H
   replace H : (some t341) = some r := H
   have A6 := Aside0.mk A60
   clear A60
   obtain rfl := Option.some.inj H
   go_enter Try.func10, Try.ntmps10
   go_wp2_with (first | ((with_reducible refine gate_dst (N := 1) rfl ?_); refine box_event ?hg (N := 1) ?hd (cs := #[.slice A0_0 l0_0.length c0_0, .slice A0_1 l0_1.length c0_1, .int .i64 a0_2, .int .i64 a0_3, .slice A0_4 l0_4.length c0_4]) (t := 26) ?hr ?_; (case hd => rfl); (case hg => rfl); (case hr => first | (go_simp; done) | (go_simp; rfl)); intro gb327 hg w7 hbox hb; have n0_ := Aside0.mk (below_step (by repeat (first | (with_reducible first | exact HB.out | apply below_alloc | apply pw_below_drewN | apply below_drew1) | exact HB.out)) hb); have n1_ := Aside0.mk (hbox); have n2_ := Aside0.mk ((by rw [hg]; exact (below_size (by repeat (first | (with_reducible first | exact HB.out | apply below_alloc | apply pw_below_drewN | apply below_drew1) | exact HB.out))) : w.heap.size ≤ gb327)); have n3_ := Aside0.mk ((by rw [hg]; exact (below_size (by repeat (first | (with_reducible first | exact HB.out | apply below_alloc | apply pw_below_drewN | apply below_drew1) | exact HB.out))) : w.heap.size ≤ gb327)); clear HB; have HB := n0_; have BK327 := n1_; have GW327 := n2_; have GE327 := n3_; clear n0_ n1_ n2_ n3_; clear hb hbox hg; have hcz8_0 : w7.cell? ⟨gb327, 0, none⟩ = some (.slice A0_0 l0_0.length c0_0) := (blk_cell BK327.out 0).trans rfl; have hcz8_1 : w7.cell? ⟨gb327, 1, none⟩ = some (.slice A0_1 l0_1.length c0_1) := (blk_cell BK327.out 1).trans rfl; have hcz8_2 : w7.cell? ⟨gb327, 2, none⟩ = some (.int .i64 a0_2) := (blk_cell BK327.out 2).trans rfl; have hcz8_3 : w7.cell? ⟨gb327, 3, none⟩ = some (.int .i64 a0_3) := (blk_cell BK327.out 3).trans rfl; have hcz8_4 : w7.cell? ⟨gb327, 4, none⟩ = some (.slice A0_4 l0_4.length c0_4) := (blk_cell BK327.out 4).trans rfl; have hfz8_0 := blk_frozen BK327.out 0; have hfz8_1 := blk_frozen BK327.out 1; have hfz8_2 := blk_frozen BK327.out 2; have hfz8_3 := blk_frozen BK327.out 3; have hfz8_4 := blk_frozen BK327.out 4) | ((with_reducible refine gate_callee (f := 13) rfl ?_); refine goesL_ (some 9) rfl rfl Try.func13 (by kernel_rfl) rfl #[.agg #[.slice A0_0 l0_0.length c0_0, .slice A0_1 l0_1.length c0_1, .int .i64 a0_2, .int .i64 a0_3, .slice A0_4 l0_4.length c0_4]] rfl (by (try simp only [List.map_toArray, List.map_cons, List.map_nil]); first | done | rfl | (simp only [List.length_drop, List.length_take]; rfl)) ?_; (with_reducible refine (predict_Predict.calls k _ _ l0_0 _ _ l0_1 a0_2 a0_3 _ _ l0_4 t328 t331 _ ?side1 ?side2 ?side3 ?side4 ?side5 ?side6 A2.out).mono ?_); (case side1 => repeat (first | exact (Kd.C_below HR0_0.out HB.out) | (with_reducible refine Kd.C_alloc ?_ _) | (with_reducible refine Kd.C_drewN ?_ _) | (with_reducible refine Kd.C_drew ?_))); (case side2 => exact HC0_0.out); (case side3 => repeat (first | exact (Kd.C_below HR0_1.out HB.out) | (with_reducible refine Kd.C_alloc ?_ _) | (with_reducible refine Kd.C_drewN ?_ _) | (with_reducible refine Kd.C_drew ?_))); (case side4 => exact HC0_1.out); (case side5 => repeat (first | exact (Kd.C_below HR0_4.out HB.out) | (with_reducible refine Kd.C_alloc ?_ _) | (with_reducible refine Kd.C_drewN ?_ _) | (with_reducible refine Kd.C_drew ?_))); (case side6 => exact HC0_4.out); rintro e w9 ⟨v329, v332, rfl, ho0, ho1, hb⟩; refine ⟨_, rfl, ?_⟩; have n0_ := Aside0.mk (Kd.S_lower ho0 (below_size (by repeat (first | (with_reducible first | exact HB.out | apply below_alloc | apply pw_below_drewN | apply below_drew1 | refine below_set ?_ GE327.out) | exact HB.out)))); have n1_ := Aside0.mk (Kd.R_lower ho1 (below_size (by repeat (first | (with_reducible first | exact HB.out | apply below_alloc | apply pw_below_drewN | apply below_drew1 | refine below_set ?_ GE327.out) | exact HB.out)))); have n2_ := Aside0.mk (blk_below (g := gb327) (o := .cells #[.slice A0_0 l0_0.length c0_0, .slice A0_1 l0_1.length c0_1, .int .i64 a0_2, .int .i64 a0_3, .slice A0_4 l0_4.length c0_4] 26 (0, 0)) (by (with_reducible repeat (first | refine blk_drewN ?_ _ | refine blk_drew ?_ | refine blk_alloc ?_ _)); exact BK327.out) hb); have n3_ := Aside0.mk (below_step (by repeat (first | (with_reducible first | exact HB.out | apply below_alloc | apply pw_below_drewN | apply below_drew1 | refine below_set ?_ GE327.out) | exact HB.out)) hb); clear BK327; clear HB; have HO330 := n0_; have HO333 := n1_; have BK327 := n2_; have HB := n3_; clear n0_ n1_ n2_ n3_; (try clear hb); (try clear hb2); (try clear hk); (try clear hi); (try clear ho0); (try clear ho1); have hcz10_0 : w9.cell? ⟨gb327, 0, none⟩ = some (.slice A0_0 l0_0.length c0_0) := (blk_cell BK327.out 0).trans rfl; have hcz10_1 : w9.cell? ⟨gb327, 1, none⟩ = some (.slice A0_1 l0_1.length c0_1) := (blk_cell BK327.out 1).trans rfl; have hcz10_2 : w9.cell? ⟨gb327, 2, none⟩ = some (.int .i64 a0_2) := (blk_cell BK327.out 2).trans rfl; have hcz10_3 : w9.cell? ⟨gb327, 3, none⟩ = some (.int .i64 a0_3) := (blk_cell BK327.out 3).trans rfl; have hcz10_4 : w9.cell? ⟨gb327, 4, none⟩ = some (.slice A0_4 l0_4.length c0_4) := (blk_cell BK327.out 4).trans rfl; have hfz10_0 := blk_frozen BK327.out 0; have hfz10_1 := blk_frozen BK327.out 1; have hfz10_2 := blk_frozen BK327.out 2; have hfz10_3 := blk_frozen BK327.out 3; have hfz10_4 := blk_frozen BK327.out 4) | ((with_reducible refine gate_callee (f := 19) rfl ?_); refine goesL_ (some 14) rfl rfl Try.func19 (by kernel_rfl) rfl #[.agg #[.slice A0_0 l0_0.length c0_0, .slice A0_1 l0_1.length c0_1, .int .i64 a0_2, .int .i64 a0_3, .slice A0_4 l0_4.length c0_4]] rfl (by (try simp only [List.map_toArray, List.map_cons, List.map_nil]); first | done | rfl | (simp only [List.length_drop, List.length_take]; rfl)) ?_; (with_reducible refine (regletref14_Predict.calls k _ _ l0_0 _ _ l0_1 a0_2 a0_3 _ _ l0_4 t334 t337 _ ?side1 ?side2 ?side3 ?side4 ?side5 ?side6 A3.out).mono ?_); (case side1 => repeat (first | exact (Kd.C_below HR0_0.out HB.out) | (with_reducible refine Kd.C_alloc ?_ _) | (with_reducible refine Kd.C_drewN ?_ _) | (with_reducible refine Kd.C_drew ?_))); (case side2 => exact HC0_0.out); (case side3 => repeat (first | exact (Kd.C_below HR0_1.out HB.out) | (with_reducible refine Kd.C_alloc ?_ _) | (with_reducible refine Kd.C_drewN ?_ _) | (with_reducible refine Kd.C_drew ?_))); (case side4 => exact HC0_1.out); (case side5 => repeat (first | exact (Kd.C_below HR0_4.out HB.out) | (with_reducible refine Kd.C_alloc ?_ _) | (with_reducible refine Kd.C_drewN ?_ _) | (with_reducible refine Kd.C_drew ?_))); (case side6 => exact HC0_4.out); rintro e w11 ⟨v335, v338, rfl, ho0, ho1, hb⟩; refine ⟨_, rfl, ?_⟩; have n0_ := Aside0.mk (Kd.S_elder' (by (with_reducible repeat (first | apply Kd.S_alloc | apply Kd.S_drewN | apply Kd.S_drew)); exact HO330.out) (Kd.S_base ho0) hb); have n1_ := Aside0.mk (Kd.R_elder' (by (with_reducible repeat (first | apply Kd.R_alloc | apply Kd.R_drewN | apply Kd.R_drew)); exact HO333.out) (Kd.R_base ho1) hb); have n2_ := Aside0.mk (Kd.S_lower (Kd.S_new' ho0 (Kd.S_lt (by (with_reducible repeat (first | apply Kd.S_alloc | apply Kd.S_drewN | apply Kd.S_drew)); exact HO330.out))) (below_size (by repeat (first | (with_reducible first | exact HB.out | apply below_alloc | apply pw_below_drewN | apply below_drew1 | refine below_set ?_ GE327.out) | exact HB.out)))); have n3_ := Aside0.mk (Kd.R_lower (Kd.R_new' ho1 (Kd.R_lt (by (with_reducible repeat (first | apply Kd.R_alloc | apply Kd.R_drewN | apply Kd.R_drew)); exact HO333.out))) (below_size (by repeat (first | (with_reducible first | exact HB.out | apply below_alloc | apply pw_below_drewN | apply below_drew1 | refine below_set ?_ GE327.out) | exact HB.out)))); have n4_ := Aside0.mk (blk_below (g := gb327) (o := .cells #[.slice A0_0 l0_0.length c0_0, .slice A0_1 l0_1.length c0_1, .int .i64 a0_2, .int .i64 a0_3, .slice A0_4 l0_4.length c0_4] 26 (0, 0)) (by (with_reducible repeat (first | refine blk_drewN ?_ _ | refine blk_drew ?_ | refine blk_alloc ?_ _)); exact BK327.out) hb); have n5_ := Aside0.mk (below_step (by repeat (first | (with_reducible first | exact HB.out | apply below_alloc | apply pw_below_drewN | apply below_drew1 | refine below_set ?_ GE327.out) | exact HB.out)) hb); clear HO330; clear HO333; clear BK327; clear HB; have HO330 := n0_; have HO333 := n1_; have HO336 := n2_; have HO339 := n3_; have BK327 := n4_; have HB := n5_; clear n0_ n1_ n2_ n3_ n4_ n5_; (try clear hb); (try clear hb2); (try clear hk); (try clear hi); (try clear ho0); (try clear ho1); obtain ⟨Ao12, co12, eo12⟩ := Kd.S_slice HO330.out; subst eo12; obtain ⟨Ao13, co13, eo13⟩ := Kd.S_slice HO336.out; subst eo13) | ((with_reducible refine gate_callee (f := 18) rfl ?_); refine goesL_ (some 19) rfl rfl Try.func18 (by kernel_rfl) rfl #[.slice Ao12 t328.length co12, .slice Ao13 t334.length co13] rfl (by (try simp only [List.map_toArray, List.map_cons, List.map_nil]); first | done | rfl | (simp only [List.length_drop, List.length_take]; rfl)) ?_; (with_reducible refine (regletref13_SameLists.calls k _ _ t328 _ _ t334 true _ ?side1 ?side2 ?side3 ?side4 A4.out).mono ?_); (case side1 => repeat (first | exact (Kd.S_reads' HO330.out).2.2 | (with_reducible refine Kd.C_alloc ?_ _) | (with_reducible refine Kd.C_drewN ?_ _) | (with_reducible refine Kd.C_drew ?_))); (case side2 => exact (Kd.S_reads' HO330.out).2.1); (case side3 => repeat (first | exact (Kd.S_reads' HO336.out).2.2 | (with_reducible refine Kd.C_alloc ?_ _) | (with_reducible refine Kd.C_drewN ?_ _) | (with_reducible refine Kd.C_drew ?_))); (case side4 => exact (Kd.S_reads' HO336.out).2.1); rintro e w' ⟨rfl, ⟨nd, rfl⟩⟩; refine ⟨_, rfl, ?_⟩; obtain ⟨Ao14, co14, eo14⟩ := Kd.R_slice HO333.out; subst eo14; obtain ⟨Ao15, co15, eo15⟩ := Kd.R_slice HO339.out; subst eo15) | (go_at_call 20; (with_reducible refine (regletref14_SameClashes.calls k _ _ t331 _ _ t337 t341 _ ?side1 ?side2 ?side3 ?side4 A6.out).mono ?_); (case side1 => repeat (first | exact (Kd.R_reads' HO333.out).2.2 | (with_reducible refine Kd.C_alloc ?_ _) | (with_reducible refine Kd.C_drewN ?_ _) | (with_reducible refine Kd.C_drew ?_))); (case side2 => exact (Kd.R_reads' HO333.out).2.1); (case side3 => repeat (first | exact (Kd.R_reads' HO339.out).2.2 | (with_reducible refine Kd.C_alloc ?_ _) | (with_reducible refine Kd.C_drewN ?_ _) | (with_reducible refine Kd.C_drew ?_))); (case side4 => exact (Kd.R_reads' HO339.out).2.1); rintro e w' ⟨rfl, ⟨nd, rfl⟩⟩))
   go_ret
   exact ⟨by first | rfl | (simp [errW_none, errW_some] <;> rfl) | (simp [*, errW_none, errW_some] <;> rfl), by repeat (first | (with_reducible first | exact HB.out | apply below_alloc | apply pw_below_drewN | apply below_drew1 | refine below_set ?_ GE327.out) | exact HB.out)⟩
 · replace c5 := Bool.eq_false_iff.mpr c5
   subst c5
   have H1 : (none) = some r := by rw [if_neg (show ¬ (false = true) by decide)] at H; exact H
   clear H
   have H := H1
   clear H1
   exact absurd H (by simp)
attribute [local go_sem] max2_int min2_int max_two min_two max_three min_three max_four min_four   -- for this text's walks alone
set_option linter.unusedVariables false
set_option linter.unusedSimpArgs false
def regletlaw14_PredictClear.f (k : Nat) (l0 : List Int) : Option (Bool) := (regletlaw14_awake.f k).bind fun t402 => (if t402 = true then ((regletlaw14_Clear.f k l0).bind fun bt403 => ((regletlaw14_same.f k bt403.1 bt403.2.1 bt403.2.2.1 bt403.2.2.2.1 bt403.2.2.2.2).bind fun t414 => (some t414))) else (some false))
set_option maxHeartbeats 8000000 in
set_option maxRecDepth 100000 in
theorem regletlaw14_PredictClear.calls (k : Nat) (A0 : Option Addr) (c0 : Nat) (l0 : List Int) (r : Bool) (w : World) (hr0 : Kd.C (Kd.int .u8) w A0 l0.length l0) (hc0 : l0.length ≤ c0) (h : regletlaw14_PredictClear.f k l0 = some r) :
    Calls Try.prog 5 #[.slice A0 l0.length c0] w fun e w' => e = .returned (.bool r) ∧ Below w.heap.size w w' := by
 have HR0 := Aside0.mk hr0
 have HC0 := Aside0.mk hc0
 clear hr0 hc0
 have HB := Aside0.mk (Below.refl w.heap.size w)
 have H : ((regletlaw14_awake.f k).bind fun t402 => (if t402 = true then ((regletlaw14_Clear.f k l0).bind fun bt403 => ((regletlaw14_same.f k bt403.1 bt403.2.1 bt403.2.2.1 bt403.2.2.2.1 bt403.2.2.2.2).bind fun t414 => (some t414))) else (some false))) = some r := h
 clear h
 replace H := Option.bind_eq_some_iff.mp H
 obtain ⟨t402, A20, H⟩ := H
 replace H : (if t402 = true then ((regletlaw14_Clear.f k l0).bind fun bt403 => ((regletlaw14_same.f k bt403.1 bt403.2.1 bt403.2.2.1 bt403.2.2.2.1 bt403.2.2.2.2).bind fun t414 => (some t414))) else (some false)) = some r := H
 have A2 := Aside0.mk A20
 clear A20
 by_cases c3 : t402 = true
 · subst c3
   have H1 : ((regletlaw14_Clear.f k l0).bind fun bt403 => ((regletlaw14_same.f k bt403.1 bt403.2.1 bt403.2.2.1 bt403.2.2.2.1 bt403.2.2.2.2).bind fun t414 => (some t414))) = some r := by rw [if_pos rfl] at H; exact H
   clear H
   have H := H1
   clear H1
   replace H := Option.bind_eq_some_iff.mp H
   obtain ⟨⟨t403, t406, t409, t410, t411⟩, A40, H⟩ := H
   replace H : ((regletlaw14_same.f k t403 t406 t409 t410 t411).bind fun t414 => (some t414)) = some r := H
   have A4 := Aside0.mk A40
   clear A40
   replace H := Option.bind_eq_some_iff.mp H
   obtain ⟨t414, A50, H⟩ := H
   replace H : (some t414) = some r := H
   have A5 := Aside0.mk A50
   clear A50
   obtain rfl := Option.some.inj H
   go_enter Try.func5, Try.ntmps5
   go_wp2_with (first | ((with_reducible refine gate_callee (f := 9) rfl ?_); refine goesL_ (some 3) rfl rfl Try.func9 (by kernel_rfl) rfl #[] rfl (by (try simp only [List.map_toArray, List.map_cons, List.map_nil]); first | done | rfl | (simp only [List.length_drop, List.length_take]; rfl)) ?_; (with_reducible refine (regletlaw14_awake.calls k  true _ A2.out).mono ?_); rintro e w6 ⟨rfl, hb⟩; refine ⟨_, rfl, ?_⟩; have n0_ := Aside0.mk (below_step (by repeat (first | (with_reducible first | exact HB.out | apply below_alloc | apply pw_below_drewN | apply below_drew1) | exact HB.out)) hb); clear HB; have HB := n0_; clear n0_; (try clear hb); (try clear hb2); (try clear hk); (try clear hi)) | (go_at_call 12; (with_reducible refine (regletlaw14_Clear.calls k _ _ l0 t403 t406 t409 t410 t411 _ ?side1 ?side2 A4.out).mono ?_); (case side1 => repeat (first | exact (Kd.C_below HR0.out HB.out) | (with_reducible refine Kd.C_alloc ?_ _) | (with_reducible refine Kd.C_drewN ?_ _) | (with_reducible refine Kd.C_drew ?_))); (case side2 => exact HC0.out); rintro e w7 ⟨v404, v407, v412, rfl, ho0, ho1, ho2, hb⟩; have n0_ := Aside0.mk (Kd.R_lower ho0 (below_size (by repeat (first | (with_reducible first | exact HB.out | apply below_alloc | apply pw_below_drewN | apply below_drew1) | exact HB.out)))); have n1_ := Aside0.mk (Kd.R_lower ho1 (below_size (by repeat (first | (with_reducible first | exact HB.out | apply below_alloc | apply pw_below_drewN | apply below_drew1) | exact HB.out)))); have n2_ := Aside0.mk (Kd.S_lower ho2 (below_size (by repeat (first | (with_reducible first | exact HB.out | apply below_alloc | apply pw_below_drewN | apply below_drew1) | exact HB.out)))); have n3_ := Aside0.mk (below_step (by repeat (first | (with_reducible first | exact HB.out | apply below_alloc | apply pw_below_drewN | apply below_drew1) | exact HB.out)) hb); clear HB; have HO405 := n0_; have HO408 := n1_; have HO413 := n2_; have HB := n3_; clear n0_ n1_ n2_ n3_; (try clear hb); (try clear hb2); (try clear hk); (try clear hi); (try clear ho0); (try clear ho1); (try clear ho2); obtain ⟨Ao8, co8, eo8⟩ := Kd.R_slice HO405.out; subst eo8; obtain ⟨Ao9, co9, eo9⟩ := Kd.R_slice HO408.out; subst eo9; obtain ⟨Ao10, co10, eo10⟩ := Kd.S_slice HO413.out; subst eo10) | (go_at_call 10; (with_reducible refine (regletlaw14_same.calls k _ _ t403 _ _ t406 t409 t410 _ _ t411 t414 _ ?side1 ?side2 ?side3 ?side4 ?side5 ?side6 A5.out).mono ?_); (case side1 => repeat (first | exact (Kd.R_reads' HO405.out).2.2 | (with_reducible refine Kd.C_alloc ?_ _) | (with_reducible refine Kd.C_drewN ?_ _) | (with_reducible refine Kd.C_drew ?_))); (case side2 => exact (Kd.R_reads' HO405.out).2.1); (case side3 => repeat (first | exact (Kd.R_reads' HO408.out).2.2 | (with_reducible refine Kd.C_alloc ?_ _) | (with_reducible refine Kd.C_drewN ?_ _) | (with_reducible refine Kd.C_drew ?_))); (case side4 => exact (Kd.R_reads' HO408.out).2.1); (case side5 => repeat (first | exact (Kd.S_reads' HO413.out).2.2 | (with_reducible refine Kd.C_alloc ?_ _) | (with_reducible refine Kd.C_drewN ?_ _) | (with_reducible refine Kd.C_drew ?_))); (case side6 => exact (Kd.S_reads' HO413.out).2.1); rintro e w11 ⟨rfl, hb⟩; have n0_ := Aside0.mk (Kd.R_below (by (with_reducible repeat (first | apply Kd.R_alloc | apply Kd.R_drewN | apply Kd.R_drew)); exact HO405.out) hb); have n1_ := Aside0.mk (Kd.R_below (by (with_reducible repeat (first | apply Kd.R_alloc | apply Kd.R_drewN | apply Kd.R_drew)); exact HO408.out) hb); have n2_ := Aside0.mk (Kd.S_below (by (with_reducible repeat (first | apply Kd.S_alloc | apply Kd.S_drewN | apply Kd.S_drew)); exact HO413.out) hb); have n3_ := Aside0.mk (below_step (by repeat (first | (with_reducible first | exact HB.out | apply below_alloc | apply pw_below_drewN | apply below_drew1) | exact HB.out)) hb); clear HO405; clear HO408; clear HO413; clear HB; have HO405 := n0_; have HO408 := n1_; have HO413 := n2_; have HB := n3_; clear n0_ n1_ n2_ n3_; (try clear hb); (try clear hb2); (try clear hk); (try clear hi)))
   go_ret
   exact ⟨by first | rfl | (simp [errW_none, errW_some] <;> rfl) | (simp [*, errW_none, errW_some] <;> rfl), by repeat (first | (with_reducible first | exact HB.out | apply below_alloc | apply pw_below_drewN | apply below_drew1) | exact HB.out)⟩
 · replace c3 := Bool.eq_false_iff.mpr c3
   subst c3
   have H1 : (some false) = some r := by rw [if_neg (show ¬ (false = true) by decide)] at H; exact H
   clear H
   have H := H1
   clear H1
   obtain rfl := Option.some.inj H
   go_enter Try.func5, Try.ntmps5
   go_wp2_with (first | ((with_reducible refine gate_callee (f := 9) rfl ?_); refine goesL_ (some 3) rfl rfl Try.func9 (by kernel_rfl) rfl #[] rfl (by (try simp only [List.map_toArray, List.map_cons, List.map_nil]); first | done | rfl | (simp only [List.length_drop, List.length_take]; rfl)) ?_; (with_reducible refine (regletlaw14_awake.calls k  false _ A2.out).mono ?_); rintro e w12 ⟨rfl, hb⟩; refine ⟨_, rfl, ?_⟩; have n0_ := Aside0.mk (below_step (by repeat (first | (with_reducible first | exact HB.out | apply below_alloc | apply pw_below_drewN | apply below_drew1) | exact HB.out)) hb); clear HB; have HB := n0_; clear n0_; (try clear hb); (try clear hb2); (try clear hk); (try clear hi)))
   go_ret
   exact ⟨by first | rfl | (simp [errW_none, errW_some] <;> rfl) | (simp [*, errW_none, errW_some] <;> rfl), by repeat (first | (with_reducible first | exact HB.out | apply below_alloc | apply pw_below_drewN | apply below_drew1) | exact HB.out)⟩
def regletlaw14_PredictClear.Pure : Prop := ∀ (l0 : List Int), l0.length ≤ maxLen → l0.length * 1 ≤ 140737488351232 → (∀ x ∈ l0, (Lit.int .u8 x).wf = true) → ∃ k, regletlaw14_PredictClear.f k l0 = some true
theorem regletlaw14_PredictClear.walk (P : regletlaw14_PredictClear.Pure) (a0 : Option Addr) (len0 cap0 : Nat) (z0 : List Int) (w : World) (w0 : (a0 = none ∧ len0 = 0 ∧ cap0 = 0 ∧ z0 = []) ∨ ∃ x, a0 = some x ∧ len0 ≤ cap0 ∧ cap0 ≤ maxLen ∧ z0.length = cap0 ∧ (∀ i, i < z0.length → w.cell? (x.add i) = some (.int .u8 (z0.getD i 0))) ∧ ∀ n ∈ z0, (Lit.int .u8 n).wf = true) (y0 : len0 * 1 ≤ 140737488351232) :
    Calls Try.prog 5 #[.slice a0 len0 cap0] w fun e w' => e = .returned (.bool true) ∧ Below w.heap.size w w' := by
 obtain ⟨l0, rfl, hr0, hm0, hw0, hc0⟩ := ReadsInt.ofRowC w0
 obtain ⟨k, h⟩ := P l0 hm0 y0 hw0
 refine (regletlaw14_PredictClear.calls k _ _ l0 true w (Kd.C_of_reads (d := (0 : Int)) (h1 := fun _ => rfl) hr0) hc0 h).mono ?_
 rintro e w' ⟨rfl, hd⟩
 exact ⟨rfl, hd⟩
end Go.Proofs.Ytfdcfihcfegekaa.P
end

section
namespace Go.Proofs.Ytfdcfihcfegekaa.M
open Go.RowKit Go.Proofs.YtfdcfihcfegekaaW.PrintWords Go.Proofs.YtfdcfihcfegekaaW.PrintLast Go.Proofs.YtfdcfihcfegekaaW.PrintMore Go.Proofs.Ytfdcfihcfegekaa.P Go.Proofs.Ytfdcfihcfegekaa.H
set_option linter.unusedVariables false
set_option linter.unusedSimpArgs false
abbrev Sym := S53
abbrev Prod := S30
abbrev Tok := S61
theorem rdOf_mid {α : Type} (d : α) (p : List α) (x : α) (a : List α) (n : Int) (h : n = p.length) : rdOf d (p ++ x :: a) n = x := by
 subst h; simp [rdOf]
theorem getD_mid {α : Type} (d : α) (p : List α) (x : α) (a : List α) (n : Int) (h : n = p.length) : (p ++ x :: a).getD n.toNat d = x := by
 subst h; simp
theorem set_mid {α : Type} (p : List α) (x v : α) (a : List α) (n : Int) (h : n = p.length) : (p ++ x :: a).set n.toNat v = p ++ v :: a := by
 subst h; simp
theorem wrap_next {α : Type} (p : List α) (v : α) (h : p.length ≤ 1000000) : wrap64 ((p.length : Int) + 1) = ((p ++ [v]).length : Int) := by
 rw [wrap64_id (by omega) (by omega)]; simp
def orL (a b : List Bool) : List Bool := List.zipWith (· || ·) a b
def moreL : List Bool → List Bool → Bool
  | x :: a, y :: b => (y && !x) || moreL a b
  | _, _ => false
theorem orL_length {a b : List Bool} (h : a.length = b.length) : (orL a b).length = a.length := by simp [orL, h]
theorem add_l0_ev : ∀ (a b pre preb : List Bool) (g : Bool), a.length = b.length → pre.length = preb.length → pre.length + a.length ≤ 1000000 → Ev (fun k => firsts_set_add.l0 k (pre ++ a) g (preb ++ b) ((preb ++ b).length : Int) (pre.length : Int)) (g || moreL a b, pre ++ orL a b)
  | [], [], pre, preb, g, _, h2, _ => by
    refine Ev.step (fun k => by rw [firsts_set_add.l0]) (Ev.neg (by simp [h2]) (Ev.some (by simp [moreL, orL])))
  | x :: a, y :: b, pre, preb, g, h1, h2, h3 => by
    have h1' : a.length = b.length := by simpa using h1
    simp only [List.length_cons] at h3
    have ih := fun g v => add_l0_ev a b (pre ++ [v]) (preb ++ [y]) g h1' (by simp [h2]) (by simp; omega)
    simp only [← wrap_next pre _ (show pre.length ≤ 1000000 by omega), List.append_assoc, List.singleton_append] at ih
    refine Ev.step (fun k => by rw [firsts_set_add.l0]) ?_
    refine Ev.pos (by simp; omega) (Ev.pos (by omega) (Ev.pos (by simp; omega) ?_))
    rw [rdOf_mid _ preb y b _ (by rw [h2]), rdOf_mid _ pre x a _ rfl]
    cases y
    · refine Ev.neg (by simp) (Ev.val (ih g x) ?_)
      simp [moreL, orL]
    · refine Ev.pos rfl (Ev.pos (by simp; omega) ?_)
      cases x
      · refine Ev.neg (by simp) ?_
        rw [set_mid _ _ _ _ _ rfl]
        refine Ev.val (ih true true) ?_
        simp [moreL, orL]
      · refine Ev.pos rfl (Ev.val (ih g true) ?_)
        simp [moreL, orL]
theorem add_ev (a b : List Bool) (h1 : a.length = b.length) (h2 : a.length ≤ 1000000) : Ev (fun k => firsts_set_add.f k a b) (moreL a b, orL a b) := by
 exact Ev.congr (fun k => by rw [firsts_set_add.f]) (by simpa using add_l0_ev a b [] [] false h1 rfl (by simpa using h2) : Ev (fun k => firsts_set_add.l0 k a false b (b.length : Int) 0) _)
theorem join_l0_ev : ∀ (a b pre preb : List Bool) (g : Bool), a.length = b.length → pre.length = preb.length → pre.length + a.length ≤ 1000000 → Ev (fun k => regletref13_join.l0 k (pre ++ a) (preb ++ b) g (pre.length : Int)) (g || moreL a b, pre ++ orL a b)
  | [], [], pre, preb, g, _, h2, _ => by
    refine Ev.step (fun k => by rw [regletref13_join.l0]) (Ev.neg (by simp) (Ev.some (by simp [moreL, orL])))
  | x :: a, y :: b, pre, preb, g, h1, h2, h3 => by
    have h1' : a.length = b.length := by simpa using h1
    simp only [List.length_cons] at h3
    have ih := fun g v => join_l0_ev a b (pre ++ [v]) (preb ++ [y]) g h1' (by simp [h2]) (by simp; omega)
    simp only [← wrap_next pre _ (show pre.length ≤ 1000000 by omega), List.append_assoc, List.singleton_append] at ih
    refine Ev.step (fun k => by rw [regletref13_join.l0]) ?_
    refine Ev.pos (by simp; omega) ?_
    rw [rdOf_mid _ preb y b _ (by rw [h2]), rdOf_mid _ pre x a _ rfl]
    simp only [set_mid _ _ _ _ _ rfl]
    cases g
    · refine Ev.neg (by simp) (Ev.pos (by omega) (Ev.pos (by simp; omega) ?_))
      cases y <;> cases x
      · exact Ev.neg (by simp) (Ev.neg (by simp) (Ev.val (ih _ _) (by simp [moreL, orL])))
      · exact Ev.neg (by simp) (Ev.pos rfl (Ev.val (ih _ _) (by simp [moreL, orL])))
      · exact Ev.pos rfl (Ev.neg (by simp) (Ev.val (ih _ _) (by simp [moreL, orL])))
      · exact Ev.pos rfl (Ev.pos rfl (Ev.val (ih _ _) (by simp [moreL, orL])))
    · refine Ev.pos rfl (Ev.pos (by omega) ?_)
      cases x
      · exact Ev.neg (by simp) (Ev.pos (by simp; omega) (Ev.val (ih _ _) (by simp [moreL, orL])))
      · exact Ev.pos rfl (Ev.val (ih _ _) (by simp [moreL, orL]))
theorem join_ev (a b : List Bool) (h1 : a.length = b.length) (h2 : a.length ≤ 1000000) : Ev (fun k => regletref13_join.f k a b) (moreL a b, orL a b) := by
 exact Ev.congr (fun k => by rw [regletref13_join.f]) (by simpa using join_l0_ev a b [] [] false h1 rfl (by simpa using h2) : Ev (fun k => regletref13_join.l0 k a b false 0) _)
def idx : Nat → List Bool → List Int
  | _, [] => []
  | n, x :: a => if x = true then (n : Int) :: idx (n + 1) a else idx (n + 1) a
theorem idx_length : ∀ (n : Nat) (a : List Bool), (idx n a).length ≤ a.length
  | _, [] => by simp [idx]
  | n, x :: a => by have := idx_length (n + 1) a; unfold idx; split <;> simp <;> omega
theorem rising_l0_ev : ∀ (a pre : List Bool) (out : List Int), out.length ≤ pre.length → pre.length + a.length ≤ 1000000 → Ev (fun k => firsts_set_rising.l0 k out (pre ++ a) ((pre ++ a).length : Int) (pre.length : Int)) (out ++ idx pre.length a)
  | [], pre, out, _, _ => by
    refine Ev.step (fun k => by rw [firsts_set_rising.l0]) (Ev.neg (by simp) (Ev.some (by simp [idx])))
  | x :: a, pre, out, h2, h3 => by
    simp only [List.length_cons] at h3
    have ih := fun out h => rising_l0_ev a (pre ++ [x]) out h (by simp; omega)
    simp only [← wrap_next pre _ (show pre.length ≤ 1000000 by omega), List.append_assoc, List.singleton_append] at ih
    refine Ev.step (fun k => by rw [firsts_set_rising.l0]) ?_
    refine Ev.pos (by simp; omega) (Ev.pos (by omega) (Ev.pos (by simp; omega) ?_))
    rw [rdOf_mid _ pre x a _ rfl]
    cases x
    · exact Ev.neg (by simp) (Ev.val (ih out (by simp; omega)) (by simp [idx]))
    · exact Ev.pos rfl (Ev.pos (by omega) (Ev.val (ih _ (by simp; omega)) (by simp [idx])))
theorem rising_ev (a : List Bool) (h2 : a.length ≤ 1000000) : Ev (fun k => firsts_set_rising.f k a) (idx 0 a) := by
 exact Ev.congr (fun k => by rw [firsts_set_rising.f]) (by simpa using rising_l0_ev a [] [] (by simp) (by simpa using h2) : Ev (fun k => firsts_set_rising.l0 k [] a (a.length : Int) 0) _)
theorem list_l0_ev : ∀ (a pre : List Bool) (out : List Int), out.length ≤ pre.length → pre.length + a.length ≤ 1000000 → Ev (fun k => regletref13_list.l0 k (pre ++ a) out (pre.length : Int)) (out ++ idx pre.length a)
  | [], pre, out, _, _ => by
    refine Ev.step (fun k => by rw [regletref13_list.l0]) (Ev.neg (by simp) (Ev.some (by simp [idx])))
  | x :: a, pre, out, h2, h3 => by
    simp only [List.length_cons] at h3
    have ih := fun out h => list_l0_ev a (pre ++ [x]) out h (by simp; omega)
    simp only [← wrap_next pre _ (show pre.length ≤ 1000000 by omega), List.append_assoc, List.singleton_append] at ih
    refine Ev.step (fun k => by rw [regletref13_list.l0]) ?_
    refine Ev.pos (by simp; omega) (Ev.pos (by omega) ?_)
    rw [rdOf_mid _ pre x a _ rfl]
    cases x
    · exact Ev.neg (by simp) (Ev.val (ih out (by simp; omega)) (by simp [idx]))
    · exact Ev.pos rfl (Ev.pos (by omega) (Ev.val (ih _ (by simp; omega)) (by simp [idx])))
theorem list_ev (a : List Bool) (h2 : a.length ≤ 1000000) : Ev (fun k => regletref13_list.f k a) (idx 0 a) := by
 exact Ev.congr (fun k => by rw [regletref13_list.f]) (by simpa using list_l0_ev a [] [] (by simp) (by simpa using h2) : Ev (fun k => regletref13_list.l0 k a [] 0) _)
def idxs (m : List (List Bool)) : List (List Int) := m.map (idx 0)
theorem all_l0_ev : ∀ (m pre : List (List Bool)) (out : List (List Int)), out.length = pre.length → pre.length + m.length ≤ 1000000 → (∀ r ∈ m, r.length ≤ 1000000) → Ev (fun k => firsts_all.l0 k (out ++ List.replicate m.length []) (pre ++ m) ((pre ++ m).length : Int) (pre.length : Int)) (out ++ idxs m)
  | [], pre, out, _, _, _ => by
    refine Ev.step (fun k => by rw [firsts_all.l0]) (Ev.neg (by simp) (Ev.some (by simp [idxs])))
  | r :: m, pre, out, h2, h3, h4 => by
    simp only [List.length_cons] at h3
    have ih := all_l0_ev m (pre ++ [r]) (out ++ [idx 0 r]) (by simp [h2]) (by simp; omega) (fun r hr => h4 r (List.mem_cons_of_mem _ hr))
    simp only [← wrap_next pre _ (show pre.length ≤ 1000000 by omega), List.append_assoc, List.singleton_append] at ih
    refine Ev.step (fun k => by rw [firsts_all.l0]) ?_
    refine Ev.pos (by simp; omega) (Ev.pos (by omega) (Ev.pos (by simp; omega) ?_))
    refine Ev.bind (a := idx 0 r) (Ev.congr (fun k => congrArg (firsts_set_rising.f k) (getD_mid _ pre r m _ rfl)) (rising_ev r (h4 r List.mem_cons_self))) (Ev.pos (by simp; omega) ?_)
    simp only [List.length_cons, List.replicate_succ]
    rw [set_mid _ _ _ _ _ (by rw [h2])]
    exact Ev.val ih (by simp [idxs])
theorem all_ev (m : List (List Bool)) (h2 : m.length ≤ 1000000) (h4 : ∀ r ∈ m, r.length ≤ 1000000) : Ev (fun k => firsts_all.f k m) (idxs m) := by
 refine Ev.congr (fun k => by rw [firsts_all.f]) (Ev.pos (by omega) (Ev.pos (by omega) ?_))
 rw [Int.toNat_natCast]
 simpa using all_l0_ev m [] [] rfl (by simpa using h2) h4
theorem lists_l0_ev : ∀ (m pre : List (List Bool)) (out : List (List Int)), out.length = pre.length → pre.length + m.length ≤ 1000000 → (∀ r ∈ m, r.length ≤ 1000000) → Ev (fun k => regletref13_lists.l0 k (pre ++ m) out (pre.length : Int)) (out ++ idxs m)
  | [], pre, out, _, _, _ => by
    refine Ev.step (fun k => by rw [regletref13_lists.l0]) (Ev.neg (by simp) (Ev.some (by simp [idxs])))
  | r :: m, pre, out, h2, h3, h4 => by
    simp only [List.length_cons] at h3
    have ih := lists_l0_ev m (pre ++ [r]) (out ++ [idx 0 r]) (by simp [h2]) (by simp; omega) (fun r hr => h4 r (List.mem_cons_of_mem _ hr))
    simp only [← wrap_next pre _ (show pre.length ≤ 1000000 by omega), List.append_assoc, List.singleton_append] at ih
    refine Ev.step (fun k => by rw [regletref13_lists.l0]) ?_
    refine Ev.pos (by simp; omega) (Ev.pos (by omega) ?_)
    refine Ev.bind (a := idx 0 r) (Ev.congr (fun k => congrArg (regletref13_list.f k) (getD_mid _ pre r m _ rfl)) (list_ev r (h4 r List.mem_cons_self))) (Ev.pos (by omega) ?_)
    exact Ev.val ih (by simp [idxs])
theorem lists_ev (m : List (List Bool)) (h2 : m.length ≤ 1000000) (h4 : ∀ r ∈ m, r.length ≤ 1000000) : Ev (fun k => regletref13_lists.f k m) (idxs m) := by
 exact Ev.congr (fun k => by rw [regletref13_lists.f]) (by simpa using lists_l0_ev m [] [] rfl (by simpa using h2) h4 : Ev (fun k => regletref13_lists.l0 k m [] 0) _)
theorem sameInts_l0_ev : ∀ (a pre : List Int), pre.length + a.length ≤ 1000000 → Ev (fun k => regletref13_SameInts.l0 k (pre ++ a) (pre ++ a) (pre.length : Int)) true
  | [], pre, _ => Ev.step (fun k => by rw [regletref13_SameInts.l0]) (Ev.neg (by simp) (Ev.some rfl))
  | x :: a, pre, h3 => by
    simp only [List.length_cons] at h3
    have ih := sameInts_l0_ev a (pre ++ [x]) (by simp; omega)
    simp only [← wrap_next pre _ (show pre.length ≤ 1000000 by omega), List.append_assoc, List.singleton_append] at ih
    exact Ev.step (fun k => by rw [regletref13_SameInts.l0]) (Ev.pos (by simp; omega) (Ev.pos (by omega) (Ev.pos (by simp; omega) (Ev.pos rfl ih))))
theorem sameInts_ev (a : List Int) (h : a.length ≤ 1000000) : Ev (fun k => regletref13_SameInts.f k a a) true :=
  Ev.congr (fun k => by rw [regletref13_SameInts.f, if_pos rfl]) (by simpa using sameInts_l0_ev a [] (by simpa using h) : Ev (fun k => regletref13_SameInts.l0 k a a 0) _)
theorem sameLists_l0_ev : ∀ (a pre : List (List Int)), pre.length + a.length ≤ 1000000 → (∀ r ∈ a, r.length ≤ 1000000) → Ev (fun k => regletref13_SameLists.l0 k (pre ++ a) (pre ++ a) (pre.length : Int)) true
  | [], pre, _, _ => Ev.step (fun k => by rw [regletref13_SameLists.l0]) (Ev.neg (by simp) (Ev.some rfl))
  | x :: a, pre, h3, h4 => by
    simp only [List.length_cons] at h3
    have ih := sameLists_l0_ev a (pre ++ [x]) (by simp; omega) (fun r hr => h4 r (List.mem_cons_of_mem _ hr))
    simp only [← wrap_next pre _ (show pre.length ≤ 1000000 by omega), List.append_assoc, List.singleton_append] at ih
    refine Ev.step (fun k => by rw [regletref13_SameLists.l0]) (Ev.pos (by simp; omega) (Ev.pos (by omega) (Ev.pos (by simp; omega) ?_)))
    exact Ev.bind (a := true) (Ev.congr (fun k => congr (congrArg (regletref13_SameInts.f k) (getD_mid _ pre x a _ rfl)) (getD_mid _ pre x a _ rfl)) (sameInts_ev x (h4 x List.mem_cons_self))) (Ev.pos rfl ih)
theorem sameLists_ev (a : List (List Int)) (h : a.length ≤ 1000000) (h4 : ∀ r ∈ a, r.length ≤ 1000000) : Ev (fun k => regletref13_SameLists.f k a a) true :=
  Ev.congr (fun k => by rw [regletref13_SameLists.f, if_pos rfl]) (by simpa using sameLists_l0_ev a [] (by simpa using h) h4 : Ev (fun k => regletref13_SameLists.l0 k a a 0) _)
def Sh (nn nt : Nat) (m : List (List Bool)) : Prop := m.length = nn ∧ ∀ r ∈ m, r.length = nt + 1
theorem Sh.get {nn nt : Nat} {m : List (List Bool)} (h : Sh nn nt m) {i : Nat} (hi : i < nn) : (m.getD i []).length = nt + 1 := by
 have hi' : i < m.length := by rw [h.1]; exact hi
 rw [List.getD_eq_getElem?_getD, List.getElem?_eq_getElem hi']
 exact h.2 _ (List.getElem_mem hi')
theorem Sh.set {nn nt : Nat} {m : List (List Bool)} (h : Sh nn nt m) (i : Nat) {r : List Bool} (hr : r.length = nt + 1) : Sh nn nt (m.set i r) :=
  ⟨by rw [List.length_set]; exact h.1, fun r' hr' => by
    rcases List.mem_or_eq_of_mem_set hr' with h1 | rfl
    · exact h.2 _ h1
    · exact hr⟩
def bg (em : List Bool) (first : List (List Bool)) : List Sym → List Bool → List Bool × Bool
  | [], out => (out, true)
  | x :: l, out => if x.f0 = true then (out.set x.f1.toNat true, false) else
      if em.getD x.f1.toNat false = true then bg em first l (orL out (first.getD x.f1.toNat [])) else (orL out (first.getD x.f1.toNat []), false)
theorem bg_length (em : List Bool) {first : List (List Bool)} {nn nt : Nat} (hs : Sh nn nt first) : ∀ (l : List Sym) (out : List Bool), l.all (okSym nn nt) = true → out.length = nt + 1 → (bg em first l out).1.length = nt + 1
  | [], out, _, h => h
  | x :: l, out, hl, h => by
    simp only [List.all_cons, Bool.and_eq_true] at hl
    unfold bg
    split
    · simpa using h
    · rename_i hx
      have hn : x.f1.toNat < nn := by
        have := hl.1
        simp only [okSym, hx, if_neg, Bool.and_eq_true, decide_eq_true_eq] at this
        simp at this
        omega
      have ho : (orL out (first.getD x.f1.toNat [])).length = nt + 1 := by rw [orL_length (by rw [h, hs.get hn]), h]
      split
      · exact bg_length em hs l _ hl.2 ho
      · exact ho
theorem okSym_tok {nn nt : Nat} {x : Sym} (h : okSym nn nt x = true) (hx : x.f0 = true) : 0 ≤ x.f1 ∧ x.f1 < (nt : Int) := by
 simp only [okSym, hx, if_pos, Bool.and_eq_true, decide_eq_true_eq] at h; exact h
theorem okSym_rule {nn nt : Nat} {x : Sym} (h : okSym nn nt x = true) (hx : x.f0 = false) : 0 ≤ x.f1 ∧ x.f1 < (nn : Int) := by
 simp [okSym, hx] at h; exact h
theorem begins_l0_ev {nn nt : Nat} {em : List Bool} {first : List (List Bool)} (hs : Sh nn nt first) (he : em.length = nn) (hnt : nt ≤ 1000) : ∀ (l pre : List Sym) (out : List Bool), l.all (okSym nn nt) = true → out.length = nt + 1 → pre.length + l.length ≤ 1000000 → Ev (fun k => begins_l0 em first (pre ++ l) k out (pre.length : Int)) (bg em first l out)
  | [], pre, out, _, _, _ => Ev.step (fun k => by rw [begins_l0]) (Ev.neg (by simp) (Ev.some (by simp [bg])))
  | x :: l, pre, out, hl, ho, h3 => by
    simp only [List.all_cons, Bool.and_eq_true] at hl
    simp only [List.length_cons] at h3
    have ih := fun out ho => begins_l0_ev hs he hnt l (pre ++ [x]) out hl.2 ho (by simp; omega)
    simp only [← wrap_next pre _ (show pre.length ≤ 1000000 by omega), List.append_assoc, List.singleton_append] at ih
    have e : rd_T53 (pre ++ x :: l) (pre.length : Int) = x := getD_mid _ pre x l _ rfl
    refine Ev.step (fun k => by rw [begins_l0]) ?_
    rw [e]
    refine Ev.pos (by simp; omega) (Ev.pos (by omega) ?_)
    cases hx : x.f0 with
    | true =>
      have hb := okSym_tok hl.1 hx
      exact Ev.pos rfl (Ev.pos hb.1 (Ev.pos (by omega) (Ev.some (by simp [bg, hx]))))
    | false =>
      have hb := okSym_rule hl.1 hx
      have hr := hs.get (i := x.f1.toNat) (by omega)
      have hs1 := hs.1
      refine Ev.neg (by simp) (Ev.pos hb.1 (Ev.pos (by omega) (Ev.bind (add_ev out _ (by rw [ho, hr]) (by omega)) (Ev.pos (by omega) ?_))))
      have e2 : rdOf false em x.f1 = em.getD x.f1.toNat false := rfl
      rw [e2]
      cases hem : em.getD x.f1.toNat false with
      | true => exact Ev.pos rfl (Ev.val (ih _ (by rw [orL_length (by rw [ho, hr]), ho])) (by rw [bg, hx, if_neg (by simp), hem, if_pos rfl]))
      | false => exact Ev.neg (by simp) (Ev.some (by rw [bg, hx, if_neg (by simp), hem, if_neg (by simp)]))
def none0 (nt : Nat) : List Bool := List.replicate (nt + 1) false
theorem begins_ev {nn nt : Nat} {em : List Bool} {first : List (List Bool)} (hs : Sh nn nt first) (he : em.length = nn) (hnt : nt ≤ 1000) (l : List Sym) (hl : l.all (okSym nn nt) = true) (h3 : l.length ≤ 1000000) : Ev (fun k => begins_f k nt em first l) (bg em first l (none0 nt)) := by
 have h := begins_l0_ev hs he hnt l [] (List.replicate (nt + 1) false) hl (by simp) (by simpa using h3)
 exact Ev.congr (fun k => by rw [begins_f, if_pos (by omega)]) (by simpa [none0] using h)
theorem refBegins_l0_ev {nn nt : Nat} {em : List Bool} {first : List (List Bool)} (hs : Sh nn nt first) (he : em.length = nn) (hnt : nt ≤ 1000) : ∀ (l pre : List Sym) (out : List Bool), l.all (okSym nn nt) = true → out.length = nt + 1 → pre.length + l.length ≤ 1000000 → Ev (fun k => regletref13_begins.l0 k (pre ++ l) first em out (pre.length : Int)) (bg em first l out)
  | [], pre, out, _, _, _ => Ev.step (fun k => by rw [regletref13_begins.l0]) (Ev.neg (by simp) (Ev.some (by simp [bg])))
  | x :: l, pre, out, hl, ho, h3 => by
    simp only [List.all_cons, Bool.and_eq_true] at hl
    simp only [List.length_cons] at h3
    have ih := fun out ho => refBegins_l0_ev hs he hnt l (pre ++ [x]) out hl.2 ho (by simp; omega)
    simp only [← wrap_next pre _ (show pre.length ≤ 1000000 by omega), List.append_assoc, List.singleton_append] at ih
    have e : rd_T53 (pre ++ x :: l) (pre.length : Int) = x := getD_mid _ pre x l _ rfl
    refine Ev.step (fun k => by rw [regletref13_begins.l0]) ?_
    rw [e]
    refine Ev.pos (by simp; omega) (Ev.pos (by omega) ?_)
    cases hx : x.f0 with
    | true =>
      have hb := okSym_tok hl.1 hx
      exact Ev.pos rfl (Ev.pos hb.1 (Ev.pos (by omega) (Ev.some (by simp [bg, hx]))))
    | false =>
      have hb := okSym_rule hl.1 hx
      have hr := hs.get (i := x.f1.toNat) (by omega)
      have hs1 := hs.1
      refine Ev.neg (by simp) (Ev.pos hb.1 (Ev.pos (by omega) (Ev.bind (join_ev out (first.getD x.f1.toNat []) (by rw [ho, hr]) (by omega)) (Ev.pos (by omega) ?_))))
      have e2 : rdOf false em x.f1 = em.getD x.f1.toNat false := rfl
      rw [e2]
      cases hem : em.getD x.f1.toNat false with
      | true => exact Ev.pos rfl (Ev.val (ih _ (by rw [orL_length (by rw [ho, hr]), ho])) (by rw [bg, hx, if_neg (by simp), hem, if_pos rfl]))
      | false => exact Ev.neg (by simp) (Ev.some (by rw [bg, hx, if_neg (by simp), hem, if_neg (by simp)]))
theorem refBegins_ev {nn : Nat} (l0 : List ByteArray) (l1 : List Tok) (a2 a3 : Int) (l4 : List Prod) {em : List Bool} {first : List (List Bool)} (hs : Sh nn l1.length first) (he : em.length = nn) (hnt : l1.length ≤ 1000) (l : List Sym) (hl : l.all (okSym nn l1.length) = true) (h3 : l.length ≤ 1000000) : Ev (fun k => regletref13_begins.f k l0 l1 a2 a3 l4 l first em) (bg em first l (none0 l1.length)) := by
 have h := refBegins_l0_ev hs he hnt l [] (List.replicate (l1.length + 1) false) hl (by simp) (by simpa using h3)
 have e : wrap64 ((l1.length : Int) + 1) = ((l1.length + 1 : Nat) : Int) := by rw [wrap64_id (by omega) (by omega)]; simp
 refine Ev.congr (fun k => by rw [regletref13_begins.f, e, if_pos (by omega), if_pos (by omega), Int.toNat_natCast]) (by simpa [none0] using h)
def gIn {σ : Type} (stp : σ → Prod → Bool × σ) : List Prod → Bool → σ → Bool × σ
  | [], ag, st => (ag, st)
  | p :: ps, ag, st => gIn stp ps ((stp st p).1 || ag) (stp st p).2
def gOut {σ : Type} (stp : σ → Prod → Bool × σ) (ps : List Prod) : Nat → σ → σ
  | 0, st => (gIn stp ps false st).2
  | n + 1, st => if (gIn stp ps false st).1 = true then gOut stp ps n (gIn stp ps false st).2 else (gIn stp ps false st).2
def Good {σ : Type} (I : σ → Prop) (μ : σ → Nat) (stp : σ → Prod → Bool × σ) (ps : List Prod) : Prop :=
  ∀ st p, I st → p ∈ ps → I (stp st p).2 ∧ μ (stp st p).2 ≤ μ st ∧ ((stp st p).1 = true → μ (stp st p).2 < μ st)
theorem gIn_good {σ : Type} {I : σ → Prop} {μ : σ → Nat} {stp : σ → Prod → Bool × σ} : ∀ {ps : List Prod}, Good I μ stp ps → ∀ (ag : Bool) (st : σ), I st → I (gIn stp ps ag st).2 ∧ μ (gIn stp ps ag st).2 ≤ μ st ∧ ((gIn stp ps ag st).1 = true → ag = true ∨ μ (gIn stp ps ag st).2 < μ st)
  | [], _, ag, st, h => ⟨h, Nat.le_refl _, fun h => .inl h⟩
  | p :: ps, hg, ag, st, h => by
    obtain ⟨h1, h2, h3⟩ := hg st p h List.mem_cons_self
    obtain ⟨h4, h5, h6⟩ := gIn_good (fun st p hI hp => hg st p hI (List.mem_cons_of_mem _ hp)) ((stp st p).1 || ag) _ h1
    refine ⟨h4, Nat.le_trans h5 h2, fun h => ?_⟩
    rcases h6 h with h7 | h7
    · rcases (Bool.or_eq_true _ _).mp h7 with h8 | h8
      · exact .inr (Nat.lt_of_le_of_lt h5 (h3 h8))
      · exact .inl h8
    · exact .inr (Nat.lt_of_lt_of_le h7 h2)
theorem gOut_I {σ : Type} {I : σ → Prop} {μ : σ → Nat} {stp : σ → Prod → Bool × σ} {ps : List Prod} (hg : Good I μ stp ps) : ∀ (n : Nat) (st : σ), I st → I (gOut stp ps n st)
  | 0, st, h => (gIn_good hg false st h).1
  | n + 1, st, h => by
    unfold gOut
    split
    · exact gOut_I hg n _ (gIn_good hg false st h).1
    · exact (gIn_good hg false st h).1
theorem growIn_ev {σ : Type} {I : σ → Prop} {μ : σ → Nat} {stp : σ → Prod → Bool × σ} {f : Nat → σ → Prod → Option (Bool × σ)} : ∀ {ps : List Prod}, Good I μ stp ps → (∀ st p, I st → p ∈ ps → Ev (fun k => f k st p) (stp st p)) → ∀ (ag : Bool) (st : σ), I st → Ev (fun k => growIn (f k) ps ag st) (gIn stp ps ag st)
  | [], _, _, ag, st, _ => Ev.congr (fun k => by rw [growIn]) (Ev.some (by rw [gIn]))
  | p :: ps, hg, hf, ag, st, h => by
    refine Ev.congr (fun k => by rw [growIn]) (Ev.bind (hf st p h List.mem_cons_self) ?_)
    exact Ev.val (growIn_ev (fun st p hI hp => hg st p hI (List.mem_cons_of_mem _ hp)) (fun st p hI hp => hf st p hI (List.mem_cons_of_mem _ hp)) _ _ (hg st p h List.mem_cons_self).1) (by rw [gIn])
theorem out_ev {σ : Type} {I : σ → Prop} {μ : σ → Nat} {stp : σ → Prod → Bool × σ} {ps : List Prod} (hg : Good I μ stp ps) (g : Nat → Nat → σ → Option σ) (b : Nat → σ → Option (Bool × σ)) (hb : ∀ st, I st → Ev (fun k => b k st) (gIn stp ps false st))
    (hgs : ∀ kk k st, g kk (k + 1) st = (b kk st).bind fun r => if r.1 = true then g kk k r.2 else some r.2) : ∀ (n : Nat) (st : σ), I st → μ st ≤ n → ∃ K, ∀ kk, K ≤ kk → ∀ k, K ≤ k → g kk k st = some (gOut stp ps n st)
  | n, st, h, hn => by
    obtain ⟨K1, hK1⟩ := hb st h
    obtain ⟨h1, h2, h3⟩ := gIn_good hg false st h
    cases hr : (gIn stp ps false st).1 with
    | false =>
      refine ⟨K1 + 1, fun kk hkk k hk => ?_⟩
      obtain ⟨k', rfl⟩ : ∃ k', k = k' + 1 := ⟨k - 1, by omega⟩
      rw [hgs, show b kk st = _ from hK1 kk (by omega)]
      simp only [Option.bind_some, hr]
      cases n <;> simp [gOut, hr]
    | true =>
      have hlt : μ (gIn stp ps false st).2 < μ st := (h3 hr).resolve_left (by simp)
      cases n with
      | zero => omega
      | succ n =>
        obtain ⟨K2, hK2⟩ := out_ev hg g b hb hgs n _ h1 (by omega)
        refine ⟨max K1 K2 + 1, fun kk hkk k hk => ?_⟩
        obtain ⟨k', rfl⟩ : ∃ k', k = k' + 1 := ⟨k - 1, by omega⟩
        rw [hgs, show b kk st = _ from hK1 kk (by omega)]
        simp only [Option.bind_some, hr, if_true]
        rw [hK2 kk (by omega) k' (by omega), gOut, if_pos hr]
theorem growOut_ev {σ : Type} {I : σ → Prop} {μ : σ → Nat} {stp : σ → Prod → Bool × σ} {ps : List Prod} (hg : Good I μ stp ps) (f : Nat → σ → Prod → Option (Bool × σ)) (hf : ∀ st p, I st → p ∈ ps → Ev (fun k => f k st p) (stp st p)) (n : Nat) (st : σ) (h : I st) (hn : μ st ≤ n) : Ev (fun k => growOut (f k) ps k st) (gOut stp ps n st) := by
 obtain ⟨K, hK⟩ := out_ev hg (fun kk k st => growOut (f kk) ps k st) (fun kk st => growIn (f kk) ps false st) (fun st h => growIn_ev hg hf false st h) (fun kk k st => by rw [growOut]) n st h hn
 exact ⟨K, fun k hk => hK k hk k hk⟩
def cf : List Bool → Nat
  | [] => 0
  | x :: a => (if x = true then 0 else 1) + cf a
theorem cf_orL : ∀ (a b : List Bool), a.length = b.length → cf (orL a b) ≤ cf a ∧ (moreL a b = true → cf (orL a b) < cf a)
  | [], [], _ => by simp [orL, cf, moreL]
  | x :: a, y :: b, h => by
    obtain ⟨h1, h2⟩ := cf_orL a b (by simpa using h)
    have e : orL (x :: a) (y :: b) = (x || y) :: orL a b := rfl
    rw [e]
    cases x <;> cases y <;> simp [cf, moreL] <;> first | exact ⟨h1, h2⟩ | (refine ⟨by omega, fun h => ?_⟩; have := h2 h; omega) | omega
theorem cf_set : ∀ (a : List Bool) (i : Nat), i < a.length → a.getD i false = false → cf (a.set i true) < cf a
  | x :: a, 0, _, h => by
    have : x = false := by simpa using h
    subst this; simp [cf]
  | x :: a, i + 1, hi, h => by
    have := cf_set a i (by simpa using hi) (by simpa using h)
    simp only [List.set_cons_succ, cf]; omega
def cfs : List (List Bool) → Nat
  | [] => 0
  | r :: m => cf r + cfs m
theorem cfs_set : ∀ (m : List (List Bool)) (i : Nat) (r : List Bool), i < m.length → cf r ≤ cf (m.getD i []) → cfs (m.set i r) ≤ cfs m ∧ (cf r < cf (m.getD i []) → cfs (m.set i r) < cfs m)
  | x :: m, 0, r, _, h => by
    simp only [List.getD_cons_zero, List.set_cons_zero, cfs] at h ⊢
    omega
  | x :: m, i + 1, r, hi, h => by
    have := cfs_set m i r (by simpa using hi) (by simpa using h)
    simp only [List.getD_cons_succ, List.set_cons_succ, cfs] at h ⊢
    omega
def Small (ps : List Prod) : Prop := ps.length ≤ 1000000 ∧ ∀ p ∈ ps, p.f1.length ≤ 1000000
theorem firstsRight_val (l0 : List ByteArray) (l1 : List Tok) (a2 a3 : Int) (l4 : List Prod) (h : Small l4) : firsts_Right.f l0 l1 a2 a3 l4 = some (l4.all (okProd l0.length l1.length)) := by
 unfold firsts_Right.f
 rw [if_pos ⟨by have := h.1; omega, by rw [List.all_eq_true]; intro p hp; have := h.2 p hp; exact decide_eq_true (by omega)⟩]
theorem refRight_l1_ev (l0 : List ByteArray) (l1 : List Tok) (a2 a3 : Int) (l4 : List Prod) (x3 left : Int) (r : Bool) : ∀ (l pre : List Sym), pre.length + l.length ≤ 1000000 → (l.all (okSym l0.length l1.length) = true → Ev (fun k => regletref13_Right.l0 k (wrap64 (x3 + 1)) l0 l1 a2 a3 l4) r) → (l.all (okSym l0.length l1.length) = false → r = false) → Ev (fun k => regletref13_Right.l1 k x3 (pre.length : Int) l0 l1 a2 a3 l4 left (pre ++ l)) r
  | [], pre, _, h1, _ => Ev.step (fun k => by rw [regletref13_Right.l1]) (Ev.neg (by simp) (h1 rfl))
  | x :: l, pre, h3, h1, h2 => by
    simp only [List.length_cons] at h3
    have ih := refRight_l1_ev l0 l1 a2 a3 l4 x3 left r l (pre ++ [x]) (by simp; omega)
    simp only [← wrap_next pre _ (show pre.length ≤ 1000000 by omega), List.append_assoc, List.singleton_append] at ih
    have e : rd_T53 (pre ++ x :: l) (pre.length : Int) = x := getD_mid _ pre x l _ rfl
    refine Ev.step (fun k => by rw [regletref13_Right.l1]) ?_
    rw [e]
    refine Ev.pos (by simp; omega) (Ev.pos (by omega) ?_)
    cases hx : x.f0 with
    | true =>
      refine Ev.pos rfl ?_
      by_cases h0 : x.f1 < 0
      · exact Ev.pos h0 (Ev.some (h2 (by simp [okSym, hx]; omega)).symm)
      · refine Ev.neg h0 ?_
        by_cases h5 : x.f1 ≥ (l1.length : Int)
        · exact Ev.pos h5 (Ev.some (h2 (by simp [okSym, hx]; omega)).symm)
        · refine Ev.neg h5 (ih (fun h => h1 ?_) (fun h => h2 ?_))
          · simp [okSym, hx, -List.all_eq_true] ; exact ⟨by omega, h⟩
          · rw [List.all_cons, h, Bool.and_false]
    | false =>
      refine Ev.neg (by simp) ?_
      by_cases h0 : x.f1 < 0
      · exact Ev.pos h0 (Ev.some (h2 (by simp [okSym, hx]; omega)).symm)
      · refine Ev.neg h0 ?_
        by_cases h5 : x.f1 ≥ (l0.length : Int)
        · exact Ev.pos h5 (Ev.some (h2 (by simp [okSym, hx]; omega)).symm)
        · refine Ev.neg h5 (ih (fun h => h1 ?_) (fun h => h2 ?_))
          · simp [okSym, hx, -List.all_eq_true] ; exact ⟨by omega, h⟩
          · rw [List.all_cons, h, Bool.and_false]
theorem refRight_l0_ev (l0 : List ByteArray) (l1 : List Tok) (a2 a3 : Int) : ∀ (qs pre : List Prod), pre.length + qs.length ≤ 1000000 → (∀ p ∈ qs, p.f1.length ≤ 1000000) → Ev (fun k => regletref13_Right.l0 k (pre.length : Int) l0 l1 a2 a3 (pre ++ qs)) (qs.all (okProd l0.length l1.length))
  | [], pre, _, _ => Ev.step (fun k => by rw [regletref13_Right.l0]) (Ev.neg (by simp) (Ev.some (by simp)))
  | p :: qs, pre, h3, h4 => by
    simp only [List.length_cons] at h3
    have ih := refRight_l0_ev l0 l1 a2 a3 qs (pre ++ [p]) (by simp; omega) (fun p hp => h4 p (List.mem_cons_of_mem _ hp))
    simp only [← wrap_next pre _ (show pre.length ≤ 1000000 by omega), List.append_assoc, List.singleton_append] at ih
    have e : rd_T30 (pre ++ p :: qs) (pre.length : Int) = p := getD_mid _ pre p qs _ rfl
    refine Ev.step (fun k => by rw [regletref13_Right.l0]) ?_
    rw [e]
    refine Ev.pos (by simp; omega) (Ev.pos (by omega) ?_)
    by_cases h0 : p.f0 < 0
    · refine Ev.pos h0 (Ev.step (fun k => by rw [regletref13_Right.j1]) (Ev.pos rfl (Ev.some ?_)))
      simp [okProd]; omega
    · refine Ev.neg h0 (Ev.step (fun k => by rw [regletref13_Right.j1]) ?_)
      by_cases h5 : p.f0 ≥ (l0.length : Int)
      · refine Ev.pos (decide_eq_true h5) (Ev.some ?_)
        simp [okProd]; omega
      · refine Ev.neg (by simpa using h5) ?_
        have h := refRight_l1_ev l0 l1 a2 a3 (pre ++ p :: qs) (pre.length : Int) p.f0 ((p :: qs).all (okProd l0.length l1.length)) p.f1 [] (by have := h4 p List.mem_cons_self; simpa using this) (fun h => Ev.val ih (by
            have : okProd l0.length l1.length p = true := by simp only [okProd, h, Bool.and_true, Bool.and_eq_true, decide_eq_true_eq]; omega
            rw [List.all_cons, this, Bool.true_and])) (fun h => by
            have : okProd l0.length l1.length p = false := by simp only [okProd, h, Bool.and_false]
            rw [List.all_cons, this, Bool.false_and])
        simpa only [List.nil_append, List.length_nil, Int.natCast_zero] using h
theorem refRight_ev (l0 : List ByteArray) (l1 : List Tok) (a2 a3 : Int) (l4 : List Prod) (h : Small l4) : Ev (fun k => regletref13_Right.f k l0 l1 a2 a3 l4) (l4.all (okProd l0.length l1.length)) :=
  Ev.congr (fun k => by rw [regletref13_Right.f]) (by simpa only [List.nil_append, List.length_nil, Int.natCast_zero] using refRight_l0_ev l0 l1 a2 a3 l4 [] (by have := h.1; simpa using this) h.2)
def cNew (token : Bool) (out : List Bool) (p : Prod) : Bool := !(p.f1.any (oddP token out)) && !(out.getD p.f0.toNat false)
def cStep (token : Bool) (out : List Bool) (p : Prod) : Bool × List Bool := (cNew token out p, if cNew token out p = true then out.set p.f0.toNat true else out)
theorem closedStep_val (token : Bool) (out : List Bool) (p : Prod) : closedStep token out p = some (cStep token out p) := by
 have e : rdOf false out p.f0 = out.getD p.f0.toNat false := rfl
 unfold closedStep cStep cNew
 rw [e]
 cases out.getD p.f0.toNat false <;> cases p.f1.any (oddP token out) <;> rfl
theorem okProd_left {nn nt : Nat} {p : Prod} (h : okProd nn nt p = true) : 0 ≤ p.f0 ∧ p.f0 < (nn : Int) := by
 simp only [okProd, Bool.and_eq_true, decide_eq_true_eq] at h; exact h.1
theorem okProd_right {nn nt : Nat} {p : Prod} (h : okProd nn nt p = true) : p.f1.all (okSym nn nt) = true := by
 simp only [okProd, Bool.and_eq_true, decide_eq_true_eq] at h; exact h.2
theorem cStep_good (nn nt : Nat) (token : Bool) {ps : List Prod} (hps : ps.all (okProd nn nt) = true) : Good (fun out : List Bool => out.length = nn) cf (cStep token) ps := by
 intro st p hI hp
 have hl := okProd_left (List.all_eq_true.1 hps p hp)
 unfold cStep
 simp only
 cases hc : cNew token st p with
 | false => simp [hI]
 | true =>
  have h0 : st.getD p.f0.toNat false = false := by
   simp only [cNew, Bool.and_eq_true, Bool.not_eq_true'] at hc; exact hc.2
  have h := cf_set st p.f0.toNat (by omega) h0
  simp only [if_true]
  exact ⟨by simpa using hI, Nat.le_of_lt h, fun _ => h⟩
def clo (token : Bool) (nn : Nat) (ps : List Prod) : List Bool := gOut (cStep token) ps (cf (List.replicate nn false)) (List.replicate nn false)
theorem clo_length (nn nt : Nat) (token : Bool) {ps : List Prod} (hps : ps.all (okProd nn nt) = true) : (clo token nn ps).length = nn :=
  gOut_I (cStep_good nn nt token hps) _ _ (by simp)
theorem closed_ev (l0 : List ByteArray) (l1 : List Tok) (a2 a3 : Int) (l4 : List Prod) (h : Small l4) (hn : l0.length ≤ 1000000) (token : Bool) : Ev (fun k => firsts_closed.f k l0 l1 a2 a3 l4 token) (if l4.all (okProd l0.length l1.length) = true then clo token l0.length l4 else []) := by
 refine Ev.congr (fun k => by rw [firsts_closed.f]) (Ev.bind0 (firstsRight_val l0 l1 a2 a3 l4 h) ?_)
 cases hr : l4.all (okProd l0.length l1.length) with
 | false => exact Ev.neg (by simp) (Ev.some (by simp))
 | true =>
  rw [if_pos rfl]
  refine Ev.pos rfl (Ev.pos (by omega) ?_)
  exact growOut_ev (cStep_good l0.length l1.length token hr) (fun _ => closedStep token) (fun st p _ _ => Ev.some' (closedStep_val token st p)) _ _ (by simp) (Nat.le_refl _)
theorem any_step (token : Bool) (out : List Bool) (x : Sym) (l : List Sym) (is : Bool) : (is && !((x :: l).any (oddP token out))) = ((is && !(oddP token out x)) && !(l.any (oddP token out))) := by
 cases is <;> simp
theorem empty_ev (l0 : List ByteArray) (l1 : List Tok) (a2 a3 : Int) (l4 : List Prod) (h : Small l4) (hn : l0.length ≤ 1000000) : Ev (fun k => firsts_Empty.f k l0 l1 a2 a3 l4) (if l4.all (okProd l0.length l1.length) = true then clo false l0.length l4 else []) :=
  Ev.congr (fun k => by rw [firsts_Empty.f]) (Ev.bind (closed_ev l0 l1 a2 a3 l4 h hn false) (Ev.some rfl))
theorem refEmpty_l2_ev (l0 : List ByteArray) (l1 : List Tok) (a2 a3 : Int) (l4 : List Prod) (out : List Bool) (more : Bool) (x5 left : Int) (hl0 : 0 ≤ left) (hl1 : left < (out.length : Int)) (h50 : 0 ≤ x5) (h51 : x5 < (l4.length : Int)) (r : List Bool) : ∀ (l pre : List Sym) (is : Bool), rd_T30 l4 x5 = ⟨left, pre ++ l⟩ → l.all (okSym out.length l1.length) = true → pre.length + l.length ≤ 1000000 →
    Ev (fun k => regletref13_Empty.l1 k (if ((is && !(l.any (oddP false out))) && !(out.getD left.toNat false)) = true then out.set left.toNat true else out) (((is && !(l.any (oddP false out))) && !(out.getD left.toNat false)) || more) (wrap64 (x5 + 1)) l0 l1 a2 a3 l4) r → Ev (fun k => regletref13_Empty.l2 k out more x5 is (pre.length : Int) l0 l1 a2 a3 l4) r
  | [], pre, is, e, _, _, hk => by
    refine Ev.step (fun k => by rw [regletref13_Empty.l2]) ?_
    rw [e]
    have e2 : rdOf false out left = out.getD left.toNat false := rfl
    refine Ev.pos h50 (Ev.pos h51 (Ev.neg (by simp) ?_))
    rw [e2]
    cases is with
    | false => exact Ev.neg (by simp) (by simpa using hk)
    | true =>
      refine Ev.pos rfl (Ev.pos hl0 (Ev.pos hl1 ?_))
      cases ho : out.getD left.toNat false with
      | true => exact Ev.pos rfl (by rw [ho] at hk; simpa using hk)
      | false => exact Ev.neg (by simp) (by rw [ho] at hk; simpa using hk)
  | x :: l, pre, is, e, hok, h3, hk => by
    simp only [List.length_cons] at h3
    simp only [List.all_cons, Bool.and_eq_true] at hok
    have ih := fun is => refEmpty_l2_ev l0 l1 a2 a3 l4 out more x5 left hl0 hl1 h50 h51 r l (pre ++ [x]) is (by rw [List.append_assoc]; exact e) hok.2 (by simp; omega)
    simp only [← wrap_next pre _ (show pre.length ≤ 1000000 by omega)] at ih
    rw [any_step] at hk
    have e1 : rd_T53 (pre ++ x :: l) (pre.length : Int) = x := getD_mid _ pre x l _ rfl
    refine Ev.step (fun k => by rw [regletref13_Empty.l2]) ?_
    rw [e]
    simp only [e1]
    refine Ev.pos h50 (Ev.pos h51 (Ev.pos (by simp; omega) (Ev.pos (by omega) ?_)))
    cases is with
    | false => exact Ev.neg (by simp) (ih false (by rw [Bool.false_and] at hk; exact hk))
    | true =>
      refine Ev.pos rfl ?_
      have hb := hok.1
      cases hx : x.f0 with
      | true =>
        have ho : oddP false out x = true := by simp [oddP, hx]
        rw [ho] at hk
        exact Ev.pos rfl (ih false hk)
      | false =>
        have hb := okSym_rule hok.1 hx
        have ho : (true && !oddP false out x) = rdOf false out x.f1 := by simp [oddP, hx]
        rw [ho] at hk
        exact Ev.neg (by simp) (Ev.pos hb.1 (Ev.pos hb.2 (ih _ hk)))
theorem refEmpty_l1_ev (l0 : List ByteArray) (l1 : List Tok) (a2 a3 : Int) (r : List Bool) : ∀ (qs pre : List Prod) (out : List Bool) (more : Bool), out.length = l0.length → qs.all (okProd l0.length l1.length) = true → pre.length + qs.length ≤ 1000000 → (∀ p ∈ qs, p.f1.length ≤ 1000000) → Ev (fun k => regletref13_Empty.l0 k (gIn (cStep false) qs more out).2 (gIn (cStep false) qs more out).1 l0 l1 a2 a3 (pre ++ qs)) r → Ev (fun k => regletref13_Empty.l1 k out more (pre.length : Int) l0 l1 a2 a3 (pre ++ qs)) r
  | [], pre, out, more, _, _, _, _, hk => Ev.step (fun k => by rw [regletref13_Empty.l1]) (Ev.neg (by simp) (by simpa [gIn] using hk))
  | p :: qs, pre, out, more, ho, hok, h3, h4, hk => by
    simp only [List.length_cons] at h3
    simp only [List.all_cons, Bool.and_eq_true] at hok
    have ih := fun out more ho => refEmpty_l1_ev l0 l1 a2 a3 r qs (pre ++ [p]) out more ho hok.2 (by simp; omega) (fun p hp => h4 p (List.mem_cons_of_mem _ hp))
    simp only [← wrap_next pre _ (show pre.length ≤ 1000000 by omega), List.append_assoc, List.singleton_append] at ih
    refine Ev.step (fun k => by rw [regletref13_Empty.l1]) (Ev.pos (by simp; omega) ?_)
    have hl := okProd_left hok.1
    have e : rd_T30 (pre ++ p :: qs) (pre.length : Int) = ⟨p.f0, [] ++ p.f1⟩ := getD_mid _ pre p qs _ rfl
    have h := refEmpty_l2_ev l0 l1 a2 a3 (pre ++ p :: qs) out more (pre.length : Int) p.f0 hl.1 (by omega) (by omega) (by simp; omega) r p.f1 [] true e (by rw [ho]; exact okProd_right hok.1) (by have := h4 p List.mem_cons_self; simpa using this)
    refine h ?_
    rw [gIn] at hk
    have hlen : (cStep false out p).2.length = l0.length := by unfold cStep; simp only; split <;> simp [ho]
    have h2 := ih _ _ hlen hk
    have e2 : ((true && !(p.f1.any (oddP false out))) && !(out.getD p.f0.toNat false)) = cNew false out p := by simp [cNew]
    rw [e2]
    exact h2
theorem refEmpty_l0_ev (l0 : List ByteArray) (l1 : List Tok) (a2 a3 : Int) (l4 : List Prod) (hs : Small l4) (hok : l4.all (okProd l0.length l1.length) = true) : ∀ (n : Nat) (out : List Bool), out.length = l0.length → cf out ≤ n → Ev (fun k => regletref13_Empty.l0 k out true l0 l1 a2 a3 l4) (gOut (cStep false) l4 n out)
  | n, out, ho, hn => by
    obtain ⟨h1, h2, h3⟩ := gIn_good (cStep_good l0.length l1.length false hok) false out ho
    refine Ev.step (fun k => by rw [regletref13_Empty.l0]) (Ev.pos rfl ?_)
    have h := refEmpty_l1_ev l0 l1 a2 a3 (gOut (cStep false) l4 n out) l4 [] out false ho hok (by have := hs.1; simpa using this) hs.2
    simp only [List.nil_append, List.length_nil, Int.natCast_zero] at h
    refine h ?_
    cases hr : (gIn (cStep false) l4 false out).1 with
    | false =>
      refine Ev.step (fun k => by rw [regletref13_Empty.l0]) (Ev.neg (by simp) (Ev.some ?_))
      cases n <;> simp [gOut, hr]
    | true =>
      have hlt := (h3 hr).resolve_left (by simp)
      cases n with
      | zero => omega
      | succ n =>
        refine Ev.val (refEmpty_l0_ev l0 l1 a2 a3 l4 hs hok n _ h1 (by omega)) ?_
        rw [gOut, if_pos hr]
theorem refEmpty_ev (l0 : List ByteArray) (l1 : List Tok) (a2 a3 : Int) (l4 : List Prod) (h : Small l4) (hn : l0.length ≤ 1000000) : Ev (fun k => regletref13_Empty.f k l0 l1 a2 a3 l4) (if l4.all (okProd l0.length l1.length) = true then clo false l0.length l4 else []) := by
 refine Ev.congr (fun k => by rw [regletref13_Empty.f]) (Ev.bind (refRight_ev l0 l1 a2 a3 l4 h) ?_)
 cases hr : l4.all (okProd l0.length l1.length) with
 | false => exact Ev.neg (by simp) (Ev.some (by simp))
 | true =>
  rw [if_pos rfl]
  refine Ev.pos rfl (Ev.pos (by omega) (Ev.pos (by omega) ?_))
  rw [Int.toNat_natCast]
  exact refEmpty_l0_ev l0 l1 a2 a3 l4 h hr _ _ (by simp) (Nat.le_refl _)
def rows0 (nn nt : Nat) : List (List Bool) := List.replicate nn (none0 nt)
theorem rows0_sh (nn nt : Nat) : Sh nn nt (rows0 nn nt) := ⟨by simp [rows0], fun r hr => by rw [List.eq_of_mem_replicate hr]; simp [none0]⟩
theorem marks_l0_ev (l0 : List ByteArray) (l1 : List Tok) (a2 a3 : Int) (l4 : List Prod) (h0 : l0.length ≤ 1000000) (h1 : l1.length ≤ 1000000) : ∀ (n : Nat) (out : List (List Bool)), out.length + n = l0.length → Ev (fun k => regletref13_marks.l0 k out (out.length : Int) l0 l1 a2 a3 l4) (out ++ rows0 n l1.length)
  | 0, out, h => Ev.step (fun k => by rw [regletref13_marks.l0]) (Ev.neg (by omega) (Ev.some (by simp [rows0])))
  | n + 1, out, h => by
    have ih := marks_l0_ev l0 l1 a2 a3 l4 h0 h1 n (out ++ [none0 l1.length]) (by simp; omega)
    rw [← wrap_next out _ (show out.length ≤ 1000000 by omega)] at ih
    have e : wrap64 ((l1.length : Int) + 1) = ((l1.length + 1 : Nat) : Int) := by rw [wrap64_id (by omega) (by omega)]; simp
    refine Ev.step (fun k => by rw [regletref13_marks.l0, e]) (Ev.pos (by omega) (Ev.pos (by omega) (Ev.pos (by omega) (Ev.pos (by omega) ?_))))
    rw [Int.toNat_natCast]
    exact Ev.val ih (by simp [rows0, List.replicate_succ])
theorem marks_ev (l0 : List ByteArray) (l1 : List Tok) (a2 a3 : Int) (l4 : List Prod) (h0 : l0.length ≤ 1000000) (h1 : l1.length ≤ 1000000) : Ev (fun k => regletref13_marks.f k l0 l1 a2 a3 l4) (rows0 l0.length l1.length) :=
  Ev.congr (fun k => by rw [regletref13_marks.f]) (by simpa using marks_l0_ev l0 l1 a2 a3 l4 h0 h1 l0.length [] (by simp))
def sStep (nt : Nat) (em : List Bool) (m : List (List Bool)) (p : Prod) : Bool × List (List Bool) :=
  (moreL (m.getD p.f0.toNat []) (bg em m p.f1 (none0 nt)).1, m.set p.f0.toNat (orL (m.getD p.f0.toNat []) (bg em m p.f1 (none0 nt)).1))
theorem none0_length (nt : Nat) : (none0 nt).length = nt + 1 := by simp [none0]
theorem row_step {nn nt : Nat} {m : List (List Bool)} (hs : Sh nn nt m) {i : Nat} (hi : i < nn) {b : List Bool} (hb : b.length = nt + 1) : Sh nn nt (m.set i (orL (m.getD i []) b)) ∧ cfs (m.set i (orL (m.getD i []) b)) ≤ cfs m ∧ (moreL (m.getD i []) b = true → cfs (m.set i (orL (m.getD i []) b)) < cfs m) := by
 have hr := hs.get hi
 have h1 := cf_orL (m.getD i []) b (by rw [hr, hb])
 have h2 := cfs_set m i (orL (m.getD i []) b) (by rw [hs.1]; exact hi) h1.1
 exact ⟨hs.set i (by rw [orL_length (by rw [hr, hb]), hr]), h2.1, fun h => h2.2 (h1.2 h)⟩
theorem sStep_good {nn nt : Nat} (em : List Bool) {ps : List Prod} (hps : ps.all (okProd nn nt) = true) : Good (Sh nn nt) cfs (sStep nt em) ps := by
 intro st p hI hp
 have hok := List.all_eq_true.1 hps p hp
 have hl := okProd_left hok
 exact row_step hI (by omega) (bg_length em hI p.f1 _ (okProd_right hok) (none0_length nt))
def fst (nn nt : Nat) (em : List Bool) (ps : List Prod) : List (List Bool) := gOut (sStep nt em) ps (cfs (rows0 nn nt)) (rows0 nn nt)
theorem fst_sh (nn nt : Nat) (em : List Bool) {ps : List Prod} (hps : ps.all (okProd nn nt) = true) : Sh nn nt (fst nn nt em ps) :=
  gOut_I (sStep_good em hps) _ _ (rows0_sh nn nt)
theorem studiedStep_ev {nn nt : Nat} {em : List Bool} (he : em.length = nn) (hnt : nt ≤ 1000) {m : List (List Bool)} (hs : Sh nn nt m) {p : Prod} (hok : okProd nn nt p = true) (h3 : p.f1.length ≤ 1000000) : Ev (fun k => studiedStep k nt em m p) (sStep nt em m p) := by
 have hl := okProd_left hok
 have hs1 := hs.1
 have hb := bg_length em hs p.f1 _ (okProd_right hok) (none0_length nt)
 have hr := hs.get (i := p.f0.toNat) (by omega)
 refine Ev.congr (fun k => by rw [studiedStep]) (Ev.bind (begins_ev hs he hnt p.f1 (okProd_right hok) h3) ?_)
 refine Ev.pos hl.1 (Ev.pos (by omega) ?_)
 exact Ev.bind (add_ev (m.getD p.f0.toNat []) (bg em m p.f1 (none0 nt)).1 (by rw [hr, hb]) (by omega)) (Ev.some rfl)
theorem studied_ev (l0 : List ByteArray) (l1 : List Tok) (a2 a3 : Int) (l4 : List Prod) (h : Small l4) (h0 : l0.length ≤ 1000000) (h1 : l1.length ≤ 1000) (hok : l4.all (okProd l0.length l1.length) = true) : Ev (fun k => studied_f k l0 l1 a2 a3 l4) (clo false l0.length l4, fst l0.length l1.length (clo false l0.length l4) l4) := by
 refine Ev.congr (fun k => by rw [studied_f, if_pos ⟨by omega, by omega, by have := h.1; omega⟩]) (Ev.bind (Ev.val (empty_ev l0 l1 a2 a3 l4 h h0) (if_pos hok)) ?_)
 have he := clo_length l0.length l1.length false hok
 refine Ev.bind (growOut_ev (sStep_good _ hok) (fun k => studiedStep k l1.length (clo false l0.length l4)) (fun st p hI hp => studiedStep_ev he h1 hI (List.all_eq_true.1 hok p hp) (h.2 p hp)) _ _ (rows0_sh l0.length l1.length) (Nat.le_refl _)) (Ev.some rfl)
theorem refFirst_l1_ev (l0 : List ByteArray) (l1 : List Tok) (a2 a3 : Int) (em : List Bool) (he : em.length = l0.length) (h1 : l1.length ≤ 1000) : ∀ (qs pre : List Prod) (m : List (List Bool)) (more : Bool), Sh l0.length l1.length m → qs.all (okProd l0.length l1.length) = true → pre.length + qs.length ≤ 1000000 → (∀ p ∈ qs, p.f1.length ≤ 1000000) → Ev (fun k => regletref13_first.l1 l0 l1 a2 a3 (pre ++ qs) k m em more (pre.length : Int)) (gIn (sStep l1.length em) qs more m)
  | [], pre, m, more, _, _, _, _ => Ev.step (fun k => by rw [regletref13_first.l1]) (Ev.neg (by simp) (Ev.some (by simp [gIn])))
  | p :: qs, pre, m, more, hs, hok, h3, h4 => by
    simp only [List.length_cons] at h3
    simp only [List.all_cons, Bool.and_eq_true] at hok
    have ih := fun m more hs => refFirst_l1_ev l0 l1 a2 a3 em he h1 qs (pre ++ [p]) m more hs hok.2 (by simp; omega) (fun p hp => h4 p (List.mem_cons_of_mem _ hp))
    simp only [← wrap_next pre _ (show pre.length ≤ 1000000 by omega), List.append_assoc, List.singleton_append] at ih
    have hl := okProd_left hok.1
    have hs1 := hs.1
    have hb := bg_length em hs p.f1 _ (okProd_right hok.1) (none0_length l1.length)
    have hr := hs.get (i := p.f0.toNat) (by omega)
    have hg := (sStep_good em (ps := [p]) (by simp [hok.1])) m p hs (by simp)
    have e : rd_T30 (pre ++ p :: qs) (pre.length : Int) = p := getD_mid _ pre p qs _ rfl
    refine Ev.step (fun k => by rw [regletref13_first.l1]) ?_
    rw [e]
    refine Ev.pos (by simp; omega) (Ev.pos (by omega) (Ev.bind (refBegins_ev l0 l1 a2 a3 _ hs he h1 p.f1 (okProd_right hok.1) (h4 p List.mem_cons_self)) (Ev.pos hl.1 (Ev.pos (by omega) (Ev.bind (join_ev (m.getD p.f0.toNat []) (bg em m p.f1 (none0 l1.length)).1 (by rw [hr, hb]) (by omega)) ?_)))))
    refine Ev.val (ih _ _ hg.1) ?_
    rw [gIn]
    congr 1
    show (if (sStep l1.length em m p).1 = true then true else more) = _
    cases (sStep l1.length em m p).1 <;> rfl
theorem refFirst_l0_ev (l0 : List ByteArray) (l1 : List Tok) (a2 a3 : Int) (l4 : List Prod) (h : Small l4) (em : List Bool) (he : em.length = l0.length) (h1 : l1.length ≤ 1000) (hok : l4.all (okProd l0.length l1.length) = true) : ∀ (n : Nat) (m : List (List Bool)), Sh l0.length l1.length m → cfs m ≤ n → Ev (fun k => regletref13_first.l0 l0 l1 a2 a3 l4 k m em true) (gOut (sStep l1.length em) l4 n m)
  | n, m, hs, hn => by
    obtain ⟨g1, g2, g3⟩ := gIn_good (sStep_good em hok) false m hs
    have h5 := refFirst_l1_ev l0 l1 a2 a3 em he h1 l4 [] m false hs hok (by have := h.1; simpa using this) h.2
    simp only [List.nil_append, List.length_nil, Int.natCast_zero] at h5
    refine Ev.step (fun k => by rw [regletref13_first.l0]) (Ev.pos rfl (Ev.bind h5 ?_))
    cases hr : (gIn (sStep l1.length em) l4 false m).1 with
    | false =>
      refine Ev.step (fun k => by rw [regletref13_first.l0]) (Ev.neg (by simp) (Ev.some ?_))
      cases n <;> simp [gOut, hr]
    | true =>
      have hlt := (g3 hr).resolve_left (by simp)
      cases n with
      | zero => omega
      | succ n =>
        refine Ev.val (refFirst_l0_ev l0 l1 a2 a3 l4 h em he h1 hok n _ g1 (by omega)) ?_
        rw [gOut, if_pos hr]
theorem refFirst_ev (l0 : List ByteArray) (l1 : List Tok) (a2 a3 : Int) (l4 : List Prod) (h : Small l4) (h0 : l0.length ≤ 1000000) (h1 : l1.length ≤ 1000) (hok : l4.all (okProd l0.length l1.length) = true) : Ev (fun k => regletref13_first.f k l0 l1 a2 a3 l4) (fst l0.length l1.length (clo false l0.length l4) l4) := by
 refine Ev.congr (fun k => by rw [regletref13_first.f]) (Ev.bind (marks_ev l0 l1 a2 a3 l4 h0 (by omega)) (Ev.bind (Ev.val (refEmpty_ev l0 l1 a2 a3 l4 h h0) (if_pos hok)) ?_))
 exact refFirst_l0_ev l0 l1 a2 a3 l4 h _ (clo_length l0.length l1.length false hok) h1 hok _ _ (rows0_sh l0.length l1.length) (Nat.le_refl _)
theorem or_self : ∀ a : List Bool, orL a a = a
  | [] => rfl
  | x :: a => by show (x || x) :: orL a a = x :: a; rw [or_self a, Bool.or_self]
theorem more_self : ∀ a : List Bool, moreL a a = false
  | [] => rfl
  | x :: a => by show ((x && !x) || moreL a a) = false; rw [more_self a]; cases x <;> rfl
theorem or_three : ∀ (a b c : List Bool), a.length = b.length → b.length = c.length → orL a (orL b c) = orL (orL a b) c ∧ moreL a (orL b c) = (moreL (orL a b) c || moreL a b)
  | [], [], [], _, _ => ⟨rfl, rfl⟩
  | x :: a, y :: b, z :: c, h1, h2 => by
    obtain ⟨h3, h4⟩ := or_three a b c (by simpa using h1) (by simpa using h2)
    constructor
    · show (x || (y || z)) :: orL a (orL b c) = (x || y || z) :: orL (orL a b) c
      rw [h3, Bool.or_assoc]
    · show (((y || z) && !x) || moreL a (orL b c)) = (((z && !(x || y)) || moreL (orL a b) c) || ((y && !x) || moreL a b))
      rw [h4]
      cases x <;> cases y <;> cases z <;> simp
theorem or_back : ∀ (a b : List Bool), a.length = b.length → orL a (orL b a) = orL a b ∧ moreL a (orL b a) = moreL a b
  | [], [], _ => ⟨rfl, rfl⟩
  | x :: a, y :: b, h1 => by
    obtain ⟨h3, h4⟩ := or_back a b (by simpa using h1)
    constructor
    · show (x || (y || x)) :: orL a (orL b a) = (x || y) :: orL a b
      rw [h3]; cases x <;> cases y <;> rfl
    · show (((y || x) && !x) || moreL a (orL b a)) = ((y && !x) || moreL a b)
      rw [h4]; cases x <;> cases y <;> rfl
def fAdd (nt : Nat) (em : List Bool) (first : List (List Bool)) (left : Nat) (ys : List Sym) (out : List (List Bool)) : List Bool :=
  if (bg em first ys (none0 nt)).2 = true then orL (bg em first ys (none0 nt)).1 (out.getD left []) else (bg em first ys (none0 nt)).1
def fIn (nt : Nat) (em : List Bool) (first : List (List Bool)) (left : Nat) : List Sym → Bool → List (List Bool) → Bool × List (List Bool)
  | [], g, out => (g, out)
  | y :: ys, g, out => if y.f0 = true then fIn nt em first left ys g out else
    fIn nt em first left ys (moreL (out.getD y.f1.toNat []) (fAdd nt em first left ys out) || g) (out.set y.f1.toNat (orL (out.getD y.f1.toNat []) (fAdd nt em first left ys out)))
def fStep (nt : Nat) (em : List Bool) (first : List (List Bool)) (out : List (List Bool)) (p : Prod) : Bool × List (List Bool) := fIn nt em first p.f0.toNat p.f1 false out
theorem fAdd_length {nn nt : Nat} (em : List Bool) {first out : List (List Bool)} (hf : Sh nn nt first) (hs : Sh nn nt out) {left : Nat} (hl : left < nn) {ys : List Sym} (hok : ys.all (okSym nn nt) = true) : (fAdd nt em first left ys out).length = nt + 1 := by
 have hb := bg_length em hf ys _ hok (none0_length nt)
 unfold fAdd
 split
 · rw [orL_length (by rw [hb, hs.get hl]), hb]
 · exact hb
theorem fIn_good {nn nt : Nat} (em : List Bool) {first : List (List Bool)} (hf : Sh nn nt first) {left : Nat} (hl : left < nn) : ∀ (ys : List Sym) (g : Bool) (out : List (List Bool)), ys.all (okSym nn nt) = true → Sh nn nt out → Sh nn nt (fIn nt em first left ys g out).2 ∧ cfs (fIn nt em first left ys g out).2 ≤ cfs out ∧ ((fIn nt em first left ys g out).1 = true → g = true ∨ cfs (fIn nt em first left ys g out).2 < cfs out)
  | [], g, out, _, hs => ⟨hs, Nat.le_refl _, fun h => .inl h⟩
  | y :: ys, g, out, hok, hs => by
    simp only [List.all_cons, Bool.and_eq_true] at hok
    unfold fIn
    cases hy : y.f0 with
    | true => rw [if_pos rfl]; exact fIn_good em hf hl ys g out hok.2 hs
    | false =>
      rw [if_neg (by simp)]
      have hb := okSym_rule hok.1 hy
      obtain ⟨h1, h2, h3⟩ := row_step hs (i := y.f1.toNat) (by omega) (fAdd_length em hf hs hl hok.2)
      obtain ⟨h4, h5, h6⟩ := fIn_good em hf hl ys (moreL (out.getD y.f1.toNat []) (fAdd nt em first left ys out) || g) _ hok.2 h1
      refine ⟨h4, Nat.le_trans h5 h2, fun h => ?_⟩
      rcases h6 h with h7 | h7
      · rcases (Bool.or_eq_true _ _).mp h7 with h8 | h8
        · exact .inr (Nat.lt_of_le_of_lt h5 (h3 h8))
        · exact .inl h8
      · exact .inr (Nat.lt_of_lt_of_le h7 h2)
theorem fStep_good {nn nt : Nat} (em : List Bool) {first : List (List Bool)} (hf : Sh nn nt first) {ps : List Prod} (hps : ps.all (okProd nn nt) = true) : Good (Sh nn nt) cfs (fStep nt em first) ps := by
 intro st p hI hp
 have hok := List.all_eq_true.1 hps p hp
 have hl := okProd_left hok
 obtain ⟨h1, h2, h3⟩ := fIn_good em hf (left := p.f0.toNat) (by omega) p.f1 false st (okProd_right hok) hI
 exact ⟨h1, h2, fun h => (h3 h).resolve_left (by simp)⟩
theorem followAdd_ev {nn nt : Nat} (hnt : nt ≤ 1000) {out : List (List Bool)} (hs : Sh nn nt out) {n : Int} (h0 : 0 ≤ n) (h1 : n < (nn : Int)) {l : List Bool} (hl : l.length = nt + 1) : Ev (fun k => followAdd k n l out) (moreL (out.getD n.toNat []) l, out.set n.toNat (orL (out.getD n.toNat []) l)) := by
 have hr := hs.get (i := n.toNat) (by omega)
 have hs1 := hs.1
 exact Ev.congr (fun k => by rw [followAdd]) (Ev.pos h0 (Ev.pos (by omega) (Ev.bind (add_ev _ _ (by rw [hr, hl]) (by omega)) (Ev.some rfl))))
theorem followIn_ev {nn nt : Nat} {em : List Bool} (he : em.length = nn) (hnt : nt ≤ 1000) {first : List (List Bool)} (hf : Sh nn nt first) {left : Int} (hl0 : 0 ≤ left) (hl1 : left < (nn : Int)) : ∀ (ys : List Sym) (g : Bool) (out : List (List Bool)), ys.all (okSym nn nt) = true → ys.length ≤ 1000000 → Sh nn nt out → Ev (fun k => followIn k nt em first left ys g out) (fIn nt em first left.toNat ys g out)
  | [], g, out, _, _, hs => Ev.congr (fun k => by rw [followIn]) (Ev.some (by rw [fIn]))
  | y :: ys, g, out, hok, h3, hs => by
    simp only [List.all_cons, Bool.and_eq_true] at hok
    simp only [List.length_cons] at h3
    refine Ev.congr (fun k => by rw [followIn]) ?_
    unfold fIn
    cases hy : y.f0 with
    | true => rw [if_pos rfl]; exact Ev.pos rfl (followIn_ev he hnt hf hl0 hl1 ys g out hok.2 (by omega) hs)
    | false =>
      rw [if_neg (by simp)]
      have hb := okSym_rule hok.1 hy
      have hbl := bg_length em hf ys _ hok.2 (none0_length nt)
      have hn : y.f1.toNat < nn := by omega
      have hrow := hs.get hn
      obtain ⟨h1, _, _⟩ := row_step hs hn hbl
      obtain ⟨h1a, _, _⟩ := row_step hs hn (fAdd_length em hf hs (left := left.toNat) (by omega) hok.2)
      refine Ev.neg (by simp) (Ev.bind (begins_ev hf he hnt ys hok.2 (by omega)) (Ev.bind (followAdd_ev hnt hs hb.1 hb.2 hbl) ?_))
      cases hem : (bg em first ys (none0 nt)).2 with
      | false =>
        have e : fAdd nt em first left.toNat ys out = (bg em first ys (none0 nt)).1 := by rw [fAdd, hem, if_neg (by simp)]
        rw [e] at h1a ⊢
        exact Ev.neg (by simp) (followIn_ev he hnt hf hl0 hl1 ys _ _ hok.2 (by omega) h1a)
      | true =>
        have e : fAdd nt em first left.toNat ys out = orL (bg em first ys (none0 nt)).1 (out.getD left.toNat []) := by rw [fAdd, hem, if_pos rfl]
        rw [e] at h1a ⊢
        have hs1 := h1.1
        have hlr := hs.get (i := left.toNat) (by omega)
        have hlr2 := h1.get (i := left.toNat) (by omega)
        refine Ev.pos rfl (Ev.pos hl0 (Ev.pos (by simp only; rw [hs1]; exact hl1) (Ev.bind (followAdd_ev hnt h1 hb.1 hb.2 hlr2) ?_)))
        have hrow2 : (out.set y.f1.toNat (orL (out.getD y.f1.toNat []) (bg em first ys (none0 nt)).1)).getD y.f1.toNat [] = orL (out.getD y.f1.toNat []) (bg em first ys (none0 nt)).1 := by
          rw [List.getD_eq_getElem?_getD, List.getElem?_set_self (by rw [hs.1]; exact hn)]; rfl
        by_cases hyl : y.f1.toNat = left.toNat
        · rw [← hyl] at h1a ⊢
          dsimp only
          rw [hrow2, or_self, more_self, List.set_set]
          obtain ⟨e1, e2⟩ := or_back (out.getD y.f1.toNat []) (bg em first ys (none0 nt)).1 (by rw [hrow, hbl])
          rw [e1] at h1a ⊢
          rw [e2]
          have hres := followIn_ev he hnt hf hl0 hl1 ys (moreL (out.getD y.f1.toNat []) (bg em first ys (none0 nt)).1 || g) _ hok.2 (by omega) h1a
          rw [← hyl] at hres
          rw [Bool.false_or]
          exact hres
        · have hl2 : (out.set y.f1.toNat (orL (out.getD y.f1.toNat []) (bg em first ys (none0 nt)).1)).getD left.toNat [] = out.getD left.toNat [] := by
            rw [List.getD_eq_getElem?_getD, List.getElem?_set_ne hyl, List.getD_eq_getElem?_getD]
          dsimp only
          rw [hrow2, hl2, List.set_set]
          obtain ⟨e1, e2⟩ := or_three (out.getD y.f1.toNat []) (bg em first ys (none0 nt)).1 (out.getD left.toNat []) (by rw [hrow, hbl]) (by rw [hlr, hbl])
          rw [e1] at h1a ⊢
          rw [e2, Bool.or_assoc]
          exact followIn_ev he hnt hf hl0 hl1 ys _ _ hok.2 (by omega) h1a
def fol0 (nn nt : Nat) : List (List Bool) := if 0 < nn then (rows0 nn nt).set 0 ((none0 nt).set nt true) else []
theorem fol0_sh (nn nt : Nat) : Sh nn nt (fol0 nn nt) := by
 unfold fol0
 split
 · exact (rows0_sh nn nt).set 0 (by simp [none0_length])
 · obtain rfl : nn = 0 := by omega
   exact ⟨rfl, fun r hr => by simp at hr⟩
def fol (nn nt : Nat) (em : List Bool) (first : List (List Bool)) (ps : List Prod) : List (List Bool) := gOut (fStep nt em first) ps (cfs (fol0 nn nt)) (fol0 nn nt)
theorem fol_sh {nn nt : Nat} (em : List Bool) {first : List (List Bool)} (hf : Sh nn nt first) {ps : List Prod} (hps : ps.all (okProd nn nt) = true) : Sh nn nt (fol nn nt em first ps) :=
  gOut_I (fStep_good em hf hps) _ _ (fol0_sh nn nt)
theorem refFollowIn_ev (l0 : List ByteArray) (l1 : List Tok) (a2 a3 : Int) (l4 : List Prod) {em : List Bool} (he : em.length = l0.length) (hnt : l1.length ≤ 1000) {first : List (List Bool)} (hf : Sh l0.length l1.length first) {left : Int} (hl0 : 0 ≤ left) (hl1 : left < (l0.length : Int)) : ∀ (ys : List Sym) (g : Bool) (out : List (List Bool)), ys.all (okSym l0.length l1.length) = true → ys.length ≤ 1000000 → Sh l0.length l1.length out → Ev (fun k => rFollowIn k l0 l1 a2 a3 l4 first em left ys g out) (fIn l1.length em first left.toNat ys g out)
  | [], g, out, _, _, hs => Ev.congr (fun k => by rw [rFollowIn]) (Ev.some (by rw [fIn]))
  | y :: ys, g, out, hok, h3, hs => by
    simp only [List.all_cons, Bool.and_eq_true] at hok
    simp only [List.length_cons] at h3
    refine Ev.congr (fun k => by rw [rFollowIn]) ?_
    unfold fIn
    cases hy : y.f0 with
    | true => rw [if_pos rfl]; exact Ev.pos rfl (refFollowIn_ev l0 l1 a2 a3 l4 he hnt hf hl0 hl1 ys g out hok.2 (by omega) hs)
    | false =>
      rw [if_neg (by simp)]
      have hb := okSym_rule hok.1 hy
      have hbl := bg_length em hf ys _ hok.2 (none0_length l1.length)
      have hn : y.f1.toNat < l0.length := by omega
      have hrow := hs.get hn
      have hs1 := hs.1
      have hfl := fAdd_length em hf hs (left := left.toNat) (by omega) hok.2
      obtain ⟨h1a, _, _⟩ := row_step hs hn hfl
      have hlr := hs.get (i := left.toNat) (by omega)
      refine Ev.neg (by simp) (Ev.bind (refBegins_ev l0 l1 a2 a3 l4 hf he hnt ys hok.2 (by omega)) ?_)
      refine Ev.bind (a := fAdd l1.length em first left.toNat ys out) ?_ ?_
      · refine Ev.congr (fun k => by rw [rJoinFrom]) ?_
        unfold fAdd
        cases hem : (bg em first ys (none0 l1.length)).2 with
        | false => exact Ev.neg (by simp) (Ev.some (by simp))
        | true =>
          refine Ev.pos rfl (Ev.pos hl0 (Ev.pos (by omega) ?_))
          exact Ev.bind (join_ev _ _ (by rw [hbl, hlr]) (by omega)) (Ev.some (by simp))
      · refine Ev.bind (a := (moreL (out.getD y.f1.toNat []) (fAdd l1.length em first left.toNat ys out), out.set y.f1.toNat (orL (out.getD y.f1.toNat []) (fAdd l1.length em first left.toNat ys out)))) ?_ ?_
        · refine Ev.congr (fun k => by rw [rJoinRow]) (Ev.pos hb.1 (Ev.pos (by omega) ?_))
          exact Ev.bind (join_ev _ _ (by rw [hrow, hfl]) (by omega)) (Ev.some rfl)
        · refine Ev.val (refFollowIn_ev l0 l1 a2 a3 l4 he hnt hf hl0 hl1 ys _ _ hok.2 (by omega) h1a) ?_
          congr 1
          cases moreL (out.getD y.f1.toNat []) (fAdd l1.length em first left.toNat ys out) <;> rfl
theorem fIn_more (nt : Nat) (em : List Bool) (first : List (List Bool)) (left : Nat) : ∀ (ys : List Sym) (g : Bool) (out : List (List Bool)), fIn nt em first left ys g out = ((fIn nt em first left ys false out).1 || g, (fIn nt em first left ys false out).2)
  | [], g, out => by simp [fIn]
  | y :: ys, g, out => by
    unfold fIn
    split
    · exact fIn_more nt em first left ys g out
    · rw [fIn_more nt em first left ys (_ || g), fIn_more nt em first left ys (_ || false)]
      simp [Bool.or_assoc]
theorem refFollowPs_ev (l0 : List ByteArray) (l1 : List Tok) (a2 a3 : Int) (l4 : List Prod) {em : List Bool} (he : em.length = l0.length) (hnt : l1.length ≤ 1000) {first : List (List Bool)} (hf : Sh l0.length l1.length first) : ∀ (qs : List Prod) (g : Bool) (out : List (List Bool)), qs.all (okProd l0.length l1.length) = true → (∀ p ∈ qs, p.f1.length ≤ 1000000) → Sh l0.length l1.length out → Ev (fun k => rFollowPs k l0 l1 a2 a3 l4 first em qs g out) (gIn (fStep l1.length em first) qs g out)
  | [], g, out, _, _, hs => Ev.congr (fun k => by rw [rFollowPs]) (Ev.some (by rw [gIn]))
  | p :: qs, g, out, hok, h3, hs => by
    simp only [List.all_cons, Bool.and_eq_true] at hok
    have hl := okProd_left hok.1
    have hg := fIn_good em hf (left := p.f0.toNat) (by omega) p.f1 g out (okProd_right hok.1) hs
    refine Ev.congr (fun k => by rw [rFollowPs]) (Ev.bind (refFollowIn_ev l0 l1 a2 a3 l4 he hnt hf hl.1 hl.2 p.f1 g out (okProd_right hok.1) (h3 p List.mem_cons_self) hs) ?_)
    refine Ev.val (refFollowPs_ev l0 l1 a2 a3 l4 he hnt hf qs _ _ hok.2 (fun p hp => h3 p (List.mem_cons_of_mem _ hp)) hg.1) ?_
    rw [gIn, fStep, fIn_more]
theorem refFollowOut_ev (l0 : List ByteArray) (l1 : List Tok) (a2 a3 : Int) (l4 : List Prod) (h : Small l4) {em : List Bool} (he : em.length = l0.length) (hnt : l1.length ≤ 1000) {first : List (List Bool)} (hf : Sh l0.length l1.length first) (hok : l4.all (okProd l0.length l1.length) = true) : ∀ (n : Nat) (out : List (List Bool)), Sh l0.length l1.length out → cfs out ≤ n → ∃ K, ∀ kk, K ≤ kk → ∀ k, K ≤ k → rFollowOut kk l0 l1 a2 a3 l4 first em k out true = some (gOut (fStep l1.length em first) l4 n out)
  | n, out, hs, hn => by
    obtain ⟨g1, g2, g3⟩ := gIn_good (fStep_good em hf hok) false out hs
    obtain ⟨K1, hK1⟩ := refFollowPs_ev l0 l1 a2 a3 l4 he hnt hf l4 false out hok h.2 hs
    have hK1' : ∀ k, K1 ≤ k → rFollowPs k l0 l1 a2 a3 l4 first em l4 false out = some (gIn (fStep l1.length em first) l4 false out) := hK1
    cases hr : (gIn (fStep l1.length em first) l4 false out).1 with
    | false =>
      refine ⟨K1 + 2, fun kk hkk k hk => ?_⟩
      obtain ⟨k', rfl⟩ : ∃ k', k = k' + 2 := ⟨k - 2, by omega⟩
      rw [rFollowOut, if_pos rfl, hK1' kk (by omega)]
      simp only [Option.bind_some, hr]
      rw [rFollowOut, if_neg (by simp)]
      cases n <;> simp [gOut, hr]
    | true =>
      have hlt := (g3 hr).resolve_left (by simp)
      cases n with
      | zero => omega
      | succ n =>
        obtain ⟨K2, hK2⟩ := refFollowOut_ev l0 l1 a2 a3 l4 h he hnt hf hok n _ g1 (by omega)
        refine ⟨max K1 K2 + 1, fun kk hkk k hk => ?_⟩
        obtain ⟨k', rfl⟩ : ∃ k', k = k' + 1 := ⟨k - 1, by omega⟩
        rw [rFollowOut, if_pos rfl, hK1' kk (by omega)]
        simp only [Option.bind_some, hr]
        rw [hK2 kk (by omega) k' (by omega), gOut, if_pos hr]
theorem Sh.small {nn nt : Nat} {m : List (List Bool)} (h : Sh nn nt m) (h1 : nt ≤ 1000) : ∀ r ∈ m, r.length ≤ 1000000 := fun r hr => by rw [h.2 r hr]; omega
section
variable (l0 : List ByteArray) (l1 : List Tok) (a2 a3 : Int) (l4 : List Prod)
def dFollow (nn nt : Nat) (ps : List Prod) : List (List Int) := if ps.all (okProd nn nt) = true then idxs (fol nn nt (clo false nn ps) (fst nn nt (clo false nn ps) ps) ps) else []
def dOf (nn nt : Nat) (ps : List Prod) (l : List Sym) : List Int × Bool := if ps.all (okProd nn nt) = true ∧ nn ≠ 0 ∧ l.all (okSym nn nt) = true then
  (idx 0 (bg (clo false nn ps) (fst nn nt (clo false nn ps) ps) l (none0 nt)).1, (bg (clo false nn ps) (fst nn nt (clo false nn ps) ps) l (none0 nt)).2) else ([], false)
variable (h : Small l4) (h0 : l0.length ≤ 1000000) (h1 : l1.length ≤ 1000)
include h h0 h1
theorem follow_ev : Ev (fun k => firsts_Follow.f k l0 l1 a2 a3 l4) (dFollow l0.length l1.length l4) := by
 refine Ev.congr (fun k => by rw [firsts_Follow.f]) (Ev.bind0 (firstsRight_val l0 l1 a2 a3 l4 h) ?_)
 unfold dFollow
 cases hr : l4.all (okProd l0.length l1.length) with
 | false => exact Ev.neg (by simp) (Ev.some (by simp))
 | true =>
  have hs := fst_sh l0.length l1.length (clo false l0.length l4) hr
  have hs2 := fol_sh (clo false l0.length l4) hs hr
  have he := clo_length l0.length l1.length false hr
  rw [if_pos rfl]
  refine Ev.pos rfl (Ev.bind (studied_ev l0 l1 a2 a3 l4 h h0 h1 hr) ?_)
  refine Ev.bind (growOut_ev (fStep_good _ hs hr) (fun k => followStep k l1.length (clo false l0.length l4) (fst l0.length l1.length (clo false l0.length l4) l4)) (fun st p hI hp => ?_) (cfs (fol0 l0.length l1.length)) (fol0 l0.length l1.length) (fol0_sh _ _) (Nat.le_refl _)) (all_ev _ (by have := hs2.1; exact Nat.le_trans (Nat.le_of_eq this) h0) (hs2.small h1))
  have hok := List.all_eq_true.1 hr p hp
  have hl := okProd_left hok
  exact Ev.congr (fun k => by rw [followStep]) (followIn_ev he h1 hs hl.1 hl.2 p.f1 false st (okProd_right hok) (h.2 p hp) hI)
theorem refFollow_ev : Ev (fun k => regletref13_Follow.f k l0 l1 a2 a3 l4) (dFollow l0.length l1.length l4) := by
 refine Ev.congr (fun k => by rw [regletref13_Follow.f, if_pos ⟨by have := h.1; omega, by rw [List.all_eq_true]; intro p hp; have := h.2 p hp; exact decide_eq_true (by omega)⟩]) (Ev.bind (refRight_ev l0 l1 a2 a3 l4 h) ?_)
 unfold dFollow
 cases hr : l4.all (okProd l0.length l1.length) with
 | false => exact Ev.neg (by simp) (Ev.some (by simp))
 | true =>
  have hs := fst_sh l0.length l1.length (clo false l0.length l4) hr
  have hs2 := fol_sh (clo false l0.length l4) hs hr
  have he := clo_length l0.length l1.length false hr
  rw [if_pos rfl]
  refine Ev.pos rfl (Ev.bind (marks_ev l0 l1 a2 a3 l4 h0 (by omega)) (Ev.bind (refFirst_ev l0 l1 a2 a3 l4 h h0 h1 hr) (Ev.bind (Ev.val (refEmpty_ev l0 l1 a2 a3 l4 h h0) (if_pos hr)) (Ev.bind (a := fol0 l0.length l1.length) ?_ (Ev.bind (a := fol l0.length l1.length (clo false l0.length l4) (fst l0.length l1.length (clo false l0.length l4) l4) l4) ?_ (lists_ev _ (by have := hs2.1; exact Nat.le_trans (Nat.le_of_eq this) h0) (hs2.small h1)))))))
  · refine Ev.some' ?_
    unfold rFollow0 fol0
    by_cases hn : 0 < l0.length
    rotate_left
    · rw [if_neg (by rw [(rows0_sh _ _).1]; exact hn), if_neg hn]
      have : l0.length = 0 := by omega
      rw [this]; rfl
    have hrow : (rows0 l0.length l1.length).getD 0 [] = none0 l1.length := by
     obtain ⟨n, hn'⟩ : ∃ n, l0.length = n + 1 := ⟨l0.length - 1, by omega⟩
     rw [hn', rows0, List.replicate_succ]; rfl
    rw [if_pos (by rw [(rows0_sh _ _).1]; exact hn), hrow, if_pos (by rw [none0_length]; omega), if_pos hn]
  · obtain ⟨K, hK⟩ := refFollowOut_ev l0 l1 a2 a3 l4 h he h1 hs hr (cfs (fol0 l0.length l1.length)) (fol0 l0.length l1.length) (fol0_sh _ _) (Nat.le_refl _)
    exact ⟨K, fun k hk => hK k hk k hk⟩
theorem of_ev (l : List Sym) (hl : l.length ≤ 1000000) : Ev (fun k => firsts_Of.f k l0 l1 a2 a3 l4 l) (dOf l0.length l1.length l4 l) := by
 refine Ev.congr (fun k => by rw [firsts_Of.f]) (Ev.bind0 (firstsRight_val l0 l1 a2 a3 l4 h) ?_)
 unfold dOf
 cases hr : l4.all (okProd l0.length l1.length) with
 | false => exact Ev.neg (by simp) (Ev.some (by simp))
 | true =>
  refine Ev.pos rfl (Ev.bind0 (a := l.all (okSym l0.length l1.length)) (by rw [firsts_symbols.f, if_pos (by omega)]) ?_)
  cases hs : l.all (okSym l0.length l1.length) with
  | false => exact Ev.neg (by simp) (Ev.some (by simp))
  | true =>
   refine Ev.pos rfl ?_
   by_cases hn : (l0.length : Int) = 0
   · exact Ev.pos hn (Ev.some (if_neg (fun hc => hc.2.1 (Int.ofNat_eq_zero.1 hn))).symm)
   refine Ev.neg hn (Ev.bind (studied_ev l0 l1 a2 a3 l4 h h0 h1 hr) ?_)
   have hsh := fst_sh l0.length l1.length (clo false l0.length l4) hr
   have hb := bg_length (clo false l0.length l4) hsh l _ hs (none0_length l1.length)
   refine Ev.bind (begins_ev hsh (clo_length l0.length l1.length false hr) h1 l hs hl) (Ev.bind (rising_ev _ (by rw [hb]; omega)) (Ev.some ?_))
   have hc : true = true ∧ l0.length ≠ 0 ∧ true = true := ⟨rfl, by omega, rfl⟩
   rw [if_pos hc]
theorem refOf_ev (l : List Sym) (hl : l.length ≤ 1000000) : Ev (fun k => regletref13_Of.f k l0 l1 a2 a3 l4 l) (dOf l0.length l1.length l4 l) := by
 refine Ev.congr (fun k => by rw [regletref13_Of.f]) (Ev.bind (refRight_ev l0 l1 a2 a3 l4 h) ?_)
 unfold dOf
 cases hr : l4.all (okProd l0.length l1.length) with
 | false => exact Ev.neg (by simp) (Ev.some (by simp))
 | true =>
  refine Ev.pos rfl ?_
  by_cases hn : (l0.length : Int) = 0
  · exact Ev.pos hn (Ev.some (if_neg (fun hc => hc.2.1 (Int.ofNat_eq_zero.1 hn))).symm)
  refine Ev.neg hn (Ev.bind (Ev.val (refRight_ev l0 l1 a2 a3 [⟨0, l⟩] ⟨by simp, by simpa using hl⟩) (s := l.all (okSym l0.length l1.length)) ?_) ?_)
  · simp [okProd]; intro _; omega
  cases hs : l.all (okSym l0.length l1.length) with
  | false => exact Ev.neg (by simp) (Ev.some (by simp))
  | true =>
   have hsh := fst_sh l0.length l1.length (clo false l0.length l4) hr
   have hb := bg_length (clo false l0.length l4) hsh l _ hs (none0_length l1.length)
   refine Ev.pos rfl (Ev.bind (refFirst_ev l0 l1 a2 a3 l4 h h0 h1 hr) (Ev.bind (Ev.val (refEmpty_ev l0 l1 a2 a3 l4 h h0) (if_pos hr)) ?_))
   refine Ev.bind (refBegins_ev l0 l1 a2 a3 l4 hsh (clo_length l0.length l1.length false hr) h1 l hs hl) (Ev.bind (list_ev _ (by rw [hb]; omega)) (Ev.some ?_))
   have hc : true = true ∧ l0.length ≠ 0 ∧ true = true := ⟨rfl, by omega, rfl⟩
   rw [if_pos hc]
end
abbrev Clash := S50
def markOn (l : List Int) (row : List Bool) : List Bool := l.foldl (fun row t => row.set t.toNat true) row
theorem markOn_length : ∀ (l : List Int) (row : List Bool), (markOn l row).length = row.length
  | [], _ => rfl
  | t :: l, row => by rw [markOn, List.foldl_cons, ← markOn, markOn_length l]; simp
theorem markOn_getD : ∀ (l : List Int) (row : List Bool), (∀ t ∈ l, 0 ≤ t ∧ t.toNat < row.length) → ∀ look : Nat, (markOn l row).getD look false = (row.getD look false || decide ((look : Int) ∈ l))
  | [], _, _, _ => by simp [markOn]
  | t :: l, row, h, look => by
    obtain ⟨h0, h1⟩ := h t List.mem_cons_self
    rw [markOn, List.foldl_cons, ← markOn, markOn_getD l _ (fun x hx => by rw [List.length_set]; exact h x (List.mem_cons_of_mem _ hx)) look]
    by_cases he : t.toNat = look
    · subst he
      rw [get_set _ _ h1]
      have : ((t.toNat : Nat) : Int) = t := by omega
      simp [this]
    · rw [List.getD_eq_getElem?_getD, List.getElem?_set_ne he, ← List.getD_eq_getElem?_getD]
      have : ¬ (look : Int) = t := by omega
      simp [this]
theorem idx_range : ∀ (a : List Bool) (n : Nat), ∀ x ∈ idx n a, (n : Int) ≤ x ∧ x < ((n + a.length : Nat) : Int)
  | [], _, x, hx => by simp [idx] at hx
  | b :: a, n, x, hx => by
    have ih := idx_range a (n + 1)
    unfold idx at hx
    split at hx
    · rcases List.mem_cons.1 hx with rfl | h
      · simp; omega
      · have := ih x h; simp at this ⊢; omega
    · have := ih x hx; simp at this ⊢; omega
theorem chosen_l1_ev {x3 : List (List Int)} {x18 : List Prod} {x19 x20 : Int} {l0 : List ByteArray} {l1 : List Tok} {a2 a3 : Int} {l4 : List Prod} {R : List (List Bool)} (i : Nat) : ∀ (a pre : List Int) (out : List (List Bool)), (∀ t ∈ a, 0 ≤ t ∧ t.toNat < (out.getD i []).length) → i < out.length → pre.length + a.length ≤ 1000000 → Ev (fun k => predict_chosen.l0 k x3 (out.set i (markOn a (out.getD i []))) x18 x19 (wrap64 (x20 + 1)) l0 l1 a2 a3 l4) R → Ev (fun k => predict_chosen.l1 k x3 out (i : Int) x18 x19 x20 (pre ++ a) ((pre ++ a).length : Int) (pre.length : Int) l0 l1 a2 a3 l4) R
  | [], pre, out, _, hi, _, hk => Ev.step (fun k => by rw [predict_chosen.l1]) (Ev.neg (by simp) (by rw [markOn, List.foldl_nil, set_get _ _ _ hi] at hk; exact hk))
  | t :: a, pre, out, h, hi, h3, hk => by
    simp only [List.length_cons] at h3
    obtain ⟨h0, h1⟩ := h t List.mem_cons_self
    have ih := chosen_l1_ev (x3 := x3) (x18 := x18) (x19 := x19) (x20 := x20) (l0 := l0) (l1 := l1) (a2 := a2) (a3 := a3) (l4 := l4) (R := R) i a (pre ++ [t]) (out.set i ((out.getD i []).set t.toNat true)) (by rw [get_set _ _ hi]; intro x hx; rw [List.length_set]; exact h x (List.mem_cons_of_mem _ hx)) (by rw [List.length_set]; exact hi) (by simp; omega) (by rw [get_set _ _ hi, set_set]; exact hk)
    simp only [← wrap_next pre _ (show pre.length ≤ 1000000 by omega), List.append_assoc, List.singleton_append] at ih
    refine Ev.step (fun k => by rw [predict_chosen.l1]) (Ev.pos (by simp; omega) (Ev.pos (by omega) (Ev.pos (by simp; omega) (Ev.pos (by omega) (Ev.pos (by omega) ?_)))))
    rw [show rd (pre ++ t :: a) (pre.length : Int) = t from getD_mid _ pre t a _ rfl, show rd_L13 out (i : Int) = out.getD i [] from by rw [rd_L13, Int.toNat_natCast]]
    exact Ev.pos h0 (Ev.pos (by omega) (by rw [Int.toNat_natCast]; exact ih))
section
variable (l0 : List ByteArray) (l1 : List Tok) (a2 a3 : Int) (l4 : List Prod)
def sel (nn nt : Nat) (ps : List Prod) (p : Prod) : List Int := (dOf nn nt ps p.f1).1 ++ (if (dOf nn nt ps p.f1).2 = true then (dFollow nn nt ps).getD p.f0.toNat [] else [])
def chRow (nn nt : Nat) (ps : List Prod) (p : Prod) : List Bool := markOn (sel nn nt ps p) (none0 nt)
theorem of_range {nn nt : Nat} {ps : List Prod} (hps : ps.all (okProd nn nt) = true) (l : List Sym) : (dOf nn nt ps l).1.length ≤ nt + 1 ∧ ∀ x ∈ (dOf nn nt ps l).1, 0 ≤ x ∧ x < ((nt + 1 : Nat) : Int) := by
 unfold dOf
 split
 · rename_i hc
   have hb := bg_length (clo false nn ps) (fst_sh nn nt (clo false nn ps) hps) l _ hc.2.2 (none0_length nt)
   refine ⟨by have := idx_length 0 (bg (clo false nn ps) (fst nn nt (clo false nn ps) ps) l (none0 nt)).1; simp only; omega, fun x hx => ?_⟩
   have := idx_range _ 0 x hx
   rw [hb] at this
   simpa using this
 · simp
theorem follow_range {nn nt : Nat} {ps : List Prod} (hps : ps.all (okProd nn nt) = true) : (dFollow nn nt ps).length = nn ∧ ∀ i, ((dFollow nn nt ps).getD i []).length ≤ nt + 1 ∧ ∀ x ∈ (dFollow nn nt ps).getD i [], 0 ≤ x ∧ x < ((nt + 1 : Nat) : Int) := by
 unfold dFollow
 rw [if_pos hps]
 have hs := fol_sh (clo false nn ps) (fst_sh nn nt (clo false nn ps) hps) hps
 refine ⟨by rw [idxs, List.length_map, hs.1], fun i => ?_⟩
 by_cases hi : i < nn
 rotate_left
 · rw [List.getD_eq_getElem?_getD, List.getElem?_eq_none (by rw [idxs, List.length_map, hs.1]; omega)]
   simp
 have e : (idxs (fol nn nt (clo false nn ps) (fst nn nt (clo false nn ps) ps) ps)).getD i [] = idx 0 ((fol nn nt (clo false nn ps) (fst nn nt (clo false nn ps) ps) ps).getD i []) := by
  have hlt : i < (fol nn nt (clo false nn ps) (fst nn nt (clo false nn ps) ps) ps).length := by rw [hs.1]; exact hi
  rw [idxs, List.getD_eq_getElem?_getD, List.getElem?_map, List.getD_eq_getElem?_getD, List.getElem?_eq_getElem hlt]; rfl
 rw [e]
 have hl := hs.get hi
 refine ⟨by have := idx_length 0 ((fol nn nt (clo false nn ps) (fst nn nt (clo false nn ps) ps) ps).getD i []); omega, fun x hx => ?_⟩
 have := idx_range _ 0 x hx
 rw [hl] at this
 simpa using this
theorem sel_range {nn nt : Nat} {ps : List Prod} (hps : ps.all (okProd nn nt) = true) (p : Prod) : (sel nn nt ps p).length ≤ 2 * (nt + 1) ∧ ∀ x ∈ sel nn nt ps p, 0 ≤ x ∧ x < ((nt + 1 : Nat) : Int) := by
 have h1 := of_range hps p.f1
 have h2 := (follow_range hps).2 p.f0.toNat
 unfold sel
 refine ⟨?_, fun x hx => ?_⟩
 · rw [List.length_append]
   split
   · omega
   · simp; omega
 · rcases List.mem_append.1 hx with h | h
   · exact h1.2 x h
   · split at h
     · exact h2.2 x h
     · simp at h
theorem chRow_getD {nn nt : Nat} {ps : List Prod} (hps : ps.all (okProd nn nt) = true) (p : Prod) (look : Nat) : (chRow nn nt ps p).getD look false = decide ((look : Int) ∈ sel nn nt ps p) := by
 rw [chRow, markOn_getD _ _ (fun t ht => by have := (sel_range hps p).2 t ht; rw [none0_length]; omega)]
 simp [none0, List.getElem?_replicate]
 intro h
 by_cases hl : look < nt + 1
 rotate_left
 · rw [if_neg hl] at h; simp at h
 rw [if_pos hl] at h; simp at h
theorem chRow_length (nn nt : Nat) (ps : List Prod) (p : Prod) : (chRow nn nt ps p).length = nt + 1 := by rw [chRow, markOn_length, none0_length]
variable {l0 l1 a2 a3 l4}
theorem chosen_l0_ev (h : Small l4) (h0 : l0.length ≤ 1000000) (h1 : l1.length ≤ 1000) (hok : l4.all (okProd l0.length l1.length) = true) : ∀ (qs pre : List Prod) (out : List (List Bool)), pre ++ qs = l4 → out.length = pre.length → Ev (fun k => predict_chosen.l0 k (dFollow l0.length l1.length l4) (out ++ List.replicate qs.length []) l4 (l4.length : Int) (pre.length : Int) l0 l1 a2 a3 l4) (out ++ qs.map (chRow l0.length l1.length l4))
  | [], pre, out, e, ho => by
    refine Ev.step (fun k => by rw [predict_chosen.l0]) (Ev.neg (by rw [← e]; simp) (Ev.some (by simp)))
  | p :: qs, pre, out, e, ho => by
    have hlen : l4.length = pre.length + (qs.length + 1) := by rw [← e]; simp
    have hp0 : pre.length ≤ 1000000 := by have := h.1; omega
    have hmem : p ∈ l4 := by rw [← e]; simp
    have hokp := List.all_eq_true.1 hok p hmem
    have hl := okProd_left hokp
    have hrd : rd_T30 l4 (pre.length : Int) = p := by rw [← e]; exact getD_mid _ pre p qs _ rfl
    have ih := chosen_l0_ev h h0 h1 hok qs (pre ++ [p]) (out ++ [chRow l0.length l1.length l4 p]) (by rw [← e]; simp) (by simp [ho])
    rw [← wrap_next pre _ hp0] at ih
    have hw : wrap64 ((l1.length : Int) + 1) = ((l1.length + 1 : Nat) : Int) := by rw [wrap64_id (by omega) (by omega)]; omega
    have hset : ∀ v : List Bool, (out ++ List.replicate (qs.length + 1) []).set pre.length v = out ++ v :: List.replicate qs.length [] := fun v => by
      rw [List.replicate_succ, ← ho]; simp
    have hsel : sel l0.length l1.length l4 p = (dOf l0.length l1.length l4 p.f1).1 ++ (if (dOf l0.length l1.length l4 p.f1).2 = true then (dFollow l0.length l1.length l4).getD p.f0.toNat [] else []) := rfl
    have hfin : ∀ l : List Int, l = sel l0.length l1.length l4 p → Ev (fun k => predict_chosen.j1 k (dFollow l0.length l1.length l4) (out ++ none0 l1.length :: List.replicate qs.length []) (pre.length : Int) l l4 (l4.length : Int) (pre.length : Int) l0 l1 a2 a3 l4) (out ++ (p :: qs).map (chRow l0.length l1.length l4)) := fun l el => by
      subst el
      have hr := sel_range hok p
      refine Ev.step (fun k => by rw [predict_chosen.j1]) ?_
      have hg : (out ++ none0 l1.length :: List.replicate qs.length []).getD pre.length [] = none0 l1.length := by rw [← ho]; simp
      have hx := chosen_l1_ev (x3 := dFollow l0.length l1.length l4) (x18 := l4) (x19 := (l4.length : Int)) (x20 := (pre.length : Int)) (l0 := l0) (l1 := l1) (a2 := a2) (a3 := a3) (l4 := l4) (R := out ++ (p :: qs).map (chRow l0.length l1.length l4)) pre.length (sel l0.length l1.length l4 p) [] (out ++ none0 l1.length :: List.replicate qs.length []) (fun t ht => by have := hr.2 t ht; rw [hg, none0_length]; omega) (by simp [ho]) (by have := hr.1; simp; omega) (by
        rw [hg, show (out ++ none0 l1.length :: List.replicate qs.length []).set pre.length (markOn (sel l0.length l1.length l4 p) (none0 l1.length)) = (out ++ [chRow l0.length l1.length l4 p]) ++ List.replicate qs.length [] from by rw [← ho]; simp [chRow]]
        exact Ev.val ih (by simp))
      exact hx
    refine Ev.step (fun k => by rw [predict_chosen.l0]) (Ev.pos (by omega) (Ev.pos (by omega) (Ev.pos (by omega) ?_)))
    rw [hw]
    refine Ev.pos (by omega) (Ev.pos (by omega) (Ev.pos (by simp; omega) (Ev.bind0 (a := out ++ none0 l1.length :: List.replicate qs.length []) (by rw [Int.toNat_natCast, Int.toNat_natCast, List.length_cons, hset]; rfl) ?_)))
    rw [hrd]
    refine Ev.bind (of_ev l0 l1 a2 a3 l4 h h0 h1 p.f1 (h.2 p hmem)) ?_
    have hfl := follow_range hok
    by_cases he : (dOf l0.length l1.length l4 p.f1).2 = true
    · refine Ev.pos he (Ev.pos hl.1 (Ev.pos (by rw [hfl.1]; exact hl.2) (Ev.pos ?_ (hfin _ (by rw [hsel, if_pos he]; rfl)))))
      have h2 := (of_range hok p.f1).1
      have h3 := (hfl.2 p.f0.toNat).1
      have h4 : (rd_L3 (dFollow l0.length l1.length l4) p.f0).length ≤ l1.length + 1 := h3
      omega
    · exact Ev.neg he (hfin _ (by rw [hsel, if_neg he, List.append_nil]))
theorem chosen_ev (h : Small l4) (h0 : l0.length ≤ 1000000) (h1 : l1.length ≤ 1000) (hok : l4.all (okProd l0.length l1.length) = true) : Ev (fun k => predict_chosen.f k l0 l1 a2 a3 l4) (l4.map (chRow l0.length l1.length l4)) := by
 refine Ev.congr (fun k => by rw [predict_chosen.f]) (Ev.bind (follow_ev l0 l1 a2 a3 l4 h h0 h1) ?_)
 refine Ev.pos (by omega) (Ev.pos (by have := h.1; omega) ?_)
 have hx := chosen_l0_ev (a2 := a2) (a3 := a3) h h0 h1 hok l4 [] [] rfl rfl
 rw [Int.toNat_natCast]
 simpa using hx
theorem rows_l1_ev {x12 : Int} {x11 : Int} {R : List (List Int)} (r : Nat) : ∀ (n m : Nat) (out : List (List Int)), r < out.length → m + n ≤ 1000000 → out.getD r [] = List.replicate m (-1) ++ List.replicate n 0 → Ev (fun k => predict_rows.l0 k (out.set r (List.replicate (m + n) (-1))) x11 (wrap64 (x12 + 1)) l0 l1 a2 a3 l4) R → Ev (fun k => predict_rows.l1 k out (r : Int) x11 x12 ((m + n : Nat) : Int) (m : Int) l0 l1 a2 a3 l4) R
  | 0, m, out, hr, _, e, hk => Ev.step (fun k => by rw [predict_rows.l1]) (Ev.neg (by omega) (by
      rw [show out.set r (List.replicate (m + 0) (-1)) = out from by
        have := set_get out r [] hr
        rw [e] at this
        simpa using this] at hk
      exact hk))
  | n + 1, m, out, hr, h3, e, hk => by
    have hg : rd_L3 out (r : Int) = out.getD r [] := by rw [rd_L3, Int.toNat_natCast]
    have ih := rows_l1_ev (x12 := x12) (x11 := x11) (R := R) r n (m + 1) (out.set r (List.replicate (m + 1) (-1) ++ List.replicate n 0)) (by rw [List.length_set]; exact hr) (by omega) (get_set _ _ hr) (by rw [set_set, show m + 1 + n = m + (n + 1) by omega]; exact hk)
    refine Ev.step (fun k => by rw [predict_rows.l1]) (Ev.pos (by omega) (Ev.pos (by omega) (Ev.pos (by omega) (Ev.pos (by omega) (Ev.pos (by rw [hg, e]; simp; omega) ?_)))))
    have hs : (out.getD r []).set m (-1) = List.replicate (m + 1) (-1) ++ List.replicate n 0 := by
      rw [e, List.replicate_succ, List.replicate_succ', List.append_assoc]
      simp
    rw [hg, Int.toNat_natCast, Int.toNat_natCast, hs, show wrap64 ((m : Int) + 1) = ((m + 1 : Nat) : Int) from by rw [wrap64_id (by omega) (by omega)]; omega, show m + (n + 1) = m + 1 + n by omega]
    exact ih
theorem rows_l0_ev (h1 : l1.length ≤ 1000) : ∀ (n : Nat) (out : List (List Int)), out.length + n ≤ 1000000 → Ev (fun k => predict_rows.l0 k (out ++ List.replicate n []) ((out.length + n : Nat) : Int) (out.length : Int) l0 l1 a2 a3 l4) (out ++ List.replicate n (List.replicate (l1.length + 1) (-1)))
  | 0, out, _ => Ev.step (fun k => by rw [predict_rows.l0]) (Ev.neg (by omega) (Ev.some (by simp)))
  | n + 1, out, h3 => by
    have hw : wrap64 ((l1.length : Int) + 1) = ((l1.length + 1 : Nat) : Int) := by rw [wrap64_id (by omega) (by omega)]; omega
    have ih := rows_l0_ev h1 n (out ++ [List.replicate (l1.length + 1) (-1)]) (by simp; omega)
    rw [← wrap_next out _ (by omega)] at ih
    have hset : ∀ v w : List Int, (out ++ w :: List.replicate n []).set out.length v = out ++ v :: List.replicate n [] := fun v w => by simp
    refine Ev.step (fun k => by rw [predict_rows.l0]) (Ev.pos (by omega) ?_)
    rw [hw]
    refine Ev.pos (by omega) (Ev.pos (by omega) (Ev.pos (by omega) (Ev.pos (by simp; omega) (Ev.bind0 (a := out ++ List.replicate (l1.length + 1) 0 :: List.replicate n []) (by rw [Int.toNat_natCast, Int.toNat_natCast, List.replicate_succ, hset]) ?_))))
    have hg : (out ++ List.replicate (l1.length + 1) 0 :: List.replicate n []).getD out.length [] = List.replicate (l1.length + 1) (0 : Int) := by simp
    have hx := rows_l1_ev (l0 := l0) (l1 := l1) (a2 := a2) (a3 := a3) (l4 := l4) (x12 := (out.length : Int)) (x11 := ((out.length + (n + 1) : Nat) : Int)) (R := out ++ List.replicate (n + 1) (List.replicate (l1.length + 1) (-1))) out.length (l1.length + 1) 0 (out ++ List.replicate (l1.length + 1) 0 :: List.replicate n []) (by simp) (by omega) (by rw [hg]; simp) (by
      rw [hset, Nat.zero_add]
      have e : out.length + (n + 1) = (out ++ [List.replicate (l1.length + 1) (-1)]).length + n := by simp; omega
      rw [e]
      refine Ev.val (Ev.congr (fun k => ?_) ih) (by simp [List.replicate_succ])
      rw [List.append_assoc, List.singleton_append])
    rw [show rd_L3 (out ++ List.replicate (l1.length + 1) 0 :: List.replicate n []) (out.length : Int) = List.replicate (l1.length + 1) 0 from by rw [rd_L3, Int.toNat_natCast]; exact hg, List.length_replicate]
    simpa using hx
theorem rows_ev (h0 : l0.length ≤ 1000000) (h1 : l1.length ≤ 1000) : Ev (fun k => predict_rows.f k l0 l1 a2 a3 l4) (List.replicate l0.length (List.replicate (l1.length + 1) (-1))) := by
 refine Ev.congr (fun k => by rw [predict_rows.f]) (Ev.pos (by omega) (Ev.pos (by omega) (Ev.bind0 (a := List.replicate l0.length []) (by rw [Int.toNat_natCast]) ?_)))
 have hx := rows_l0_ev (l0 := l0) (a2 := a2) (a3 := a3) (l4 := l4) h1 l0.length [] (by simpa using h0)
 simpa using hx
end
theorem has14_l0_ev (n : Int) : ∀ (a pre : List Int), pre.length + a.length ≤ 1000000 → Ev (fun k => regletref14_has.l0 k (pre ++ a) n (pre.length : Int)) (decide (n ∈ a))
  | [], pre, _ => Ev.step (fun k => by rw [regletref14_has.l0]) (Ev.neg (by simp) (Ev.some (by simp)))
  | x :: a, pre, h3 => by
    simp only [List.length_cons] at h3
    have ih := has14_l0_ev n a (pre ++ [x]) (by simp; omega)
    simp only [← wrap_next pre _ (show pre.length ≤ 1000000 by omega), List.append_assoc, List.singleton_append] at ih
    refine Ev.step (fun k => by rw [regletref14_has.l0]) (Ev.pos (by simp; omega) (Ev.pos (by omega) ?_))
    rw [show rd (pre ++ x :: a) (pre.length : Int) = x from getD_mid _ pre x a _ rfl]
    by_cases h : x = n
    · exact Ev.pos h (Ev.some (by simp [h]))
    · exact Ev.neg h (Ev.val ih (by simp [Ne.symm h]))
theorem has14_ev (a : List Int) (n : Int) (h : a.length ≤ 1000000) : Ev (fun k => regletref14_has.f k a n) (decide (n ∈ a)) :=
  Ev.congr (fun k => by rw [regletref14_has.f]) (by simpa using has14_l0_ev n a [] (by simpa using h))
def pRow (b : List (List Bool)) (ps : List Prod) (r : Nat) : Nat → Nat → List Clash → List Int × List Clash
  | 0, _, bad => ([], bad)
  | n + 1, look, bad => ((prIn b r look 0 ps (-1, bad)).1 :: (pRow b ps r n (look + 1) (prIn b r look 0 ps (-1, bad)).2).1, (pRow b ps r n (look + 1) (prIn b r look 0 ps (-1, bad)).2).2)
def pAll (b : List (List Bool)) (ps : List Prod) (w : Nat) : Nat → Nat → List Clash → List (List Int) × List Clash
  | 0, _, bad => ([], bad)
  | n + 1, r, bad => ((pRow b ps r w 0 bad).1 :: (pAll b ps w n (r + 1) (pRow b ps r w 0 bad).2).1, (pAll b ps w n (r + 1) (pRow b ps r w 0 bad).2).2)
theorem prRow_pRow (b : List (List Bool)) (ps : List Prod) (r : Nat) : ∀ (n : Nat) (pre : List Int) (bad : List Clash), prRow b ps r n pre.length (pre ++ List.replicate n (-1), bad) = (pre ++ (pRow b ps r n pre.length bad).1, (pRow b ps r n pre.length bad).2)
  | 0, pre, bad => by simp [prRow, pRow]
  | n + 1, pre, bad => by
    have hg : (pre ++ List.replicate (n + 1) (-1)).getD pre.length 0 = (-1 : Int) := by rw [List.replicate_succ]; simp
    have hs : ∀ v, (pre ++ List.replicate (n + 1) (-1)).set pre.length v = (pre ++ [v]) ++ List.replicate n (-1) := fun v => by rw [List.replicate_succ]; simp
    have ih := prRow_pRow b ps r n (pre ++ [(prIn b r pre.length 0 ps (-1, bad)).1]) (prIn b r pre.length 0 ps (-1, bad)).2
    rw [prRow, hg, hs, pRow]
    rw [List.length_append, List.length_singleton] at ih
    rw [ih, List.append_assoc]; rfl
theorem prAll_pAll (b : List (List Bool)) (ps : List Prod) (w : Nat) : ∀ (n : Nat) (pre : List (List Int)) (bad : List Clash), prAll b ps n pre.length (pre ++ List.replicate n (List.replicate w (-1)), bad) = (pre ++ (pAll b ps w n pre.length bad).1, (pAll b ps w n pre.length bad).2)
  | 0, pre, bad => by simp [prAll, pAll]
  | n + 1, pre, bad => by
    have hg : (pre ++ List.replicate (n + 1) (List.replicate w (-1))).getD pre.length [] = List.replicate w (-1 : Int) := by rw [List.replicate_succ]; simp
    have hs : ∀ v, (pre ++ List.replicate (n + 1) (List.replicate w (-1))).set pre.length v = (pre ++ [v]) ++ List.replicate n (List.replicate w (-1)) := fun v => by rw [List.replicate_succ]; simp
    have hr := prRow_pRow b ps pre.length w [] bad
    simp only [List.nil_append, List.length_nil] at hr
    have ih := prAll_pAll b ps w n (pre ++ [(pRow b ps pre.length w 0 bad).1]) (pRow b ps pre.length w 0 bad).2
    rw [prAll, hg, hs, pAll, List.length_replicate, hr]
    rw [List.length_append, List.length_singleton] at ih
    simp only
    rw [ih, List.append_assoc]; rfl
theorem prIn_max (b : List (List Bool)) (r look : Nat) : ∀ (ps : List Prod) (i : Nat) (st : Int × List Clash), (prIn b r look i ps st).2.length ≤ st.2.length + ps.length
  | [], _, _ => Nat.le_refl _
  | p :: ps, i, st => by
    have := prIn_max b r look ps (i + 1) (prStep b r look i p st)
    have : (prStep b r look i p st).2.length ≤ st.2.length + 1 := by
      unfold prStep; split
      · split <;> simp
      · simp
    rw [prIn, List.length_cons]; omega
theorem pRow_max (b : List (List Bool)) (ps : List Prod) (r : Nat) : ∀ (n look : Nat) (bad : List Clash), (pRow b ps r n look bad).1.length = n ∧ (pRow b ps r n look bad).2.length ≤ bad.length + n * ps.length
  | 0, _, _ => by simp [pRow]
  | n + 1, look, bad => by
    have h1 := pRow_max b ps r n (look + 1) (prIn b r look 0 ps (-1, bad)).2
    have h2 := prIn_max b r look ps 0 (-1, bad)
    rw [pRow, Nat.succ_mul]
    simp only [List.length_cons] at h2 ⊢
    exact ⟨by rw [h1.1], by omega⟩
theorem pAll_max (b : List (List Bool)) (ps : List Prod) (w : Nat) : ∀ (n r : Nat) (bad : List Clash), (pAll b ps w n r bad).1.length = n ∧ (∀ x ∈ (pAll b ps w n r bad).1, x.length = w) ∧ (pAll b ps w n r bad).2.length ≤ bad.length + n * (w * ps.length)
  | 0, _, _ => by simp [pAll]
  | n + 1, r, bad => by
    have h1 := pAll_max b ps w n (r + 1) (pRow b ps r w 0 bad).2
    have h2 := pRow_max b ps r w 0 bad
    rw [pAll, Nat.succ_mul]
    refine ⟨by simp only [List.length_cons]; rw [h1.1], fun x hx => ?_, by simp only; omega⟩
    rcases List.mem_cons.1 hx with rfl | h
    · exact h2.1
    · exact h1.2.1 x h
section
variable {l0 : List ByteArray} {l1 : List Tok} {a2 a3 : Int} {l4 : List Prod} {b : List (List Bool)} {all : List (List Int)}
theorem ref_l3_ev (h : Small l4) (hb : ∀ (i look : Nat), i < l4.length → (b.getD i []).getD look false = decide ((look : Int) ∈ all.getD i [])) (ha : all.length = l4.length) (hs : ∀ i, (all.getD i []).length ≤ 1000000) (r look : Nat) {x9 : List (List Int)} {x12 : List Int} (h12 : x12.length ≤ 1000000) {R : List (List Int) × List Clash} : ∀ (qs pre : List Prod) (st : Int × List Clash), pre ++ qs = l4 → st.2.length + qs.length ≤ 1000000 →
    Ev (fun k => regletref14_Predict.l2 k all x9 (prIn b r look pre.length qs st).2 (r : Int) (x12 ++ [(prIn b r look pre.length qs st).1]) (wrap64 ((look : Int) + 1)) l0 l1 a2 a3 l4) R → Ev (fun k => regletref14_Predict.l3 k all x9 st.2 (r : Int) x12 (look : Int) st.1 (pre.length : Int) l0 l1 a2 a3 l4) R
  | [], pre, st, e, _, hk => by
    have hz : ¬ (pre.length : Int) < (l4.length : Int) := by rw [← e]; simp
    refine Ev.step (fun k => by rw [regletref14_Predict.l3]) (Ev.neg hz (Ev.pos (by omega) ?_))
    exact hk
  | p :: qs, pre, st, e, hm, hk => by
    have hlen : l4.length = pre.length + (qs.length + 1) := by rw [← e]; simp
    have hp0 : pre.length ≤ 1000000 := by have := h.1; omega
    simp only [List.length_cons] at hm
    have hrd : rd_T30 l4 (pre.length : Int) = p := by rw [← e]; exact getD_mid _ pre p qs _ rfl
    have hst : (prStep b r look pre.length p st).2.length ≤ st.2.length + 1 := by
      unfold prStep; split
      · split <;> simp
      · simp
    have ih := ref_l3_ev h hb ha hs r look (x9 := x9) h12 (R := R) qs (pre ++ [p]) (prStep b r look pre.length p st) (by rw [← e]; simp) (by omega) (by rw [List.length_append, List.length_singleton]; exact hk)
    rw [← wrap_next pre _ hp0] at ih
    refine Ev.step (fun k => by rw [regletref14_Predict.l3]) (Ev.pos (by omega) (Ev.pos (by omega) ?_))
    rw [hrd]
    by_cases hl : p.f0 = (r : Int)
    · refine Ev.pos hl (Ev.pos (by omega) ?_)
      rw [show rd_L3 all (pre.length : Int) = all.getD pre.length [] from by rw [rd_L3, Int.toNat_natCast]]
      refine Ev.bind (has14_ev _ _ (hs _)) (Ev.step (fun k => by rw [regletref14_Predict.j4]) ?_)
      have hbb := hb pre.length look (by omega)
      by_cases hh : (look : Int) ∈ all.getD pre.length []
      · rw [decide_eq_true hh] at hbb ⊢
        refine Ev.neg (by simp) ?_
        by_cases hx : st.1 < 0
        · refine Ev.pos hx ?_
          rw [prStep, if_pos ⟨hl, hbb⟩, if_pos hx] at ih
          exact ih
        · refine Ev.neg hx (Ev.pos (by omega) ?_)
          rw [prStep, if_pos ⟨hl, hbb⟩, if_neg hx] at ih
          exact ih
      · rw [decide_eq_false hh] at hbb ⊢
        refine Ev.pos (by simp) ?_
        rw [prStep, if_neg (by rw [hbb]; simp)] at ih
        exact ih
    · refine Ev.neg hl (Ev.step (fun k => by rw [regletref14_Predict.j4]) (Ev.pos rfl ?_))
      rw [prStep, if_neg (fun hc => hl hc.1)] at ih
      exact ih
theorem ref_l2_ev (h : Small l4) (h1 : l1.length ≤ 1000) (hb : ∀ (i look : Nat), i < l4.length → (b.getD i []).getD look false = decide ((look : Int) ∈ all.getD i [])) (ha : all.length = l4.length) (hs : ∀ i, (all.getD i []).length ≤ 1000000) (r : Nat) {x9 : List (List Int)} (h9 : x9.length ≤ 1000000) {R : List (List Int) × List Clash} : ∀ (n : Nat) (row : List Int) (bad : List Clash), row.length + n = l1.length + 1 → bad.length + n * l4.length ≤ 900000 → l4.length ≤ 100000 →
    Ev (fun k => regletref14_Predict.l1 k all (x9 ++ [row ++ (pRow b l4 r n row.length bad).1]) (pRow b l4 r n row.length bad).2 (wrap64 ((r : Int) + 1)) l0 l1 a2 a3 l4) R → Ev (fun k => regletref14_Predict.l2 k all x9 bad (r : Int) row (row.length : Int) l0 l1 a2 a3 l4) R
  | 0, row, bad, e, _, _, hk => Ev.step (fun k => by rw [regletref14_Predict.l2]) (Ev.neg (by omega) (Ev.pos (by omega) (by simpa [pRow] using hk)))
  | n + 1, row, bad, e, hm, h4, hk => by
    rw [Nat.succ_mul] at hm
    have hx := prIn_max b r row.length l4 0 (-1, bad)
    simp only at hx
    have ih := ref_l2_ev h h1 hb ha hs r (x9 := x9) h9 (R := R) n (row ++ [(prIn b r row.length 0 l4 (-1, bad)).1]) (prIn b r row.length 0 l4 (-1, bad)).2 (by simp; omega) (by omega) h4 (by
      rw [List.length_append, List.length_singleton, List.append_assoc]
      exact hk)
    rw [← wrap_next row _ (by omega)] at ih
    refine Ev.step (fun k => by rw [regletref14_Predict.l2]) (Ev.pos (by omega) ?_)
    have h3 := ref_l3_ev (l0 := l0) (l1 := l1) (a2 := a2) (a3 := a3) (l4 := l4) (b := b) (all := all) h hb ha hs r row.length (x9 := x9) (x12 := row) (by omega) (R := R) l4 [] (-1, bad) rfl (by simp only; omega) ih
    exact h3
theorem ref_l1_ev (h : Small l4) (h0 : l0.length ≤ 1000) (h1 : l1.length ≤ 1000) (hb : ∀ (i look : Nat), i < l4.length → (b.getD i []).getD look false = decide ((look : Int) ∈ all.getD i [])) (ha : all.length = l4.length) (hs : ∀ i, (all.getD i []).length ≤ 1000000) : ∀ (n : Nat) (out : List (List Int)) (bad : List Clash), out.length + n = l0.length → bad.length + n * ((l1.length + 1) * l4.length) ≤ 900000 → l4.length ≤ 100000 →
    Ev (fun k => regletref14_Predict.l1 k all out bad (out.length : Int) l0 l1 a2 a3 l4) (out ++ (pAll b l4 (l1.length + 1) n out.length bad).1, (pAll b l4 (l1.length + 1) n out.length bad).2)
  | 0, out, bad, e, _, _ => Ev.step (fun k => by rw [regletref14_Predict.l1]) (Ev.neg (by omega) (Ev.some (by simp [pAll])))
  | n + 1, out, bad, e, hm, h4 => by
    rw [Nat.succ_mul] at hm
    have hx := pRow_max b l4 out.length (l1.length + 1) 0 bad
    have ih := ref_l1_ev h h0 h1 hb ha hs n (out ++ [(pRow b l4 out.length (l1.length + 1) 0 bad).1]) (pRow b l4 out.length (l1.length + 1) 0 bad).2 (by simp; omega) (by omega) h4
    rw [← wrap_next out _ (by omega)] at ih
    refine Ev.step (fun k => by rw [regletref14_Predict.l1]) (Ev.pos (by omega) ?_)
    have h2 := ref_l2_ev (l0 := l0) (a2 := a2) (a3 := a3) h h1 hb ha hs out.length (x9 := out) (by omega) (R := (out ++ (pAll b l4 (l1.length + 1) (n + 1) out.length bad).1, (pAll b l4 (l1.length + 1) (n + 1) out.length bad).2)) (l1.length + 1) [] bad (by simp) (by omega) h4 (by
      refine Ev.val ih ?_
      rw [List.length_append, List.length_singleton, List.append_assoc]
      rfl)
    exact h2
theorem ref_l0_ev (h : Small l4) (h0 : l0.length ≤ 1000) (h1 : l1.length ≤ 1000) (hok : l4.all (okProd l0.length l1.length) = true) {R : List (List Int) × List Clash} : ∀ (qs pre : List Prod), pre ++ qs = l4 →
    Ev (fun k => regletref14_Predict.l1 k (l4.map (sel l0.length l1.length l4)) [] [] 0 l0 l1 a2 a3 l4) R → Ev (fun k => regletref14_Predict.l0 k (pre.map (sel l0.length l1.length l4)) (dFollow l0.length l1.length l4) (pre.length : Int) l0 l1 a2 a3 l4) R
  | [], pre, e, hk => Ev.step (fun k => by rw [regletref14_Predict.l0]) (Ev.neg (by rw [← e]; simp) (by rw [← e] at hk ⊢; simpa using hk))
  | p :: qs, pre, e, hk => by
    have hlen : l4.length = pre.length + (qs.length + 1) := by rw [← e]; simp
    have hp0 : pre.length ≤ 1000000 := by have := h.1; omega
    have hmem : p ∈ l4 := by rw [← e]; simp
    have hokp := List.all_eq_true.1 hok p hmem
    have hl := okProd_left hokp
    have hrd : rd_T30 l4 (pre.length : Int) = p := by rw [← e]; exact getD_mid _ pre p qs _ rfl
    have ih := ref_l0_ev h h0 h1 hok (R := R) qs (pre ++ [p]) (by rw [← e]; simp) hk
    rw [← wrap_next pre _ hp0, List.map_append, List.map_cons, List.map_nil] at ih
    refine Ev.step (fun k => by rw [regletref14_Predict.l0]) (Ev.pos (by omega) (Ev.pos (by omega) ?_))
    rw [hrd]
    refine Ev.bind (refOf_ev l0 l1 a2 a3 l4 h (by omega) h1 p.f1 (h.2 p hmem)) ?_
    have hfl := follow_range hok
    have hsel : sel l0.length l1.length l4 p = (dOf l0.length l1.length l4 p.f1).1 ++ (if (dOf l0.length l1.length l4 p.f1).2 = true then (dFollow l0.length l1.length l4).getD p.f0.toNat [] else []) := rfl
    by_cases he : (dOf l0.length l1.length l4 p.f1).2 = true
    · refine Ev.pos he (Ev.pos hl.1 (Ev.pos (by rw [hfl.1]; exact hl.2) (Ev.pos ?_ (Ev.pos (by simp; omega) ?_))))
      · have h2 := (of_range hok p.f1).1
        have h4 : (rd_L3 (dFollow l0.length l1.length l4) p.f0).length ≤ l1.length + 1 := (hfl.2 p.f0.toNat).1
        omega
      · rw [hsel, if_pos he] at ih
        exact ih
    · refine Ev.neg he (Ev.pos (by simp; omega) ?_)
      rw [hsel, if_neg he, List.append_nil] at ih
      exact ih
end
section
variable (l0 : List ByteArray) (l1 : List Tok) (a2 a3 : Int) (l4 : List Prod)
def dPredict (nn nt : Nat) (ps : List Prod) : List (List Int) × List Clash := if ps.all (okProd nn nt) = true then pAll (ps.map (chRow nn nt ps)) ps (nt + 1) nn 0 [] else ([], [])
variable (h : Small l4) (h0 : l0.length ≤ 30) (h1 : l1.length ≤ 30) (h4 : l4.length ≤ 30)
include h h0 h1 h4
set_option linter.unusedSectionVars false in
theorem bad_bound (b : List (List Bool)) : (pAll b l4 (l1.length + 1) l0.length 0 []).2.length ≤ 100000 := by
 have h2 := (pAll_max b l4 (l1.length + 1) l0.length 0 []).2.2
 have h3 : l0.length * ((l1.length + 1) * l4.length) ≤ 30 * (31 * 30) := Nat.mul_le_mul h0 (Nat.mul_le_mul (by omega) h4)
 simp only [List.length_nil] at h2
 omega
theorem predict_ev : Ev (fun k => predict_Predict.f k l0 l1 a2 a3 l4) (dPredict l0.length l1.length l4) := by
 refine Ev.congr (fun k => by rw [predict_Predict.f]) (Ev.bind0 (firstsRight_val l0 l1 a2 a3 l4 h) ?_)
 unfold dPredict
 cases hr : l4.all (okProd l0.length l1.length) with
 | false => exact Ev.neg (by simp) (Ev.some (by simp))
 | true =>
  refine Ev.pos rfl (Ev.bind (chosen_ev h (by omega) (by omega) hr) (Ev.bind (rows_ev (by omega) (by omega)) ?_))
  have hp := prAll_pAll (l4.map (chRow l0.length l1.length l4)) l4 (l1.length + 1) l0.length [] []
  simp only [List.nil_append, List.length_nil] at hp
  rw [List.length_replicate, hp]
  refine Ev.pos ⟨?_, h.1, by omega, by have := bad_bound l0 l1 l4 h h0 h1 h4 (l4.map (chRow l0.length l1.length l4)); simp only; omega⟩ (Ev.some (if_pos rfl).symm)
  unfold prOk
  simp only [Bool.and_eq_true, decide_eq_true_eq, List.all_eq_true]
  refine ⟨by simp, fun row hrow => ?_⟩
  rw [List.eq_of_mem_replicate hrow, List.length_replicate]
  refine ⟨by omega, fun x hx => ?_⟩
  obtain ⟨p, _, rfl⟩ := List.mem_map.1 hx
  rw [chRow_length]
  omega
theorem refPredict_ev : Ev (fun k => regletref14_Predict.f k l0 l1 a2 a3 l4) (dPredict l0.length l1.length l4) := by
 refine Ev.congr (fun k => by rw [regletref14_Predict.f]) (Ev.bind (refRight_ev l0 l1 a2 a3 l4 h) ?_)
 unfold dPredict
 cases hr : l4.all (okProd l0.length l1.length) with
 | false => exact Ev.neg (by simp) (Ev.some (by simp))
 | true =>
  refine Ev.pos rfl (Ev.bind (refFollow_ev l0 l1 a2 a3 l4 h (by omega) (by omega)) ?_)
  have hx := ref_l1_ev (l0 := l0) (l1 := l1) (a2 := a2) (a3 := a3) (l4 := l4) (b := l4.map (chRow l0.length l1.length l4)) (all := l4.map (sel l0.length l1.length l4)) h (by omega) (by omega) (fun i look hi => ?_) (by simp) (fun i => ?_) l0.length [] [] (by simp) (by
   have h3 : l0.length * ((l1.length + 1) * l4.length) ≤ 30 * (31 * 30) := Nat.mul_le_mul h0 (Nat.mul_le_mul (by omega) h4)
   simp only [List.length_nil]; omega) (by omega)
  · refine Ev.val (ref_l0_ev (a2 := a2) (a3 := a3) h (by omega) (by omega) hr l4 [] rfl hx) (by simp)
  · have e1 : (l4.map (chRow l0.length l1.length l4)).getD i [] = chRow l0.length l1.length l4 l4[i] := by rw [List.getD_eq_getElem?_getD, List.getElem?_map, List.getElem?_eq_getElem hi]; rfl
    have e2 : (l4.map (sel l0.length l1.length l4)).getD i [] = sel l0.length l1.length l4 l4[i] := by rw [List.getD_eq_getElem?_getD, List.getElem?_map, List.getElem?_eq_getElem hi]; rfl
    rw [e1, e2]
    exact chRow_getD hr _ look
  · by_cases hi : i < l4.length
    rotate_left
    · rw [List.getD_eq_getElem?_getD, List.getElem?_map, List.getElem?_eq_none (by omega)]
      simp
    rw [List.getD_eq_getElem?_getD, List.getElem?_map, List.getElem?_eq_getElem hi]
    have := (sel_range hr (l4[i])).1
    simp only [Option.map_some, Option.getD_some]
    omega
end
theorem mRight_ok {l : List Int} (hu : ∀ x ∈ l, 0 ≤ x ∧ x ≤ 255) {n t : Nat} (hn : 0 < n) (ht : 0 < t) : ∀ (c at_ : Nat) (acc : List Sym), acc.all (okSym n t) = true → (mRight l n t c at_ acc).1.all (okSym n t) = true ∧ (mRight l n t c at_ acc).1.length = acc.length + c
  | 0, at_, acc, h => ⟨h, rfl⟩
  | c + 1, at_, acc, h => by
    unfold mRight
    obtain ⟨h1, h2⟩ := mRight_ok hu hn ht c (at_ + 2) (acc ++ [if mPick l at_ 2 = 0 then ⟨true, mPick l (at_ + 1) t⟩ else ⟨false, mPick l (at_ + 1) n⟩]) (by
      rw [List.all_append, h, Bool.true_and]
      have h3 := mPick_lt hu (at_ + 1) (n := (t : Int)) (by omega)
      have h4 := mPick_lt hu (at_ + 1) (n := (n : Int)) (by omega)
      split
      · simp only [List.all_cons, List.all_nil, Bool.and_true, okSym, if_true, Bool.and_eq_true, decide_eq_true_eq]
        exact h3
      · simp only [List.all_cons, List.all_nil, Bool.and_true, okSym, Bool.and_eq_true, decide_eq_true_eq]
        exact ⟨h4.1, by simpa using h4.2⟩)
    exact ⟨h1, by rw [h2]; simp; omega⟩
theorem mProds_ok {l : List Int} (hu : ∀ x ∈ l, 0 ≤ x ∧ x ≤ 255) {n t : Nat} (hn : 0 < n) (ht : 0 < t) : ∀ (i at_ : Nat) (acc : List Prod), acc.all (okProd n t) = true → (∀ p ∈ acc, p.f1.length ≤ 3) → (mProds l n t i at_ acc).all (okProd n t) = true ∧ (mProds l n t i at_ acc).length = acc.length + i ∧ ∀ p ∈ mProds l n t i at_ acc, p.f1.length ≤ 3
  | 0, at_, acc, h, h3 => ⟨h, rfl, h3⟩
  | i + 1, at_, acc, h, h3 => by
    unfold mProds
    obtain ⟨h1, h2⟩ := mRight_ok hu hn ht (mPick l (at_ + 1) 4).toNat (at_ + 2) [] rfl
    have h4 := mPick_lt hu at_ (n := (n : Int)) (by omega)
    have h5 := mPick_lt hu (at_ + 1) (n := 4) (by omega)
    obtain ⟨h6, h7, h8⟩ := mProds_ok hu hn ht i (mRight l n t (mPick l (at_ + 1) 4).toNat (at_ + 2) []).2 (acc ++ [⟨mPick l at_ n, (mRight l n t (mPick l (at_ + 1) 4).toNat (at_ + 2) []).1⟩]) (by
      rw [List.all_append, h, Bool.true_and]
      simp only [List.all_cons, List.all_nil, Bool.and_true, okProd, Bool.and_eq_true, decide_eq_true_eq]
      exact ⟨h4, h1⟩) (by
      intro p hp
      rcases List.mem_append.1 hp with hp | hp
      · exact h3 p hp
      · obtain rfl := List.mem_singleton.1 hp
        simp only
        rw [h2]; simp; omega)
    exact ⟨h6, by rw [h7]; simp; omega, h8⟩
structure MadeOk (ns : List ByteArray) (ts : List Tok) (ps : List Prod) : Prop where
  n1 : 0 < ns.length
  n5 : ns.length ≤ 5
  t1 : 0 < ts.length
  t4 : ts.length ≤ 4
  p1 : 0 < ps.length
  p10 : ps.length ≤ 10
  ok : ps.all (okProd ns.length ts.length) = true
  r3 : ∀ p ∈ ps, p.f1.length ≤ 3
theorem made_ev {l : List Int} (hw : ∀ x ∈ l, (Lit.int .u8 x).wf = true) : ∃ ns ts ps, MadeOk ns ts ps ∧ Ev (fun k => regletlaw13_Made.f k l) (ns, ts, 0, 0, ps) := by
 have hu : ∀ x ∈ l, 0 ≤ x ∧ x ≤ 255 := fun x hx => wf_u8 (hw x hx)
 have h0 := mPick_lt hu 0 (n := 5) (by decide)
 have h1 := mPick_lt hu 1 (n := 4) (by decide)
 have h2 := mPick_lt hu 2 (n := 10) (by decide)
 obtain ⟨n, en⟩ : ∃ n : Nat, 1 + mPick l 0 5 = (n : Int) := ⟨(1 + mPick l 0 5).toNat, by omega⟩
 obtain ⟨t, et⟩ : ∃ n : Nat, 1 + mPick l 1 4 = (n : Int) := ⟨(1 + mPick l 1 4).toNat, by omega⟩
 obtain ⟨c, ec⟩ : ∃ n : Nat, 1 + mPick l 2 10 = (n : Int) := ⟨(1 + mPick l 2 10).toNat, by omega⟩
 obtain ⟨h3, h4, h5⟩ := mProds_ok hu (n := n) (t := t) (by omega) (by omega) c 3 [] rfl (fun p hp => by simp at hp)
 have ln : (mNames.take n).length = n := by rw [List.length_take]; show min n 5 = n; omega
 have lt : ((mTexts.map mTok).take t).length = t := by rw [List.length_take]; show min t 4 = t; omega
 refine ⟨mNames.take n, (mTexts.map mTok).take t, mProds l n t c 3 [], ⟨by omega, by omega, by omega, by omega, by simp at h4; omega, by simp at h4; omega, by rw [ln, lt]; exact h3, h5⟩, Ev.some' ?_⟩
 have h7 : l.all (fun x => decide (0 ≤ x ∧ x ≤ 255)) = true := List.all_eq_true.2 (fun x hx => decide_eq_true (hu x hx))
 show (if l.all (fun x => decide (0 ≤ x ∧ x ≤ 255)) = true then _ else none) = _
 rw [if_pos h7, en, et, ec]
 rfl
theorem made_ev0 {l : List Int} (hw : ∀ x ∈ l, (Lit.int .u8 x).wf = true) : ∃ ns ts ps, MadeOk ns ts ps ∧ ∀ k, regletlaw13_Made.f k l = some (ns, ts, 0, 0, ps) := by
 obtain ⟨ns, ts, ps, h, K, hK⟩ := made_ev hw
 exact ⟨ns, ts, ps, h, fun k => hK K (Nat.le_refl _)⟩
theorem sameClashes_l0_ev : ∀ (a pre : List Clash), pre.length + a.length ≤ 1000000 → Ev (fun k => regletref14_SameClashes.l0 k (pre ++ a) (pre ++ a) (pre.length : Int)) true
  | [], pre, _ => Ev.step (fun k => by rw [regletref14_SameClashes.l0]) (Ev.neg (by simp) (Ev.some rfl))
  | x :: a, pre, h3 => by
    simp only [List.length_cons] at h3
    have ih := sameClashes_l0_ev a (pre ++ [x]) (by simp; omega)
    simp only [← wrap_next pre _ (show pre.length ≤ 1000000 by omega), List.append_assoc, List.singleton_append] at ih
    exact Ev.step (fun k => by rw [regletref14_SameClashes.l0]) (Ev.pos (by simp; omega) (Ev.pos (by omega) (Ev.pos (by simp; omega) (Ev.neg (by simp) ih))))
theorem sameClashes_ev (a : List Clash) (h : a.length ≤ 1000000) : Ev (fun k => regletref14_SameClashes.f k a a) true :=
  Ev.congr (fun k => by rw [regletref14_SameClashes.f, if_pos rfl]) (by simpa using sameClashes_l0_ev a [] (by simpa using h) : Ev (fun k => regletref14_SameClashes.l0 k a a 0) _)
def clSym (np : Nat) (x : Sym) : Sym := if x.f0 = true then ⟨true, x.f1 % (np : Int)⟩ else x
def clProd (np i : Nat) (p : Prod) : Prod := ⟨p.f0, (p.f1.map (clSym np)).set 0 ⟨true, (i : Int)⟩⟩
def clTok (i : Nat) : Tok := ⟨⟨#[]⟩, ⟨6, ⟨#[]⟩, [wrap64 (97 + (i : Int))], 0, 0, []⟩⟩
def clPs (np : Nat) : Nat → List Prod → List Prod
  | _, [] => []
  | i, p :: ps => clProd np i p :: clPs np (i + 1) ps
def clTs : Nat → Nat → List Tok
  | _, 0 => []
  | i, n + 1 => clTok i :: clTs (i + 1) n
theorem clPs_length (np : Nat) : ∀ (ps : List Prod) (i : Nat), (clPs np i ps).length = ps.length
  | [], _ => rfl
  | p :: ps, i => by rw [clPs, List.length_cons, clPs_length np ps, List.length_cons]
theorem clTs_length : ∀ (n i : Nat), (clTs i n).length = n
  | 0, _ => rfl
  | n + 1, i => by rw [clTs, List.length_cons, clTs_length n]
section
variable {ns : List ByteArray} {R : List ByteArray × List Tok × Int × Int × List Prod}
theorem clear_l1_ev {np : Nat} {ts : List Tok} {done rest : List Prod} {p : Prod} (hn : np = done.length + (rest.length + 1)) (hnp : np ≤ 1000000) (hp : p.f1.length ≤ 1000000) (hx : ∀ x ∈ p.f1, 0 ≤ x.f1) : ∀ (a pre acc : List Sym), p.f1 = pre ++ a → acc.length = pre.length →
    Ev (fun k => regletlaw14_Clear.l0 k (wrap64 ((done.length : Int) + 1)) ns ts 0 0 (done ++ ⟨p.f0, (acc ++ a.map (clSym np)).set 0 ⟨true, (done.length : Int)⟩⟩ :: rest)) R → Ev (fun k => regletlaw14_Clear.l1 k (done.length : Int) acc (pre.length : Int) ns ts 0 0 (done ++ p :: rest)) R
  | [], pre, acc, e, ha, hk => by
    have hrd : rd_T30 (done ++ p :: rest) (done.length : Int) = p := getD_mid _ done p rest _ rfl
    refine Ev.step (fun k => by rw [regletlaw14_Clear.l1]) (Ev.pos (by omega) (Ev.pos (by simp; omega) ?_))
    rw [hrd]
    refine Ev.neg (by rw [e]; simp) ?_
    have hs : ∀ v : Prod, (done ++ p :: rest).set (done.length : Int).toNat v = done ++ v :: rest := fun v => set_mid done p v rest _ rfl
    rw [List.map_nil, List.append_nil] at hk
    by_cases hz : (acc.length : Int) > 0
    · refine Ev.pos hz (Ev.pos hz ?_)
      rw [hs]
      exact hk
    · refine Ev.neg hz ?_
      rw [hs]
      obtain rfl : acc = [] := List.eq_nil_of_length_eq_zero (by omega)
      exact hk
  | x :: a, pre, acc, e, ha, hk => by
    have hrd : rd_T30 (done ++ p :: rest) (done.length : Int) = p := getD_mid _ done p rest _ rfl
    have hrx : rd_T53 p.f1 (pre.length : Int) = x := by rw [e]; exact getD_mid _ pre x a _ rfl
    have hle : pre.length + (a.length + 1) ≤ 1000000 := by rw [e] at hp; simpa using hp
    have ih := clear_l1_ev (ts := ts) (done := done) (rest := rest) (p := p) hn hnp hp hx a (pre ++ [x]) (acc ++ [clSym np x]) (by rw [e]; simp) (by simp [ha]) (by simpa using hk)
    rw [← wrap_next pre _ (by omega)] at ih
    have hx0 := hx x (by rw [e]; simp)
    refine Ev.step (fun k => by rw [regletlaw14_Clear.l1]) (Ev.pos (by omega) (Ev.pos (by simp; omega) ?_))
    rw [hrd]
    refine Ev.pos (by rw [e]; simp; omega) (Ev.pos (by omega) ?_)
    rw [hrx]
    by_cases ht : x.f0 = true
    · refine Ev.pos ht (Ev.neg (by simp; omega) (Ev.pos (by omega) ?_))
      rw [clSym, if_pos ht] at ih
      rw [ht, show ((done ++ p :: rest).length : Int) = (np : Int) by rw [hn]; simp, Int.tmod_eq_emod_of_nonneg hx0]
      exact ih
    · refine Ev.neg ht (Ev.pos (by omega) ?_)
      rw [clSym, if_neg ht] at ih
      exact ih
theorem clear_l0_ev {np : Nat} (hnp : np ≤ 1000000) : ∀ (ps done : List Prod) (ts : List Tok), np = done.length + ps.length → ts.length = done.length → (∀ p ∈ ps, p.f1.length ≤ 1000000 ∧ ∀ x ∈ p.f1, 0 ≤ x.f1) →
    Ev (fun k => regletlaw14_Clear.l2 k 0 ns (ts ++ clTs done.length ps.length) 0 0 (done ++ clPs np done.length ps)) R → Ev (fun k => regletlaw14_Clear.l0 k (done.length : Int) ns ts 0 0 (done ++ ps)) R
  | [], done, ts, hn, ht, _, hk => Ev.step (fun k => by rw [regletlaw14_Clear.l0]) (Ev.neg (by simp) (by simpa [clTs, clPs] using hk))
  | p :: ps, done, ts, hn, ht, hs, hk => by
    simp only [List.length_cons] at hn
    obtain ⟨hp, hx⟩ := hs p List.mem_cons_self
    have ih := clear_l0_ev hnp ps (done ++ [clProd np done.length p]) (ts ++ [clTok done.length]) (by simp; omega) (by simp [ht]) (fun q hq => hs q (List.mem_cons_of_mem _ hq)) (by
      simp only [clTs, clPs, List.length_cons, List.length_append, List.length_nil, List.append_assoc, List.singleton_append] at hk ⊢
      exact hk)
    rw [← wrap_next done _ (by omega)] at ih
    refine Ev.step (fun k => by rw [regletlaw14_Clear.l0]) (Ev.pos (by simp; omega) (Ev.pos (by omega) ?_))
    refine clear_l1_ev (ns := ns) (R := R) hn hnp hp hx p.f1 [] [] rfl rfl ?_
    rw [List.append_assoc] at ih
    exact ih
theorem clear_l3_ev {ts : List Tok} {done rest : List Prod} {p : Prod} (hd : done.length ≤ 1000000) (ht : 0 < ts.length) (hp : p.f1.length ≤ 1000000) (hx : ∀ x ∈ p.f1, x.f0 = true → 0 ≤ x.f1 ∧ x.f1 < (ts.length : Int)) : ∀ (a pre : List Sym), p.f1 = pre ++ a →
    Ev (fun k => regletlaw14_Clear.l2 k (wrap64 ((done.length : Int) + 1)) ns ts 0 0 (done ++ p :: rest)) R → Ev (fun k => regletlaw14_Clear.l3 k (done.length : Int) (pre.length : Int) ns ts 0 0 (done ++ p :: rest)) R
  | [], pre, e, hk => by
    have hrd : rd_T30 (done ++ p :: rest) (done.length : Int) = p := getD_mid _ done p rest _ rfl
    refine Ev.step (fun k => by rw [regletlaw14_Clear.l3]) (Ev.pos (by omega) (Ev.pos (by simp; omega) ?_))
    rw [hrd]
    exact Ev.neg (by rw [e]; simp) hk
  | x :: a, pre, e, hk => by
    have hrd : rd_T30 (done ++ p :: rest) (done.length : Int) = p := getD_mid _ done p rest _ rfl
    have hrx : rd_T53 p.f1 (pre.length : Int) = x := by rw [e]; exact getD_mid _ pre x a _ rfl
    have hle : pre.length + (a.length + 1) ≤ 1000000 := by rw [e] at hp; simpa using hp
    have ih := clear_l3_ev (ts := ts) (done := done) (rest := rest) (p := p) hd ht hp hx a (pre ++ [x]) (by rw [e]; simp) hk
    rw [← wrap_next pre _ (by omega)] at ih
    refine Ev.step (fun k => by rw [regletlaw14_Clear.l3]) (Ev.pos (by omega) (Ev.pos (by simp; omega) ?_))
    rw [hrd]
    refine Ev.pos (by rw [e]; simp; omega) (Ev.pos (by omega) ?_)
    rw [hrx]
    by_cases hx0 : x.f0 = true
    · obtain ⟨h0, h1⟩ := hx x (by rw [e]; simp) hx0
      refine Ev.pos hx0 (Ev.neg (by omega) ?_)
      have hsame : (⟨x.f0, Int.tmod x.f1 (ts.length : Int)⟩ : Sym) = x := by
        rw [Int.tmod_eq_emod_of_nonneg h0, Int.emod_eq_of_lt h0 h1]
      have hset : p.f1.set (pre.length : Int).toNat x = p.f1 := by rw [e]; exact set_mid pre x x a _ rfl
      have hpp : (⟨p.f0, p.f1⟩ : Prod) = p := rfl
      rw [hsame, hset, hpp, set_mid done p p rest _ rfl]
      exact ih
    · exact Ev.neg hx0 ih
theorem clear_l2_ev {ts : List Tok} (ht : 0 < ts.length) : ∀ (rest done : List Prod), done.length + rest.length ≤ 1000000 → (∀ p ∈ rest, p.f1.length ≤ 1000000 ∧ ∀ x ∈ p.f1, x.f0 = true → 0 ≤ x.f1 ∧ x.f1 < (ts.length : Int)) →
    Ev (fun k => regletlaw14_Clear.l2 k (done.length : Int) ns ts 0 0 (done ++ rest)) (ns, ts, 0, 0, done ++ rest)
  | [], done, _, _ => Ev.step (fun k => by rw [regletlaw14_Clear.l2]) (Ev.neg (by simp) (Ev.some rfl))
  | p :: rest, done, hl, hs => by
    simp only [List.length_cons] at hl
    obtain ⟨hp, hx⟩ := hs p List.mem_cons_self
    have ih := clear_l2_ev ht rest (done ++ [p]) (by simp; omega) (fun q hq => hs q (List.mem_cons_of_mem _ hq))
    rw [← wrap_next done _ (by omega), List.append_assoc, List.singleton_append] at ih
    refine Ev.step (fun k => by rw [regletlaw14_Clear.l2]) (Ev.pos (by simp; omega) ?_)
    exact clear_l3_ev (ns := ns) (by omega) ht hp hx p.f1 [] rfl ih
end
theorem clPs_spec {nn nt np : Nat} (hp : 0 < np) : ∀ (ps : List Prod) (i : Nat), i + ps.length ≤ np → ps.all (okProd nn nt) = true → (clPs np i ps).all (okProd nn np) = true
  | [], _, _, _ => rfl
  | p :: ps, i, hl, h => by
    simp only [List.length_cons] at hl
    rw [List.all_cons, Bool.and_eq_true] at h
    rw [clPs, List.all_cons, Bool.and_eq_true]
    refine ⟨?_, clPs_spec hp ps (i + 1) (by omega) h.2⟩
    obtain ⟨h0, h1⟩ := okProd_left h.1
    have hr := List.all_eq_true.1 (okProd_right h.1)
    have hall : ((p.f1.map (clSym np)).set 0 ⟨true, (i : Int)⟩).all (okSym nn np) = true := by
      rw [List.all_eq_true]
      intro x hx
      rcases List.mem_or_eq_of_mem_set hx with hx | rfl
      · obtain ⟨y, hy, rfl⟩ := List.mem_map.1 hx
        have hy' := hr y hy
        unfold clSym
        by_cases ht : y.f0 = true
        · rw [if_pos ht]
          have := Int.emod_nonneg y.f1 (show (np : Int) ≠ 0 by omega)
          have := Int.emod_lt_of_pos y.f1 (show (0 : Int) < (np : Int) by omega)
          simp [okSym]; omega
        · rw [if_neg ht]
          have := okSym_rule hy' (by simpa using ht)
          simp [okSym, ht]; omega
      · simp [okSym]; omega
    simp only [okProd, Bool.and_eq_true, decide_eq_true_eq]
    exact ⟨⟨h0, h1⟩, hall⟩
theorem clPs_len (np : Nat) : ∀ (ps : List Prod) (i : Nat), (∀ p ∈ ps, p.f1.length ≤ 3) → ∀ p ∈ clPs np i ps, p.f1.length ≤ 3
  | [], _, _, p, hp => by simp [clPs] at hp
  | q :: ps, i, h, p, hp => by
    rw [clPs] at hp
    rcases List.mem_cons.1 hp with rfl | h1
    · have := h q List.mem_cons_self
      simpa [clProd] using this
    · exact clPs_len np ps (i + 1) (fun p hp => h p (List.mem_cons_of_mem _ hp)) p h1
theorem clear_ev {l : List Int} {ns : List ByteArray} {ts : List Tok} {ps : List Prod} (hm : MadeOk ns ts ps) (hM : ∀ k, regletlaw13_Made.f k l = some (ns, ts, 0, 0, ps)) : Ev (fun k => regletlaw14_Clear.f k l) (ns, clTs 0 ps.length, 0, 0, clPs ps.length 0 ps) := by
 have hok := hm.ok
 have hp1 := hm.p1
 have hp10 := hm.p10
 refine Ev.congr (fun k => by rw [regletlaw14_Clear.f]) (Ev.bind (⟨0, fun k _ => hM k⟩ : Ev (fun k => regletlaw13_Made.f k l) _) ?_)
 refine clear_l0_ev (np := ps.length) (by omega) ps [] [] (by simp) rfl (fun p hp => ⟨by have := hm.r3 p hp; omega, fun x hx => ?_⟩) ?_
 · have h := List.all_eq_true.1 (okProd_right (List.all_eq_true.1 hok p hp)) x hx
   cases ht : x.f0 with
   | true => exact (okSym_tok h ht).1
   | false => exact (okSym_rule h ht).1
 · have hsp := clPs_spec (np := ps.length) (by omega) ps 0 (by omega) hok
   have hx := clear_l2_ev (ns := ns) (ts := clTs 0 ps.length) (by rw [clTs_length]; omega) (clPs ps.length 0 ps) [] (by rw [clPs_length]; simp; omega) (fun p hp => ⟨by have := clPs_len ps.length ps 0 hm.r3 p hp; omega, fun x hx hx0 => by
    rw [clTs_length]
    exact okSym_tok (List.all_eq_true.1 (okProd_right (List.all_eq_true.1 hsp p hp)) x hx) hx0⟩)
   exact hx
theorem awake14_ev : Ev (fun k => regletlaw14_awake.f k) true := by
 have e1 : dPredict 1 1 [⟨0, [⟨true, 0⟩, ⟨false, 0⟩]⟩, ⟨0, []⟩] = ([[0, 1]], []) := by kernel_rfl
 have e2 : dPredict 1 1 [⟨0, [⟨true, 0⟩, ⟨false, 0⟩]⟩, ⟨0, []⟩, ⟨0, []⟩] = ([[0, 1]], [⟨0, 1, 1, 2⟩]) := by kernel_rfl
 unfold regletlaw14_awake.f
 simp only [Option.bind_some]
 refine Ev.pos (by decide) ?_
 refine Ev.bind (Ev.val (predict_ev [⟨#[97]⟩] (List.replicate 1 z61) 0 0 [⟨0, [⟨true, 0⟩, ⟨false, 0⟩]⟩, ⟨0, []⟩] ⟨by simp, by simp⟩ (by simp) (by simp) (by simp)) e1) (Ev.pos (by simp) ?_)
 refine Ev.bind (Ev.val (predict_ev [⟨#[97]⟩] (List.replicate 1 z61) 0 0 [⟨0, [⟨true, 0⟩, ⟨false, 0⟩]⟩, ⟨0, []⟩, ⟨0, []⟩] ⟨by simp, by simp⟩ (by simp) (by simp) (by simp)) e2) (Ev.pos rfl ?_)
 exact Ev.bind (sameLists_ev [[0, 1]] (by simp) (by simp)) (Ev.pos rfl (Ev.pos rfl (Ev.pos (by decide) (Ev.some rfl))))
theorem same14_ev (l0 : List ByteArray) (l1 : List Tok) (a2 a3 : Int) (l4 : List Prod) (h : Small l4) (h0 : l0.length ≤ 30) (h1 : l1.length ≤ 30) (h4 : l4.length ≤ 30) : Ev (fun k => regletlaw14_same.f k l0 l1 a2 a3 l4) true := by
 refine Ev.congr (fun k => by rw [regletlaw14_same.f]) (Ev.bind (predict_ev l0 l1 a2 a3 l4 h h0 h1 h4) (Ev.bind (refPredict_ev l0 l1 a2 a3 l4 h h0 h1 h4) ?_))
 have hsz : (dPredict l0.length l1.length l4).1.length ≤ 1000000 ∧ (∀ r ∈ (dPredict l0.length l1.length l4).1, r.length ≤ 1000000) ∧ (dPredict l0.length l1.length l4).2.length ≤ 1000000 := by
  unfold dPredict
  cases hr : l4.all (okProd l0.length l1.length) with
  | false => simp
  | true =>
   rw [if_pos rfl]
   have hx := pAll_max (l4.map (chRow l0.length l1.length l4)) l4 (l1.length + 1) l0.length 0 []
   have hb := bad_bound l0 l1 l4 h h0 h1 h4 (l4.map (chRow l0.length l1.length l4))
   exact ⟨by rw [hx.1]; omega, fun r hr => by rw [hx.2.1 r hr]; omega, by omega⟩
 exact Ev.bind (sameLists_ev _ hsz.1 hsz.2.1) (Ev.pos rfl (Ev.bind (sameClashes_ev _ hsz.2.2) (Ev.some rfl)))
end Go.Proofs.Ytfdcfihcfegekaa.M
end

section
namespace Go.Proofs.Ytfdcfihcfegekaa.Pure
open Go.RowKit Go.Proofs.Ytfdcfihcfegekaa.P Go.Proofs.YtfdcfihcfegekaaW.PrintWords Go.Proofs.YtfdcfihcfegekaaW.PrintLast Go.Proofs.YtfdcfihcfegekaaW.PrintMore Go.Proofs.Ytfdcfihcfegekaa.H Go.Proofs.Ytfdcfihcfegekaa.M
theorem PredictClear : regletlaw14_PredictClear.Pure := by
 intro l0 _ _ hw
 obtain ⟨ns, ts, ps, hm, hM⟩ := made_ev0 hw
 have hp10 := hm.p10
 apply Ev.rounds
 unfold regletlaw14_PredictClear.f
 refine Ev.bind awake14_ev (Ev.pos rfl (Ev.bind (clear_ev hm hM) (Ev.bind (same14_ev ns _ 0 0 _ ⟨by rw [clPs_length]; omega, fun p hp => by have := clPs_len ps.length ps 0 hm.r3 p hp; omega⟩ (by have := hm.n5; omega) (by rw [clTs_length]; omega) (by rw [clPs_length]; omega)) (Ev.some rfl))))
end Go.Proofs.Ytfdcfihcfegekaa.Pure
end
