/- Packed texts of this claim: the walks of the functions, and their plain laws; see the claim's last text. -/
import Derived.Test.YtojdjjbkpbapfaaKFirstsParts3
section
namespace Go.Proofs.Ytojdjjbkpbapfaa.P
open Go.RowKit Go.Proofs.YtojdjjbkpbapfaaW.PrintWords Go.Proofs.YtojdjjbkpbapfaaW.PrintLast Go.Proofs.YtojdjjbkpbapfaaW.PrintMore
attribute [local go_sem] max2_int min2_int max_two min_two max_three min_three max_four min_four   -- for this text's walks alone
set_option linter.unusedVariables false
set_option linter.unusedSimpArgs false
def regletlaw13_FirstsParts.l0 : Nat → Bool → List Int → List Int → Bool → List Int → Bool → Int → Option (Bool)
  | 0, _, _, _, _, _, _, _ => none
  | k + 1, x7, x11, x13, x14, x15, x16, x17 => if x17 < (x15.length : Int) then (if 0 ≤ x17 then ((regletlaw13_has.f k x11 (rd x15 x17)).bind fun t511 => (if t511 = true then (regletlaw13_FirstsParts.l0 k x7 x11 x13 x14 x15 x16 (wrap64 (x17 + 1))) else ((regletlaw13_has.f k x13 (rd x15 x17)).bind fun t513 => (if t513 = true then (regletlaw13_FirstsParts.l0 k x7 x11 x13 x14 x15 x16 (wrap64 (x17 + 1))) else (some false))))) else (none)) else (if x7 = true then ((regletlaw13_within.f k x11 x15).bind fun t508 => (if t508 = true then ((regletlaw13_within.f k x13 x15).bind fun t509 => (if t509 = true then (some (x16 == x14)) else (some false))) else (some false))) else (some false))
def regletlaw13_FirstsParts.f (k : Nat) (l0 : List Int) (a1 : Int) (a2 : Int) : Option (Bool) := (regletlaw13_awake.f k).bind fun t473 => (if t473 = true then ((regletlaw13_Made.f k l0).bind fun bt474 => (if (bt474.2.2.2.2.length : Int) = 0 then (none) else (if 0 ≤ (Int.tmod (wrap64 (a1)) (bt474.2.2.2.2.length : Int)) then (if (Int.tmod (wrap64 (a1)) (bt474.2.2.2.2.length : Int)) < (bt474.2.2.2.2.length : Int) then (if (wrap64 ((((rd_T34 bt474.2.2.2.2 (Int.tmod (wrap64 (a1)) (bt474.2.2.2.2.length : Int))).f1).length : Int) + 1)) = 0 then (none) else (if 0 ≤ (Int.tmod (wrap64 (a2)) (wrap64 ((((rd_T34 bt474.2.2.2.2 (Int.tmod (wrap64 (a1)) (bt474.2.2.2.2.length : Int))).f1).length : Int) + 1))) then (if (Int.tmod (wrap64 (a2)) (wrap64 ((((rd_T34 bt474.2.2.2.2 (Int.tmod (wrap64 (a1)) (bt474.2.2.2.2.length : Int))).f1).length : Int) + 1))) ≤ (((rd_T34 bt474.2.2.2.2 (Int.tmod (wrap64 (a1)) (bt474.2.2.2.2.length : Int))).f1).length : Int) then ((firsts_Of.f k bt474.1 bt474.2.1 bt474.2.2.1 bt474.2.2.2.1 bt474.2.2.2.2 (((rd_T34 bt474.2.2.2.2 (Int.tmod (wrap64 (a1)) (bt474.2.2.2.2.length : Int))).f1).take ((Int.tmod (wrap64 (a2)) (wrap64 ((((rd_T34 bt474.2.2.2.2 (Int.tmod (wrap64 (a1)) (bt474.2.2.2.2.length : Int))).f1).length : Int) + 1))) : Int).toNat)).bind fun bt491 => ((firsts_Of.f k bt474.1 bt474.2.1 bt474.2.2.1 bt474.2.2.2.1 bt474.2.2.2.2 (((rd_T34 bt474.2.2.2.2 (Int.tmod (wrap64 (a1)) (bt474.2.2.2.2.length : Int))).f1).drop ((Int.tmod (wrap64 (a2)) (wrap64 ((((rd_T34 bt474.2.2.2.2 (Int.tmod (wrap64 (a1)) (bt474.2.2.2.2.length : Int))).f1).length : Int) + 1))) : Int).toNat)).bind fun bt499 => ((firsts_Of.f k bt474.1 bt474.2.1 bt474.2.2.1 bt474.2.2.2.1 bt474.2.2.2.2 ((rd_T34 bt474.2.2.2.2 (Int.tmod (wrap64 (a1)) (bt474.2.2.2.2.length : Int))).f1)).bind fun bt503 => (if bt491.2 = true then (regletlaw13_FirstsParts.l0 k t473 bt491.1 bt499.1 bt499.2 bt503.1 bt503.2 0) else ((regletref13_SameInts.f k bt491.1 bt503.1).bind fun t507 => (if t507 = true then (some (!bt503.2)) else (some false))))))) else (none)) else (none))) else (none)) else (none)))) else (some false))
theorem regletlaw13_FirstsParts.mono_l : ∀ k, (∀ y0 y1 y2 y3 y4 y5 y6, LeO (regletlaw13_FirstsParts.l0 k y0 y1 y2 y3 y4 y5 y6) (regletlaw13_FirstsParts.l0 (k + 1) y0 y1 y2 y3 y4 y5 y6))
  | 0 => fun _ _ _ _ _ _ _ r h => by simp [regletlaw13_FirstsParts.l0] at h
  | k + 1 => by
    have ih0 := regletlaw13_FirstsParts.mono_l k
    · intro y0 y1 y2 y3 y4 y5 y6
      unfold regletlaw13_FirstsParts.l0
      repeat' first
      | (with_reducible exact ih0 _ _ _ _ _ _ _)
      | (with_reducible exact firsts_Of.mono _ _ _ _ _ _ _)
      | (with_reducible exact regletlaw13_Made.mono _ _)
      | (with_reducible exact regletlaw13_awake.mono _)
      | (with_reducible exact regletlaw13_has.mono _ _ _)
      | (with_reducible exact regletlaw13_within.mono _ _ _)
      | (with_reducible exact regletref13_SameInts.mono _ _ _)
      | (with_reducible exact LeO.refl _)
      | (with_reducible exact LeO.none _)
      | (with_reducible refine LeO.ite ?_ ?_)
      | (with_reducible refine LeO.bind ?_ (fun _ => ?_))
      | exact ih0 _ _ _ _ _ _ _
      | exact firsts_Of.mono _ _ _ _ _ _ _
      | exact regletlaw13_Made.mono _ _
      | exact regletlaw13_awake.mono _
      | exact regletlaw13_has.mono _ _ _
      | exact regletlaw13_within.mono _ _ _
      | exact regletref13_SameInts.mono _ _ _
      | exact LeO.none _
      | refine LeO.ite ?_ ?_
      | refine LeO.bind ?_ (fun _ => ?_)
theorem regletlaw13_FirstsParts.mono : ∀ a0 a1 a2 k, LeO (regletlaw13_FirstsParts.f k a0 a1 a2) (regletlaw13_FirstsParts.f (k + 1) a0 a1 a2) := by
  intro a0 a1 a2 k
  have ih0 := regletlaw13_FirstsParts.mono_l k
  unfold regletlaw13_FirstsParts.f
  repeat' first
      | (with_reducible exact ih0 _ _ _ _ _ _ _)
      | (with_reducible exact firsts_Of.mono _ _ _ _ _ _ _)
      | (with_reducible exact regletlaw13_Made.mono _ _)
      | (with_reducible exact regletlaw13_awake.mono _)
      | (with_reducible exact regletlaw13_has.mono _ _ _)
      | (with_reducible exact regletlaw13_within.mono _ _ _)
      | (with_reducible exact regletref13_SameInts.mono _ _ _)
      | (with_reducible exact LeO.refl _)
      | (with_reducible exact LeO.none _)
      | (with_reducible refine LeO.ite ?_ ?_)
      | (with_reducible refine LeO.bind ?_ (fun _ => ?_))
      | exact ih0 _ _ _ _ _ _ _
      | exact firsts_Of.mono _ _ _ _ _ _ _
      | exact regletlaw13_Made.mono _ _
      | exact regletlaw13_awake.mono _
      | exact regletlaw13_has.mono _ _ _
      | exact regletlaw13_within.mono _ _ _
      | exact regletref13_SameInts.mono _ _ _
      | exact LeO.none _
      | refine LeO.ite ?_ ?_
      | refine LeO.bind ?_ (fun _ => ?_)
def regletlaw13_FirstsParts.T5 : Bool × List (List Nat × List Nat) := (true, [([], []), ([0], [0]), ([], []), ([2], [2]), ([], []), ([4], [4]), ([5], [5]), ([3, 6], [3, 6]), ([1, 7], [1, 7]), ([8], [8]), ([9], [9]), ([10, 0, 1, 2, 3, 4, 5, 6, 7, 8, 9, 10], [10])])
def regletlaw13_FirstsParts.B5 : List Nat := [0, 1, 0, 4, 0, 16, 48, 124, 255, 511, 1023, 2047]
theorem regletlaw13_FirstsParts.tab5 : rtab .any (opsOf Try.f8 5) = regletlaw13_FirstsParts.T5 := by kernel_rfl
theorem regletlaw13_FirstsParts.bits5 : waitsOk regletlaw13_FirstsParts.T5.2 regletlaw13_FirstsParts.B5 = true := by kernel_rfl
def regletlaw13_FirstsParts.T7 : Bool × List (List Nat × List Nat) := (true, [([], []), ([], []), ([], []), ([1, 2], [1, 2]), ([0, 3], [0, 3]), ([4], [4]), ([5], [5]), ([5], [5]), ([6, 4, 0, 1, 2, 3, 4, 5, 6], [6]), ([7, 8, 0, 1, 2, 3, 4, 5, 6, 7, 8], [7])])
def regletlaw13_FirstsParts.B7 : List Nat := [0, 0, 0, 6, 15, 31, 63, 63, 127, 511]
theorem regletlaw13_FirstsParts.tab7 : rtab .any (opsOf Try.f8 7) = regletlaw13_FirstsParts.T7 := by kernel_rfl
theorem regletlaw13_FirstsParts.bits7 : waitsOk regletlaw13_FirstsParts.T7.2 regletlaw13_FirstsParts.B7 = true := by kernel_rfl
def regletlaw13_FirstsParts.T8 : Bool × List (List Nat × List Nat) := (true, [([], []), ([], []), ([], []), ([1, 2], [1, 2]), ([0, 3], [0, 3]), ([4], [4]), ([5], [5]), ([5], [5]), ([6, 4, 0, 1, 2, 3, 4, 5, 6], [6]), ([7, 8, 0, 1, 2, 3, 4, 5, 6, 7, 8], [7])])
def regletlaw13_FirstsParts.B8 : List Nat := [0, 0, 0, 6, 15, 31, 63, 63, 127, 511]
theorem regletlaw13_FirstsParts.tab8 : rtab .any (opsOf Try.f8 8) = regletlaw13_FirstsParts.T8 := by kernel_rfl
theorem regletlaw13_FirstsParts.bits8 : waitsOk regletlaw13_FirstsParts.T8.2 regletlaw13_FirstsParts.B8 = true := by kernel_rfl
set_option maxHeartbeats 8000000 in
set_option maxRecDepth 100000 in
theorem regletlaw13_FirstsParts.calls (k : Nat) (A0 : Option Addr) (c0 : Nat) (l0 : List Int) (a1 : Int) (a2 : Int) (r : Bool) (w : World) (hr0 : Kd.C (Kd.int .u8) w A0 l0.length l0) (hc0 : l0.length ≤ c0) (h : regletlaw13_FirstsParts.f k l0 a1 a2 = some r) :
    Calls Try.prog 8 #[.slice A0 l0.length c0, .int .u8 a1, .int .u8 a2] w fun e w' => e = .returned (.bool r) ∧ Below w.heap.size w w' := by
  have hu26 := Try.underlying26
  have HR0 := Aside0.mk hr0
  have HC0 := Aside0.mk hc0
  clear hr0 hc0
  have HB := Aside0.mk (Below.refl w.heap.size w)
  have H : ((regletlaw13_awake.f k).bind fun t473 => (if t473 = true then ((regletlaw13_Made.f k l0).bind fun bt474 => (if (bt474.2.2.2.2.length : Int) = 0 then (none) else (if 0 ≤ (Int.tmod (wrap64 (a1)) (bt474.2.2.2.2.length : Int)) then (if (Int.tmod (wrap64 (a1)) (bt474.2.2.2.2.length : Int)) < (bt474.2.2.2.2.length : Int) then (if (wrap64 ((((rd_T34 bt474.2.2.2.2 (Int.tmod (wrap64 (a1)) (bt474.2.2.2.2.length : Int))).f1).length : Int) + 1)) = 0 then (none) else (if 0 ≤ (Int.tmod (wrap64 (a2)) (wrap64 ((((rd_T34 bt474.2.2.2.2 (Int.tmod (wrap64 (a1)) (bt474.2.2.2.2.length : Int))).f1).length : Int) + 1))) then (if (Int.tmod (wrap64 (a2)) (wrap64 ((((rd_T34 bt474.2.2.2.2 (Int.tmod (wrap64 (a1)) (bt474.2.2.2.2.length : Int))).f1).length : Int) + 1))) ≤ (((rd_T34 bt474.2.2.2.2 (Int.tmod (wrap64 (a1)) (bt474.2.2.2.2.length : Int))).f1).length : Int) then ((firsts_Of.f k bt474.1 bt474.2.1 bt474.2.2.1 bt474.2.2.2.1 bt474.2.2.2.2 (((rd_T34 bt474.2.2.2.2 (Int.tmod (wrap64 (a1)) (bt474.2.2.2.2.length : Int))).f1).take ((Int.tmod (wrap64 (a2)) (wrap64 ((((rd_T34 bt474.2.2.2.2 (Int.tmod (wrap64 (a1)) (bt474.2.2.2.2.length : Int))).f1).length : Int) + 1))) : Int).toNat)).bind fun bt491 => ((firsts_Of.f k bt474.1 bt474.2.1 bt474.2.2.1 bt474.2.2.2.1 bt474.2.2.2.2 (((rd_T34 bt474.2.2.2.2 (Int.tmod (wrap64 (a1)) (bt474.2.2.2.2.length : Int))).f1).drop ((Int.tmod (wrap64 (a2)) (wrap64 ((((rd_T34 bt474.2.2.2.2 (Int.tmod (wrap64 (a1)) (bt474.2.2.2.2.length : Int))).f1).length : Int) + 1))) : Int).toNat)).bind fun bt499 => ((firsts_Of.f k bt474.1 bt474.2.1 bt474.2.2.1 bt474.2.2.2.1 bt474.2.2.2.2 ((rd_T34 bt474.2.2.2.2 (Int.tmod (wrap64 (a1)) (bt474.2.2.2.2.length : Int))).f1)).bind fun bt503 => (if bt491.2 = true then (regletlaw13_FirstsParts.l0 k t473 bt491.1 bt499.1 bt499.2 bt503.1 bt503.2 0) else ((regletref13_SameInts.f k bt491.1 bt503.1).bind fun t507 => (if t507 = true then (some (!bt503.2)) else (some false))))))) else (none)) else (none))) else (none)) else (none)))) else (some false))) = some r := h
  clear h
  replace H := Option.bind_eq_some_iff.mp H
  obtain ⟨t473, A40, H⟩ := H
  replace H : (if t473 = true then ((regletlaw13_Made.f k l0).bind fun bt474 => (if (bt474.2.2.2.2.length : Int) = 0 then (none) else (if 0 ≤ (Int.tmod (wrap64 (a1)) (bt474.2.2.2.2.length : Int)) then (if (Int.tmod (wrap64 (a1)) (bt474.2.2.2.2.length : Int)) < (bt474.2.2.2.2.length : Int) then (if (wrap64 ((((rd_T34 bt474.2.2.2.2 (Int.tmod (wrap64 (a1)) (bt474.2.2.2.2.length : Int))).f1).length : Int) + 1)) = 0 then (none) else (if 0 ≤ (Int.tmod (wrap64 (a2)) (wrap64 ((((rd_T34 bt474.2.2.2.2 (Int.tmod (wrap64 (a1)) (bt474.2.2.2.2.length : Int))).f1).length : Int) + 1))) then (if (Int.tmod (wrap64 (a2)) (wrap64 ((((rd_T34 bt474.2.2.2.2 (Int.tmod (wrap64 (a1)) (bt474.2.2.2.2.length : Int))).f1).length : Int) + 1))) ≤ (((rd_T34 bt474.2.2.2.2 (Int.tmod (wrap64 (a1)) (bt474.2.2.2.2.length : Int))).f1).length : Int) then ((firsts_Of.f k bt474.1 bt474.2.1 bt474.2.2.1 bt474.2.2.2.1 bt474.2.2.2.2 (((rd_T34 bt474.2.2.2.2 (Int.tmod (wrap64 (a1)) (bt474.2.2.2.2.length : Int))).f1).take ((Int.tmod (wrap64 (a2)) (wrap64 ((((rd_T34 bt474.2.2.2.2 (Int.tmod (wrap64 (a1)) (bt474.2.2.2.2.length : Int))).f1).length : Int) + 1))) : Int).toNat)).bind fun bt491 => ((firsts_Of.f k bt474.1 bt474.2.1 bt474.2.2.1 bt474.2.2.2.1 bt474.2.2.2.2 (((rd_T34 bt474.2.2.2.2 (Int.tmod (wrap64 (a1)) (bt474.2.2.2.2.length : Int))).f1).drop ((Int.tmod (wrap64 (a2)) (wrap64 ((((rd_T34 bt474.2.2.2.2 (Int.tmod (wrap64 (a1)) (bt474.2.2.2.2.length : Int))).f1).length : Int) + 1))) : Int).toNat)).bind fun bt499 => ((firsts_Of.f k bt474.1 bt474.2.1 bt474.2.2.1 bt474.2.2.2.1 bt474.2.2.2.2 ((rd_T34 bt474.2.2.2.2 (Int.tmod (wrap64 (a1)) (bt474.2.2.2.2.length : Int))).f1)).bind fun bt503 => (if bt491.2 = true then (regletlaw13_FirstsParts.l0 k t473 bt491.1 bt499.1 bt499.2 bt503.1 bt503.2 0) else ((regletref13_SameInts.f k bt491.1 bt503.1).bind fun t507 => (if t507 = true then (some (!bt503.2)) else (some false))))))) else (none)) else (none))) else (none)) else (none)))) else (some false)) = some r := H
  have A4 := Aside0.mk A40
  clear A40
  by_cases c5 : t473 = true
  · subst c5
    have H1 : ((regletlaw13_Made.f k l0).bind fun bt474 => (if (bt474.2.2.2.2.length : Int) = 0 then (none) else (if 0 ≤ (Int.tmod (wrap64 (a1)) (bt474.2.2.2.2.length : Int)) then (if (Int.tmod (wrap64 (a1)) (bt474.2.2.2.2.length : Int)) < (bt474.2.2.2.2.length : Int) then (if (wrap64 ((((rd_T34 bt474.2.2.2.2 (Int.tmod (wrap64 (a1)) (bt474.2.2.2.2.length : Int))).f1).length : Int) + 1)) = 0 then (none) else (if 0 ≤ (Int.tmod (wrap64 (a2)) (wrap64 ((((rd_T34 bt474.2.2.2.2 (Int.tmod (wrap64 (a1)) (bt474.2.2.2.2.length : Int))).f1).length : Int) + 1))) then (if (Int.tmod (wrap64 (a2)) (wrap64 ((((rd_T34 bt474.2.2.2.2 (Int.tmod (wrap64 (a1)) (bt474.2.2.2.2.length : Int))).f1).length : Int) + 1))) ≤ (((rd_T34 bt474.2.2.2.2 (Int.tmod (wrap64 (a1)) (bt474.2.2.2.2.length : Int))).f1).length : Int) then ((firsts_Of.f k bt474.1 bt474.2.1 bt474.2.2.1 bt474.2.2.2.1 bt474.2.2.2.2 (((rd_T34 bt474.2.2.2.2 (Int.tmod (wrap64 (a1)) (bt474.2.2.2.2.length : Int))).f1).take ((Int.tmod (wrap64 (a2)) (wrap64 ((((rd_T34 bt474.2.2.2.2 (Int.tmod (wrap64 (a1)) (bt474.2.2.2.2.length : Int))).f1).length : Int) + 1))) : Int).toNat)).bind fun bt491 => ((firsts_Of.f k bt474.1 bt474.2.1 bt474.2.2.1 bt474.2.2.2.1 bt474.2.2.2.2 (((rd_T34 bt474.2.2.2.2 (Int.tmod (wrap64 (a1)) (bt474.2.2.2.2.length : Int))).f1).drop ((Int.tmod (wrap64 (a2)) (wrap64 ((((rd_T34 bt474.2.2.2.2 (Int.tmod (wrap64 (a1)) (bt474.2.2.2.2.length : Int))).f1).length : Int) + 1))) : Int).toNat)).bind fun bt499 => ((firsts_Of.f k bt474.1 bt474.2.1 bt474.2.2.1 bt474.2.2.2.1 bt474.2.2.2.2 ((rd_T34 bt474.2.2.2.2 (Int.tmod (wrap64 (a1)) (bt474.2.2.2.2.length : Int))).f1)).bind fun bt503 => (if bt491.2 = true then (regletlaw13_FirstsParts.l0 k true bt491.1 bt499.1 bt499.2 bt503.1 bt503.2 0) else ((regletref13_SameInts.f k bt491.1 bt503.1).bind fun t507 => (if t507 = true then (some (!bt503.2)) else (some false))))))) else (none)) else (none))) else (none)) else (none)))) = some r := by rw [if_pos rfl] at H; exact H
    clear H
    have H := H1
    clear H1
    replace H := Option.bind_eq_some_iff.mp H
    obtain ⟨⟨t474, t477, t480, t481, t482⟩, A60, H⟩ := H
    replace H : (if (t482.length : Int) = 0 then (none) else (if 0 ≤ (Int.tmod (wrap64 (a1)) (t482.length : Int)) then (if (Int.tmod (wrap64 (a1)) (t482.length : Int)) < (t482.length : Int) then (if (wrap64 ((((rd_T34 t482 (Int.tmod (wrap64 (a1)) (t482.length : Int))).f1).length : Int) + 1)) = 0 then (none) else (if 0 ≤ (Int.tmod (wrap64 (a2)) (wrap64 ((((rd_T34 t482 (Int.tmod (wrap64 (a1)) (t482.length : Int))).f1).length : Int) + 1))) then (if (Int.tmod (wrap64 (a2)) (wrap64 ((((rd_T34 t482 (Int.tmod (wrap64 (a1)) (t482.length : Int))).f1).length : Int) + 1))) ≤ (((rd_T34 t482 (Int.tmod (wrap64 (a1)) (t482.length : Int))).f1).length : Int) then ((firsts_Of.f k t474 t477 t480 t481 t482 (((rd_T34 t482 (Int.tmod (wrap64 (a1)) (t482.length : Int))).f1).take ((Int.tmod (wrap64 (a2)) (wrap64 ((((rd_T34 t482 (Int.tmod (wrap64 (a1)) (t482.length : Int))).f1).length : Int) + 1))) : Int).toNat)).bind fun bt491 => ((firsts_Of.f k t474 t477 t480 t481 t482 (((rd_T34 t482 (Int.tmod (wrap64 (a1)) (t482.length : Int))).f1).drop ((Int.tmod (wrap64 (a2)) (wrap64 ((((rd_T34 t482 (Int.tmod (wrap64 (a1)) (t482.length : Int))).f1).length : Int) + 1))) : Int).toNat)).bind fun bt499 => ((firsts_Of.f k t474 t477 t480 t481 t482 ((rd_T34 t482 (Int.tmod (wrap64 (a1)) (t482.length : Int))).f1)).bind fun bt503 => (if bt491.2 = true then (regletlaw13_FirstsParts.l0 k true bt491.1 bt499.1 bt499.2 bt503.1 bt503.2 0) else ((regletref13_SameInts.f k bt491.1 bt503.1).bind fun t507 => (if t507 = true then (some (!bt503.2)) else (some false))))))) else (none)) else (none))) else (none)) else (none))) = some r := H
    have A6 := Aside0.mk A60
    clear A60
    by_cases c7 : (t482.length : Int) = 0
    · rw [if_pos c7] at H
      exact absurd H (by simp)
    · rw [if_neg c7] at H
      have c7b0 : ((t482.length : Int) == 0) = false := beq_eq_false_iff_ne.mpr c7
      have c7b1 : ((t482.length : Int) != 0) = true := bne_iff_ne.mpr c7
      have c7b2 : ¬ (t482 = []) := fun h_ => c7 (by rw [h_]; rfl)
      obtain ⟨ji8, hji8⟩ : ∃ j_ : Int, (Int.tmod (wrap64 (a1)) (t482.length : Int)) = j_ := ⟨_, rfl⟩
      replace H : (if 0 ≤ (ji8) then (if (ji8) < (t482.length : Int) then (if (wrap64 ((((rd_T34 t482 (ji8)).f1).length : Int) + 1)) = 0 then (none) else (if 0 ≤ (Int.tmod (wrap64 (a2)) (wrap64 ((((rd_T34 t482 (ji8)).f1).length : Int) + 1))) then (if (Int.tmod (wrap64 (a2)) (wrap64 ((((rd_T34 t482 (ji8)).f1).length : Int) + 1))) ≤ (((rd_T34 t482 (ji8)).f1).length : Int) then ((firsts_Of.f k t474 t477 t480 t481 t482 (((rd_T34 t482 (ji8)).f1).take ((Int.tmod (wrap64 (a2)) (wrap64 ((((rd_T34 t482 (ji8)).f1).length : Int) + 1))) : Int).toNat)).bind fun bt491 => ((firsts_Of.f k t474 t477 t480 t481 t482 (((rd_T34 t482 (ji8)).f1).drop ((Int.tmod (wrap64 (a2)) (wrap64 ((((rd_T34 t482 (ji8)).f1).length : Int) + 1))) : Int).toNat)).bind fun bt499 => ((firsts_Of.f k t474 t477 t480 t481 t482 ((rd_T34 t482 (ji8)).f1)).bind fun bt503 => (if bt491.2 = true then (regletlaw13_FirstsParts.l0 k true bt491.1 bt499.1 bt499.2 bt503.1 bt503.2 0) else ((regletref13_SameInts.f k bt491.1 bt503.1).bind fun t507 => (if t507 = true then (some (!bt503.2)) else (some false))))))) else (none)) else (none))) else (none)) else (none)) = some r := by first | (rw [hji8] at H; exact H) | (simp only [hji8] at H ⊢; exact H)
      (try rw [hji8] at A4)
      (try rw [hji8] at A6)
      by_cases c9 : 0 ≤ (ji8)
      · rw [if_pos c9] at H
        have c9b0 : decide (0 ≤ (ji8)) = true := decide_eq_true c9
        clear c9
        by_cases c10 : (ji8) < (t482.length : Int)
        · rw [if_pos c10] at H
          have c10b0 : decide ((ji8) < (t482.length : Int)) = true := decide_eq_true c10
          clear c10
          by_cases c11 : (wrap64 ((((rd_T34 t482 (ji8)).f1).length : Int) + 1)) = 0
          · rw [if_pos c11] at H
            exact absurd H (by simp)
          · rw [if_neg c11] at H
            have c11b0 : ((wrap64 ((((rd_T34 t482 (ji8)).f1).length : Int) + 1)) == 0) = false := beq_eq_false_iff_ne.mpr c11
            have c11b1 : ((wrap64 ((((rd_T34 t482 (ji8)).f1).length : Int) + 1)) != 0) = true := bne_iff_ne.mpr c11
            obtain ⟨ji12, hji12⟩ : ∃ j_ : Int, (Int.tmod (wrap64 (a2)) (wrap64 ((((rd_T34 t482 (ji8)).f1).length : Int) + 1))) = j_ := ⟨_, rfl⟩
            replace H : (if 0 ≤ (ji12) then (if (ji12) ≤ (((rd_T34 t482 (ji8)).f1).length : Int) then ((firsts_Of.f k t474 t477 t480 t481 t482 (((rd_T34 t482 (ji8)).f1).take ((ji12) : Int).toNat)).bind fun bt491 => ((firsts_Of.f k t474 t477 t480 t481 t482 (((rd_T34 t482 (ji8)).f1).drop ((ji12) : Int).toNat)).bind fun bt499 => ((firsts_Of.f k t474 t477 t480 t481 t482 ((rd_T34 t482 (ji8)).f1)).bind fun bt503 => (if bt491.2 = true then (regletlaw13_FirstsParts.l0 k true bt491.1 bt499.1 bt499.2 bt503.1 bt503.2 0) else ((regletref13_SameInts.f k bt491.1 bt503.1).bind fun t507 => (if t507 = true then (some (!bt503.2)) else (some false))))))) else (none)) else (none)) = some r := by first | (rw [hji12] at H; exact H) | (simp only [hji12] at H ⊢; exact H)
            (try rw [hji12] at A4)
            (try rw [hji12] at A6)
            by_cases c13 : 0 ≤ (ji12)
            · rw [if_pos c13] at H
              have c13b0 := eq_true c13
              have c13b1 : decide (0 ≤ (ji12)) = true := decide_eq_true c13
              clear c13
              by_cases c14 : (ji12) ≤ (((rd_T34 t482 (ji8)).f1).length : Int)
              · rw [if_pos c14] at H
                have c14b0 := eq_true c14
                have c14b1 : decide ((ji12) ≤ (((rd_T34 t482 (ji8)).f1).length : Int)) = true := decide_eq_true c14
                clear c14
                obtain ⟨y487, hy487⟩ : ∃ y_ : List (S49), y_ = (((rd_T34 t482 (ji8)).f1).take ((ji12) : Int).toNat) := ⟨_, rfl⟩
                replace H : ((firsts_Of.f k t474 t477 t480 t481 t482 y487).bind fun bt491 => ((firsts_Of.f k t474 t477 t480 t481 t482 (((rd_T34 t482 (ji8)).f1).drop ((ji12) : Int).toNat)).bind fun bt499 => ((firsts_Of.f k t474 t477 t480 t481 t482 ((rd_T34 t482 (ji8)).f1)).bind fun bt503 => (if bt491.2 = true then (regletlaw13_FirstsParts.l0 k true bt491.1 bt499.1 bt499.2 bt503.1 bt503.2 0) else ((regletref13_SameInts.f k bt491.1 bt503.1).bind fun t507 => (if t507 = true then (some (!bt503.2)) else (some false))))))) = some r := by first | (rw [hy487]; with_reducible exact H) | (have H2_ := (Option.bind_some _ _).symm.trans H; rw [hy487]; with_reducible exact H2_) | (have H2_ := (Option.bind_some _ _).symm.trans H; with_reducible exact H2_) | with_reducible exact H | (rw [hy487]; exact H) | exact H
                have Ny487 := Aside0.mk hy487
                clear hy487
                replace H := Option.bind_eq_some_iff.mp H
                obtain ⟨⟨t491, t494⟩, A150, H⟩ := H
                replace H : ((firsts_Of.f k t474 t477 t480 t481 t482 (((rd_T34 t482 (ji8)).f1).drop ((ji12) : Int).toNat)).bind fun bt499 => ((firsts_Of.f k t474 t477 t480 t481 t482 ((rd_T34 t482 (ji8)).f1)).bind fun bt503 => (if t494 = true then (regletlaw13_FirstsParts.l0 k true t491 bt499.1 bt499.2 bt503.1 bt503.2 0) else ((regletref13_SameInts.f k t491 bt503.1).bind fun t507 => (if t507 = true then (some (!bt503.2)) else (some false)))))) = some r := H
                have A15 := Aside0.mk A150
                clear A150
                have c16b0 := eq_true (of_decide_eq_true (by first | (with_reducible assumption) | assumption) : 0 ≤ (ji12))
                have c17b0 := eq_true (of_decide_eq_true (by first | (with_reducible assumption) | assumption) : (ji12) ≤ (((rd_T34 t482 (ji8)).f1).length : Int))
                obtain ⟨y495, hy495⟩ : ∃ y_ : List (S49), y_ = (((rd_T34 t482 (ji8)).f1).drop ((ji12) : Int).toNat) := ⟨_, rfl⟩
                replace H : ((firsts_Of.f k t474 t477 t480 t481 t482 y495).bind fun bt499 => ((firsts_Of.f k t474 t477 t480 t481 t482 ((rd_T34 t482 (ji8)).f1)).bind fun bt503 => (if t494 = true then (regletlaw13_FirstsParts.l0 k true t491 bt499.1 bt499.2 bt503.1 bt503.2 0) else ((regletref13_SameInts.f k t491 bt503.1).bind fun t507 => (if t507 = true then (some (!bt503.2)) else (some false)))))) = some r := by first | (rw [hy495]; with_reducible exact H) | (have H2_ := (Option.bind_some _ _).symm.trans H; rw [hy495]; with_reducible exact H2_) | (have H2_ := (Option.bind_some _ _).symm.trans H; with_reducible exact H2_) | with_reducible exact H | (rw [hy495]; exact H) | exact H
                have Ny495 := Aside0.mk hy495
                clear hy495
                replace H := Option.bind_eq_some_iff.mp H
                obtain ⟨⟨t499, t502⟩, A180, H⟩ := H
                replace H : ((firsts_Of.f k t474 t477 t480 t481 t482 ((rd_T34 t482 (ji8)).f1)).bind fun bt503 => (if t494 = true then (regletlaw13_FirstsParts.l0 k true t491 t499 t502 bt503.1 bt503.2 0) else ((regletref13_SameInts.f k t491 bt503.1).bind fun t507 => (if t507 = true then (some (!bt503.2)) else (some false))))) = some r := H
                have A18 := Aside0.mk A180
                clear A180
                replace H := Option.bind_eq_some_iff.mp H
                obtain ⟨⟨t503, t506⟩, A190, H⟩ := H
                replace H : (if t494 = true then (regletlaw13_FirstsParts.l0 k true t491 t499 t502 t503 t506 0) else ((regletref13_SameInts.f k t491 t503).bind fun t507 => (if t507 = true then (some (!t506)) else (some false)))) = some r := H
                have A19 := Aside0.mk A190
                clear A190
                by_cases c20 : t494 = true
                · subst c20
                  have H1 : (regletlaw13_FirstsParts.l0 k true t491 t499 t502 t503 t506 0) = some r := by rw [if_pos rfl] at H; exact H
                  clear H
                  have H := H1
                  clear H1
                  have H' := Aside0.mk H
                  clear H
                  go_enter Try.func8, Try.ntmps8
                  try go_wp2_with (first | ((with_reducible refine gate_callee (f := 9) rfl ?_); refine goesL_ (some 18) rfl rfl Try.func9 (by kernel_rfl) rfl #[] rfl (by (try simp only [List.map_toArray, List.map_cons, List.map_nil]); first | done | rfl | (simp only [List.length_drop, List.length_take]; rfl)) ?_; (with_reducible refine (regletlaw13_awake.calls k  true _ A4.out).mono ?_); rintro e w21 ⟨rfl, hb⟩; refine ⟨_, rfl, ?_⟩; have n0_ := Aside0.mk (below_step (by repeat (first | (with_reducible first | exact HB.out | apply below_alloc | apply pw_below_drewN | apply below_drew1) | exact HB.out)) hb); clear HB; have HB := n0_; clear n0_; (try clear hb); (try clear hb2); (try clear hk); (try clear hi)) | ((with_reducible refine gate_callee (f := 12) rfl ?_); refine goesL_ (some 22) rfl rfl Try.func12 (by kernel_rfl) rfl #[.slice A0 l0.length c0] rfl (by (try simp only [List.map_toArray, List.map_cons, List.map_nil]); first | done | rfl | (simp only [List.length_drop, List.length_take]; rfl)) ?_; (with_reducible refine (regletlaw13_Made.calls k _ _ l0 t474 t477 t480 t481 t482 _ ?side1 ?side2 A6.out).mono ?_); (case side1 => repeat (first | exact (Kd.C_below HR0.out HB.out) | (with_reducible refine Kd.C_alloc ?_ _) | (with_reducible refine Kd.C_drewN ?_ _) | (with_reducible refine Kd.C_drew ?_))); (case side2 => exact HC0.out); rintro e w22 ⟨v475, v478, v483, rfl, ho0, ho1, ho2, hb⟩; refine ⟨_, rfl, ?_⟩; have n0_ := Aside0.mk (Kd.R_lower ho0 (below_size (by repeat (first | (with_reducible first | exact HB.out | apply below_alloc | apply pw_below_drewN | apply below_drew1) | exact HB.out)))); have n1_ := Aside0.mk (Kd.R_lower ho1 (below_size (by repeat (first | (with_reducible first | exact HB.out | apply below_alloc | apply pw_below_drewN | apply below_drew1) | exact HB.out)))); have n2_ := Aside0.mk (Kd.S_lower ho2 (below_size (by repeat (first | (with_reducible first | exact HB.out | apply below_alloc | apply pw_below_drewN | apply below_drew1) | exact HB.out)))); have n3_ := Aside0.mk (below_step (by repeat (first | (with_reducible first | exact HB.out | apply below_alloc | apply pw_below_drewN | apply below_drew1) | exact HB.out)) hb); clear HB; have HO476 := n0_; have HO479 := n1_; have HO484 := n2_; have HB := n3_; clear n0_ n1_ n2_ n3_; (try clear hb); (try clear hb2); (try clear hk); (try clear hi); (try clear ho0); (try clear ho1); (try clear ho2)) | ((with_reducible refine gate_dst (N := 8) rfl ?_); refine box_event ?hg (N := 8) ?hd (cs := #[.slice none 0 0, .slice none 0 0, .int .i64 0, .int .i64 0, .slice none 0 0]) (t := 26) ?hr ?_; (case hd => rfl); (case hg => rfl); (case hr => first | (go_simp; done) | (go_simp; rfl)); intro gb485 hg w23 hbox hb; have n0_ := Aside0.mk (Kd.R_below (by (with_reducible repeat (first | apply Kd.R_alloc | apply Kd.R_drewN | apply Kd.R_drew)); exact HO476.out) hb); have n1_ := Aside0.mk (Kd.R_below (by (with_reducible repeat (first | apply Kd.R_alloc | apply Kd.R_drewN | apply Kd.R_drew)); exact HO479.out) hb); have n2_ := Aside0.mk (Kd.S_below (by (with_reducible repeat (first | apply Kd.S_alloc | apply Kd.S_drewN | apply Kd.S_drew)); exact HO484.out) hb); have n3_ := Aside0.mk (below_step (by repeat (first | (with_reducible first | exact HB.out | apply below_alloc | apply pw_below_drewN | apply below_drew1) | exact HB.out)) hb); have n4_ := Aside0.mk (hbox); have n5_ := Aside0.mk ((by rw [hg]; exact (below_size (by repeat (first | (with_reducible first | exact HB.out | apply below_alloc | apply pw_below_drewN | apply below_drew1) | exact HB.out))) : w.heap.size ≤ gb485)); have n6_ := Aside0.mk ((by rw [hg]; exact (below_size (by repeat (first | (with_reducible first | exact HB.out | apply below_alloc | apply pw_below_drewN | apply below_drew1) | exact HB.out))) : w.heap.size ≤ gb485)); clear HO476; clear HO479; clear HO484; clear HB; have HO476 := n0_; have HO479 := n1_; have HO484 := n2_; have HB := n3_; have BK485 := n4_; have GW485 := n5_; have GE485 := n6_; clear n0_ n1_ n2_ n3_ n4_ n5_ n6_; clear hb hbox hg; obtain ⟨Ao24, co24, eo24⟩ := Kd.R_slice HO476.out; subst eo24; have hcz25_0 : w23.cell? ⟨gb485, 0, none⟩ = some (.slice none 0 0) := (blk_cell BK485.out 0).trans rfl; have hcz25_1 : w23.cell? ⟨gb485, 1, none⟩ = some (.slice none 0 0) := (blk_cell BK485.out 1).trans rfl; have hcz25_2 : w23.cell? ⟨gb485, 2, none⟩ = some (.int .i64 0) := (blk_cell BK485.out 2).trans rfl; have hcz25_3 : w23.cell? ⟨gb485, 3, none⟩ = some (.int .i64 0) := (blk_cell BK485.out 3).trans rfl; have hcz25_4 : w23.cell? ⟨gb485, 4, none⟩ = some (.slice none 0 0) := (blk_cell BK485.out 4).trans rfl; have hfz25_0 := blk_frozen BK485.out 0; have hfz25_1 := blk_frozen BK485.out 1; have hfz25_2 := blk_frozen BK485.out 2; have hfz25_3 := blk_frozen BK485.out 3; have hfz25_4 := blk_frozen BK485.out 4; obtain ⟨Ao26, co26, eo26⟩ := Kd.R_slice HO479.out; subst eo26; obtain ⟨Ao27, co27, eo27⟩ := Kd.S_slice HO484.out; subst eo27))
                  have n0_ : Aside0 (Kd.R Kd.string 9 (((((w23.setCell ⟨gb485, 0, none⟩ (.slice Ao24 t474.length co24)).setCell ⟨gb485, 1, none⟩ (.slice Ao26 t477.length co26)).setCell ⟨gb485, 2, none⟩ (.int .i64 t480)).setCell ⟨gb485, 3, none⟩ (.int .i64 t481)).setCell ⟨gb485, 4, none⟩ (.slice Ao27 t482.length co27)) w.heap.size (fun _ => True) (.slice Ao24 t474.length co24) t474) := ⟨by (with_reducible repeat (first | apply Kd.R_alloc | apply Kd.R_drewN | apply Kd.R_drew)); exact Kd.R_mono (Kd.R_far (p := ⟨gb485, 4, none⟩) (Kd.R_far (p := ⟨gb485, 3, none⟩) (Kd.R_far (p := ⟨gb485, 2, none⟩) (Kd.R_far (p := ⟨gb485, 1, none⟩) (Kd.R_far (p := ⟨gb485, 0, none⟩) (Kd.R_types HO476.out BK485.out (by decide)) (fun _ hk => hk.2) (.slice Ao24 t474.length co24)) (fun _ hk => hk.2) (.slice Ao26 t477.length co26)) (fun _ hk => hk.2) (.int .i64 t480)) (fun _ hk => hk.2) (.int .i64 t481)) (fun _ hk => hk.2) (.slice Ao27 t482.length co27)) (fun _ hk => trivial)⟩
                  have n1_ : Aside0 (Kd.R k62 62 (((((w23.setCell ⟨gb485, 0, none⟩ (.slice Ao24 t474.length co24)).setCell ⟨gb485, 1, none⟩ (.slice Ao26 t477.length co26)).setCell ⟨gb485, 2, none⟩ (.int .i64 t480)).setCell ⟨gb485, 3, none⟩ (.int .i64 t481)).setCell ⟨gb485, 4, none⟩ (.slice Ao27 t482.length co27)) w.heap.size (fun _ => True) (.slice Ao26 t477.length co26) t477) := ⟨by (with_reducible repeat (first | apply Kd.R_alloc | apply Kd.R_drewN | apply Kd.R_drew)); exact Kd.R_mono (Kd.R_far (p := ⟨gb485, 4, none⟩) (Kd.R_far (p := ⟨gb485, 3, none⟩) (Kd.R_far (p := ⟨gb485, 2, none⟩) (Kd.R_far (p := ⟨gb485, 1, none⟩) (Kd.R_far (p := ⟨gb485, 0, none⟩) (Kd.R_types HO479.out BK485.out (by decide)) (fun _ hk => hk.2) (.slice Ao24 t474.length co24)) (fun _ hk => hk.2) (.slice Ao26 t477.length co26)) (fun _ hk => hk.2) (.int .i64 t480)) (fun _ hk => hk.2) (.int .i64 t481)) (fun _ hk => hk.2) (.slice Ao27 t482.length co27)) (fun _ hk => trivial)⟩
                  have n2_ : Aside0 (Kd.S k34 34 (((((w23.setCell ⟨gb485, 0, none⟩ (.slice Ao24 t474.length co24)).setCell ⟨gb485, 1, none⟩ (.slice Ao26 t477.length co26)).setCell ⟨gb485, 2, none⟩ (.int .i64 t480)).setCell ⟨gb485, 3, none⟩ (.int .i64 t481)).setCell ⟨gb485, 4, none⟩ (.slice Ao27 t482.length co27)) w.heap.size (fun _ => True) (.slice Ao27 t482.length co27) t482) := ⟨by (with_reducible repeat (first | apply Kd.S_alloc | apply Kd.S_drewN | apply Kd.S_drew)); exact Kd.S_mono (Kd.S_far (p := ⟨gb485, 4, none⟩) (Kd.S_far (p := ⟨gb485, 3, none⟩) (Kd.S_far (p := ⟨gb485, 2, none⟩) (Kd.S_far (p := ⟨gb485, 1, none⟩) (Kd.S_far (p := ⟨gb485, 0, none⟩) (Kd.S_types HO484.out BK485.out (by decide)) (fun _ hk => hk.2) (.slice Ao24 t474.length co24)) (fun _ hk => hk.2) (.slice Ao26 t477.length co26)) (fun _ hk => hk.2) (.int .i64 t480)) (fun _ hk => hk.2) (.int .i64 t481)) (fun _ hk => hk.2) (.slice Ao27 t482.length co27)) (fun _ hk => trivial)⟩
                  have n3_ : Aside0 ((((((w23.setCell ⟨gb485, 0, none⟩ (.slice Ao24 t474.length co24)).setCell ⟨gb485, 1, none⟩ (.slice Ao26 t477.length co26)).setCell ⟨gb485, 2, none⟩ (.int .i64 t480)).setCell ⟨gb485, 3, none⟩ (.int .i64 t481)).setCell ⟨gb485, 4, none⟩ (.slice Ao27 t482.length co27)).heap[gb485]? = some (.cells #[.slice Ao24 t474.length co24, .slice Ao26 t477.length co26, .int .i64 t480, .int .i64 t481, .slice Ao27 t482.length co27] 26 (0, 0))) := ⟨by (with_reducible repeat (first | refine blk_drewN ?_ _ | refine blk_drew ?_ | refine blk_alloc ?_ _)); refine blk_put (cs := #[.slice Ao24 t474.length co24, .slice Ao26 t477.length co26, .int .i64 t480, .int .i64 t481, .slice none 0 0]) ?_ 4 _ rfl; (with_reducible repeat (first | refine blk_drewN ?_ _ | refine blk_drew ?_ | refine blk_alloc ?_ _)); refine blk_put (cs := #[.slice Ao24 t474.length co24, .slice Ao26 t477.length co26, .int .i64 t480, .int .i64 0, .slice none 0 0]) ?_ 3 _ rfl; (with_reducible repeat (first | refine blk_drewN ?_ _ | refine blk_drew ?_ | refine blk_alloc ?_ _)); refine blk_put (cs := #[.slice Ao24 t474.length co24, .slice Ao26 t477.length co26, .int .i64 0, .int .i64 0, .slice none 0 0]) ?_ 2 _ rfl; (with_reducible repeat (first | refine blk_drewN ?_ _ | refine blk_drew ?_ | refine blk_alloc ?_ _)); refine blk_put (cs := #[.slice Ao24 t474.length co24, .slice none 0 0, .int .i64 0, .int .i64 0, .slice none 0 0]) ?_ 1 _ rfl; (with_reducible repeat (first | refine blk_drewN ?_ _ | refine blk_drew ?_ | refine blk_alloc ?_ _)); refine blk_put (cs := #[.slice none 0 0, .slice none 0 0, .int .i64 0, .int .i64 0, .slice none 0 0]) ?_ 0 _ rfl; (with_reducible repeat (first | refine blk_drewN ?_ _ | refine blk_drew ?_ | refine blk_alloc ?_ _)); exact BK485.out⟩
                  have n4_ : Aside0 (Below w.heap.size w (((((w23.setCell ⟨gb485, 0, none⟩ (.slice Ao24 t474.length co24)).setCell ⟨gb485, 1, none⟩ (.slice Ao26 t477.length co26)).setCell ⟨gb485, 2, none⟩ (.int .i64 t480)).setCell ⟨gb485, 3, none⟩ (.int .i64 t481)).setCell ⟨gb485, 4, none⟩ (.slice Ao27 t482.length co27))) := ⟨by repeat (first | (with_reducible first | exact HB.out | apply below_alloc | apply pw_below_drewN | apply below_drew1 | refine below_set ?_ GE485.out) | exact HB.out)⟩
                  (try clear HO476)
                  (try clear HO479)
                  (try clear HO484)
                  (try clear BK485)
                  (try clear HB)
                  generalize (((((w23.setCell ⟨gb485, 0, none⟩ (.slice Ao24 t474.length co24)).setCell ⟨gb485, 1, none⟩ (.slice Ao26 t477.length co26)).setCell ⟨gb485, 2, none⟩ (.int .i64 t480)).setCell ⟨gb485, 3, none⟩ (.int .i64 t481)).setCell ⟨gb485, 4, none⟩ (.slice Ao27 t482.length co27)) = w28 at n0_ n1_ n2_ n3_ n4_ ⊢
                  have HO476 := n0_
                  have HO479 := n1_
                  have HO484 := n2_
                  have BK485 := n3_
                  have HB := n4_
                  clear n0_ n1_ n2_ n3_ n4_
                  have n0_ := Aside0.mk (Kd.R_drew HO476.out)
                  have n1_ := Aside0.mk (Kd.R_drew HO479.out)
                  have n2_ := Aside0.mk (Kd.S_drew HO484.out)
                  have n3_ := Aside0.mk (blk_drew BK485.out)
                  have n4_ := Aside0.mk (below_drew1 HB.out)
                  clear HO476
                  clear HO479
                  clear HO484
                  clear BK485
                  clear HB
                  have HO476 := n0_
                  have HO479 := n1_
                  have HO484 := n2_
                  have BK485 := n3_
                  have HB := n4_
                  clear n0_ n1_ n2_ n3_ n4_
                  have p486 : 0 ≤ ((ji8) : Int) := of_decide_eq_true (by first | (with_reducible assumption) | assumption)
                  have q486 : (ji8) < (t482.length : Int) := of_decide_eq_true (by first | (with_reducible assumption) | assumption)
                  obtain ⟨ad486, A486_1, c486_1, e486, hx486_0, hx486_1, hl486_1, hi486_1⟩ := at_T34 (Kd.S_reads' HO484.out).2.2 (ji8) p486 q486
                  cases e486
                  obtain ⟨ce486, hce486, hMe486, hcc486⟩ := Kd.S_get HO484.out z34 (ji8) p486 (by first | exact q486 | exact of_decide_eq_true (by first | (with_reducible assumption) | assumption) | (have e_ := (Kd.S_reads' HO484.out).1; omega))
                  obtain ⟨ve486_1, rfl, ge486_1⟩ := k34_openM hMe486
                  have hv486_1 := hcc486 1 _ rfl
                  rw [add_field _ _ 1 (by omega)] at hv486_1
                  replace hv486_1 := Option.some.inj (hv486_1.symm.trans hx486_1)
                  rw [hv486_1] at ge486_1
                  have HL486_1 := Aside0.mk (show Kd.R k49 49 _ _ _ _ ((rd_T34 t482 (ji8)).f1) from ge486_1)
                  clear hv486_1 ge486_1
                  clear hcc486 hce486
                  have HR486_1 := Aside0.mk hi486_1
                  have HC486_1 := Aside0.mk hl486_1
                  clear hi486_1 hl486_1
                  replace p486 := eq_true p486
                  replace q486 := eq_true q486
                  refine start_ (n := 12) (S := fun w' => w'.cell? ⟨gb485, 0, none⟩ = some (.slice Ao24 t474.length co24) ∧ w'.cell? ⟨gb485, 1, none⟩ = some (.slice Ao26 t477.length co26) ∧ w'.cell? ⟨gb485, 2, none⟩ = some (.int .i64 t480) ∧ w'.cell? ⟨gb485, 3, none⟩ = some (.int .i64 t481) ∧ w'.cell? ⟨gb485, 4, none⟩ = some (.slice (some ad486) t482.length co27) ∧ w'.cell? (ad486.add (((ji8)).toNat * 2)) = some (.int .i64 ((rd_T34 t482 (ji8)).f0)) ∧ w'.cell? ⟨(ad486.add (((ji8)).toNat * 2)).block, (ad486.add (((ji8)).toNat * 2)).off + 1, none⟩ = some (.slice A486_1 ((rd_T34 t482 (ji8)).f1).length c486_1)) (ds := []) #[false, false, false, false, false, false, false, false, false, false, false, false] (by kernel_rfl) rfl rfl ⟨(blk_cell BK485.out 0).trans rfl, (blk_cell BK485.out 1).trans rfl, (blk_cell BK485.out 2).trans rfl, (blk_cell BK485.out 3).trans rfl, (blk_cell BK485.out 4).trans rfl, hx486_0, hx486_1⟩ (fun hHeld => ?_); refine with_tabW regletlaw13_FirstsParts.tab5 regletlaw13_FirstsParts.bits5 (fun HT_ HW_ => ?_)
                  generalize w28.drew = w29 at HO476 HO479 HO484 BK485 HB HL486_1 HR486_1 hx486_0 hx486_1 hHeld ⊢
                  refine pure_ (i := 0) (N := some 23) (v := ?_) (a' := ?_) #[true, false, false, false, false, false, false, false, false, false, false, false] rfl rfl (any_of HT_.out (by kernel_rfl)) (fun _ _ _ h => h) (Or.inl ⟨by rfl, ?_⟩) ?_ ?_
                  rotate_left
                  · intro w'
                    go_simp
                    with_reducible rfl
                  rotate_left
                  · simp only [Act.put, List.setIfInBounds_toArray, List.set_cons_zero, List.set_cons_succ, i64_w, i32_w]
                    rfl
                  refine pure_ (i := 2) (N := some 25) (v := ?_) (a' := ?_) #[true, false, true, false, false, false, false, false, false, false, false, false] rfl rfl (any_of HT_.out (by kernel_rfl)) (fun _ _ _ h => h) (Or.inl ⟨by rfl, ?_⟩) ?_ ?_
                  rotate_left
                  · intro w'
                    go_simp
                    with_reducible rfl
                  rotate_left
                  · simp only [Act.put, List.setIfInBounds_toArray, List.set_cons_zero, List.set_cons_succ, i64_w, i32_w]
                    rfl
                  refine pure_ (i := 3) (N := some 26) (v := ?_) (a' := ?_) #[true, false, true, true, false, false, false, false, false, false, false, false] rfl rfl (any_of HT_.out (by kernel_rfl)) (fun _ _ _ h => h) (Or.inl ⟨by rfl, ?_⟩) ?_ ?_
                  rotate_left
                  · intro w'
                    go_simp
                    with_reducible rfl
                  rotate_left
                  · simp only [Act.put, List.setIfInBounds_toArray, List.set_cons_zero, List.set_cons_succ, i64_w, i32_w]
                    rfl
                  refine pure_ (i := 4) (N := some 27) (v := ?_) (a' := ?_) #[true, false, true, true, true, false, false, false, false, false, false, false] rfl rfl (any_of HT_.out (by kernel_rfl)) (fun _ _ _ h => h) (Or.inl ⟨by rfl, ?_⟩) ?_ ?_
                  rotate_left
                  · intro w'
                    go_simp
                    with_reducible rfl
                  rotate_left
                  · simp only [Act.put, List.setIfInBounds_toArray, List.set_cons_zero, List.set_cons_succ, i64_w, i32_w]
                    rfl
                  refine take_ (i := 1) (N := some 24) (v := ?_) (a' := ?_) #[true, true, true, true, true, false, false, false, false, false, false, false] rfl rfl (take_ofW HT_.out HW_.out (by kernel_rfl)) (fun _ _ _ h => h) (Or.inl ⟨by rfl, ?_⟩) hHeld ?_ ?_
                  rotate_left
                  · rintro w' ⟨s0, s1, s2, s3, s4, s5, s6⟩
                    go_simp
                    with_reducible rfl
                  rotate_left
                  · simp only [Act.put, List.setIfInBounds_toArray, List.set_cons_zero, List.set_cons_succ, i64_w, i32_w]
                    rfl
                  refine take_ (i := 5) (N := some 28) (v := ?_) (a' := ?_) #[true, true, true, true, true, true, false, false, false, false, false, false] rfl rfl (take_ofW HT_.out HW_.out (by kernel_rfl)) (fun _ _ _ h => h) (Or.inl ⟨by rfl, ?_⟩) hHeld ?_ ?_
                  rotate_left
                  · rintro w' ⟨s0, s1, s2, s3, s4, s5, s6⟩
                    go_simp
                    with_reducible rfl
                  rotate_left
                  · simp only [Act.put, List.setIfInBounds_toArray, List.set_cons_zero, List.set_cons_succ, i64_w, i32_w]
                    rfl
                  refine pure_ (i := 6) (N := some 29) (v := ?_) (a' := ?_) #[true, true, true, true, true, true, true, false, false, false, false, false] rfl rfl (any_of HT_.out (by kernel_rfl)) (fun _ _ _ h => h) (Or.inl ⟨by rfl, ?_⟩) ?_ ?_
                  rotate_left
                  · intro w'
                    go_simp
                    with_reducible rfl
                  rotate_left
                  · simp only [Act.put, List.setIfInBounds_toArray, List.set_cons_zero, List.set_cons_succ, i64_w, i32_w]
                    rfl
                  refine pure_ (i := 7) (N := some 30) (v := ?_) (a' := ?_) #[true, true, true, true, true, true, true, true, false, false, false, false] rfl rfl (any_of HT_.out (by kernel_rfl)) (fun _ _ _ h => h) (Or.inl ⟨by rfl, ?_⟩) ?_ ?_
                  rotate_left
                  · intro w'
                    go_simp
                    with_reducible rfl
                  rotate_left
                  · simp only [Act.put, List.setIfInBounds_toArray, List.set_cons_zero, List.set_cons_succ, i64_w, i32_w]
                    rfl
                  refine pure_ (i := 8) (N := some 31) (v := ?_) (a' := ?_) #[true, true, true, true, true, true, true, true, true, false, false, false] rfl rfl (any_of HT_.out (by kernel_rfl)) (fun _ _ _ h => h) (Or.inl ⟨by rfl, ?_⟩) ?_ ?_
                  rotate_left
                  · intro w'
                    go_simp
                    with_reducible rfl
                  rotate_left
                  · simp only [Act.put, List.setIfInBounds_toArray, List.set_cons_zero, List.set_cons_succ, i64_w, i32_w]
                    rfl
                  refine pure_ (i := 9) (N := some 32) (v := ?_) (a' := ?_) #[true, true, true, true, true, true, true, true, true, true, false, false] rfl rfl (any_of HT_.out (by kernel_rfl)) (fun _ _ _ h => h) (Or.inl ⟨by rfl, ?_⟩) ?_ ?_
                  rotate_left
                  · intro w'
                    go_simp
                    with_reducible rfl
                  rotate_left
                  · simp only [Act.put, List.setIfInBounds_toArray, List.set_cons_zero, List.set_cons_succ, i64_w, i32_w]
                    rfl
                  refine take_ (i := 10) (N := some 33) (v := ?_) (a' := ?_) #[true, true, true, true, true, true, true, true, true, true, true, false] rfl rfl (take_ofW HT_.out HW_.out (by kernel_rfl)) (fun _ _ _ h => h) (Or.inl ⟨by rfl, ?_⟩) hHeld ?_ ?_
                  rotate_left
                  · rintro w' ⟨s0, s1, s2, s3, s4, s5, s6⟩
                    go_simp
                    with_reducible rfl
                  rotate_left
                  · simp only [Act.put, List.setIfInBounds_toArray, List.set_cons_zero, List.set_cons_succ, i64_w, i32_w]
                    rfl
                  refine pure_ (i := 11) (N := some 9) (v := ?_) (a' := ?_) #[true, true, true, true, true, true, true, true, true, true, true, true] rfl rfl (any_of HT_.out (by kernel_rfl)) (fun _ _ _ h => h) (Or.inl ⟨by rfl, ?_⟩) ?_ ?_
                  rotate_left
                  · intro w'
                    go_simp
                    with_reducible rfl
                  rotate_left
                  · simp only [Act.put, List.setIfInBounds_toArray, List.set_cons_zero, List.set_cons_succ, i64_w, i32_w]
                    rfl
                  refine done_ (done_of HT_.out (by kernel_rfl)) ?_
                  try go_wp2
                  have n0_ := Aside0.mk (Kd.R_drew HO476.out)
                  have n1_ := Aside0.mk (Kd.R_drew HO479.out)
                  have n2_ := Aside0.mk (Kd.S_drew HO484.out)
                  have n3_ := Aside0.mk (Kd.R_drew HL486_1.out)
                  have n4_ := Aside0.mk (blk_drew BK485.out)
                  have n5_ := Aside0.mk (Kd.C_drew HR486_1.out)
                  have n6_ := Aside0.mk (below_drew1 HB.out)
                  clear HO476
                  clear HO479
                  clear HO484
                  clear HL486_1
                  clear BK485
                  clear HR486_1
                  clear HB
                  have HO476 := n0_
                  have HO479 := n1_
                  have HO484 := n2_
                  have HL486_1 := n3_
                  have BK485 := n4_
                  have HR486_1 := n5_
                  have HB := n6_
                  clear n0_ n1_ n2_ n3_ n4_ n5_ n6_
                  have q31 : ((ji12) : Int) ≤ ((((rd_T34 t482 (ji8)).f1).length : Int) : Int) := of_decide_eq_true (by first | (with_reducible assumption) | assumption)
                  obtain ⟨i031, hi031, _, hsz31, _⟩ := info_parts info49
                  have hroom31 : ((rd_T34 t482 (ji8)).f1).length ≤ c486_1 := HC486_1.out
                  have hC31 : Kd.C k49 _ A486_1 ((rd_T34 t482 (ji8)).f1).length ((rd_T34 t482 (ji8)).f1) := (by repeat (first | (with_reducible exact HR486_1.out) | (with_reducible refine Kd.C_alloc ?_ _) | (with_reducible refine Kd.C_drewN ?_ _) | (with_reducible refine Kd.C_drew ?_) | exact HR486_1.out))
                  have hcut31 := cut_to (P := Try.prog) 27 49 .i64 Try.underlying27 hi031 A486_1 ((rd_T34 t482 (ji8)).f1).length c486_1 (ji12) (of_decide_eq_true (by first | (with_reducible assumption) | assumption)) q31 hroom31
                  have hr31 := Kd.C_take (m := ((ji12) : Int).toNat) hC31 (by omega)
                  have hy31 : y487.length = ((ji12) : Int).toNat := (by rw [Ny487.out, List.length_take]; omega)
                  rw [← Ny487.out] at hr31
                  rw [← hy31] at hcut31
                  have HR490 := Aside0.mk hr31
                  have HC490 := Aside0.mk (show y487.length ≤ c486_1 from by omega)
                  clear hr31 hC31 hroom31 hi031 hsz31
                  have KY31 := Aside0.mk hy31
                  clear hy31
                  replace q31 := eq_true q31
                  refine start_ (n := 10) (S := fun w' => w'.cell? ⟨gb485, 0, none⟩ = some (.slice Ao24 t474.length co24) ∧ w'.cell? ⟨gb485, 1, none⟩ = some (.slice Ao26 t477.length co26) ∧ w'.cell? ⟨gb485, 2, none⟩ = some (.int .i64 t480) ∧ w'.cell? ⟨gb485, 3, none⟩ = some (.int .i64 t481) ∧ w'.cell? ⟨gb485, 4, none⟩ = some (.slice (some ad486) t482.length co27)) (ds := []) #[false, false, false, false, false, false, false, false, false, false] (by kernel_rfl) rfl rfl ⟨(blk_cell BK485.out 0).trans rfl, (blk_cell BK485.out 1).trans rfl, (blk_cell BK485.out 2).trans rfl, (blk_cell BK485.out 3).trans rfl, (blk_cell BK485.out 4).trans rfl⟩ (fun hHeld => ?_); refine with_tabW regletlaw13_FirstsParts.tab7 regletlaw13_FirstsParts.bits7 (fun HT_ HW_ => ?_)
                  generalize w29.drew = w30 at HO476 HO479 HO484 HL486_1 BK485 HR486_1 HB HR490 hHeld ⊢
                  refine pure_ (i := 1) (N := some 42) (v := ?_) (a' := ?_) #[false, true, false, false, false, false, false, false, false, false] rfl rfl (any_of HT_.out (by kernel_rfl)) (fun _ _ _ h => h) (Or.inl ⟨by rfl, ?_⟩) ?_ ?_
                  rotate_left
                  · intro w'
                    go_simp
                    with_reducible rfl
                  rotate_left
                  · simp only [Act.put, List.setIfInBounds_toArray, List.set_cons_zero, List.set_cons_succ, i64_w, i32_w]
                    rfl
                  refine pure_ (i := 2) (N := some 43) (v := ?_) (a' := ?_) #[false, true, true, false, false, false, false, false, false, false] rfl rfl (any_of HT_.out (by kernel_rfl)) (fun _ _ _ h => h) (Or.inl ⟨by rfl, ?_⟩) ?_ ?_
                  rotate_left
                  · intro w'
                    go_simp
                    with_reducible rfl
                  rotate_left
                  · simp only [Act.put, List.setIfInBounds_toArray, List.set_cons_zero, List.set_cons_succ, i64_w, i32_w]
                    rfl
                  refine pure_ (i := 3) (N := some 44) (v := ?_) (a' := ?_) #[false, true, true, true, false, false, false, false, false, false] rfl rfl (any_of HT_.out (by kernel_rfl)) (fun _ _ _ h => h) (Or.inl ⟨by rfl, ?_⟩) ?_ ?_
                  rotate_left
                  · intro w'
                    go_simp
                    with_reducible rfl
                  rotate_left
                  · simp only [Act.put, List.setIfInBounds_toArray, List.set_cons_zero, List.set_cons_succ, i64_w, i32_w]
                    rfl
                  refine take_ (i := 0) (N := some 41) (v := ?_) (a' := ?_) #[true, true, true, true, false, false, false, false, false, false] rfl rfl (take_ofW HT_.out HW_.out (by kernel_rfl)) (fun _ _ _ h => h) (Or.inl ⟨by rfl, ?_⟩) hHeld ?_ ?_
                  rotate_left
                  · rintro w' ⟨s0, s1, s2, s3, s4⟩
                    go_simp
                    with_reducible rfl
                  rotate_left
                  · simp only [Act.put, List.setIfInBounds_toArray, List.set_cons_zero, List.set_cons_succ, i64_w, i32_w]
                    rfl
                  refine one_ (i := 4) (N := some 45) #[true, true, true, true, true, false, false, false, false, false] rfl rfl (one_of HT_.out (by kernel_rfl)) (by decide) (fun K hK => ?_)
                  refine goes_ Try.func21 (by kernel_rfl) rfl #[.agg #[.slice Ao24 t474.length co24, .slice Ao26 t477.length co26, .int .i64 t480, .int .i64 t481, .slice (some ad486) t482.length co27], .slice A486_1 y487.length c486_1] (by rfl) rfl rfl (by (try simp only [List.map_toArray, List.map_cons, List.map_nil]); first | done | rfl | (simp only [List.length_drop, List.length_take]; rfl)) ?_
                  with_reducible refine (firsts_Of.calls k _ _ t474 _ _ t477 t480 t481 _ _ t482 _ _ y487 t491 true _ ?side1 ?side2 ?side3 ?side4 ?side5 ?side6 ?side7 ?side8 A15.out).mono ?_
                  (case side1 => repeat (first | exact (Kd.R_reads' HO476.out).2.2 | (with_reducible refine Kd.C_alloc ?_ _) | (with_reducible refine Kd.C_drewN ?_ _) | (with_reducible refine Kd.C_drew ?_)))
                  (case side2 => exact (Kd.R_reads' HO476.out).2.1)
                  (case side3 => repeat (first | exact (Kd.R_reads' HO479.out).2.2 | (with_reducible refine Kd.C_alloc ?_ _) | (with_reducible refine Kd.C_drewN ?_ _) | (with_reducible refine Kd.C_drew ?_)))
                  (case side4 => exact (Kd.R_reads' HO479.out).2.1)
                  (case side5 => repeat (first | exact (Kd.S_reads' HO484.out).2.2 | (with_reducible refine Kd.C_alloc ?_ _) | (with_reducible refine Kd.C_drewN ?_ _) | (with_reducible refine Kd.C_drew ?_)))
                  (case side6 => exact (Kd.S_reads' HO484.out).2.1)
                  (case side7 => repeat (first | exact (by repeat (first | (with_reducible exact HR490.out) | (with_reducible refine Kd.C_alloc ?_ _) | (with_reducible refine Kd.C_drewN ?_ _) | (with_reducible refine Kd.C_drew ?_) | exact HR490.out)) | (with_reducible refine Kd.C_alloc ?_ _) | (with_reducible refine Kd.C_drewN ?_ _) | (with_reducible refine Kd.C_drew ?_)))
                  (case side8 => exact HC490.out)
                  rintro e w32 ⟨v492, rfl, ho0, hb⟩
                  refine ⟨_, rfl, ?_⟩
                  have n0_ := Aside0.mk (Kd.R_below (by (with_reducible repeat (first | apply Kd.R_alloc | apply Kd.R_drewN | apply Kd.R_drew)); exact HO476.out) hb)
                  have n1_ := Aside0.mk (Kd.R_elder' (by (with_reducible repeat (first | apply Kd.R_alloc | apply Kd.R_drewN | apply Kd.R_drew)); exact HO479.out) (Kd.R_base ho0) hb)
                  have n2_ := Aside0.mk (Kd.S_below (by (with_reducible repeat (first | apply Kd.S_alloc | apply Kd.S_drewN | apply Kd.S_drew)); exact HO484.out) hb)
                  have n3_ := Aside0.mk (Kd.R_below (by (with_reducible repeat (first | apply Kd.R_alloc | apply Kd.R_drewN | apply Kd.R_drew)); exact HL486_1.out) hb)
                  have n4_ := Aside0.mk (Kd.R_lower ho0 (below_size (by repeat (first | (with_reducible first | exact HB.out | apply below_alloc | apply pw_below_drewN | apply below_drew1 | refine below_set ?_ GE485.out) | exact HB.out))))
                  have n5_ := Aside0.mk (blk_below (g := gb485) (o := .cells #[.slice Ao24 t474.length co24, .slice Ao26 t477.length co26, .int .i64 t480, .int .i64 t481, .slice (some ad486) t482.length co27] 26 (0, 0)) (by (with_reducible repeat (first | refine blk_drewN ?_ _ | refine blk_drew ?_ | refine blk_alloc ?_ _)); exact BK485.out) hb)
                  have n6_ := Aside0.mk (Kd.C_below (by repeat (first | (with_reducible exact HR486_1.out) | (with_reducible refine Kd.C_alloc ?_ _) | (with_reducible refine Kd.C_drewN ?_ _) | (with_reducible refine Kd.C_drew ?_) | exact HR486_1.out)) hb)
                  have n7_ := Aside0.mk (Kd.C_below (by repeat (first | (with_reducible exact HR490.out) | (with_reducible refine Kd.C_alloc ?_ _) | (with_reducible refine Kd.C_drewN ?_ _) | (with_reducible refine Kd.C_drew ?_) | exact HR490.out)) hb)
                  have n8_ := Aside0.mk (below_step (by repeat (first | (with_reducible first | exact HB.out | apply below_alloc | apply pw_below_drewN | apply below_drew1 | refine below_set ?_ GE485.out) | exact HB.out)) hb)
                  clear HO476
                  clear HO479
                  clear HO484
                  clear HL486_1
                  clear BK485
                  clear HR486_1
                  clear HR490
                  clear HB
                  have HO476 := n0_
                  have HO479 := n1_
                  have HO484 := n2_
                  have HL486_1 := n3_
                  have HO493 := n4_
                  have BK485 := n5_
                  have HR486_1 := n6_
                  have HR490 := n7_
                  have HB := n8_
                  clear n0_ n1_ n2_ n3_ n4_ n5_ n6_ n7_ n8_
                  (try clear hb)
                  (try clear hb2)
                  (try clear hk)
                  (try clear hi)
                  (try clear ho0)
                  refine hK.out _ _ ⟨(blk_cell BK485.out 0).trans rfl, (blk_cell BK485.out 1).trans rfl, (blk_cell BK485.out 2).trans rfl, (blk_cell BK485.out 3).trans rfl, (blk_cell BK485.out 4).trans rfl⟩ (fun hHeld => ?_)
                  clear hK K
                  refine norm_ (a' := ?_) ?_ ?_
                  rotate_left
                  · show Act.put _ (some 45) _ = _
                    simp only [Act.put, List.setIfInBounds_toArray, List.set_cons_zero, List.set_cons_succ, i64_w, i32_w]
                    rfl
                  refine pure_ (i := 5) (N := some 40) (v := ?_) (a' := ?_) #[true, true, true, true, true, true, false, false, false, false] rfl rfl (any_of HT_.out (by kernel_rfl)) (fun _ _ _ h => h) (Or.inl ⟨by rfl, ?_⟩) ?_ ?_
                  rotate_left
                  · intro w'
                    go_simp
                    with_reducible rfl
                  rotate_left
                  · simp only [Act.put, List.setIfInBounds_toArray, List.set_cons_zero, List.set_cons_succ, i64_w, i32_w]
                    rfl
                  refine pure_ (i := 6) (N := some 46) (v := ?_) (a' := ?_) #[true, true, true, true, true, true, true, false, false, false] rfl rfl (any_of HT_.out (by kernel_rfl)) (fun _ _ _ h => h) (Or.inl ⟨by rfl, ?_⟩) ?_ ?_
                  rotate_left
                  · intro w'
                    go_simp
                    with_reducible rfl
                  rotate_left
                  · simp only [Act.put, List.setIfInBounds_toArray, List.set_cons_zero, List.set_cons_succ, i64_w, i32_w]
                    rfl
                  refine pure_ (i := 7) (N := some 47) (v := ?_) (a' := ?_) #[true, true, true, true, true, true, true, true, false, false] rfl rfl (any_of HT_.out (by kernel_rfl)) (fun _ _ _ h => h) (Or.inl ⟨by rfl, ?_⟩) ?_ ?_
                  rotate_left
                  · intro w'
                    go_simp
                    with_reducible rfl
                  rotate_left
                  · simp only [Act.put, List.setIfInBounds_toArray, List.set_cons_zero, List.set_cons_succ, i64_w, i32_w]
                    rfl
                  refine pure_ (i := 8) (N := some 11) (v := ?_) (a' := ?_) #[true, true, true, true, true, true, true, true, true, false] rfl rfl (any_of HT_.out (by kernel_rfl)) (fun _ _ _ h => h) (Or.inl ⟨by rfl, ?_⟩) ?_ ?_
                  rotate_left
                  · intro w'
                    go_simp
                    with_reducible rfl
                  rotate_left
                  · simp only [Act.put, List.setIfInBounds_toArray, List.set_cons_zero, List.set_cons_succ, i64_w, i32_w]
                    rfl
                  refine pure_ (i := 9) (N := some 12) (v := ?_) (a' := ?_) #[true, true, true, true, true, true, true, true, true, true] rfl rfl (any_of HT_.out (by kernel_rfl)) (fun _ _ _ h => h) (Or.inl ⟨by rfl, ?_⟩) ?_ ?_
                  rotate_left
                  · intro w'
                    go_simp
                    with_reducible rfl
                  rotate_left
                  · simp only [Act.put, List.setIfInBounds_toArray, List.set_cons_zero, List.set_cons_succ, i64_w, i32_w]
                    rfl
                  refine done_ (done_of HT_.out (by kernel_rfl)) ?_
                  try go_wp2
                  have n0_ := Aside0.mk (Kd.R_drew HO476.out)
                  have n1_ := Aside0.mk (Kd.R_drew HO479.out)
                  have n2_ := Aside0.mk (Kd.S_drew HO484.out)
                  have n3_ := Aside0.mk (Kd.R_drew HL486_1.out)
                  have n4_ := Aside0.mk (Kd.R_drew HO493.out)
                  have n5_ := Aside0.mk (blk_drew BK485.out)
                  have n6_ := Aside0.mk (Kd.C_drew HR486_1.out)
                  have n7_ := Aside0.mk (Kd.C_drew HR490.out)
                  have n8_ := Aside0.mk (below_drew1 HB.out)
                  clear HO476
                  clear HO479
                  clear HO484
                  clear HL486_1
                  clear HO493
                  clear BK485
                  clear HR486_1
                  clear HR490
                  clear HB
                  have HO476 := n0_
                  have HO479 := n1_
                  have HO484 := n2_
                  have HL486_1 := n3_
                  have HO493 := n4_
                  have BK485 := n5_
                  have HR486_1 := n6_
                  have HR490 := n7_
                  have HB := n8_
                  clear n0_ n1_ n2_ n3_ n4_ n5_ n6_ n7_ n8_
                  have q34 : ((ji12) : Int) ≤ ((((rd_T34 t482 (ji8)).f1).length : Int) : Int) := of_decide_eq_true (by first | (with_reducible assumption) | assumption)
                  obtain ⟨i034, hi034, _, hsz34, _⟩ := info_parts info49
                  have hroom34 : ((rd_T34 t482 (ji8)).f1).length ≤ c486_1 := HC486_1.out
                  have hC34 : Kd.C k49 _ A486_1 ((rd_T34 t482 (ji8)).f1).length ((rd_T34 t482 (ji8)).f1) := (by repeat (first | (with_reducible exact HR486_1.out) | (with_reducible refine Kd.C_alloc ?_ _) | (with_reducible refine Kd.C_drewN ?_ _) | (with_reducible refine Kd.C_drew ?_) | exact HR486_1.out))
                  have q034 : (0 : Int) ≤ ((ji12) : Int) := of_decide_eq_true (by first | (with_reducible assumption) | assumption)
                  have hcut34 := cut_from (P := Try.prog) 27 49 .i64 Try.underlying27 hi034 2 hsz34 A486_1 ((rd_T34 t482 (ji8)).f1).length c486_1 (ji12) q034 q34
                  have hr34 := Kd.C_drop (m := ((ji12) : Int).toNat) (c := c486_1) hC34 (by omega) hroom34
                  obtain ⟨A34, hA34⟩ : ∃ A1, A1 = (if c486_1 = ((ji12) : Int).toNat then A486_1 else (A486_1 : Option Addr).map (·.add (((ji12) : Int).toNat * 2))) := ⟨_, rfl⟩
                  obtain ⟨c34, hc34⟩ : ∃ c1, c1 = c486_1 - ((ji12) : Int).toNat := ⟨_, rfl⟩
                  have hy34 : y495.length = ((rd_T34 t482 (ji8)).f1).length - ((ji12) : Int).toNat := (by rw [Ny495.out, List.length_drop] <;> omega)
                  rw [show ((rd_T34 t482 (ji8)).f1).drop ((ji12) : Int).toNat = y495 from Ny495.out.symm] at hr34
                  replace hr34 : Kd.C k49 _ A34 y495.length y495 := (by rw [hA34]; exact hr34)
                  rw [← hy34, ← hA34, ← hc34] at hcut34
                  have HR498 := Aside0.mk hr34
                  have HC498 := Aside0.mk (show y495.length ≤ c34 from by rw [hy34, hc34]; exact Nat.sub_le_sub_right hroom34 _)
                  clear hr34 hC34 hroom34 hi034 hsz34 hc34
                  have KY34 := Aside0.mk hy34
                  have KA34 := Aside0.mk hA34
                  clear hy34 hA34
                  replace q34 := eq_true q34
                  refine start_ (n := 10) (S := fun w' => w'.cell? ⟨gb485, 0, none⟩ = some (.slice Ao24 t474.length co24) ∧ w'.cell? ⟨gb485, 1, none⟩ = some (.slice Ao26 t477.length co26) ∧ w'.cell? ⟨gb485, 2, none⟩ = some (.int .i64 t480) ∧ w'.cell? ⟨gb485, 3, none⟩ = some (.int .i64 t481) ∧ w'.cell? ⟨gb485, 4, none⟩ = some (.slice (some ad486) t482.length co27)) (ds := []) #[false, false, false, false, false, false, false, false, false, false] (by kernel_rfl) rfl rfl ⟨(blk_cell BK485.out 0).trans rfl, (blk_cell BK485.out 1).trans rfl, (blk_cell BK485.out 2).trans rfl, (blk_cell BK485.out 3).trans rfl, (blk_cell BK485.out 4).trans rfl⟩ (fun hHeld => ?_); refine with_tabW regletlaw13_FirstsParts.tab8 regletlaw13_FirstsParts.bits8 (fun HT_ HW_ => ?_)
                  generalize w32.drew = w33 at HO476 HO479 HO484 HL486_1 HO493 BK485 HR486_1 HR490 HB HR498 hHeld ⊢
                  refine pure_ (i := 1) (N := some 50) (v := ?_) (a' := ?_) #[false, true, false, false, false, false, false, false, false, false] rfl rfl (any_of HT_.out (by kernel_rfl)) (fun _ _ _ h => h) (Or.inl ⟨by rfl, ?_⟩) ?_ ?_
                  rotate_left
                  · intro w'
                    go_simp
                    with_reducible rfl
                  rotate_left
                  · simp only [Act.put, List.setIfInBounds_toArray, List.set_cons_zero, List.set_cons_succ, i64_w, i32_w]
                    rfl
                  refine pure_ (i := 2) (N := some 51) (v := ?_) (a' := ?_) #[false, true, true, false, false, false, false, false, false, false] rfl rfl (any_of HT_.out (by kernel_rfl)) (fun _ _ _ h => h) (Or.inl ⟨by rfl, ?_⟩) ?_ ?_
                  rotate_left
                  · intro w'
                    go_simp
                    with_reducible rfl
                  rotate_left
                  · simp only [Act.put, List.setIfInBounds_toArray, List.set_cons_zero, List.set_cons_succ, i64_w, i32_w]
                    rfl
                  refine pure_ (i := 3) (N := some 52) (v := ?_) (a' := ?_) #[false, true, true, true, false, false, false, false, false, false] rfl rfl (any_of HT_.out (by kernel_rfl)) (fun _ _ _ h => h) (Or.inl ⟨by rfl, ?_⟩) ?_ ?_
                  rotate_left
                  · intro w'
                    go_simp
                    with_reducible rfl
                  rotate_left
                  · simp only [Act.put, List.setIfInBounds_toArray, List.set_cons_zero, List.set_cons_succ, i64_w, i32_w]
                    rfl
                  refine take_ (i := 0) (N := some 49) (v := ?_) (a' := ?_) #[true, true, true, true, false, false, false, false, false, false] rfl rfl (take_ofW HT_.out HW_.out (by kernel_rfl)) (fun _ _ _ h => h) (Or.inl ⟨by rfl, ?_⟩) hHeld ?_ ?_
                  rotate_left
                  · rintro w' ⟨s0, s1, s2, s3, s4⟩
                    go_simp
                    with_reducible rfl
                  rotate_left
                  · simp only [Act.put, List.setIfInBounds_toArray, List.set_cons_zero, List.set_cons_succ, i64_w, i32_w]
                    rfl
                  refine one_ (i := 4) (N := some 53) #[true, true, true, true, true, false, false, false, false, false] rfl rfl (one_of HT_.out (by kernel_rfl)) (by decide) (fun K hK => ?_)
                  refine goes_ Try.func21 (by kernel_rfl) rfl #[.agg #[.slice Ao24 t474.length co24, .slice Ao26 t477.length co26, .int .i64 t480, .int .i64 t481, .slice (some ad486) t482.length co27], .slice A34 y495.length c34] (by rfl) rfl rfl (by (try simp only [List.map_toArray, List.map_cons, List.map_nil]); first | done | rfl | (simp only [List.length_drop, List.length_take]; rfl)) ?_
                  with_reducible refine (firsts_Of.calls k _ _ t474 _ _ t477 t480 t481 _ _ t482 _ _ y495 t499 t502 _ ?side1 ?side2 ?side3 ?side4 ?side5 ?side6 ?side7 ?side8 A18.out).mono ?_
                  (case side1 => repeat (first | exact (Kd.R_reads' HO476.out).2.2 | (with_reducible refine Kd.C_alloc ?_ _) | (with_reducible refine Kd.C_drewN ?_ _) | (with_reducible refine Kd.C_drew ?_)))
                  (case side2 => exact (Kd.R_reads' HO476.out).2.1)
                  (case side3 => repeat (first | exact (Kd.R_reads' HO479.out).2.2 | (with_reducible refine Kd.C_alloc ?_ _) | (with_reducible refine Kd.C_drewN ?_ _) | (with_reducible refine Kd.C_drew ?_)))
                  (case side4 => exact (Kd.R_reads' HO479.out).2.1)
                  (case side5 => repeat (first | exact (Kd.S_reads' HO484.out).2.2 | (with_reducible refine Kd.C_alloc ?_ _) | (with_reducible refine Kd.C_drewN ?_ _) | (with_reducible refine Kd.C_drew ?_)))
                  (case side6 => exact (Kd.S_reads' HO484.out).2.1)
                  (case side7 => repeat (first | exact (by repeat (first | (with_reducible exact HR498.out) | (with_reducible refine Kd.C_alloc ?_ _) | (with_reducible refine Kd.C_drewN ?_ _) | (with_reducible refine Kd.C_drew ?_) | exact HR498.out)) | (with_reducible refine Kd.C_alloc ?_ _) | (with_reducible refine Kd.C_drewN ?_ _) | (with_reducible refine Kd.C_drew ?_)))
                  (case side8 => exact HC498.out)
                  rintro e w35 ⟨v500, rfl, ho0, hb⟩
                  refine ⟨_, rfl, ?_⟩
                  have n0_ := Aside0.mk (Kd.R_below (by (with_reducible repeat (first | apply Kd.R_alloc | apply Kd.R_drewN | apply Kd.R_drew)); exact HO476.out) hb)
                  have n1_ := Aside0.mk (Kd.R_elder' (by (with_reducible repeat (first | apply Kd.R_alloc | apply Kd.R_drewN | apply Kd.R_drew)); exact HO479.out) (Kd.R_base ho0) hb)
                  have n2_ := Aside0.mk (Kd.S_below (by (with_reducible repeat (first | apply Kd.S_alloc | apply Kd.S_drewN | apply Kd.S_drew)); exact HO484.out) hb)
                  have n3_ := Aside0.mk (Kd.R_below (by (with_reducible repeat (first | apply Kd.R_alloc | apply Kd.R_drewN | apply Kd.R_drew)); exact HL486_1.out) hb)
                  have n4_ := Aside0.mk (Kd.R_elder' (by (with_reducible repeat (first | apply Kd.R_alloc | apply Kd.R_drewN | apply Kd.R_drew)); exact HO493.out) (Kd.R_base ho0) hb)
                  have n5_ := Aside0.mk (Kd.R_lower (Kd.R_new' ho0 (Kd.R_lt (by (with_reducible repeat (first | apply Kd.R_alloc | apply Kd.R_drewN | apply Kd.R_drew)); exact HO493.out))) (below_size (by repeat (first | (with_reducible first | exact HB.out | apply below_alloc | apply pw_below_drewN | apply below_drew1 | refine below_set ?_ GE485.out) | exact HB.out))))
                  have n6_ := Aside0.mk (blk_below (g := gb485) (o := .cells #[.slice Ao24 t474.length co24, .slice Ao26 t477.length co26, .int .i64 t480, .int .i64 t481, .slice (some ad486) t482.length co27] 26 (0, 0)) (by (with_reducible repeat (first | refine blk_drewN ?_ _ | refine blk_drew ?_ | refine blk_alloc ?_ _)); exact BK485.out) hb)
                  have n7_ := Aside0.mk (Kd.C_below (by repeat (first | (with_reducible exact HR486_1.out) | (with_reducible refine Kd.C_alloc ?_ _) | (with_reducible refine Kd.C_drewN ?_ _) | (with_reducible refine Kd.C_drew ?_) | exact HR486_1.out)) hb)
                  have n8_ := Aside0.mk (Kd.C_below (by repeat (first | (with_reducible exact HR490.out) | (with_reducible refine Kd.C_alloc ?_ _) | (with_reducible refine Kd.C_drewN ?_ _) | (with_reducible refine Kd.C_drew ?_) | exact HR490.out)) hb)
                  have n9_ := Aside0.mk (Kd.C_below (by repeat (first | (with_reducible exact HR498.out) | (with_reducible refine Kd.C_alloc ?_ _) | (with_reducible refine Kd.C_drewN ?_ _) | (with_reducible refine Kd.C_drew ?_) | exact HR498.out)) hb)
                  have n10_ := Aside0.mk (below_step (by repeat (first | (with_reducible first | exact HB.out | apply below_alloc | apply pw_below_drewN | apply below_drew1 | refine below_set ?_ GE485.out) | exact HB.out)) hb)
                  clear HO476
                  clear HO479
                  clear HO484
                  clear HL486_1
                  clear HO493
                  clear BK485
                  clear HR486_1
                  clear HR490
                  clear HR498
                  clear HB
                  have HO476 := n0_
                  have HO479 := n1_
                  have HO484 := n2_
                  have HL486_1 := n3_
                  have HO493 := n4_
                  have HO501 := n5_
                  have BK485 := n6_
                  have HR486_1 := n7_
                  have HR490 := n8_
                  have HR498 := n9_
                  have HB := n10_
                  clear n0_ n1_ n2_ n3_ n4_ n5_ n6_ n7_ n8_ n9_ n10_
                  (try clear hb)
                  (try clear hb2)
                  (try clear hk)
                  (try clear hi)
                  (try clear ho0)
                  refine hK.out _ _ ⟨(blk_cell BK485.out 0).trans rfl, (blk_cell BK485.out 1).trans rfl, (blk_cell BK485.out 2).trans rfl, (blk_cell BK485.out 3).trans rfl, (blk_cell BK485.out 4).trans rfl⟩ (fun hHeld => ?_)
                  clear hK K
                  refine norm_ (a' := ?_) ?_ ?_
                  rotate_left
                  · show Act.put _ (some 53) _ = _
                    simp only [Act.put, List.setIfInBounds_toArray, List.set_cons_zero, List.set_cons_succ, i64_w, i32_w]
                    rfl
                  refine pure_ (i := 5) (N := some 48) (v := ?_) (a' := ?_) #[true, true, true, true, true, true, false, false, false, false] rfl rfl (any_of HT_.out (by kernel_rfl)) (fun _ _ _ h => h) (Or.inl ⟨by rfl, ?_⟩) ?_ ?_
                  rotate_left
                  · intro w'
                    go_simp
                    with_reducible rfl
                  rotate_left
                  · simp only [Act.put, List.setIfInBounds_toArray, List.set_cons_zero, List.set_cons_succ, i64_w, i32_w]
                    rfl
                  refine pure_ (i := 6) (N := some 54) (v := ?_) (a' := ?_) #[true, true, true, true, true, true, true, false, false, false] rfl rfl (any_of HT_.out (by kernel_rfl)) (fun _ _ _ h => h) (Or.inl ⟨by rfl, ?_⟩) ?_ ?_
                  rotate_left
                  · intro w'
                    go_simp
                    with_reducible rfl
                  rotate_left
                  · simp only [Act.put, List.setIfInBounds_toArray, List.set_cons_zero, List.set_cons_succ, i64_w, i32_w]
                    rfl
                  refine pure_ (i := 7) (N := some 55) (v := ?_) (a' := ?_) #[true, true, true, true, true, true, true, true, false, false] rfl rfl (any_of HT_.out (by kernel_rfl)) (fun _ _ _ h => h) (Or.inl ⟨by rfl, ?_⟩) ?_ ?_
                  rotate_left
                  · intro w'
                    go_simp
                    with_reducible rfl
                  rotate_left
                  · simp only [Act.put, List.setIfInBounds_toArray, List.set_cons_zero, List.set_cons_succ, i64_w, i32_w]
                    rfl
                  refine pure_ (i := 8) (N := some 13) (v := ?_) (a' := ?_) #[true, true, true, true, true, true, true, true, true, false] rfl rfl (any_of HT_.out (by kernel_rfl)) (fun _ _ _ h => h) (Or.inl ⟨by rfl, ?_⟩) ?_ ?_
                  rotate_left
                  · intro w'
                    go_simp
                    with_reducible rfl
                  rotate_left
                  · simp only [Act.put, List.setIfInBounds_toArray, List.set_cons_zero, List.set_cons_succ, i64_w, i32_w]
                    rfl
                  refine pure_ (i := 9) (N := some 14) (v := ?_) (a' := ?_) #[true, true, true, true, true, true, true, true, true, true] rfl rfl (any_of HT_.out (by kernel_rfl)) (fun _ _ _ h => h) (Or.inl ⟨by rfl, ?_⟩) ?_ ?_
                  rotate_left
                  · intro w'
                    go_simp
                    with_reducible rfl
                  rotate_left
                  · simp only [Act.put, List.setIfInBounds_toArray, List.set_cons_zero, List.set_cons_succ, i64_w, i32_w]
                    rfl
                  refine done_ (done_of HT_.out (by kernel_rfl)) ?_
                  have hcz36_0 : w35.cell? ⟨gb485, 0, none⟩ = some (.slice Ao24 t474.length co24) := (blk_cell BK485.out 0).trans rfl
                  have hcz36_1 : w35.cell? ⟨gb485, 1, none⟩ = some (.slice Ao26 t477.length co26) := (blk_cell BK485.out 1).trans rfl
                  have hcz36_2 : w35.cell? ⟨gb485, 2, none⟩ = some (.int .i64 t480) := (blk_cell BK485.out 2).trans rfl
                  have hcz36_3 : w35.cell? ⟨gb485, 3, none⟩ = some (.int .i64 t481) := (blk_cell BK485.out 3).trans rfl
                  have hcz36_4 : w35.cell? ⟨gb485, 4, none⟩ = some (.slice (some ad486) t482.length co27) := (blk_cell BK485.out 4).trans rfl
                  have hfz36_0 := blk_frozen BK485.out 0
                  have hfz36_1 := blk_frozen BK485.out 1
                  have hfz36_2 := blk_frozen BK485.out 2
                  have hfz36_3 := blk_frozen BK485.out 3
                  have hfz36_4 := blk_frozen BK485.out 4
                  try go_wp2_with (first | ((with_reducible refine gate_callee (f := 21) rfl ?_); refine goesL_ (some 59) rfl rfl Try.func21 (by kernel_rfl) rfl #[.agg #[.slice Ao24 t474.length co24, .slice Ao26 t477.length co26, .int .i64 t480, .int .i64 t481, .slice (some ad486) t482.length co27], .slice A486_1 ((rd_T34 t482 (ji8)).f1).length c486_1] rfl (by (try simp only [List.map_toArray, List.map_cons, List.map_nil]); first | done | (simp only [hji8]; rfl) | rfl | (simp only [List.length_drop, List.length_take]; rfl)) ?_; (with_reducible refine (firsts_Of.calls k _ _ t474 _ _ t477 t480 t481 _ _ t482 _ _ ((rd_T34 t482 (ji8)).f1) t503 t506 _ ?side1 ?side2 ?side3 ?side4 ?side5 ?side6 ?side7 ?side8 A19.out).mono ?_); (case side1 => repeat (first | exact (Kd.R_reads' HO476.out).2.2 | (with_reducible refine Kd.C_alloc ?_ _) | (with_reducible refine Kd.C_drewN ?_ _) | (with_reducible refine Kd.C_drew ?_))); (case side2 => exact (Kd.R_reads' HO476.out).2.1); (case side3 => repeat (first | exact (Kd.R_reads' HO479.out).2.2 | (with_reducible refine Kd.C_alloc ?_ _) | (with_reducible refine Kd.C_drewN ?_ _) | (with_reducible refine Kd.C_drew ?_))); (case side4 => exact (Kd.R_reads' HO479.out).2.1); (case side5 => repeat (first | exact (Kd.S_reads' HO484.out).2.2 | (with_reducible refine Kd.C_alloc ?_ _) | (with_reducible refine Kd.C_drewN ?_ _) | (with_reducible refine Kd.C_drew ?_))); (case side6 => exact (Kd.S_reads' HO484.out).2.1); (case side7 => repeat (first | exact (by repeat (first | (with_reducible exact HR486_1.out) | (with_reducible refine Kd.C_alloc ?_ _) | (with_reducible refine Kd.C_drewN ?_ _) | (with_reducible refine Kd.C_drew ?_) | exact HR486_1.out)) | (with_reducible refine Kd.C_alloc ?_ _) | (with_reducible refine Kd.C_drewN ?_ _) | (with_reducible refine Kd.C_drew ?_))); (case side8 => exact HC486_1.out); rintro e w37 ⟨v504, rfl, ho0, hb⟩; refine ⟨_, rfl, ?_⟩; have n0_ := Aside0.mk (Kd.R_below (by (with_reducible repeat (first | apply Kd.R_alloc | apply Kd.R_drewN | apply Kd.R_drew)); exact HO476.out) hb); have n1_ := Aside0.mk (Kd.R_elder' (by (with_reducible repeat (first | apply Kd.R_alloc | apply Kd.R_drewN | apply Kd.R_drew)); exact HO479.out) (Kd.R_base ho0) hb); have n2_ := Aside0.mk (Kd.S_below (by (with_reducible repeat (first | apply Kd.S_alloc | apply Kd.S_drewN | apply Kd.S_drew)); exact HO484.out) hb); have n3_ := Aside0.mk (Kd.R_below (by (with_reducible repeat (first | apply Kd.R_alloc | apply Kd.R_drewN | apply Kd.R_drew)); exact HL486_1.out) hb); have n4_ := Aside0.mk (Kd.R_elder' (by (with_reducible repeat (first | apply Kd.R_alloc | apply Kd.R_drewN | apply Kd.R_drew)); exact HO493.out) (Kd.R_base ho0) hb); have n5_ := Aside0.mk (Kd.R_elder' (by (with_reducible repeat (first | apply Kd.R_alloc | apply Kd.R_drewN | apply Kd.R_drew)); exact HO501.out) (Kd.R_base ho0) hb); have n6_ := Aside0.mk (Kd.R_lower (Kd.R_new' (Kd.R_new' ho0 (Kd.R_lt (by (with_reducible repeat (first | apply Kd.R_alloc | apply Kd.R_drewN | apply Kd.R_drew)); exact HO493.out))) (Kd.R_lt (by (with_reducible repeat (first | apply Kd.R_alloc | apply Kd.R_drewN | apply Kd.R_drew)); exact HO501.out))) (below_size (by repeat (first | (with_reducible first | exact HB.out | apply below_alloc | apply pw_below_drewN | apply below_drew1 | refine below_set ?_ GE485.out) | exact HB.out)))); have n7_ := Aside0.mk (blk_below (g := gb485) (o := .cells #[.slice Ao24 t474.length co24, .slice Ao26 t477.length co26, .int .i64 t480, .int .i64 t481, .slice (some ad486) t482.length co27] 26 (0, 0)) (by (with_reducible repeat (first | refine blk_drewN ?_ _ | refine blk_drew ?_ | refine blk_alloc ?_ _)); exact BK485.out) hb); have n8_ := Aside0.mk (Kd.C_below (by repeat (first | (with_reducible exact HR486_1.out) | (with_reducible refine Kd.C_alloc ?_ _) | (with_reducible refine Kd.C_drewN ?_ _) | (with_reducible refine Kd.C_drew ?_) | exact HR486_1.out)) hb); have n9_ := Aside0.mk (Kd.C_below (by repeat (first | (with_reducible exact HR490.out) | (with_reducible refine Kd.C_alloc ?_ _) | (with_reducible refine Kd.C_drewN ?_ _) | (with_reducible refine Kd.C_drew ?_) | exact HR490.out)) hb); have n10_ := Aside0.mk (Kd.C_below (by repeat (first | (with_reducible exact HR498.out) | (with_reducible refine Kd.C_alloc ?_ _) | (with_reducible refine Kd.C_drewN ?_ _) | (with_reducible refine Kd.C_drew ?_) | exact HR498.out)) hb); have n11_ := Aside0.mk (below_step (by repeat (first | (with_reducible first | exact HB.out | apply below_alloc | apply pw_below_drewN | apply below_drew1 | refine below_set ?_ GE485.out) | exact HB.out)) hb); clear HO476; clear HO479; clear HO484; clear HL486_1; clear HO493; clear HO501; clear BK485; clear HR486_1; clear HR490; clear HR498; clear HB; have HO476 := n0_; have HO479 := n1_; have HO484 := n2_; have HL486_1 := n3_; have HO493 := n4_; have HO501 := n5_; have HO505 := n6_; have BK485 := n7_; have HR486_1 := n8_; have HR490 := n9_; have HR498 := n10_; have HB := n11_; clear n0_ n1_ n2_ n3_ n4_ n5_ n6_ n7_ n8_ n9_ n10_ n11_; (try clear hb); (try clear hb2); (try clear hk); (try clear hi); (try clear ho0)))
                  go_loopg [17] k (fun kq v17 w' => ∃ (x17_1 : Int), v17 = .int .i64 x17_1 ∧ Aside0 (regletlaw13_FirstsParts.l0 kq true t491 t499 t502 t503 t506 x17_1 = some r) ∧ Aside0 (kq ≤ k) ∧ Aside0 (Kd.R (Kd.int .i64) 3 w' w.heap.size (fun k_ => some k_ ≠ (v500 : Value).ownBlock ∧ some k_ ≠ (v504 : Value).ownBlock) v492 t491) ∧ Aside0 (Kd.R (Kd.int .i64) 3 w' w.heap.size (fun k_ => some k_ ≠ (v492 : Value).ownBlock ∧ some k_ ≠ (v504 : Value).ownBlock) v500 t499) ∧ Aside0 (Kd.R (Kd.int .i64) 3 w' w.heap.size (fun k_ => some k_ ≠ (v492 : Value).ownBlock ∧ some k_ ≠ (v500 : Value).ownBlock) v504 t503) ∧ Aside0 (Kd.R Kd.string 9 w' w.heap.size (fun _ => True) (.slice Ao24 t474.length co24) t474) ∧ Aside0 (Kd.R k62 62 w' w.heap.size (fun k_ => some k_ ≠ (v492 : Value).ownBlock ∧ some k_ ≠ (v500 : Value).ownBlock ∧ some k_ ≠ (v504 : Value).ownBlock) (.slice Ao26 t477.length co26) t477) ∧ Aside0 (Kd.S k34 34 w' w.heap.size (fun _ => True) (.slice (some ad486) t482.length co27) t482) ∧ Aside0 (w'.heap[gb485]? = some (.cells #[(.slice Ao24 t474.length co24), (.slice Ao26 t477.length co26), .int .i64 t480, .int .i64 t481, (.slice (some ad486) t482.length co27)] 26 (0, 0))) ∧ Aside0 (Kd.C k49 w' A486_1 ((rd_T34 t482 (ji8)).f1).length ((rd_T34 t482 (ji8)).f1)) ∧ Aside0 (Below w.heap.size w w'))
                  case atStart => exact ⟨(0), (by first | rfl | (simp; done) | (simp [*]; done)), H', ⟨Nat.le_refl _⟩, ⟨by (with_reducible repeat (first | apply Kd.R_alloc | apply Kd.R_drewN | apply Kd.R_drew)); exact Kd.R_mono HO493.out (fun _ hk => ⟨hk.1.2, hk.2⟩)⟩, ⟨by (with_reducible repeat (first | apply Kd.R_alloc | apply Kd.R_drewN | apply Kd.R_drew)); exact Kd.R_mono HO501.out (fun _ hk => ⟨hk.1.2, hk.2⟩)⟩, ⟨by (with_reducible repeat (first | apply Kd.R_alloc | apply Kd.R_drewN | apply Kd.R_drew)); exact Kd.R_mono HO505.out (fun _ hk => ⟨hk.1.2, hk.2⟩)⟩, ⟨by (with_reducible repeat (first | apply Kd.R_alloc | apply Kd.R_drewN | apply Kd.R_drew)); exact HO476.out⟩, ⟨by (with_reducible repeat (first | apply Kd.R_alloc | apply Kd.R_drewN | apply Kd.R_drew)); exact Kd.R_mono HO479.out (fun _ hk => ⟨hk.1.1.2, ⟨hk.1.2, hk.2⟩⟩)⟩, ⟨by (with_reducible repeat (first | apply Kd.S_alloc | apply Kd.S_drewN | apply Kd.S_drew)); exact HO484.out⟩, ⟨by (with_reducible repeat (first | refine blk_drewN ?_ _ | refine blk_drew ?_ | refine blk_alloc ?_ _)); exact BK485.out⟩, ⟨by repeat (first | (with_reducible exact HR486_1.out) | (with_reducible refine Kd.C_alloc ?_ _) | (with_reducible refine Kd.C_drewN ?_ _) | (with_reducible refine Kd.C_drew ?_) | exact HR486_1.out)⟩, ⟨by repeat (first | (with_reducible first | exact HB.out | apply below_alloc | apply pw_below_drewN | apply below_drew1 | refine below_set ?_ GE485.out) | exact HB.out)⟩⟩
                  case round =>
                    clear H'
                    try clear c1
                    try clear c2
                    try clear p2
                    try clear c3
                    try clear q3
                    try clear c4
                    try clear p4
                    try clear q4
                    try clear hx4
                    try clear c5
                    try clear p6
                    try clear c7
                    try clear c7b0
                    try clear c7b1
                    try clear c7b2
                    try clear c8
                    try clear c9
                    try clear c9b0
                    try clear c10
                    try clear c10b0
                    try clear c11
                    try clear c11b0
                    try clear c11b1
                    try clear c12
                    try clear c13
                    try clear c13b0
                    try clear c13b1
                    try clear c14
                    try clear c14b0
                    try clear c14b1
                    try clear c16
                    try clear c16b0
                    try clear c17
                    try clear c17b0
                    try clear c20
                    try clear c21
                    try clear q31
                    try clear c34
                    try clear q34
                    try clear hcz25_0
                    try clear hcz25_1
                    try clear hcz25_2
                    try clear hcz25_3
                    try clear hcz25_4
                    try clear hcz36_0
                    try clear hcz36_1
                    try clear hcz36_2
                    try clear hcz36_3
                    try clear hcz36_4
                    try clear hfz25_0
                    try clear hfz25_1
                    try clear hfz25_2
                    try clear hfz25_3
                    try clear hfz25_4
                    try clear hfz36_0
                    try clear hfz36_1
                    try clear hfz36_2
                    try clear hfz36_3
                    try clear hfz36_4
                    try clear hx486_0
                    try clear hx486_1
                    try clear p486
                    try clear q034
                    try clear q31
                    try clear q34
                    try clear q486
                    obtain ⟨x17_1, rfl, HA, HK1, HO_11, HO_13, HO_15, HO_486000, HO_486001, HO_486004, BK485, HR486_1, HB⟩ := hrel
                    cases gk with
                    | zero => exact absurd HA.out (by simp [regletlaw13_FirstsParts.l0])
                    | succ k1 =>
                      have H := HA.out
                      clear HA
                      simp only [regletlaw13_FirstsParts.l0] at H
                      by_cases c38 : x17_1 < (t503.length : Int)
                      · rw [if_pos c38] at H
                        have c38b0 : decide (x17_1 < (t503.length : Int)) = true := decide_eq_true c38
                        clear c38
                        by_cases c39 : 0 ≤ x17_1
                        · rw [if_pos c39] at H
                          have c39b0 : decide (0 ≤ x17_1) = true := decide_eq_true c39
                          clear c39
                          replace H := Option.bind_eq_some_iff.mp H
                          obtain ⟨t511, A400, H⟩ := H
                          replace H : (if t511 = true then (regletlaw13_FirstsParts.l0 k1 true t491 t499 t502 t503 t506 (wrap64 (x17_1 + 1))) else ((regletlaw13_has.f k1 t499 (rd t503 x17_1)).bind fun t513 => (if t513 = true then (regletlaw13_FirstsParts.l0 k1 true t491 t499 t502 t503 t506 (wrap64 (x17_1 + 1))) else (some false)))) = some r := H
                          have A40 := Aside0.mk A400
                          clear A400
                          by_cases c41 : t511 = true
                          · subst c41
                            have H1 : (regletlaw13_FirstsParts.l0 k1 true t491 t499 t502 t503 t506 (wrap64 (x17_1 + 1))) = some r := by rw [if_pos rfl] at H; exact H
                            clear H
                            have H := H1
                            clear H1
                            have H' := Aside0.mk H
                            clear H
                            obtain ⟨Ao42, co42, eo42⟩ := Kd.R_slice HO_15.out
                            subst eo42
                            have p510 : 0 ≤ (x17_1 : Int) := of_decide_eq_true (by first | (with_reducible assumption) | assumption)
                            have q510 : x17_1 < (t503.length : Int) := of_decide_eq_true (by first | (with_reducible assumption) | assumption)
                            obtain ⟨ad510, e510, hx510_0⟩ := Kd.at_int (Kd.R_reads' HO_15.out).2.2 x17_1 p510 q510
                            cases e510
                            replace p510 := eq_true p510
                            replace q510 := eq_true q510
                            obtain ⟨Ao43, co43, eo43⟩ := Kd.R_slice HO_11.out
                            subst eo43
                            go_wp2_with (first | ((with_reducible refine gate_callee (f := 17) rfl ?_); refine goesL_ (some 85) rfl rfl Try.func17 (by kernel_rfl) rfl #[.slice Ao43 t491.length co43, .int .i64 (rd t503 x17_1)] rfl (by (try simp only [List.map_toArray, List.map_cons, List.map_nil]); first | done | rfl | (simp only [List.length_drop, List.length_take]; rfl)) ?_; (with_reducible refine (regletlaw13_has.calls k1 _ _ t491 (rd t503 x17_1) true _ ?side1 ?side2 A40.out).mono ?_); (case side1 => repeat (first | exact (Kd.R_reads' HO_11.out).2.2 | (with_reducible refine Kd.C_alloc ?_ _) | (with_reducible refine Kd.C_drewN ?_ _) | (with_reducible refine Kd.C_drew ?_))); (case side2 => exact (Kd.R_reads' HO_11.out).2.1); rintro e w' ⟨rfl, ⟨nd, rfl⟩⟩; refine ⟨_, rfl, ?_⟩))
                            go_roundg k1
                            case measure => have := HK1.out; omega
                            case rel => exact ⟨(wrap64 (x17_1 + 1)), (by first | rfl | (simp; done) | (simp [*]; done)), H', ⟨by have := HK1.out; omega⟩, ⟨by (with_reducible repeat (first | apply Kd.R_alloc | apply Kd.R_drewN | apply Kd.R_drew)); exact HO_11.out⟩, ⟨by (with_reducible repeat (first | apply Kd.R_alloc | apply Kd.R_drewN | apply Kd.R_drew)); exact HO_13.out⟩, ⟨by (with_reducible repeat (first | apply Kd.R_alloc | apply Kd.R_drewN | apply Kd.R_drew)); exact HO_15.out⟩, ⟨by (with_reducible repeat (first | apply Kd.R_alloc | apply Kd.R_drewN | apply Kd.R_drew)); exact HO_486000.out⟩, ⟨by (with_reducible repeat (first | apply Kd.R_alloc | apply Kd.R_drewN | apply Kd.R_drew)); exact HO_486001.out⟩, ⟨by (with_reducible repeat (first | apply Kd.S_alloc | apply Kd.S_drewN | apply Kd.S_drew)); exact HO_486004.out⟩, ⟨by (with_reducible repeat (first | refine blk_drewN ?_ _ | refine blk_drew ?_ | refine blk_alloc ?_ _)); exact BK485.out⟩, ⟨by repeat (first | (with_reducible exact HR486_1.out) | (with_reducible refine Kd.C_alloc ?_ _) | (with_reducible refine Kd.C_drewN ?_ _) | (with_reducible refine Kd.C_drew ?_) | exact HR486_1.out)⟩, ⟨by repeat (first | (with_reducible first | exact HB.out | apply below_alloc | apply pw_below_drewN | apply below_drew1 | refine below_set ?_ GE485.out) | exact HB.out)⟩⟩
                          · replace c41 := Bool.eq_false_iff.mpr c41
                            subst c41
                            have H1 : ((regletlaw13_has.f k1 t499 (rd t503 x17_1)).bind fun t513 => (if t513 = true then (regletlaw13_FirstsParts.l0 k1 true t491 t499 t502 t503 t506 (wrap64 (x17_1 + 1))) else (some false))) = some r := by rw [if_neg (show ¬ (false = true) by decide)] at H; exact H
                            clear H
                            have H := H1
                            clear H1
                            replace H := Option.bind_eq_some_iff.mp H
                            obtain ⟨t513, A440, H⟩ := H
                            replace H : (if t513 = true then (regletlaw13_FirstsParts.l0 k1 true t491 t499 t502 t503 t506 (wrap64 (x17_1 + 1))) else (some false)) = some r := H
                            have A44 := Aside0.mk A440
                            clear A440
                            by_cases c45 : t513 = true
                            · subst c45
                              have H1 : (regletlaw13_FirstsParts.l0 k1 true t491 t499 t502 t503 t506 (wrap64 (x17_1 + 1))) = some r := by rw [if_pos rfl] at H; exact H
                              clear H
                              have H := H1
                              clear H1
                              have H' := Aside0.mk H
                              clear H
                              obtain ⟨Ao46, co46, eo46⟩ := Kd.R_slice HO_15.out
                              subst eo46
                              have p510 : 0 ≤ (x17_1 : Int) := of_decide_eq_true (by first | (with_reducible assumption) | assumption)
                              have q510 : x17_1 < (t503.length : Int) := of_decide_eq_true (by first | (with_reducible assumption) | assumption)
                              obtain ⟨ad510, e510, hx510_0⟩ := Kd.at_int (Kd.R_reads' HO_15.out).2.2 x17_1 p510 q510
                              cases e510
                              replace p510 := eq_true p510
                              replace q510 := eq_true q510
                              obtain ⟨Ao47, co47, eo47⟩ := Kd.R_slice HO_11.out
                              subst eo47
                              go_wp2_with (first | ((with_reducible refine gate_callee (f := 17) rfl ?_); refine goesL_ (some 85) rfl rfl Try.func17 (by kernel_rfl) rfl #[.slice Ao47 t491.length co47, .int .i64 (rd t503 x17_1)] rfl (by (try simp only [List.map_toArray, List.map_cons, List.map_nil]); first | done | rfl | (simp only [List.length_drop, List.length_take]; rfl)) ?_; (with_reducible refine (regletlaw13_has.calls k1 _ _ t491 (rd t503 x17_1) false _ ?side1 ?side2 A40.out).mono ?_); (case side1 => repeat (first | exact (Kd.R_reads' HO_11.out).2.2 | (with_reducible refine Kd.C_alloc ?_ _) | (with_reducible refine Kd.C_drewN ?_ _) | (with_reducible refine Kd.C_drew ?_))); (case side2 => exact (Kd.R_reads' HO_11.out).2.1); rintro e w' ⟨rfl, ⟨nd, rfl⟩⟩; refine ⟨_, rfl, ?_⟩; have p512 : 0 ≤ (x17_1 : Int) := of_decide_eq_true (by first | (with_reducible assumption) | assumption); have q512 : x17_1 < (t503.length : Int) := of_decide_eq_true (by first | (with_reducible assumption) | assumption); obtain ⟨ad512, e512, hx512_0⟩ := Kd.at_int (Kd.R_reads' HO_15.out).2.2 x17_1 p512 q512; obtain rfl : ad510 = ad512 := (by injection e512); replace p512 := eq_true p512; replace q512 := eq_true q512; obtain ⟨Ao48, co48, eo48⟩ := Kd.R_slice HO_13.out; subst eo48) | (go_at_call 17; (with_reducible refine (regletlaw13_has.calls k1 _ _ t499 (rd t503 x17_1) true _ ?side1 ?side2 A44.out).mono ?_); (case side1 => repeat (first | exact (Kd.R_reads' HO_13.out).2.2 | (with_reducible refine Kd.C_alloc ?_ _) | (with_reducible refine Kd.C_drewN ?_ _) | (with_reducible refine Kd.C_drew ?_))); (case side2 => exact (Kd.R_reads' HO_13.out).2.1); rintro e w' ⟨rfl, ⟨nd, rfl⟩⟩))
                              go_roundg k1
                              case measure => have := HK1.out; omega
                              case rel => exact ⟨(wrap64 (x17_1 + 1)), (by first | rfl | (simp; done) | (simp [*]; done)), H', ⟨by have := HK1.out; omega⟩, ⟨by (with_reducible repeat (first | apply Kd.R_alloc | apply Kd.R_drewN | apply Kd.R_drew)); exact HO_11.out⟩, ⟨by (with_reducible repeat (first | apply Kd.R_alloc | apply Kd.R_drewN | apply Kd.R_drew)); exact HO_13.out⟩, ⟨by (with_reducible repeat (first | apply Kd.R_alloc | apply Kd.R_drewN | apply Kd.R_drew)); exact HO_15.out⟩, ⟨by (with_reducible repeat (first | apply Kd.R_alloc | apply Kd.R_drewN | apply Kd.R_drew)); exact HO_486000.out⟩, ⟨by (with_reducible repeat (first | apply Kd.R_alloc | apply Kd.R_drewN | apply Kd.R_drew)); exact HO_486001.out⟩, ⟨by (with_reducible repeat (first | apply Kd.S_alloc | apply Kd.S_drewN | apply Kd.S_drew)); exact HO_486004.out⟩, ⟨by (with_reducible repeat (first | refine blk_drewN ?_ _ | refine blk_drew ?_ | refine blk_alloc ?_ _)); exact BK485.out⟩, ⟨by repeat (first | (with_reducible exact HR486_1.out) | (with_reducible refine Kd.C_alloc ?_ _) | (with_reducible refine Kd.C_drewN ?_ _) | (with_reducible refine Kd.C_drew ?_) | exact HR486_1.out)⟩, ⟨by repeat (first | (with_reducible first | exact HB.out | apply below_alloc | apply pw_below_drewN | apply below_drew1 | refine below_set ?_ GE485.out) | exact HB.out)⟩⟩
                            · replace c45 := Bool.eq_false_iff.mpr c45
                              subst c45
                              have H1 : (some false) = some r := by rw [if_neg (show ¬ (false = true) by decide)] at H; exact H
                              clear H
                              have H := H1
                              clear H1
                              obtain rfl := Option.some.inj H
                              obtain ⟨Ao49, co49, eo49⟩ := Kd.R_slice HO_15.out
                              subst eo49
                              have p510 : 0 ≤ (x17_1 : Int) := of_decide_eq_true (by first | (with_reducible assumption) | assumption)
                              have q510 : x17_1 < (t503.length : Int) := of_decide_eq_true (by first | (with_reducible assumption) | assumption)
                              obtain ⟨ad510, e510, hx510_0⟩ := Kd.at_int (Kd.R_reads' HO_15.out).2.2 x17_1 p510 q510
                              cases e510
                              replace p510 := eq_true p510
                              replace q510 := eq_true q510
                              obtain ⟨Ao50, co50, eo50⟩ := Kd.R_slice HO_11.out
                              subst eo50
                              go_wp2_with (first | ((with_reducible refine gate_callee (f := 17) rfl ?_); refine goesL_ (some 85) rfl rfl Try.func17 (by kernel_rfl) rfl #[.slice Ao50 t491.length co50, .int .i64 (rd t503 x17_1)] rfl (by (try simp only [List.map_toArray, List.map_cons, List.map_nil]); first | done | rfl | (simp only [List.length_drop, List.length_take]; rfl)) ?_; (with_reducible refine (regletlaw13_has.calls k1 _ _ t491 (rd t503 x17_1) false _ ?side1 ?side2 A40.out).mono ?_); (case side1 => repeat (first | exact (Kd.R_reads' HO_11.out).2.2 | (with_reducible refine Kd.C_alloc ?_ _) | (with_reducible refine Kd.C_drewN ?_ _) | (with_reducible refine Kd.C_drew ?_))); (case side2 => exact (Kd.R_reads' HO_11.out).2.1); rintro e w' ⟨rfl, ⟨nd, rfl⟩⟩; refine ⟨_, rfl, ?_⟩; have p512 : 0 ≤ (x17_1 : Int) := of_decide_eq_true (by first | (with_reducible assumption) | assumption); have q512 : x17_1 < (t503.length : Int) := of_decide_eq_true (by first | (with_reducible assumption) | assumption); obtain ⟨ad512, e512, hx512_0⟩ := Kd.at_int (Kd.R_reads' HO_15.out).2.2 x17_1 p512 q512; obtain rfl : ad510 = ad512 := (by injection e512); replace p512 := eq_true p512; replace q512 := eq_true q512; obtain ⟨Ao51, co51, eo51⟩ := Kd.R_slice HO_13.out; subst eo51) | (go_at_call 17; (with_reducible refine (regletlaw13_has.calls k1 _ _ t499 (rd t503 x17_1) false _ ?side1 ?side2 A44.out).mono ?_); (case side1 => repeat (first | exact (Kd.R_reads' HO_13.out).2.2 | (with_reducible refine Kd.C_alloc ?_ _) | (with_reducible refine Kd.C_drewN ?_ _) | (with_reducible refine Kd.C_drew ?_))); (case side2 => exact (Kd.R_reads' HO_13.out).2.1); rintro e w' ⟨rfl, ⟨nd, rfl⟩⟩))
                              go_ret
                              exact ⟨by first | rfl | (simp [errW_none, errW_some] <;> rfl) | (simp only [← hji8, ← hji12]; first | rfl | (simp [errW_none, errW_some] <;> rfl)) | (simp [*, errW_none, errW_some] <;> rfl), by repeat (first | (with_reducible first | exact HB.out | apply below_alloc | apply pw_below_drewN | apply below_drew1 | refine below_set ?_ GE485.out) | exact HB.out)⟩
                        · rw [if_neg c39] at H
                          exact absurd H (by simp)
                      · rw [if_neg c38] at H
                        have c38b0 : decide (x17_1 < (t503.length : Int)) = false := decide_eq_false c38
                        clear c38
                        have H1 : ((regletlaw13_within.f k1 t491 t503).bind fun t508 => (if t508 = true then ((regletlaw13_within.f k1 t499 t503).bind fun t509 => (if t509 = true then (some (t506 == t502)) else (some false))) else (some false))) = some r := by first | (rw [if_pos rfl] at H; exact H) | simpa using H
                        clear H
                        have H := H1
                        clear H1
                        replace H := Option.bind_eq_some_iff.mp H
                        obtain ⟨t508, A520, H⟩ := H
                        replace H : (if t508 = true then ((regletlaw13_within.f k1 t499 t503).bind fun t509 => (if t509 = true then (some (t506 == t502)) else (some false))) else (some false)) = some r := H
                        have A52 := Aside0.mk A520
                        clear A520
                        by_cases c53 : t508 = true
                        · subst c53
                          have H1 : ((regletlaw13_within.f k1 t499 t503).bind fun t509 => (if t509 = true then (some (t506 == t502)) else (some false))) = some r := by rw [if_pos rfl] at H; exact H
                          clear H
                          have H := H1
                          clear H1
                          replace H := Option.bind_eq_some_iff.mp H
                          obtain ⟨t509, A540, H⟩ := H
                          replace H : (if t509 = true then (some (t506 == t502)) else (some false)) = some r := H
                          have A54 := Aside0.mk A540
                          clear A540
                          by_cases c55 : t509 = true
                          · subst c55
                            have H1 : (some (t506 == t502)) = some r := by rw [if_pos rfl] at H; exact H
                            clear H
                            have H := H1
                            clear H1
                            obtain rfl := Option.some.inj H
                            obtain ⟨Ao56, co56, eo56⟩ := Kd.R_slice HO_15.out
                            subst eo56
                            obtain ⟨Ao57, co57, eo57⟩ := Kd.R_slice HO_11.out
                            subst eo57
                            go_wp2_with (first | (go_at_call 20; (with_reducible refine (regletlaw13_within.calls k1 _ _ t491 _ _ t503 true _ ?side1 ?side2 ?side3 ?side4 A52.out).mono ?_); (case side1 => repeat (first | exact (Kd.R_reads' HO_11.out).2.2 | (with_reducible refine Kd.C_alloc ?_ _) | (with_reducible refine Kd.C_drewN ?_ _) | (with_reducible refine Kd.C_drew ?_))); (case side2 => exact (Kd.R_reads' HO_11.out).2.1); (case side3 => repeat (first | exact (Kd.R_reads' HO_15.out).2.2 | (with_reducible refine Kd.C_alloc ?_ _) | (with_reducible refine Kd.C_drewN ?_ _) | (with_reducible refine Kd.C_drew ?_))); (case side4 => exact (Kd.R_reads' HO_15.out).2.1); rintro e w' ⟨rfl, ⟨nd, rfl⟩⟩; obtain ⟨Ao58, co58, eo58⟩ := Kd.R_slice HO_13.out; subst eo58) | (go_at_call 20; (with_reducible refine (regletlaw13_within.calls k1 _ _ t499 _ _ t503 true _ ?side1 ?side2 ?side3 ?side4 A54.out).mono ?_); (case side1 => repeat (first | exact (Kd.R_reads' HO_13.out).2.2 | (with_reducible refine Kd.C_alloc ?_ _) | (with_reducible refine Kd.C_drewN ?_ _) | (with_reducible refine Kd.C_drew ?_))); (case side2 => exact (Kd.R_reads' HO_13.out).2.1); (case side3 => repeat (first | exact (Kd.R_reads' HO_15.out).2.2 | (with_reducible refine Kd.C_alloc ?_ _) | (with_reducible refine Kd.C_drewN ?_ _) | (with_reducible refine Kd.C_drew ?_))); (case side4 => exact (Kd.R_reads' HO_15.out).2.1); rintro e w' ⟨rfl, ⟨nd, rfl⟩⟩))
                            go_ret
                            exact ⟨by first | rfl | (simp [errW_none, errW_some] <;> rfl) | (simp only [← hji8, ← hji12]; first | rfl | (simp [errW_none, errW_some] <;> rfl)) | (simp [*, errW_none, errW_some] <;> rfl), by repeat (first | (with_reducible first | exact HB.out | apply below_alloc | apply pw_below_drewN | apply below_drew1 | refine below_set ?_ GE485.out) | exact HB.out)⟩
                          · replace c55 := Bool.eq_false_iff.mpr c55
                            subst c55
                            have H1 : (some false) = some r := by rw [if_neg (show ¬ (false = true) by decide)] at H; exact H
                            clear H
                            have H := H1
                            clear H1
                            obtain rfl := Option.some.inj H
                            obtain ⟨Ao59, co59, eo59⟩ := Kd.R_slice HO_15.out
                            subst eo59
                            obtain ⟨Ao60, co60, eo60⟩ := Kd.R_slice HO_11.out
                            subst eo60
                            go_wp2_with (first | (go_at_call 20; (with_reducible refine (regletlaw13_within.calls k1 _ _ t491 _ _ t503 true _ ?side1 ?side2 ?side3 ?side4 A52.out).mono ?_); (case side1 => repeat (first | exact (Kd.R_reads' HO_11.out).2.2 | (with_reducible refine Kd.C_alloc ?_ _) | (with_reducible refine Kd.C_drewN ?_ _) | (with_reducible refine Kd.C_drew ?_))); (case side2 => exact (Kd.R_reads' HO_11.out).2.1); (case side3 => repeat (first | exact (Kd.R_reads' HO_15.out).2.2 | (with_reducible refine Kd.C_alloc ?_ _) | (with_reducible refine Kd.C_drewN ?_ _) | (with_reducible refine Kd.C_drew ?_))); (case side4 => exact (Kd.R_reads' HO_15.out).2.1); rintro e w' ⟨rfl, ⟨nd, rfl⟩⟩; obtain ⟨Ao61, co61, eo61⟩ := Kd.R_slice HO_13.out; subst eo61) | (go_at_call 20; (with_reducible refine (regletlaw13_within.calls k1 _ _ t499 _ _ t503 false _ ?side1 ?side2 ?side3 ?side4 A54.out).mono ?_); (case side1 => repeat (first | exact (Kd.R_reads' HO_13.out).2.2 | (with_reducible refine Kd.C_alloc ?_ _) | (with_reducible refine Kd.C_drewN ?_ _) | (with_reducible refine Kd.C_drew ?_))); (case side2 => exact (Kd.R_reads' HO_13.out).2.1); (case side3 => repeat (first | exact (Kd.R_reads' HO_15.out).2.2 | (with_reducible refine Kd.C_alloc ?_ _) | (with_reducible refine Kd.C_drewN ?_ _) | (with_reducible refine Kd.C_drew ?_))); (case side4 => exact (Kd.R_reads' HO_15.out).2.1); rintro e w' ⟨rfl, ⟨nd, rfl⟩⟩))
                            go_ret
                            exact ⟨by first | rfl | (simp [errW_none, errW_some] <;> rfl) | (simp only [← hji8, ← hji12]; first | rfl | (simp [errW_none, errW_some] <;> rfl)) | (simp [*, errW_none, errW_some] <;> rfl), by repeat (first | (with_reducible first | exact HB.out | apply below_alloc | apply pw_below_drewN | apply below_drew1 | refine below_set ?_ GE485.out) | exact HB.out)⟩
                        · replace c53 := Bool.eq_false_iff.mpr c53
                          subst c53
                          have H1 : (some false) = some r := by rw [if_neg (show ¬ (false = true) by decide)] at H; exact H
                          clear H
                          have H := H1
                          clear H1
                          obtain rfl := Option.some.inj H
                          obtain ⟨Ao62, co62, eo62⟩ := Kd.R_slice HO_15.out
                          subst eo62
                          obtain ⟨Ao63, co63, eo63⟩ := Kd.R_slice HO_11.out
                          subst eo63
                          go_wp2_with (first | (go_at_call 20; (with_reducible refine (regletlaw13_within.calls k1 _ _ t491 _ _ t503 false _ ?side1 ?side2 ?side3 ?side4 A52.out).mono ?_); (case side1 => repeat (first | exact (Kd.R_reads' HO_11.out).2.2 | (with_reducible refine Kd.C_alloc ?_ _) | (with_reducible refine Kd.C_drewN ?_ _) | (with_reducible refine Kd.C_drew ?_))); (case side2 => exact (Kd.R_reads' HO_11.out).2.1); (case side3 => repeat (first | exact (Kd.R_reads' HO_15.out).2.2 | (with_reducible refine Kd.C_alloc ?_ _) | (with_reducible refine Kd.C_drewN ?_ _) | (with_reducible refine Kd.C_drew ?_))); (case side4 => exact (Kd.R_reads' HO_15.out).2.1); rintro e w' ⟨rfl, ⟨nd, rfl⟩⟩))
                          go_ret
                          exact ⟨by first | rfl | (simp [errW_none, errW_some] <;> rfl) | (simp only [← hji8, ← hji12]; first | rfl | (simp [errW_none, errW_some] <;> rfl)) | (simp [*, errW_none, errW_some] <;> rfl), by repeat (first | (with_reducible first | exact HB.out | apply below_alloc | apply pw_below_drewN | apply below_drew1 | refine below_set ?_ GE485.out) | exact HB.out)⟩
                · replace c20 := Bool.eq_false_iff.mpr c20
                  subst c20
                  have H1 : ((regletref13_SameInts.f k t491 t503).bind fun t507 => (if t507 = true then (some (!t506)) else (some false))) = some r := by rw [if_neg (show ¬ (false = true) by decide)] at H; exact H
                  clear H
                  have H := H1
                  clear H1
                  replace H := Option.bind_eq_some_iff.mp H
                  obtain ⟨t507, A640, H⟩ := H
                  replace H : (if t507 = true then (some (!t506)) else (some false)) = some r := H
                  have A64 := Aside0.mk A640
                  clear A640
                  by_cases c65 : t507 = true
                  · subst c65
                    have H1 : (some (!t506)) = some r := by rw [if_pos rfl] at H; exact H
                    clear H
                    have H := H1
                    clear H1
                    obtain rfl := Option.some.inj H
                    go_enter Try.func8, Try.ntmps8
                    try go_wp2_with (first | ((with_reducible refine gate_callee (f := 9) rfl ?_); refine goesL_ (some 18) rfl rfl Try.func9 (by kernel_rfl) rfl #[] rfl (by (try simp only [List.map_toArray, List.map_cons, List.map_nil]); first | done | rfl | (simp only [List.length_drop, List.length_take]; rfl)) ?_; (with_reducible refine (regletlaw13_awake.calls k  true _ A4.out).mono ?_); rintro e w66 ⟨rfl, hb⟩; refine ⟨_, rfl, ?_⟩; have n0_ := Aside0.mk (below_step (by repeat (first | (with_reducible first | exact HB.out | apply below_alloc | apply pw_below_drewN | apply below_drew1) | exact HB.out)) hb); clear HB; have HB := n0_; clear n0_; (try clear hb); (try clear hb2); (try clear hk); (try clear hi)) | ((with_reducible refine gate_callee (f := 12) rfl ?_); refine goesL_ (some 22) rfl rfl Try.func12 (by kernel_rfl) rfl #[.slice A0 l0.length c0] rfl (by (try simp only [List.map_toArray, List.map_cons, List.map_nil]); first | done | rfl | (simp only [List.length_drop, List.length_take]; rfl)) ?_; (with_reducible refine (regletlaw13_Made.calls k _ _ l0 t474 t477 t480 t481 t482 _ ?side1 ?side2 A6.out).mono ?_); (case side1 => repeat (first | exact (Kd.C_below HR0.out HB.out) | (with_reducible refine Kd.C_alloc ?_ _) | (with_reducible refine Kd.C_drewN ?_ _) | (with_reducible refine Kd.C_drew ?_))); (case side2 => exact HC0.out); rintro e w67 ⟨v475, v478, v483, rfl, ho0, ho1, ho2, hb⟩; refine ⟨_, rfl, ?_⟩; have n0_ := Aside0.mk (Kd.R_lower ho0 (below_size (by repeat (first | (with_reducible first | exact HB.out | apply below_alloc | apply pw_below_drewN | apply below_drew1) | exact HB.out)))); have n1_ := Aside0.mk (Kd.R_lower ho1 (below_size (by repeat (first | (with_reducible first | exact HB.out | apply below_alloc | apply pw_below_drewN | apply below_drew1) | exact HB.out)))); have n2_ := Aside0.mk (Kd.S_lower ho2 (below_size (by repeat (first | (with_reducible first | exact HB.out | apply below_alloc | apply pw_below_drewN | apply below_drew1) | exact HB.out)))); have n3_ := Aside0.mk (below_step (by repeat (first | (with_reducible first | exact HB.out | apply below_alloc | apply pw_below_drewN | apply below_drew1) | exact HB.out)) hb); clear HB; have HO476 := n0_; have HO479 := n1_; have HO484 := n2_; have HB := n3_; clear n0_ n1_ n2_ n3_; (try clear hb); (try clear hb2); (try clear hk); (try clear hi); (try clear ho0); (try clear ho1); (try clear ho2)) | ((with_reducible refine gate_dst (N := 8) rfl ?_); refine box_event ?hg (N := 8) ?hd (cs := #[.slice none 0 0, .slice none 0 0, .int .i64 0, .int .i64 0, .slice none 0 0]) (t := 26) ?hr ?_; (case hd => rfl); (case hg => rfl); (case hr => first | (go_simp; done) | (go_simp; rfl)); intro gb485 hg w68 hbox hb; have n0_ := Aside0.mk (Kd.R_below (by (with_reducible repeat (first | apply Kd.R_alloc | apply Kd.R_drewN | apply Kd.R_drew)); exact HO476.out) hb); have n1_ := Aside0.mk (Kd.R_below (by (with_reducible repeat (first | apply Kd.R_alloc | apply Kd.R_drewN | apply Kd.R_drew)); exact HO479.out) hb); have n2_ := Aside0.mk (Kd.S_below (by (with_reducible repeat (first | apply Kd.S_alloc | apply Kd.S_drewN | apply Kd.S_drew)); exact HO484.out) hb); have n3_ := Aside0.mk (below_step (by repeat (first | (with_reducible first | exact HB.out | apply below_alloc | apply pw_below_drewN | apply below_drew1) | exact HB.out)) hb); have n4_ := Aside0.mk (hbox); have n5_ := Aside0.mk ((by rw [hg]; exact (below_size (by repeat (first | (with_reducible first | exact HB.out | apply below_alloc | apply pw_below_drewN | apply below_drew1) | exact HB.out))) : w.heap.size ≤ gb485)); have n6_ := Aside0.mk ((by rw [hg]; exact (below_size (by repeat (first | (with_reducible first | exact HB.out | apply below_alloc | apply pw_below_drewN | apply below_drew1) | exact HB.out))) : w.heap.size ≤ gb485)); clear HO476; clear HO479; clear HO484; clear HB; have HO476 := n0_; have HO479 := n1_; have HO484 := n2_; have HB := n3_; have BK485 := n4_; have GW485 := n5_; have GE485 := n6_; clear n0_ n1_ n2_ n3_ n4_ n5_ n6_; clear hb hbox hg; obtain ⟨Ao69, co69, eo69⟩ := Kd.R_slice HO476.out; subst eo69; have hcz70_0 : w68.cell? ⟨gb485, 0, none⟩ = some (.slice none 0 0) := (blk_cell BK485.out 0).trans rfl; have hcz70_1 : w68.cell? ⟨gb485, 1, none⟩ = some (.slice none 0 0) := (blk_cell BK485.out 1).trans rfl; have hcz70_2 : w68.cell? ⟨gb485, 2, none⟩ = some (.int .i64 0) := (blk_cell BK485.out 2).trans rfl; have hcz70_3 : w68.cell? ⟨gb485, 3, none⟩ = some (.int .i64 0) := (blk_cell BK485.out 3).trans rfl; have hcz70_4 : w68.cell? ⟨gb485, 4, none⟩ = some (.slice none 0 0) := (blk_cell BK485.out 4).trans rfl; have hfz70_0 := blk_frozen BK485.out 0; have hfz70_1 := blk_frozen BK485.out 1; have hfz70_2 := blk_frozen BK485.out 2; have hfz70_3 := blk_frozen BK485.out 3; have hfz70_4 := blk_frozen BK485.out 4; obtain ⟨Ao71, co71, eo71⟩ := Kd.R_slice HO479.out; subst eo71; obtain ⟨Ao72, co72, eo72⟩ := Kd.S_slice HO484.out; subst eo72))
                    have n0_ : Aside0 (Kd.R Kd.string 9 (((((w68.setCell ⟨gb485, 0, none⟩ (.slice Ao69 t474.length co69)).setCell ⟨gb485, 1, none⟩ (.slice Ao71 t477.length co71)).setCell ⟨gb485, 2, none⟩ (.int .i64 t480)).setCell ⟨gb485, 3, none⟩ (.int .i64 t481)).setCell ⟨gb485, 4, none⟩ (.slice Ao72 t482.length co72)) w.heap.size (fun _ => True) (.slice Ao69 t474.length co69) t474) := ⟨by (with_reducible repeat (first | apply Kd.R_alloc | apply Kd.R_drewN | apply Kd.R_drew)); exact Kd.R_mono (Kd.R_far (p := ⟨gb485, 4, none⟩) (Kd.R_far (p := ⟨gb485, 3, none⟩) (Kd.R_far (p := ⟨gb485, 2, none⟩) (Kd.R_far (p := ⟨gb485, 1, none⟩) (Kd.R_far (p := ⟨gb485, 0, none⟩) (Kd.R_types HO476.out BK485.out (by decide)) (fun _ hk => hk.2) (.slice Ao69 t474.length co69)) (fun _ hk => hk.2) (.slice Ao71 t477.length co71)) (fun _ hk => hk.2) (.int .i64 t480)) (fun _ hk => hk.2) (.int .i64 t481)) (fun _ hk => hk.2) (.slice Ao72 t482.length co72)) (fun _ hk => trivial)⟩
                    have n1_ : Aside0 (Kd.R k62 62 (((((w68.setCell ⟨gb485, 0, none⟩ (.slice Ao69 t474.length co69)).setCell ⟨gb485, 1, none⟩ (.slice Ao71 t477.length co71)).setCell ⟨gb485, 2, none⟩ (.int .i64 t480)).setCell ⟨gb485, 3, none⟩ (.int .i64 t481)).setCell ⟨gb485, 4, none⟩ (.slice Ao72 t482.length co72)) w.heap.size (fun _ => True) (.slice Ao71 t477.length co71) t477) := ⟨by (with_reducible repeat (first | apply Kd.R_alloc | apply Kd.R_drewN | apply Kd.R_drew)); exact Kd.R_mono (Kd.R_far (p := ⟨gb485, 4, none⟩) (Kd.R_far (p := ⟨gb485, 3, none⟩) (Kd.R_far (p := ⟨gb485, 2, none⟩) (Kd.R_far (p := ⟨gb485, 1, none⟩) (Kd.R_far (p := ⟨gb485, 0, none⟩) (Kd.R_types HO479.out BK485.out (by decide)) (fun _ hk => hk.2) (.slice Ao69 t474.length co69)) (fun _ hk => hk.2) (.slice Ao71 t477.length co71)) (fun _ hk => hk.2) (.int .i64 t480)) (fun _ hk => hk.2) (.int .i64 t481)) (fun _ hk => hk.2) (.slice Ao72 t482.length co72)) (fun _ hk => trivial)⟩
                    have n2_ : Aside0 (Kd.S k34 34 (((((w68.setCell ⟨gb485, 0, none⟩ (.slice Ao69 t474.length co69)).setCell ⟨gb485, 1, none⟩ (.slice Ao71 t477.length co71)).setCell ⟨gb485, 2, none⟩ (.int .i64 t480)).setCell ⟨gb485, 3, none⟩ (.int .i64 t481)).setCell ⟨gb485, 4, none⟩ (.slice Ao72 t482.length co72)) w.heap.size (fun _ => True) (.slice Ao72 t482.length co72) t482) := ⟨by (with_reducible repeat (first | apply Kd.S_alloc | apply Kd.S_drewN | apply Kd.S_drew)); exact Kd.S_mono (Kd.S_far (p := ⟨gb485, 4, none⟩) (Kd.S_far (p := ⟨gb485, 3, none⟩) (Kd.S_far (p := ⟨gb485, 2, none⟩) (Kd.S_far (p := ⟨gb485, 1, none⟩) (Kd.S_far (p := ⟨gb485, 0, none⟩) (Kd.S_types HO484.out BK485.out (by decide)) (fun _ hk => hk.2) (.slice Ao69 t474.length co69)) (fun _ hk => hk.2) (.slice Ao71 t477.length co71)) (fun _ hk => hk.2) (.int .i64 t480)) (fun _ hk => hk.2) (.int .i64 t481)) (fun _ hk => hk.2) (.slice Ao72 t482.length co72)) (fun _ hk => trivial)⟩
                    have n3_ : Aside0 ((((((w68.setCell ⟨gb485, 0, none⟩ (.slice Ao69 t474.length co69)).setCell ⟨gb485, 1, none⟩ (.slice Ao71 t477.length co71)).setCell ⟨gb485, 2, none⟩ (.int .i64 t480)).setCell ⟨gb485, 3, none⟩ (.int .i64 t481)).setCell ⟨gb485, 4, none⟩ (.slice Ao72 t482.length co72)).heap[gb485]? = some (.cells #[.slice Ao69 t474.length co69, .slice Ao71 t477.length co71, .int .i64 t480, .int .i64 t481, .slice Ao72 t482.length co72] 26 (0, 0))) := ⟨by (with_reducible repeat (first | refine blk_drewN ?_ _ | refine blk_drew ?_ | refine blk_alloc ?_ _)); refine blk_put (cs := #[.slice Ao69 t474.length co69, .slice Ao71 t477.length co71, .int .i64 t480, .int .i64 t481, .slice none 0 0]) ?_ 4 _ rfl; (with_reducible repeat (first | refine blk_drewN ?_ _ | refine blk_drew ?_ | refine blk_alloc ?_ _)); refine blk_put (cs := #[.slice Ao69 t474.length co69, .slice Ao71 t477.length co71, .int .i64 t480, .int .i64 0, .slice none 0 0]) ?_ 3 _ rfl; (with_reducible repeat (first | refine blk_drewN ?_ _ | refine blk_drew ?_ | refine blk_alloc ?_ _)); refine blk_put (cs := #[.slice Ao69 t474.length co69, .slice Ao71 t477.length co71, .int .i64 0, .int .i64 0, .slice none 0 0]) ?_ 2 _ rfl; (with_reducible repeat (first | refine blk_drewN ?_ _ | refine blk_drew ?_ | refine blk_alloc ?_ _)); refine blk_put (cs := #[.slice Ao69 t474.length co69, .slice none 0 0, .int .i64 0, .int .i64 0, .slice none 0 0]) ?_ 1 _ rfl; (with_reducible repeat (first | refine blk_drewN ?_ _ | refine blk_drew ?_ | refine blk_alloc ?_ _)); refine blk_put (cs := #[.slice none 0 0, .slice none 0 0, .int .i64 0, .int .i64 0, .slice none 0 0]) ?_ 0 _ rfl; (with_reducible repeat (first | refine blk_drewN ?_ _ | refine blk_drew ?_ | refine blk_alloc ?_ _)); exact BK485.out⟩
                    have n4_ : Aside0 (Below w.heap.size w (((((w68.setCell ⟨gb485, 0, none⟩ (.slice Ao69 t474.length co69)).setCell ⟨gb485, 1, none⟩ (.slice Ao71 t477.length co71)).setCell ⟨gb485, 2, none⟩ (.int .i64 t480)).setCell ⟨gb485, 3, none⟩ (.int .i64 t481)).setCell ⟨gb485, 4, none⟩ (.slice Ao72 t482.length co72))) := ⟨by repeat (first | (with_reducible first | exact HB.out | apply below_alloc | apply pw_below_drewN | apply below_drew1 | refine below_set ?_ GE485.out) | exact HB.out)⟩
                    (try clear HO476)
                    (try clear HO479)
                    (try clear HO484)
                    (try clear BK485)
                    (try clear HB)
                    generalize (((((w68.setCell ⟨gb485, 0, none⟩ (.slice Ao69 t474.length co69)).setCell ⟨gb485, 1, none⟩ (.slice Ao71 t477.length co71)).setCell ⟨gb485, 2, none⟩ (.int .i64 t480)).setCell ⟨gb485, 3, none⟩ (.int .i64 t481)).setCell ⟨gb485, 4, none⟩ (.slice Ao72 t482.length co72)) = w73 at n0_ n1_ n2_ n3_ n4_ ⊢
                    have HO476 := n0_
                    have HO479 := n1_
                    have HO484 := n2_
                    have BK485 := n3_
                    have HB := n4_
                    clear n0_ n1_ n2_ n3_ n4_
                    have n0_ := Aside0.mk (Kd.R_drew HO476.out)
                    have n1_ := Aside0.mk (Kd.R_drew HO479.out)
                    have n2_ := Aside0.mk (Kd.S_drew HO484.out)
                    have n3_ := Aside0.mk (blk_drew BK485.out)
                    have n4_ := Aside0.mk (below_drew1 HB.out)
                    clear HO476
                    clear HO479
                    clear HO484
                    clear BK485
                    clear HB
                    have HO476 := n0_
                    have HO479 := n1_
                    have HO484 := n2_
                    have BK485 := n3_
                    have HB := n4_
                    clear n0_ n1_ n2_ n3_ n4_
                    have p486 : 0 ≤ ((ji8) : Int) := of_decide_eq_true (by first | (with_reducible assumption) | assumption)
                    have q486 : (ji8) < (t482.length : Int) := of_decide_eq_true (by first | (with_reducible assumption) | assumption)
                    obtain ⟨ad486, A486_1, c486_1, e486, hx486_0, hx486_1, hl486_1, hi486_1⟩ := at_T34 (Kd.S_reads' HO484.out).2.2 (ji8) p486 q486
                    cases e486
                    obtain ⟨ce486, hce486, hMe486, hcc486⟩ := Kd.S_get HO484.out z34 (ji8) p486 (by first | exact q486 | exact of_decide_eq_true (by first | (with_reducible assumption) | assumption) | (have e_ := (Kd.S_reads' HO484.out).1; omega))
                    obtain ⟨ve486_1, rfl, ge486_1⟩ := k34_openM hMe486
                    have hv486_1 := hcc486 1 _ rfl
                    rw [add_field _ _ 1 (by omega)] at hv486_1
                    replace hv486_1 := Option.some.inj (hv486_1.symm.trans hx486_1)
                    rw [hv486_1] at ge486_1
                    have HL486_1 := Aside0.mk (show Kd.R k49 49 _ _ _ _ ((rd_T34 t482 (ji8)).f1) from ge486_1)
                    clear hv486_1 ge486_1
                    clear hcc486 hce486
                    have HR486_1 := Aside0.mk hi486_1
                    have HC486_1 := Aside0.mk hl486_1
                    clear hi486_1 hl486_1
                    replace p486 := eq_true p486
                    replace q486 := eq_true q486
                    refine start_ (n := 12) (S := fun w' => w'.cell? ⟨gb485, 0, none⟩ = some (.slice Ao69 t474.length co69) ∧ w'.cell? ⟨gb485, 1, none⟩ = some (.slice Ao71 t477.length co71) ∧ w'.cell? ⟨gb485, 2, none⟩ = some (.int .i64 t480) ∧ w'.cell? ⟨gb485, 3, none⟩ = some (.int .i64 t481) ∧ w'.cell? ⟨gb485, 4, none⟩ = some (.slice (some ad486) t482.length co72) ∧ w'.cell? (ad486.add (((ji8)).toNat * 2)) = some (.int .i64 ((rd_T34 t482 (ji8)).f0)) ∧ w'.cell? ⟨(ad486.add (((ji8)).toNat * 2)).block, (ad486.add (((ji8)).toNat * 2)).off + 1, none⟩ = some (.slice A486_1 ((rd_T34 t482 (ji8)).f1).length c486_1)) (ds := []) #[false, false, false, false, false, false, false, false, false, false, false, false] (by kernel_rfl) rfl rfl ⟨(blk_cell BK485.out 0).trans rfl, (blk_cell BK485.out 1).trans rfl, (blk_cell BK485.out 2).trans rfl, (blk_cell BK485.out 3).trans rfl, (blk_cell BK485.out 4).trans rfl, hx486_0, hx486_1⟩ (fun hHeld => ?_); refine with_tabW regletlaw13_FirstsParts.tab5 regletlaw13_FirstsParts.bits5 (fun HT_ HW_ => ?_)
                    generalize w73.drew = w74 at HO476 HO479 HO484 BK485 HB HL486_1 HR486_1 hx486_0 hx486_1 hHeld ⊢
                    refine pure_ (i := 0) (N := some 23) (v := ?_) (a' := ?_) #[true, false, false, false, false, false, false, false, false, false, false, false] rfl rfl (any_of HT_.out (by kernel_rfl)) (fun _ _ _ h => h) (Or.inl ⟨by rfl, ?_⟩) ?_ ?_
                    rotate_left
                    · intro w'
                      go_simp
                      with_reducible rfl
                    rotate_left
                    · simp only [Act.put, List.setIfInBounds_toArray, List.set_cons_zero, List.set_cons_succ, i64_w, i32_w]
                      rfl
                    refine pure_ (i := 2) (N := some 25) (v := ?_) (a' := ?_) #[true, false, true, false, false, false, false, false, false, false, false, false] rfl rfl (any_of HT_.out (by kernel_rfl)) (fun _ _ _ h => h) (Or.inl ⟨by rfl, ?_⟩) ?_ ?_
                    rotate_left
                    · intro w'
                      go_simp
                      with_reducible rfl
                    rotate_left
                    · simp only [Act.put, List.setIfInBounds_toArray, List.set_cons_zero, List.set_cons_succ, i64_w, i32_w]
                      rfl
                    refine pure_ (i := 3) (N := some 26) (v := ?_) (a' := ?_) #[true, false, true, true, false, false, false, false, false, false, false, false] rfl rfl (any_of HT_.out (by kernel_rfl)) (fun _ _ _ h => h) (Or.inl ⟨by rfl, ?_⟩) ?_ ?_
                    rotate_left
                    · intro w'
                      go_simp
                      with_reducible rfl
                    rotate_left
                    · simp only [Act.put, List.setIfInBounds_toArray, List.set_cons_zero, List.set_cons_succ, i64_w, i32_w]
                      rfl
                    refine pure_ (i := 4) (N := some 27) (v := ?_) (a' := ?_) #[true, false, true, true, true, false, false, false, false, false, false, false] rfl rfl (any_of HT_.out (by kernel_rfl)) (fun _ _ _ h => h) (Or.inl ⟨by rfl, ?_⟩) ?_ ?_
                    rotate_left
                    · intro w'
                      go_simp
                      with_reducible rfl
                    rotate_left
                    · simp only [Act.put, List.setIfInBounds_toArray, List.set_cons_zero, List.set_cons_succ, i64_w, i32_w]
                      rfl
                    refine take_ (i := 1) (N := some 24) (v := ?_) (a' := ?_) #[true, true, true, true, true, false, false, false, false, false, false, false] rfl rfl (take_ofW HT_.out HW_.out (by kernel_rfl)) (fun _ _ _ h => h) (Or.inl ⟨by rfl, ?_⟩) hHeld ?_ ?_
                    rotate_left
                    · rintro w' ⟨s0, s1, s2, s3, s4, s5, s6⟩
                      go_simp
                      with_reducible rfl
                    rotate_left
                    · simp only [Act.put, List.setIfInBounds_toArray, List.set_cons_zero, List.set_cons_succ, i64_w, i32_w]
                      rfl
                    refine take_ (i := 5) (N := some 28) (v := ?_) (a' := ?_) #[true, true, true, true, true, true, false, false, false, false, false, false] rfl rfl (take_ofW HT_.out HW_.out (by kernel_rfl)) (fun _ _ _ h => h) (Or.inl ⟨by rfl, ?_⟩) hHeld ?_ ?_
                    rotate_left
                    · rintro w' ⟨s0, s1, s2, s3, s4, s5, s6⟩
                      go_simp
                      with_reducible rfl
                    rotate_left
                    · simp only [Act.put, List.setIfInBounds_toArray, List.set_cons_zero, List.set_cons_succ, i64_w, i32_w]
                      rfl
                    refine pure_ (i := 6) (N := some 29) (v := ?_) (a' := ?_) #[true, true, true, true, true, true, true, false, false, false, false, false] rfl rfl (any_of HT_.out (by kernel_rfl)) (fun _ _ _ h => h) (Or.inl ⟨by rfl, ?_⟩) ?_ ?_
                    rotate_left
                    · intro w'
                      go_simp
                      with_reducible rfl
                    rotate_left
                    · simp only [Act.put, List.setIfInBounds_toArray, List.set_cons_zero, List.set_cons_succ, i64_w, i32_w]
                      rfl
                    refine pure_ (i := 7) (N := some 30) (v := ?_) (a' := ?_) #[true, true, true, true, true, true, true, true, false, false, false, false] rfl rfl (any_of HT_.out (by kernel_rfl)) (fun _ _ _ h => h) (Or.inl ⟨by rfl, ?_⟩) ?_ ?_
                    rotate_left
                    · intro w'
                      go_simp
                      with_reducible rfl
                    rotate_left
                    · simp only [Act.put, List.setIfInBounds_toArray, List.set_cons_zero, List.set_cons_succ, i64_w, i32_w]
                      rfl
                    refine pure_ (i := 8) (N := some 31) (v := ?_) (a' := ?_) #[true, true, true, true, true, true, true, true, true, false, false, false] rfl rfl (any_of HT_.out (by kernel_rfl)) (fun _ _ _ h => h) (Or.inl ⟨by rfl, ?_⟩) ?_ ?_
                    rotate_left
                    · intro w'
                      go_simp
                      with_reducible rfl
                    rotate_left
                    · simp only [Act.put, List.setIfInBounds_toArray, List.set_cons_zero, List.set_cons_succ, i64_w, i32_w]
                      rfl
                    refine pure_ (i := 9) (N := some 32) (v := ?_) (a' := ?_) #[true, true, true, true, true, true, true, true, true, true, false, false] rfl rfl (any_of HT_.out (by kernel_rfl)) (fun _ _ _ h => h) (Or.inl ⟨by rfl, ?_⟩) ?_ ?_
                    rotate_left
                    · intro w'
                      go_simp
                      with_reducible rfl
                    rotate_left
                    · simp only [Act.put, List.setIfInBounds_toArray, List.set_cons_zero, List.set_cons_succ, i64_w, i32_w]
                      rfl
                    refine take_ (i := 10) (N := some 33) (v := ?_) (a' := ?_) #[true, true, true, true, true, true, true, true, true, true, true, false] rfl rfl (take_ofW HT_.out HW_.out (by kernel_rfl)) (fun _ _ _ h => h) (Or.inl ⟨by rfl, ?_⟩) hHeld ?_ ?_
                    rotate_left
                    · rintro w' ⟨s0, s1, s2, s3, s4, s5, s6⟩
                      go_simp
                      with_reducible rfl
                    rotate_left
                    · simp only [Act.put, List.setIfInBounds_toArray, List.set_cons_zero, List.set_cons_succ, i64_w, i32_w]
                      rfl
                    refine pure_ (i := 11) (N := some 9) (v := ?_) (a' := ?_) #[true, true, true, true, true, true, true, true, true, true, true, true] rfl rfl (any_of HT_.out (by kernel_rfl)) (fun _ _ _ h => h) (Or.inl ⟨by rfl, ?_⟩) ?_ ?_
                    rotate_left
                    · intro w'
                      go_simp
                      with_reducible rfl
                    rotate_left
                    · simp only [Act.put, List.setIfInBounds_toArray, List.set_cons_zero, List.set_cons_succ, i64_w, i32_w]
                      rfl
                    refine done_ (done_of HT_.out (by kernel_rfl)) ?_
                    try go_wp2
                    have n0_ := Aside0.mk (Kd.R_drew HO476.out)
                    have n1_ := Aside0.mk (Kd.R_drew HO479.out)
                    have n2_ := Aside0.mk (Kd.S_drew HO484.out)
                    have n3_ := Aside0.mk (Kd.R_drew HL486_1.out)
                    have n4_ := Aside0.mk (blk_drew BK485.out)
                    have n5_ := Aside0.mk (Kd.C_drew HR486_1.out)
                    have n6_ := Aside0.mk (below_drew1 HB.out)
                    clear HO476
                    clear HO479
                    clear HO484
                    clear HL486_1
                    clear BK485
                    clear HR486_1
                    clear HB
                    have HO476 := n0_
                    have HO479 := n1_
                    have HO484 := n2_
                    have HL486_1 := n3_
                    have BK485 := n4_
                    have HR486_1 := n5_
                    have HB := n6_
                    clear n0_ n1_ n2_ n3_ n4_ n5_ n6_
                    have q76 : ((ji12) : Int) ≤ ((((rd_T34 t482 (ji8)).f1).length : Int) : Int) := of_decide_eq_true (by first | (with_reducible assumption) | assumption)
                    obtain ⟨i076, hi076, _, hsz76, _⟩ := info_parts info49
                    have hroom76 : ((rd_T34 t482 (ji8)).f1).length ≤ c486_1 := HC486_1.out
                    have hC76 : Kd.C k49 _ A486_1 ((rd_T34 t482 (ji8)).f1).length ((rd_T34 t482 (ji8)).f1) := (by repeat (first | (with_reducible exact HR486_1.out) | (with_reducible refine Kd.C_alloc ?_ _) | (with_reducible refine Kd.C_drewN ?_ _) | (with_reducible refine Kd.C_drew ?_) | exact HR486_1.out))
                    have hcut76 := cut_to (P := Try.prog) 27 49 .i64 Try.underlying27 hi076 A486_1 ((rd_T34 t482 (ji8)).f1).length c486_1 (ji12) (of_decide_eq_true (by first | (with_reducible assumption) | assumption)) q76 hroom76
                    have hr76 := Kd.C_take (m := ((ji12) : Int).toNat) hC76 (by omega)
                    have hy76 : y487.length = ((ji12) : Int).toNat := (by rw [Ny487.out, List.length_take]; omega)
                    rw [← Ny487.out] at hr76
                    rw [← hy76] at hcut76
                    have HR490 := Aside0.mk hr76
                    have HC490 := Aside0.mk (show y487.length ≤ c486_1 from by omega)
                    clear hr76 hC76 hroom76 hi076 hsz76
                    have KY76 := Aside0.mk hy76
                    clear hy76
                    replace q76 := eq_true q76
                    refine start_ (n := 10) (S := fun w' => w'.cell? ⟨gb485, 0, none⟩ = some (.slice Ao69 t474.length co69) ∧ w'.cell? ⟨gb485, 1, none⟩ = some (.slice Ao71 t477.length co71) ∧ w'.cell? ⟨gb485, 2, none⟩ = some (.int .i64 t480) ∧ w'.cell? ⟨gb485, 3, none⟩ = some (.int .i64 t481) ∧ w'.cell? ⟨gb485, 4, none⟩ = some (.slice (some ad486) t482.length co72)) (ds := []) #[false, false, false, false, false, false, false, false, false, false] (by kernel_rfl) rfl rfl ⟨(blk_cell BK485.out 0).trans rfl, (blk_cell BK485.out 1).trans rfl, (blk_cell BK485.out 2).trans rfl, (blk_cell BK485.out 3).trans rfl, (blk_cell BK485.out 4).trans rfl⟩ (fun hHeld => ?_); refine with_tabW regletlaw13_FirstsParts.tab7 regletlaw13_FirstsParts.bits7 (fun HT_ HW_ => ?_)
                    generalize w74.drew = w75 at HO476 HO479 HO484 HL486_1 BK485 HR486_1 HB HR490 hHeld ⊢
                    refine pure_ (i := 1) (N := some 42) (v := ?_) (a' := ?_) #[false, true, false, false, false, false, false, false, false, false] rfl rfl (any_of HT_.out (by kernel_rfl)) (fun _ _ _ h => h) (Or.inl ⟨by rfl, ?_⟩) ?_ ?_
                    rotate_left
                    · intro w'
                      go_simp
                      with_reducible rfl
                    rotate_left
                    · simp only [Act.put, List.setIfInBounds_toArray, List.set_cons_zero, List.set_cons_succ, i64_w, i32_w]
                      rfl
                    refine pure_ (i := 2) (N := some 43) (v := ?_) (a' := ?_) #[false, true, true, false, false, false, false, false, false, false] rfl rfl (any_of HT_.out (by kernel_rfl)) (fun _ _ _ h => h) (Or.inl ⟨by rfl, ?_⟩) ?_ ?_
                    rotate_left
                    · intro w'
                      go_simp
                      with_reducible rfl
                    rotate_left
                    · simp only [Act.put, List.setIfInBounds_toArray, List.set_cons_zero, List.set_cons_succ, i64_w, i32_w]
                      rfl
                    refine pure_ (i := 3) (N := some 44) (v := ?_) (a' := ?_) #[false, true, true, true, false, false, false, false, false, false] rfl rfl (any_of HT_.out (by kernel_rfl)) (fun _ _ _ h => h) (Or.inl ⟨by rfl, ?_⟩) ?_ ?_
                    rotate_left
                    · intro w'
                      go_simp
                      with_reducible rfl
                    rotate_left
                    · simp only [Act.put, List.setIfInBounds_toArray, List.set_cons_zero, List.set_cons_succ, i64_w, i32_w]
                      rfl
                    refine take_ (i := 0) (N := some 41) (v := ?_) (a' := ?_) #[true, true, true, true, false, false, false, false, false, false] rfl rfl (take_ofW HT_.out HW_.out (by kernel_rfl)) (fun _ _ _ h => h) (Or.inl ⟨by rfl, ?_⟩) hHeld ?_ ?_
                    rotate_left
                    · rintro w' ⟨s0, s1, s2, s3, s4⟩
                      go_simp
                      with_reducible rfl
                    rotate_left
                    · simp only [Act.put, List.setIfInBounds_toArray, List.set_cons_zero, List.set_cons_succ, i64_w, i32_w]
                      rfl
                    refine one_ (i := 4) (N := some 45) #[true, true, true, true, true, false, false, false, false, false] rfl rfl (one_of HT_.out (by kernel_rfl)) (by decide) (fun K hK => ?_)
                    refine goes_ Try.func21 (by kernel_rfl) rfl #[.agg #[.slice Ao69 t474.length co69, .slice Ao71 t477.length co71, .int .i64 t480, .int .i64 t481, .slice (some ad486) t482.length co72], .slice A486_1 y487.length c486_1] (by rfl) rfl rfl (by (try simp only [List.map_toArray, List.map_cons, List.map_nil]); first | done | rfl | (simp only [List.length_drop, List.length_take]; rfl)) ?_
                    with_reducible refine (firsts_Of.calls k _ _ t474 _ _ t477 t480 t481 _ _ t482 _ _ y487 t491 false _ ?side1 ?side2 ?side3 ?side4 ?side5 ?side6 ?side7 ?side8 A15.out).mono ?_
                    (case side1 => repeat (first | exact (Kd.R_reads' HO476.out).2.2 | (with_reducible refine Kd.C_alloc ?_ _) | (with_reducible refine Kd.C_drewN ?_ _) | (with_reducible refine Kd.C_drew ?_)))
                    (case side2 => exact (Kd.R_reads' HO476.out).2.1)
                    (case side3 => repeat (first | exact (Kd.R_reads' HO479.out).2.2 | (with_reducible refine Kd.C_alloc ?_ _) | (with_reducible refine Kd.C_drewN ?_ _) | (with_reducible refine Kd.C_drew ?_)))
                    (case side4 => exact (Kd.R_reads' HO479.out).2.1)
                    (case side5 => repeat (first | exact (Kd.S_reads' HO484.out).2.2 | (with_reducible refine Kd.C_alloc ?_ _) | (with_reducible refine Kd.C_drewN ?_ _) | (with_reducible refine Kd.C_drew ?_)))
                    (case side6 => exact (Kd.S_reads' HO484.out).2.1)
                    (case side7 => repeat (first | exact (by repeat (first | (with_reducible exact HR490.out) | (with_reducible refine Kd.C_alloc ?_ _) | (with_reducible refine Kd.C_drewN ?_ _) | (with_reducible refine Kd.C_drew ?_) | exact HR490.out)) | (with_reducible refine Kd.C_alloc ?_ _) | (with_reducible refine Kd.C_drewN ?_ _) | (with_reducible refine Kd.C_drew ?_)))
                    (case side8 => exact HC490.out)
                    rintro e w77 ⟨v492, rfl, ho0, hb⟩
                    refine ⟨_, rfl, ?_⟩
                    have n0_ := Aside0.mk (Kd.R_below (by (with_reducible repeat (first | apply Kd.R_alloc | apply Kd.R_drewN | apply Kd.R_drew)); exact HO476.out) hb)
                    have n1_ := Aside0.mk (Kd.R_elder' (by (with_reducible repeat (first | apply Kd.R_alloc | apply Kd.R_drewN | apply Kd.R_drew)); exact HO479.out) (Kd.R_base ho0) hb)
                    have n2_ := Aside0.mk (Kd.S_below (by (with_reducible repeat (first | apply Kd.S_alloc | apply Kd.S_drewN | apply Kd.S_drew)); exact HO484.out) hb)
                    have n3_ := Aside0.mk (Kd.R_below (by (with_reducible repeat (first | apply Kd.R_alloc | apply Kd.R_drewN | apply Kd.R_drew)); exact HL486_1.out) hb)
                    have n4_ := Aside0.mk (Kd.R_lower ho0 (below_size (by repeat (first | (with_reducible first | exact HB.out | apply below_alloc | apply pw_below_drewN | apply below_drew1 | refine below_set ?_ GE485.out) | exact HB.out))))
                    have n5_ := Aside0.mk (blk_below (g := gb485) (o := .cells #[.slice Ao69 t474.length co69, .slice Ao71 t477.length co71, .int .i64 t480, .int .i64 t481, .slice (some ad486) t482.length co72] 26 (0, 0)) (by (with_reducible repeat (first | refine blk_drewN ?_ _ | refine blk_drew ?_ | refine blk_alloc ?_ _)); exact BK485.out) hb)
                    have n6_ := Aside0.mk (Kd.C_below (by repeat (first | (with_reducible exact HR486_1.out) | (with_reducible refine Kd.C_alloc ?_ _) | (with_reducible refine Kd.C_drewN ?_ _) | (with_reducible refine Kd.C_drew ?_) | exact HR486_1.out)) hb)
                    have n7_ := Aside0.mk (Kd.C_below (by repeat (first | (with_reducible exact HR490.out) | (with_reducible refine Kd.C_alloc ?_ _) | (with_reducible refine Kd.C_drewN ?_ _) | (with_reducible refine Kd.C_drew ?_) | exact HR490.out)) hb)
                    have n8_ := Aside0.mk (below_step (by repeat (first | (with_reducible first | exact HB.out | apply below_alloc | apply pw_below_drewN | apply below_drew1 | refine below_set ?_ GE485.out) | exact HB.out)) hb)
                    clear HO476
                    clear HO479
                    clear HO484
                    clear HL486_1
                    clear BK485
                    clear HR486_1
                    clear HR490
                    clear HB
                    have HO476 := n0_
                    have HO479 := n1_
                    have HO484 := n2_
                    have HL486_1 := n3_
                    have HO493 := n4_
                    have BK485 := n5_
                    have HR486_1 := n6_
                    have HR490 := n7_
                    have HB := n8_
                    clear n0_ n1_ n2_ n3_ n4_ n5_ n6_ n7_ n8_
                    (try clear hb)
                    (try clear hb2)
                    (try clear hk)
                    (try clear hi)
                    (try clear ho0)
                    refine hK.out _ _ ⟨(blk_cell BK485.out 0).trans rfl, (blk_cell BK485.out 1).trans rfl, (blk_cell BK485.out 2).trans rfl, (blk_cell BK485.out 3).trans rfl, (blk_cell BK485.out 4).trans rfl⟩ (fun hHeld => ?_)
                    clear hK K
                    refine norm_ (a' := ?_) ?_ ?_
                    rotate_left
                    · show Act.put _ (some 45) _ = _
                      simp only [Act.put, List.setIfInBounds_toArray, List.set_cons_zero, List.set_cons_succ, i64_w, i32_w]
                      rfl
                    refine pure_ (i := 5) (N := some 40) (v := ?_) (a' := ?_) #[true, true, true, true, true, true, false, false, false, false] rfl rfl (any_of HT_.out (by kernel_rfl)) (fun _ _ _ h => h) (Or.inl ⟨by rfl, ?_⟩) ?_ ?_
                    rotate_left
                    · intro w'
                      go_simp
                      with_reducible rfl
                    rotate_left
                    · simp only [Act.put, List.setIfInBounds_toArray, List.set_cons_zero, List.set_cons_succ, i64_w, i32_w]
                      rfl
                    refine pure_ (i := 6) (N := some 46) (v := ?_) (a' := ?_) #[true, true, true, true, true, true, true, false, false, false] rfl rfl (any_of HT_.out (by kernel_rfl)) (fun _ _ _ h => h) (Or.inl ⟨by rfl, ?_⟩) ?_ ?_
                    rotate_left
                    · intro w'
                      go_simp
                      with_reducible rfl
                    rotate_left
                    · simp only [Act.put, List.setIfInBounds_toArray, List.set_cons_zero, List.set_cons_succ, i64_w, i32_w]
                      rfl
                    refine pure_ (i := 7) (N := some 47) (v := ?_) (a' := ?_) #[true, true, true, true, true, true, true, true, false, false] rfl rfl (any_of HT_.out (by kernel_rfl)) (fun _ _ _ h => h) (Or.inl ⟨by rfl, ?_⟩) ?_ ?_
                    rotate_left
                    · intro w'
                      go_simp
                      with_reducible rfl
                    rotate_left
                    · simp only [Act.put, List.setIfInBounds_toArray, List.set_cons_zero, List.set_cons_succ, i64_w, i32_w]
                      rfl
                    refine pure_ (i := 8) (N := some 11) (v := ?_) (a' := ?_) #[true, true, true, true, true, true, true, true, true, false] rfl rfl (any_of HT_.out (by kernel_rfl)) (fun _ _ _ h => h) (Or.inl ⟨by rfl, ?_⟩) ?_ ?_
                    rotate_left
                    · intro w'
                      go_simp
                      with_reducible rfl
                    rotate_left
                    · simp only [Act.put, List.setIfInBounds_toArray, List.set_cons_zero, List.set_cons_succ, i64_w, i32_w]
                      rfl
                    refine pure_ (i := 9) (N := some 12) (v := ?_) (a' := ?_) #[true, true, true, true, true, true, true, true, true, true] rfl rfl (any_of HT_.out (by kernel_rfl)) (fun _ _ _ h => h) (Or.inl ⟨by rfl, ?_⟩) ?_ ?_
                    rotate_left
                    · intro w'
                      go_simp
                      with_reducible rfl
                    rotate_left
                    · simp only [Act.put, List.setIfInBounds_toArray, List.set_cons_zero, List.set_cons_succ, i64_w, i32_w]
                      rfl
                    refine done_ (done_of HT_.out (by kernel_rfl)) ?_
                    try go_wp2
                    have n0_ := Aside0.mk (Kd.R_drew HO476.out)
                    have n1_ := Aside0.mk (Kd.R_drew HO479.out)
                    have n2_ := Aside0.mk (Kd.S_drew HO484.out)
                    have n3_ := Aside0.mk (Kd.R_drew HL486_1.out)
                    have n4_ := Aside0.mk (Kd.R_drew HO493.out)
                    have n5_ := Aside0.mk (blk_drew BK485.out)
                    have n6_ := Aside0.mk (Kd.C_drew HR486_1.out)
                    have n7_ := Aside0.mk (Kd.C_drew HR490.out)
                    have n8_ := Aside0.mk (below_drew1 HB.out)
                    clear HO476
                    clear HO479
                    clear HO484
                    clear HL486_1
                    clear HO493
                    clear BK485
                    clear HR486_1
                    clear HR490
                    clear HB
                    have HO476 := n0_
                    have HO479 := n1_
                    have HO484 := n2_
                    have HL486_1 := n3_
                    have HO493 := n4_
                    have BK485 := n5_
                    have HR486_1 := n6_
                    have HR490 := n7_
                    have HB := n8_
                    clear n0_ n1_ n2_ n3_ n4_ n5_ n6_ n7_ n8_
                    have q79 : ((ji12) : Int) ≤ ((((rd_T34 t482 (ji8)).f1).length : Int) : Int) := of_decide_eq_true (by first | (with_reducible assumption) | assumption)
                    obtain ⟨i079, hi079, _, hsz79, _⟩ := info_parts info49
                    have hroom79 : ((rd_T34 t482 (ji8)).f1).length ≤ c486_1 := HC486_1.out
                    have hC79 : Kd.C k49 _ A486_1 ((rd_T34 t482 (ji8)).f1).length ((rd_T34 t482 (ji8)).f1) := (by repeat (first | (with_reducible exact HR486_1.out) | (with_reducible refine Kd.C_alloc ?_ _) | (with_reducible refine Kd.C_drewN ?_ _) | (with_reducible refine Kd.C_drew ?_) | exact HR486_1.out))
                    have q079 : (0 : Int) ≤ ((ji12) : Int) := of_decide_eq_true (by first | (with_reducible assumption) | assumption)
                    have hcut79 := cut_from (P := Try.prog) 27 49 .i64 Try.underlying27 hi079 2 hsz79 A486_1 ((rd_T34 t482 (ji8)).f1).length c486_1 (ji12) q079 q79
                    have hr79 := Kd.C_drop (m := ((ji12) : Int).toNat) (c := c486_1) hC79 (by omega) hroom79
                    obtain ⟨A79, hA79⟩ : ∃ A1, A1 = (if c486_1 = ((ji12) : Int).toNat then A486_1 else (A486_1 : Option Addr).map (·.add (((ji12) : Int).toNat * 2))) := ⟨_, rfl⟩
                    obtain ⟨c79, hc79⟩ : ∃ c1, c1 = c486_1 - ((ji12) : Int).toNat := ⟨_, rfl⟩
                    have hy79 : y495.length = ((rd_T34 t482 (ji8)).f1).length - ((ji12) : Int).toNat := (by rw [Ny495.out, List.length_drop] <;> omega)
                    rw [show ((rd_T34 t482 (ji8)).f1).drop ((ji12) : Int).toNat = y495 from Ny495.out.symm] at hr79
                    replace hr79 : Kd.C k49 _ A79 y495.length y495 := (by rw [hA79]; exact hr79)
                    rw [← hy79, ← hA79, ← hc79] at hcut79
                    have HR498 := Aside0.mk hr79
                    have HC498 := Aside0.mk (show y495.length ≤ c79 from by rw [hy79, hc79]; exact Nat.sub_le_sub_right hroom79 _)
                    clear hr79 hC79 hroom79 hi079 hsz79 hc79
                    have KY79 := Aside0.mk hy79
                    have KA79 := Aside0.mk hA79
                    clear hy79 hA79
                    replace q79 := eq_true q79
                    refine start_ (n := 10) (S := fun w' => w'.cell? ⟨gb485, 0, none⟩ = some (.slice Ao69 t474.length co69) ∧ w'.cell? ⟨gb485, 1, none⟩ = some (.slice Ao71 t477.length co71) ∧ w'.cell? ⟨gb485, 2, none⟩ = some (.int .i64 t480) ∧ w'.cell? ⟨gb485, 3, none⟩ = some (.int .i64 t481) ∧ w'.cell? ⟨gb485, 4, none⟩ = some (.slice (some ad486) t482.length co72)) (ds := []) #[false, false, false, false, false, false, false, false, false, false] (by kernel_rfl) rfl rfl ⟨(blk_cell BK485.out 0).trans rfl, (blk_cell BK485.out 1).trans rfl, (blk_cell BK485.out 2).trans rfl, (blk_cell BK485.out 3).trans rfl, (blk_cell BK485.out 4).trans rfl⟩ (fun hHeld => ?_); refine with_tabW regletlaw13_FirstsParts.tab8 regletlaw13_FirstsParts.bits8 (fun HT_ HW_ => ?_)
                    generalize w77.drew = w78 at HO476 HO479 HO484 HL486_1 HO493 BK485 HR486_1 HR490 HB HR498 hHeld ⊢
                    refine pure_ (i := 1) (N := some 50) (v := ?_) (a' := ?_) #[false, true, false, false, false, false, false, false, false, false] rfl rfl (any_of HT_.out (by kernel_rfl)) (fun _ _ _ h => h) (Or.inl ⟨by rfl, ?_⟩) ?_ ?_
                    rotate_left
                    · intro w'
                      go_simp
                      with_reducible rfl
                    rotate_left
                    · simp only [Act.put, List.setIfInBounds_toArray, List.set_cons_zero, List.set_cons_succ, i64_w, i32_w]
                      rfl
                    refine pure_ (i := 2) (N := some 51) (v := ?_) (a' := ?_) #[false, true, true, false, false, false, false, false, false, false] rfl rfl (any_of HT_.out (by kernel_rfl)) (fun _ _ _ h => h) (Or.inl ⟨by rfl, ?_⟩) ?_ ?_
                    rotate_left
                    · intro w'
                      go_simp
                      with_reducible rfl
                    rotate_left
                    · simp only [Act.put, List.setIfInBounds_toArray, List.set_cons_zero, List.set_cons_succ, i64_w, i32_w]
                      rfl
                    refine pure_ (i := 3) (N := some 52) (v := ?_) (a' := ?_) #[false, true, true, true, false, false, false, false, false, false] rfl rfl (any_of HT_.out (by kernel_rfl)) (fun _ _ _ h => h) (Or.inl ⟨by rfl, ?_⟩) ?_ ?_
                    rotate_left
                    · intro w'
                      go_simp
                      with_reducible rfl
                    rotate_left
                    · simp only [Act.put, List.setIfInBounds_toArray, List.set_cons_zero, List.set_cons_succ, i64_w, i32_w]
                      rfl
                    refine take_ (i := 0) (N := some 49) (v := ?_) (a' := ?_) #[true, true, true, true, false, false, false, false, false, false] rfl rfl (take_ofW HT_.out HW_.out (by kernel_rfl)) (fun _ _ _ h => h) (Or.inl ⟨by rfl, ?_⟩) hHeld ?_ ?_
                    rotate_left
                    · rintro w' ⟨s0, s1, s2, s3, s4⟩
                      go_simp
                      with_reducible rfl
                    rotate_left
                    · simp only [Act.put, List.setIfInBounds_toArray, List.set_cons_zero, List.set_cons_succ, i64_w, i32_w]
                      rfl
                    refine one_ (i := 4) (N := some 53) #[true, true, true, true, true, false, false, false, false, false] rfl rfl (one_of HT_.out (by kernel_rfl)) (by decide) (fun K hK => ?_)
                    refine goes_ Try.func21 (by kernel_rfl) rfl #[.agg #[.slice Ao69 t474.length co69, .slice Ao71 t477.length co71, .int .i64 t480, .int .i64 t481, .slice (some ad486) t482.length co72], .slice A79 y495.length c79] (by rfl) rfl rfl (by (try simp only [List.map_toArray, List.map_cons, List.map_nil]); first | done | rfl | (simp only [List.length_drop, List.length_take]; rfl)) ?_
                    with_reducible refine (firsts_Of.calls k _ _ t474 _ _ t477 t480 t481 _ _ t482 _ _ y495 t499 t502 _ ?side1 ?side2 ?side3 ?side4 ?side5 ?side6 ?side7 ?side8 A18.out).mono ?_
                    (case side1 => repeat (first | exact (Kd.R_reads' HO476.out).2.2 | (with_reducible refine Kd.C_alloc ?_ _) | (with_reducible refine Kd.C_drewN ?_ _) | (with_reducible refine Kd.C_drew ?_)))
                    (case side2 => exact (Kd.R_reads' HO476.out).2.1)
                    (case side3 => repeat (first | exact (Kd.R_reads' HO479.out).2.2 | (with_reducible refine Kd.C_alloc ?_ _) | (with_reducible refine Kd.C_drewN ?_ _) | (with_reducible refine Kd.C_drew ?_)))
                    (case side4 => exact (Kd.R_reads' HO479.out).2.1)
                    (case side5 => repeat (first | exact (Kd.S_reads' HO484.out).2.2 | (with_reducible refine Kd.C_alloc ?_ _) | (with_reducible refine Kd.C_drewN ?_ _) | (with_reducible refine Kd.C_drew ?_)))
                    (case side6 => exact (Kd.S_reads' HO484.out).2.1)
                    (case side7 => repeat (first | exact (by repeat (first | (with_reducible exact HR498.out) | (with_reducible refine Kd.C_alloc ?_ _) | (with_reducible refine Kd.C_drewN ?_ _) | (with_reducible refine Kd.C_drew ?_) | exact HR498.out)) | (with_reducible refine Kd.C_alloc ?_ _) | (with_reducible refine Kd.C_drewN ?_ _) | (with_reducible refine Kd.C_drew ?_)))
                    (case side8 => exact HC498.out)
                    rintro e w80 ⟨v500, rfl, ho0, hb⟩
                    refine ⟨_, rfl, ?_⟩
                    have n0_ := Aside0.mk (Kd.R_below (by (with_reducible repeat (first | apply Kd.R_alloc | apply Kd.R_drewN | apply Kd.R_drew)); exact HO476.out) hb)
                    have n1_ := Aside0.mk (Kd.R_elder' (by (with_reducible repeat (first | apply Kd.R_alloc | apply Kd.R_drewN | apply Kd.R_drew)); exact HO479.out) (Kd.R_base ho0) hb)
                    have n2_ := Aside0.mk (Kd.S_below (by (with_reducible repeat (first | apply Kd.S_alloc | apply Kd.S_drewN | apply Kd.S_drew)); exact HO484.out) hb)
                    have n3_ := Aside0.mk (Kd.R_below (by (with_reducible repeat (first | apply Kd.R_alloc | apply Kd.R_drewN | apply Kd.R_drew)); exact HL486_1.out) hb)
                    have n4_ := Aside0.mk (Kd.R_elder' (by (with_reducible repeat (first | apply Kd.R_alloc | apply Kd.R_drewN | apply Kd.R_drew)); exact HO493.out) (Kd.R_base ho0) hb)
                    have n5_ := Aside0.mk (Kd.R_lower (Kd.R_new' ho0 (Kd.R_lt (by (with_reducible repeat (first | apply Kd.R_alloc | apply Kd.R_drewN | apply Kd.R_drew)); exact HO493.out))) (below_size (by repeat (first | (with_reducible first | exact HB.out | apply below_alloc | apply pw_below_drewN | apply below_drew1 | refine below_set ?_ GE485.out) | exact HB.out))))
                    have n6_ := Aside0.mk (blk_below (g := gb485) (o := .cells #[.slice Ao69 t474.length co69, .slice Ao71 t477.length co71, .int .i64 t480, .int .i64 t481, .slice (some ad486) t482.length co72] 26 (0, 0)) (by (with_reducible repeat (first | refine blk_drewN ?_ _ | refine blk_drew ?_ | refine blk_alloc ?_ _)); exact BK485.out) hb)
                    have n7_ := Aside0.mk (Kd.C_below (by repeat (first | (with_reducible exact HR486_1.out) | (with_reducible refine Kd.C_alloc ?_ _) | (with_reducible refine Kd.C_drewN ?_ _) | (with_reducible refine Kd.C_drew ?_) | exact HR486_1.out)) hb)
                    have n8_ := Aside0.mk (Kd.C_below (by repeat (first | (with_reducible exact HR490.out) | (with_reducible refine Kd.C_alloc ?_ _) | (with_reducible refine Kd.C_drewN ?_ _) | (with_reducible refine Kd.C_drew ?_) | exact HR490.out)) hb)
                    have n9_ := Aside0.mk (Kd.C_below (by repeat (first | (with_reducible exact HR498.out) | (with_reducible refine Kd.C_alloc ?_ _) | (with_reducible refine Kd.C_drewN ?_ _) | (with_reducible refine Kd.C_drew ?_) | exact HR498.out)) hb)
                    have n10_ := Aside0.mk (below_step (by repeat (first | (with_reducible first | exact HB.out | apply below_alloc | apply pw_below_drewN | apply below_drew1 | refine below_set ?_ GE485.out) | exact HB.out)) hb)
                    clear HO476
                    clear HO479
                    clear HO484
                    clear HL486_1
                    clear HO493
                    clear BK485
                    clear HR486_1
                    clear HR490
                    clear HR498
                    clear HB
                    have HO476 := n0_
                    have HO479 := n1_
                    have HO484 := n2_
                    have HL486_1 := n3_
                    have HO493 := n4_
                    have HO501 := n5_
                    have BK485 := n6_
                    have HR486_1 := n7_
                    have HR490 := n8_
                    have HR498 := n9_
                    have HB := n10_
                    clear n0_ n1_ n2_ n3_ n4_ n5_ n6_ n7_ n8_ n9_ n10_
                    (try clear hb)
                    (try clear hb2)
                    (try clear hk)
                    (try clear hi)
                    (try clear ho0)
                    refine hK.out _ _ ⟨(blk_cell BK485.out 0).trans rfl, (blk_cell BK485.out 1).trans rfl, (blk_cell BK485.out 2).trans rfl, (blk_cell BK485.out 3).trans rfl, (blk_cell BK485.out 4).trans rfl⟩ (fun hHeld => ?_)
                    clear hK K
                    refine norm_ (a' := ?_) ?_ ?_
                    rotate_left
                    · show Act.put _ (some 53) _ = _
                      simp only [Act.put, List.setIfInBounds_toArray, List.set_cons_zero, List.set_cons_succ, i64_w, i32_w]
                      rfl
                    refine pure_ (i := 5) (N := some 48) (v := ?_) (a' := ?_) #[true, true, true, true, true, true, false, false, false, false] rfl rfl (any_of HT_.out (by kernel_rfl)) (fun _ _ _ h => h) (Or.inl ⟨by rfl, ?_⟩) ?_ ?_
                    rotate_left
                    · intro w'
                      go_simp
                      with_reducible rfl
                    rotate_left
                    · simp only [Act.put, List.setIfInBounds_toArray, List.set_cons_zero, List.set_cons_succ, i64_w, i32_w]
                      rfl
                    refine pure_ (i := 6) (N := some 54) (v := ?_) (a' := ?_) #[true, true, true, true, true, true, true, false, false, false] rfl rfl (any_of HT_.out (by kernel_rfl)) (fun _ _ _ h => h) (Or.inl ⟨by rfl, ?_⟩) ?_ ?_
                    rotate_left
                    · intro w'
                      go_simp
                      with_reducible rfl
                    rotate_left
                    · simp only [Act.put, List.setIfInBounds_toArray, List.set_cons_zero, List.set_cons_succ, i64_w, i32_w]
                      rfl
                    refine pure_ (i := 7) (N := some 55) (v := ?_) (a' := ?_) #[true, true, true, true, true, true, true, true, false, false] rfl rfl (any_of HT_.out (by kernel_rfl)) (fun _ _ _ h => h) (Or.inl ⟨by rfl, ?_⟩) ?_ ?_
                    rotate_left
                    · intro w'
                      go_simp
                      with_reducible rfl
                    rotate_left
                    · simp only [Act.put, List.setIfInBounds_toArray, List.set_cons_zero, List.set_cons_succ, i64_w, i32_w]
                      rfl
                    refine pure_ (i := 8) (N := some 13) (v := ?_) (a' := ?_) #[true, true, true, true, true, true, true, true, true, false] rfl rfl (any_of HT_.out (by kernel_rfl)) (fun _ _ _ h => h) (Or.inl ⟨by rfl, ?_⟩) ?_ ?_
                    rotate_left
                    · intro w'
                      go_simp
                      with_reducible rfl
                    rotate_left
                    · simp only [Act.put, List.setIfInBounds_toArray, List.set_cons_zero, List.set_cons_succ, i64_w, i32_w]
                      rfl
                    refine pure_ (i := 9) (N := some 14) (v := ?_) (a' := ?_) #[true, true, true, true, true, true, true, true, true, true] rfl rfl (any_of HT_.out (by kernel_rfl)) (fun _ _ _ h => h) (Or.inl ⟨by rfl, ?_⟩) ?_ ?_
                    rotate_left
                    · intro w'
                      go_simp
                      with_reducible rfl
                    rotate_left
                    · simp only [Act.put, List.setIfInBounds_toArray, List.set_cons_zero, List.set_cons_succ, i64_w, i32_w]
                      rfl
                    refine done_ (done_of HT_.out (by kernel_rfl)) ?_
                    have hcz81_0 : w80.cell? ⟨gb485, 0, none⟩ = some (.slice Ao69 t474.length co69) := (blk_cell BK485.out 0).trans rfl
                    have hcz81_1 : w80.cell? ⟨gb485, 1, none⟩ = some (.slice Ao71 t477.length co71) := (blk_cell BK485.out 1).trans rfl
                    have hcz81_2 : w80.cell? ⟨gb485, 2, none⟩ = some (.int .i64 t480) := (blk_cell BK485.out 2).trans rfl
                    have hcz81_3 : w80.cell? ⟨gb485, 3, none⟩ = some (.int .i64 t481) := (blk_cell BK485.out 3).trans rfl
                    have hcz81_4 : w80.cell? ⟨gb485, 4, none⟩ = some (.slice (some ad486) t482.length co72) := (blk_cell BK485.out 4).trans rfl
                    have hfz81_0 := blk_frozen BK485.out 0
                    have hfz81_1 := blk_frozen BK485.out 1
                    have hfz81_2 := blk_frozen BK485.out 2
                    have hfz81_3 := blk_frozen BK485.out 3
                    have hfz81_4 := blk_frozen BK485.out 4
                    try go_wp2_with (first | ((with_reducible refine gate_callee (f := 21) rfl ?_); refine goesL_ (some 59) rfl rfl Try.func21 (by kernel_rfl) rfl #[.agg #[.slice Ao69 t474.length co69, .slice Ao71 t477.length co71, .int .i64 t480, .int .i64 t481, .slice (some ad486) t482.length co72], .slice A486_1 ((rd_T34 t482 (ji8)).f1).length c486_1] rfl (by (try simp only [List.map_toArray, List.map_cons, List.map_nil]); first | done | (simp only [hji8]; rfl) | rfl | (simp only [List.length_drop, List.length_take]; rfl)) ?_; (with_reducible refine (firsts_Of.calls k _ _ t474 _ _ t477 t480 t481 _ _ t482 _ _ ((rd_T34 t482 (ji8)).f1) t503 t506 _ ?side1 ?side2 ?side3 ?side4 ?side5 ?side6 ?side7 ?side8 A19.out).mono ?_); (case side1 => repeat (first | exact (Kd.R_reads' HO476.out).2.2 | (with_reducible refine Kd.C_alloc ?_ _) | (with_reducible refine Kd.C_drewN ?_ _) | (with_reducible refine Kd.C_drew ?_))); (case side2 => exact (Kd.R_reads' HO476.out).2.1); (case side3 => repeat (first | exact (Kd.R_reads' HO479.out).2.2 | (with_reducible refine Kd.C_alloc ?_ _) | (with_reducible refine Kd.C_drewN ?_ _) | (with_reducible refine Kd.C_drew ?_))); (case side4 => exact (Kd.R_reads' HO479.out).2.1); (case side5 => repeat (first | exact (Kd.S_reads' HO484.out).2.2 | (with_reducible refine Kd.C_alloc ?_ _) | (with_reducible refine Kd.C_drewN ?_ _) | (with_reducible refine Kd.C_drew ?_))); (case side6 => exact (Kd.S_reads' HO484.out).2.1); (case side7 => repeat (first | exact (by repeat (first | (with_reducible exact HR486_1.out) | (with_reducible refine Kd.C_alloc ?_ _) | (with_reducible refine Kd.C_drewN ?_ _) | (with_reducible refine Kd.C_drew ?_) | exact HR486_1.out)) | (with_reducible refine Kd.C_alloc ?_ _) | (with_reducible refine Kd.C_drewN ?_ _) | (with_reducible refine Kd.C_drew ?_))); (case side8 => exact HC486_1.out); rintro e w82 ⟨v504, rfl, ho0, hb⟩; refine ⟨_, rfl, ?_⟩; have n0_ := Aside0.mk (Kd.R_below (by (with_reducible repeat (first | apply Kd.R_alloc | apply Kd.R_drewN | apply Kd.R_drew)); exact HO476.out) hb); have n1_ := Aside0.mk (Kd.R_elder' (by (with_reducible repeat (first | apply Kd.R_alloc | apply Kd.R_drewN | apply Kd.R_drew)); exact HO479.out) (Kd.R_base ho0) hb); have n2_ := Aside0.mk (Kd.S_below (by (with_reducible repeat (first | apply Kd.S_alloc | apply Kd.S_drewN | apply Kd.S_drew)); exact HO484.out) hb); have n3_ := Aside0.mk (Kd.R_below (by (with_reducible repeat (first | apply Kd.R_alloc | apply Kd.R_drewN | apply Kd.R_drew)); exact HL486_1.out) hb); have n4_ := Aside0.mk (Kd.R_elder' (by (with_reducible repeat (first | apply Kd.R_alloc | apply Kd.R_drewN | apply Kd.R_drew)); exact HO493.out) (Kd.R_base ho0) hb); have n5_ := Aside0.mk (Kd.R_elder' (by (with_reducible repeat (first | apply Kd.R_alloc | apply Kd.R_drewN | apply Kd.R_drew)); exact HO501.out) (Kd.R_base ho0) hb); have n6_ := Aside0.mk (Kd.R_lower (Kd.R_new' (Kd.R_new' ho0 (Kd.R_lt (by (with_reducible repeat (first | apply Kd.R_alloc | apply Kd.R_drewN | apply Kd.R_drew)); exact HO493.out))) (Kd.R_lt (by (with_reducible repeat (first | apply Kd.R_alloc | apply Kd.R_drewN | apply Kd.R_drew)); exact HO501.out))) (below_size (by repeat (first | (with_reducible first | exact HB.out | apply below_alloc | apply pw_below_drewN | apply below_drew1 | refine below_set ?_ GE485.out) | exact HB.out)))); have n7_ := Aside0.mk (blk_below (g := gb485) (o := .cells #[.slice Ao69 t474.length co69, .slice Ao71 t477.length co71, .int .i64 t480, .int .i64 t481, .slice (some ad486) t482.length co72] 26 (0, 0)) (by (with_reducible repeat (first | refine blk_drewN ?_ _ | refine blk_drew ?_ | refine blk_alloc ?_ _)); exact BK485.out) hb); have n8_ := Aside0.mk (Kd.C_below (by repeat (first | (with_reducible exact HR486_1.out) | (with_reducible refine Kd.C_alloc ?_ _) | (with_reducible refine Kd.C_drewN ?_ _) | (with_reducible refine Kd.C_drew ?_) | exact HR486_1.out)) hb); have n9_ := Aside0.mk (Kd.C_below (by repeat (first | (with_reducible exact HR490.out) | (with_reducible refine Kd.C_alloc ?_ _) | (with_reducible refine Kd.C_drewN ?_ _) | (with_reducible refine Kd.C_drew ?_) | exact HR490.out)) hb); have n10_ := Aside0.mk (Kd.C_below (by repeat (first | (with_reducible exact HR498.out) | (with_reducible refine Kd.C_alloc ?_ _) | (with_reducible refine Kd.C_drewN ?_ _) | (with_reducible refine Kd.C_drew ?_) | exact HR498.out)) hb); have n11_ := Aside0.mk (below_step (by repeat (first | (with_reducible first | exact HB.out | apply below_alloc | apply pw_below_drewN | apply below_drew1 | refine below_set ?_ GE485.out) | exact HB.out)) hb); clear HO476; clear HO479; clear HO484; clear HL486_1; clear HO493; clear HO501; clear BK485; clear HR486_1; clear HR490; clear HR498; clear HB; have HO476 := n0_; have HO479 := n1_; have HO484 := n2_; have HL486_1 := n3_; have HO493 := n4_; have HO501 := n5_; have HO505 := n6_; have BK485 := n7_; have HR486_1 := n8_; have HR490 := n9_; have HR498 := n10_; have HB := n11_; clear n0_ n1_ n2_ n3_ n4_ n5_ n6_ n7_ n8_ n9_ n10_ n11_; (try clear hb); (try clear hb2); (try clear hk); (try clear hi); (try clear ho0); obtain ⟨Ao83, co83, eo83⟩ := Kd.R_slice HO493.out; subst eo83; obtain ⟨Ao84, co84, eo84⟩ := Kd.R_slice HO505.out; subst eo84) | (go_at_call 22; (with_reducible refine (regletref13_SameInts.calls k _ _ t491 _ _ t503 true _ ?side1 ?side2 ?side3 ?side4 A64.out).mono ?_); (case side1 => repeat (first | exact (Kd.R_reads' HO493.out).2.2 | (with_reducible refine Kd.C_alloc ?_ _) | (with_reducible refine Kd.C_drewN ?_ _) | (with_reducible refine Kd.C_drew ?_))); (case side2 => exact (Kd.R_reads' HO493.out).2.1); (case side3 => repeat (first | exact (Kd.R_reads' HO505.out).2.2 | (with_reducible refine Kd.C_alloc ?_ _) | (with_reducible refine Kd.C_drewN ?_ _) | (with_reducible refine Kd.C_drew ?_))); (case side4 => exact (Kd.R_reads' HO505.out).2.1); rintro e w' ⟨rfl, ⟨nd, rfl⟩⟩))
                    go_ret
                    exact ⟨by first | rfl | (simp [errW_none, errW_some] <;> rfl) | (simp only [← hji8, ← hji12]; first | rfl | (simp [errW_none, errW_some] <;> rfl)) | (simp [*, errW_none, errW_some] <;> rfl), by repeat (first | (with_reducible first | exact HB.out | apply below_alloc | apply pw_below_drewN | apply below_drew1 | refine below_set ?_ GE485.out) | exact HB.out)⟩
                  · replace c65 := Bool.eq_false_iff.mpr c65
                    subst c65
                    have H1 : (some false) = some r := by rw [if_neg (show ¬ (false = true) by decide)] at H; exact H
                    clear H
                    have H := H1
                    clear H1
                    obtain rfl := Option.some.inj H
                    go_enter Try.func8, Try.ntmps8
                    try go_wp2_with (first | ((with_reducible refine gate_callee (f := 9) rfl ?_); refine goesL_ (some 18) rfl rfl Try.func9 (by kernel_rfl) rfl #[] rfl (by (try simp only [List.map_toArray, List.map_cons, List.map_nil]); first | done | rfl | (simp only [List.length_drop, List.length_take]; rfl)) ?_; (with_reducible refine (regletlaw13_awake.calls k  true _ A4.out).mono ?_); rintro e w85 ⟨rfl, hb⟩; refine ⟨_, rfl, ?_⟩; have n0_ := Aside0.mk (below_step (by repeat (first | (with_reducible first | exact HB.out | apply below_alloc | apply pw_below_drewN | apply below_drew1) | exact HB.out)) hb); clear HB; have HB := n0_; clear n0_; (try clear hb); (try clear hb2); (try clear hk); (try clear hi)) | ((with_reducible refine gate_callee (f := 12) rfl ?_); refine goesL_ (some 22) rfl rfl Try.func12 (by kernel_rfl) rfl #[.slice A0 l0.length c0] rfl (by (try simp only [List.map_toArray, List.map_cons, List.map_nil]); first | done | rfl | (simp only [List.length_drop, List.length_take]; rfl)) ?_; (with_reducible refine (regletlaw13_Made.calls k _ _ l0 t474 t477 t480 t481 t482 _ ?side1 ?side2 A6.out).mono ?_); (case side1 => repeat (first | exact (Kd.C_below HR0.out HB.out) | (with_reducible refine Kd.C_alloc ?_ _) | (with_reducible refine Kd.C_drewN ?_ _) | (with_reducible refine Kd.C_drew ?_))); (case side2 => exact HC0.out); rintro e w86 ⟨v475, v478, v483, rfl, ho0, ho1, ho2, hb⟩; refine ⟨_, rfl, ?_⟩; have n0_ := Aside0.mk (Kd.R_lower ho0 (below_size (by repeat (first | (with_reducible first | exact HB.out | apply below_alloc | apply pw_below_drewN | apply below_drew1) | exact HB.out)))); have n1_ := Aside0.mk (Kd.R_lower ho1 (below_size (by repeat (first | (with_reducible first | exact HB.out | apply below_alloc | apply pw_below_drewN | apply below_drew1) | exact HB.out)))); have n2_ := Aside0.mk (Kd.S_lower ho2 (below_size (by repeat (first | (with_reducible first | exact HB.out | apply below_alloc | apply pw_below_drewN | apply below_drew1) | exact HB.out)))); have n3_ := Aside0.mk (below_step (by repeat (first | (with_reducible first | exact HB.out | apply below_alloc | apply pw_below_drewN | apply below_drew1) | exact HB.out)) hb); clear HB; have HO476 := n0_; have HO479 := n1_; have HO484 := n2_; have HB := n3_; clear n0_ n1_ n2_ n3_; (try clear hb); (try clear hb2); (try clear hk); (try clear hi); (try clear ho0); (try clear ho1); (try clear ho2)) | ((with_reducible refine gate_dst (N := 8) rfl ?_); refine box_event ?hg (N := 8) ?hd (cs := #[.slice none 0 0, .slice none 0 0, .int .i64 0, .int .i64 0, .slice none 0 0]) (t := 26) ?hr ?_; (case hd => rfl); (case hg => rfl); (case hr => first | (go_simp; done) | (go_simp; rfl)); intro gb485 hg w87 hbox hb; have n0_ := Aside0.mk (Kd.R_below (by (with_reducible repeat (first | apply Kd.R_alloc | apply Kd.R_drewN | apply Kd.R_drew)); exact HO476.out) hb); have n1_ := Aside0.mk (Kd.R_below (by (with_reducible repeat (first | apply Kd.R_alloc | apply Kd.R_drewN | apply Kd.R_drew)); exact HO479.out) hb); have n2_ := Aside0.mk (Kd.S_below (by (with_reducible repeat (first | apply Kd.S_alloc | apply Kd.S_drewN | apply Kd.S_drew)); exact HO484.out) hb); have n3_ := Aside0.mk (below_step (by repeat (first | (with_reducible first | exact HB.out | apply below_alloc | apply pw_below_drewN | apply below_drew1) | exact HB.out)) hb); have n4_ := Aside0.mk (hbox); have n5_ := Aside0.mk ((by rw [hg]; exact (below_size (by repeat (first | (with_reducible first | exact HB.out | apply below_alloc | apply pw_below_drewN | apply below_drew1) | exact HB.out))) : w.heap.size ≤ gb485)); have n6_ := Aside0.mk ((by rw [hg]; exact (below_size (by repeat (first | (with_reducible first | exact HB.out | apply below_alloc | apply pw_below_drewN | apply below_drew1) | exact HB.out))) : w.heap.size ≤ gb485)); clear HO476; clear HO479; clear HO484; clear HB; have HO476 := n0_; have HO479 := n1_; have HO484 := n2_; have HB := n3_; have BK485 := n4_; have GW485 := n5_; have GE485 := n6_; clear n0_ n1_ n2_ n3_ n4_ n5_ n6_; clear hb hbox hg; obtain ⟨Ao88, co88, eo88⟩ := Kd.R_slice HO476.out; subst eo88; have hcz89_0 : w87.cell? ⟨gb485, 0, none⟩ = some (.slice none 0 0) := (blk_cell BK485.out 0).trans rfl; have hcz89_1 : w87.cell? ⟨gb485, 1, none⟩ = some (.slice none 0 0) := (blk_cell BK485.out 1).trans rfl; have hcz89_2 : w87.cell? ⟨gb485, 2, none⟩ = some (.int .i64 0) := (blk_cell BK485.out 2).trans rfl; have hcz89_3 : w87.cell? ⟨gb485, 3, none⟩ = some (.int .i64 0) := (blk_cell BK485.out 3).trans rfl; have hcz89_4 : w87.cell? ⟨gb485, 4, none⟩ = some (.slice none 0 0) := (blk_cell BK485.out 4).trans rfl; have hfz89_0 := blk_frozen BK485.out 0; have hfz89_1 := blk_frozen BK485.out 1; have hfz89_2 := blk_frozen BK485.out 2; have hfz89_3 := blk_frozen BK485.out 3; have hfz89_4 := blk_frozen BK485.out 4; obtain ⟨Ao90, co90, eo90⟩ := Kd.R_slice HO479.out; subst eo90; obtain ⟨Ao91, co91, eo91⟩ := Kd.S_slice HO484.out; subst eo91))
                    have n0_ : Aside0 (Kd.R Kd.string 9 (((((w87.setCell ⟨gb485, 0, none⟩ (.slice Ao88 t474.length co88)).setCell ⟨gb485, 1, none⟩ (.slice Ao90 t477.length co90)).setCell ⟨gb485, 2, none⟩ (.int .i64 t480)).setCell ⟨gb485, 3, none⟩ (.int .i64 t481)).setCell ⟨gb485, 4, none⟩ (.slice Ao91 t482.length co91)) w.heap.size (fun _ => True) (.slice Ao88 t474.length co88) t474) := ⟨by (with_reducible repeat (first | apply Kd.R_alloc | apply Kd.R_drewN | apply Kd.R_drew)); exact Kd.R_mono (Kd.R_far (p := ⟨gb485, 4, none⟩) (Kd.R_far (p := ⟨gb485, 3, none⟩) (Kd.R_far (p := ⟨gb485, 2, none⟩) (Kd.R_far (p := ⟨gb485, 1, none⟩) (Kd.R_far (p := ⟨gb485, 0, none⟩) (Kd.R_types HO476.out BK485.out (by decide)) (fun _ hk => hk.2) (.slice Ao88 t474.length co88)) (fun _ hk => hk.2) (.slice Ao90 t477.length co90)) (fun _ hk => hk.2) (.int .i64 t480)) (fun _ hk => hk.2) (.int .i64 t481)) (fun _ hk => hk.2) (.slice Ao91 t482.length co91)) (fun _ hk => trivial)⟩
                    have n1_ : Aside0 (Kd.R k62 62 (((((w87.setCell ⟨gb485, 0, none⟩ (.slice Ao88 t474.length co88)).setCell ⟨gb485, 1, none⟩ (.slice Ao90 t477.length co90)).setCell ⟨gb485, 2, none⟩ (.int .i64 t480)).setCell ⟨gb485, 3, none⟩ (.int .i64 t481)).setCell ⟨gb485, 4, none⟩ (.slice Ao91 t482.length co91)) w.heap.size (fun _ => True) (.slice Ao90 t477.length co90) t477) := ⟨by (with_reducible repeat (first | apply Kd.R_alloc | apply Kd.R_drewN | apply Kd.R_drew)); exact Kd.R_mono (Kd.R_far (p := ⟨gb485, 4, none⟩) (Kd.R_far (p := ⟨gb485, 3, none⟩) (Kd.R_far (p := ⟨gb485, 2, none⟩) (Kd.R_far (p := ⟨gb485, 1, none⟩) (Kd.R_far (p := ⟨gb485, 0, none⟩) (Kd.R_types HO479.out BK485.out (by decide)) (fun _ hk => hk.2) (.slice Ao88 t474.length co88)) (fun _ hk => hk.2) (.slice Ao90 t477.length co90)) (fun _ hk => hk.2) (.int .i64 t480)) (fun _ hk => hk.2) (.int .i64 t481)) (fun _ hk => hk.2) (.slice Ao91 t482.length co91)) (fun _ hk => trivial)⟩
                    have n2_ : Aside0 (Kd.S k34 34 (((((w87.setCell ⟨gb485, 0, none⟩ (.slice Ao88 t474.length co88)).setCell ⟨gb485, 1, none⟩ (.slice Ao90 t477.length co90)).setCell ⟨gb485, 2, none⟩ (.int .i64 t480)).setCell ⟨gb485, 3, none⟩ (.int .i64 t481)).setCell ⟨gb485, 4, none⟩ (.slice Ao91 t482.length co91)) w.heap.size (fun _ => True) (.slice Ao91 t482.length co91) t482) := ⟨by (with_reducible repeat (first | apply Kd.S_alloc | apply Kd.S_drewN | apply Kd.S_drew)); exact Kd.S_mono (Kd.S_far (p := ⟨gb485, 4, none⟩) (Kd.S_far (p := ⟨gb485, 3, none⟩) (Kd.S_far (p := ⟨gb485, 2, none⟩) (Kd.S_far (p := ⟨gb485, 1, none⟩) (Kd.S_far (p := ⟨gb485, 0, none⟩) (Kd.S_types HO484.out BK485.out (by decide)) (fun _ hk => hk.2) (.slice Ao88 t474.length co88)) (fun _ hk => hk.2) (.slice Ao90 t477.length co90)) (fun _ hk => hk.2) (.int .i64 t480)) (fun _ hk => hk.2) (.int .i64 t481)) (fun _ hk => hk.2) (.slice Ao91 t482.length co91)) (fun _ hk => trivial)⟩
                    have n3_ : Aside0 ((((((w87.setCell ⟨gb485, 0, none⟩ (.slice Ao88 t474.length co88)).setCell ⟨gb485, 1, none⟩ (.slice Ao90 t477.length co90)).setCell ⟨gb485, 2, none⟩ (.int .i64 t480)).setCell ⟨gb485, 3, none⟩ (.int .i64 t481)).setCell ⟨gb485, 4, none⟩ (.slice Ao91 t482.length co91)).heap[gb485]? = some (.cells #[.slice Ao88 t474.length co88, .slice Ao90 t477.length co90, .int .i64 t480, .int .i64 t481, .slice Ao91 t482.length co91] 26 (0, 0))) := ⟨by (with_reducible repeat (first | refine blk_drewN ?_ _ | refine blk_drew ?_ | refine blk_alloc ?_ _)); refine blk_put (cs := #[.slice Ao88 t474.length co88, .slice Ao90 t477.length co90, .int .i64 t480, .int .i64 t481, .slice none 0 0]) ?_ 4 _ rfl; (with_reducible repeat (first | refine blk_drewN ?_ _ | refine blk_drew ?_ | refine blk_alloc ?_ _)); refine blk_put (cs := #[.slice Ao88 t474.length co88, .slice Ao90 t477.length co90, .int .i64 t480, .int .i64 0, .slice none 0 0]) ?_ 3 _ rfl; (with_reducible repeat (first | refine blk_drewN ?_ _ | refine blk_drew ?_ | refine blk_alloc ?_ _)); refine blk_put (cs := #[.slice Ao88 t474.length co88, .slice Ao90 t477.length co90, .int .i64 0, .int .i64 0, .slice none 0 0]) ?_ 2 _ rfl; (with_reducible repeat (first | refine blk_drewN ?_ _ | refine blk_drew ?_ | refine blk_alloc ?_ _)); refine blk_put (cs := #[.slice Ao88 t474.length co88, .slice none 0 0, .int .i64 0, .int .i64 0, .slice none 0 0]) ?_ 1 _ rfl; (with_reducible repeat (first | refine blk_drewN ?_ _ | refine blk_drew ?_ | refine blk_alloc ?_ _)); refine blk_put (cs := #[.slice none 0 0, .slice none 0 0, .int .i64 0, .int .i64 0, .slice none 0 0]) ?_ 0 _ rfl; (with_reducible repeat (first | refine blk_drewN ?_ _ | refine blk_drew ?_ | refine blk_alloc ?_ _)); exact BK485.out⟩
                    have n4_ : Aside0 (Below w.heap.size w (((((w87.setCell ⟨gb485, 0, none⟩ (.slice Ao88 t474.length co88)).setCell ⟨gb485, 1, none⟩ (.slice Ao90 t477.length co90)).setCell ⟨gb485, 2, none⟩ (.int .i64 t480)).setCell ⟨gb485, 3, none⟩ (.int .i64 t481)).setCell ⟨gb485, 4, none⟩ (.slice Ao91 t482.length co91))) := ⟨by repeat (first | (with_reducible first | exact HB.out | apply below_alloc | apply pw_below_drewN | apply below_drew1 | refine below_set ?_ GE485.out) | exact HB.out)⟩
                    (try clear HO476)
                    (try clear HO479)
                    (try clear HO484)
                    (try clear BK485)
                    (try clear HB)
                    generalize (((((w87.setCell ⟨gb485, 0, none⟩ (.slice Ao88 t474.length co88)).setCell ⟨gb485, 1, none⟩ (.slice Ao90 t477.length co90)).setCell ⟨gb485, 2, none⟩ (.int .i64 t480)).setCell ⟨gb485, 3, none⟩ (.int .i64 t481)).setCell ⟨gb485, 4, none⟩ (.slice Ao91 t482.length co91)) = w92 at n0_ n1_ n2_ n3_ n4_ ⊢
                    have HO476 := n0_
                    have HO479 := n1_
                    have HO484 := n2_
                    have BK485 := n3_
                    have HB := n4_
                    clear n0_ n1_ n2_ n3_ n4_
                    have n0_ := Aside0.mk (Kd.R_drew HO476.out)
                    have n1_ := Aside0.mk (Kd.R_drew HO479.out)
                    have n2_ := Aside0.mk (Kd.S_drew HO484.out)
                    have n3_ := Aside0.mk (blk_drew BK485.out)
                    have n4_ := Aside0.mk (below_drew1 HB.out)
                    clear HO476
                    clear HO479
                    clear HO484
                    clear BK485
                    clear HB
                    have HO476 := n0_
                    have HO479 := n1_
                    have HO484 := n2_
                    have BK485 := n3_
                    have HB := n4_
                    clear n0_ n1_ n2_ n3_ n4_
                    have p486 : 0 ≤ ((ji8) : Int) := of_decide_eq_true (by first | (with_reducible assumption) | assumption)
                    have q486 : (ji8) < (t482.length : Int) := of_decide_eq_true (by first | (with_reducible assumption) | assumption)
                    obtain ⟨ad486, A486_1, c486_1, e486, hx486_0, hx486_1, hl486_1, hi486_1⟩ := at_T34 (Kd.S_reads' HO484.out).2.2 (ji8) p486 q486
                    cases e486
                    obtain ⟨ce486, hce486, hMe486, hcc486⟩ := Kd.S_get HO484.out z34 (ji8) p486 (by first | exact q486 | exact of_decide_eq_true (by first | (with_reducible assumption) | assumption) | (have e_ := (Kd.S_reads' HO484.out).1; omega))
                    obtain ⟨ve486_1, rfl, ge486_1⟩ := k34_openM hMe486
                    have hv486_1 := hcc486 1 _ rfl
                    rw [add_field _ _ 1 (by omega)] at hv486_1
                    replace hv486_1 := Option.some.inj (hv486_1.symm.trans hx486_1)
                    rw [hv486_1] at ge486_1
                    have HL486_1 := Aside0.mk (show Kd.R k49 49 _ _ _ _ ((rd_T34 t482 (ji8)).f1) from ge486_1)
                    clear hv486_1 ge486_1
                    clear hcc486 hce486
                    have HR486_1 := Aside0.mk hi486_1
                    have HC486_1 := Aside0.mk hl486_1
                    clear hi486_1 hl486_1
                    replace p486 := eq_true p486
                    replace q486 := eq_true q486
                    refine start_ (n := 12) (S := fun w' => w'.cell? ⟨gb485, 0, none⟩ = some (.slice Ao88 t474.length co88) ∧ w'.cell? ⟨gb485, 1, none⟩ = some (.slice Ao90 t477.length co90) ∧ w'.cell? ⟨gb485, 2, none⟩ = some (.int .i64 t480) ∧ w'.cell? ⟨gb485, 3, none⟩ = some (.int .i64 t481) ∧ w'.cell? ⟨gb485, 4, none⟩ = some (.slice (some ad486) t482.length co91) ∧ w'.cell? (ad486.add (((ji8)).toNat * 2)) = some (.int .i64 ((rd_T34 t482 (ji8)).f0)) ∧ w'.cell? ⟨(ad486.add (((ji8)).toNat * 2)).block, (ad486.add (((ji8)).toNat * 2)).off + 1, none⟩ = some (.slice A486_1 ((rd_T34 t482 (ji8)).f1).length c486_1)) (ds := []) #[false, false, false, false, false, false, false, false, false, false, false, false] (by kernel_rfl) rfl rfl ⟨(blk_cell BK485.out 0).trans rfl, (blk_cell BK485.out 1).trans rfl, (blk_cell BK485.out 2).trans rfl, (blk_cell BK485.out 3).trans rfl, (blk_cell BK485.out 4).trans rfl, hx486_0, hx486_1⟩ (fun hHeld => ?_); refine with_tabW regletlaw13_FirstsParts.tab5 regletlaw13_FirstsParts.bits5 (fun HT_ HW_ => ?_)
                    generalize w92.drew = w93 at HO476 HO479 HO484 BK485 HB HL486_1 HR486_1 hx486_0 hx486_1 hHeld ⊢
                    refine pure_ (i := 0) (N := some 23) (v := ?_) (a' := ?_) #[true, false, false, false, false, false, false, false, false, false, false, false] rfl rfl (any_of HT_.out (by kernel_rfl)) (fun _ _ _ h => h) (Or.inl ⟨by rfl, ?_⟩) ?_ ?_
                    rotate_left
                    · intro w'
                      go_simp
                      with_reducible rfl
                    rotate_left
                    · simp only [Act.put, List.setIfInBounds_toArray, List.set_cons_zero, List.set_cons_succ, i64_w, i32_w]
                      rfl
                    refine pure_ (i := 2) (N := some 25) (v := ?_) (a' := ?_) #[true, false, true, false, false, false, false, false, false, false, false, false] rfl rfl (any_of HT_.out (by kernel_rfl)) (fun _ _ _ h => h) (Or.inl ⟨by rfl, ?_⟩) ?_ ?_
                    rotate_left
                    · intro w'
                      go_simp
                      with_reducible rfl
                    rotate_left
                    · simp only [Act.put, List.setIfInBounds_toArray, List.set_cons_zero, List.set_cons_succ, i64_w, i32_w]
                      rfl
                    refine pure_ (i := 3) (N := some 26) (v := ?_) (a' := ?_) #[true, false, true, true, false, false, false, false, false, false, false, false] rfl rfl (any_of HT_.out (by kernel_rfl)) (fun _ _ _ h => h) (Or.inl ⟨by rfl, ?_⟩) ?_ ?_
                    rotate_left
                    · intro w'
                      go_simp
                      with_reducible rfl
                    rotate_left
                    · simp only [Act.put, List.setIfInBounds_toArray, List.set_cons_zero, List.set_cons_succ, i64_w, i32_w]
                      rfl
                    refine pure_ (i := 4) (N := some 27) (v := ?_) (a' := ?_) #[true, false, true, true, true, false, false, false, false, false, false, false] rfl rfl (any_of HT_.out (by kernel_rfl)) (fun _ _ _ h => h) (Or.inl ⟨by rfl, ?_⟩) ?_ ?_
                    rotate_left
                    · intro w'
                      go_simp
                      with_reducible rfl
                    rotate_left
                    · simp only [Act.put, List.setIfInBounds_toArray, List.set_cons_zero, List.set_cons_succ, i64_w, i32_w]
                      rfl
                    refine take_ (i := 1) (N := some 24) (v := ?_) (a' := ?_) #[true, true, true, true, true, false, false, false, false, false, false, false] rfl rfl (take_ofW HT_.out HW_.out (by kernel_rfl)) (fun _ _ _ h => h) (Or.inl ⟨by rfl, ?_⟩) hHeld ?_ ?_
                    rotate_left
                    · rintro w' ⟨s0, s1, s2, s3, s4, s5, s6⟩
                      go_simp
                      with_reducible rfl
                    rotate_left
                    · simp only [Act.put, List.setIfInBounds_toArray, List.set_cons_zero, List.set_cons_succ, i64_w, i32_w]
                      rfl
                    refine take_ (i := 5) (N := some 28) (v := ?_) (a' := ?_) #[true, true, true, true, true, true, false, false, false, false, false, false] rfl rfl (take_ofW HT_.out HW_.out (by kernel_rfl)) (fun _ _ _ h => h) (Or.inl ⟨by rfl, ?_⟩) hHeld ?_ ?_
                    rotate_left
                    · rintro w' ⟨s0, s1, s2, s3, s4, s5, s6⟩
                      go_simp
                      with_reducible rfl
                    rotate_left
                    · simp only [Act.put, List.setIfInBounds_toArray, List.set_cons_zero, List.set_cons_succ, i64_w, i32_w]
                      rfl
                    refine pure_ (i := 6) (N := some 29) (v := ?_) (a' := ?_) #[true, true, true, true, true, true, true, false, false, false, false, false] rfl rfl (any_of HT_.out (by kernel_rfl)) (fun _ _ _ h => h) (Or.inl ⟨by rfl, ?_⟩) ?_ ?_
                    rotate_left
                    · intro w'
                      go_simp
                      with_reducible rfl
                    rotate_left
                    · simp only [Act.put, List.setIfInBounds_toArray, List.set_cons_zero, List.set_cons_succ, i64_w, i32_w]
                      rfl
                    refine pure_ (i := 7) (N := some 30) (v := ?_) (a' := ?_) #[true, true, true, true, true, true, true, true, false, false, false, false] rfl rfl (any_of HT_.out (by kernel_rfl)) (fun _ _ _ h => h) (Or.inl ⟨by rfl, ?_⟩) ?_ ?_
                    rotate_left
                    · intro w'
                      go_simp
                      with_reducible rfl
                    rotate_left
                    · simp only [Act.put, List.setIfInBounds_toArray, List.set_cons_zero, List.set_cons_succ, i64_w, i32_w]
                      rfl
                    refine pure_ (i := 8) (N := some 31) (v := ?_) (a' := ?_) #[true, true, true, true, true, true, true, true, true, false, false, false] rfl rfl (any_of HT_.out (by kernel_rfl)) (fun _ _ _ h => h) (Or.inl ⟨by rfl, ?_⟩) ?_ ?_
                    rotate_left
                    · intro w'
                      go_simp
                      with_reducible rfl
                    rotate_left
                    · simp only [Act.put, List.setIfInBounds_toArray, List.set_cons_zero, List.set_cons_succ, i64_w, i32_w]
                      rfl
                    refine pure_ (i := 9) (N := some 32) (v := ?_) (a' := ?_) #[true, true, true, true, true, true, true, true, true, true, false, false] rfl rfl (any_of HT_.out (by kernel_rfl)) (fun _ _ _ h => h) (Or.inl ⟨by rfl, ?_⟩) ?_ ?_
                    rotate_left
                    · intro w'
                      go_simp
                      with_reducible rfl
                    rotate_left
                    · simp only [Act.put, List.setIfInBounds_toArray, List.set_cons_zero, List.set_cons_succ, i64_w, i32_w]
                      rfl
                    refine take_ (i := 10) (N := some 33) (v := ?_) (a' := ?_) #[true, true, true, true, true, true, true, true, true, true, true, false] rfl rfl (take_ofW HT_.out HW_.out (by kernel_rfl)) (fun _ _ _ h => h) (Or.inl ⟨by rfl, ?_⟩) hHeld ?_ ?_
                    rotate_left
                    · rintro w' ⟨s0, s1, s2, s3, s4, s5, s6⟩
                      go_simp
                      with_reducible rfl
                    rotate_left
                    · simp only [Act.put, List.setIfInBounds_toArray, List.set_cons_zero, List.set_cons_succ, i64_w, i32_w]
                      rfl
                    refine pure_ (i := 11) (N := some 9) (v := ?_) (a' := ?_) #[true, true, true, true, true, true, true, true, true, true, true, true] rfl rfl (any_of HT_.out (by kernel_rfl)) (fun _ _ _ h => h) (Or.inl ⟨by rfl, ?_⟩) ?_ ?_
                    rotate_left
                    · intro w'
                      go_simp
                      with_reducible rfl
                    rotate_left
                    · simp only [Act.put, List.setIfInBounds_toArray, List.set_cons_zero, List.set_cons_succ, i64_w, i32_w]
                      rfl
                    refine done_ (done_of HT_.out (by kernel_rfl)) ?_
                    try go_wp2
                    have n0_ := Aside0.mk (Kd.R_drew HO476.out)
                    have n1_ := Aside0.mk (Kd.R_drew HO479.out)
                    have n2_ := Aside0.mk (Kd.S_drew HO484.out)
                    have n3_ := Aside0.mk (Kd.R_drew HL486_1.out)
                    have n4_ := Aside0.mk (blk_drew BK485.out)
                    have n5_ := Aside0.mk (Kd.C_drew HR486_1.out)
                    have n6_ := Aside0.mk (below_drew1 HB.out)
                    clear HO476
                    clear HO479
                    clear HO484
                    clear HL486_1
                    clear BK485
                    clear HR486_1
                    clear HB
                    have HO476 := n0_
                    have HO479 := n1_
                    have HO484 := n2_
                    have HL486_1 := n3_
                    have BK485 := n4_
                    have HR486_1 := n5_
                    have HB := n6_
                    clear n0_ n1_ n2_ n3_ n4_ n5_ n6_
                    have q95 : ((ji12) : Int) ≤ ((((rd_T34 t482 (ji8)).f1).length : Int) : Int) := of_decide_eq_true (by first | (with_reducible assumption) | assumption)
                    obtain ⟨i095, hi095, _, hsz95, _⟩ := info_parts info49
                    have hroom95 : ((rd_T34 t482 (ji8)).f1).length ≤ c486_1 := HC486_1.out
                    have hC95 : Kd.C k49 _ A486_1 ((rd_T34 t482 (ji8)).f1).length ((rd_T34 t482 (ji8)).f1) := (by repeat (first | (with_reducible exact HR486_1.out) | (with_reducible refine Kd.C_alloc ?_ _) | (with_reducible refine Kd.C_drewN ?_ _) | (with_reducible refine Kd.C_drew ?_) | exact HR486_1.out))
                    have hcut95 := cut_to (P := Try.prog) 27 49 .i64 Try.underlying27 hi095 A486_1 ((rd_T34 t482 (ji8)).f1).length c486_1 (ji12) (of_decide_eq_true (by first | (with_reducible assumption) | assumption)) q95 hroom95
                    have hr95 := Kd.C_take (m := ((ji12) : Int).toNat) hC95 (by omega)
                    have hy95 : y487.length = ((ji12) : Int).toNat := (by rw [Ny487.out, List.length_take]; omega)
                    rw [← Ny487.out] at hr95
                    rw [← hy95] at hcut95
                    have HR490 := Aside0.mk hr95
                    have HC490 := Aside0.mk (show y487.length ≤ c486_1 from by omega)
                    clear hr95 hC95 hroom95 hi095 hsz95
                    have KY95 := Aside0.mk hy95
                    clear hy95
                    replace q95 := eq_true q95
                    refine start_ (n := 10) (S := fun w' => w'.cell? ⟨gb485, 0, none⟩ = some (.slice Ao88 t474.length co88) ∧ w'.cell? ⟨gb485, 1, none⟩ = some (.slice Ao90 t477.length co90) ∧ w'.cell? ⟨gb485, 2, none⟩ = some (.int .i64 t480) ∧ w'.cell? ⟨gb485, 3, none⟩ = some (.int .i64 t481) ∧ w'.cell? ⟨gb485, 4, none⟩ = some (.slice (some ad486) t482.length co91)) (ds := []) #[false, false, false, false, false, false, false, false, false, false] (by kernel_rfl) rfl rfl ⟨(blk_cell BK485.out 0).trans rfl, (blk_cell BK485.out 1).trans rfl, (blk_cell BK485.out 2).trans rfl, (blk_cell BK485.out 3).trans rfl, (blk_cell BK485.out 4).trans rfl⟩ (fun hHeld => ?_); refine with_tabW regletlaw13_FirstsParts.tab7 regletlaw13_FirstsParts.bits7 (fun HT_ HW_ => ?_)
                    generalize w93.drew = w94 at HO476 HO479 HO484 HL486_1 BK485 HR486_1 HB HR490 hHeld ⊢
                    refine pure_ (i := 1) (N := some 42) (v := ?_) (a' := ?_) #[false, true, false, false, false, false, false, false, false, false] rfl rfl (any_of HT_.out (by kernel_rfl)) (fun _ _ _ h => h) (Or.inl ⟨by rfl, ?_⟩) ?_ ?_
                    rotate_left
                    · intro w'
                      go_simp
                      with_reducible rfl
                    rotate_left
                    · simp only [Act.put, List.setIfInBounds_toArray, List.set_cons_zero, List.set_cons_succ, i64_w, i32_w]
                      rfl
                    refine pure_ (i := 2) (N := some 43) (v := ?_) (a' := ?_) #[false, true, true, false, false, false, false, false, false, false] rfl rfl (any_of HT_.out (by kernel_rfl)) (fun _ _ _ h => h) (Or.inl ⟨by rfl, ?_⟩) ?_ ?_
                    rotate_left
                    · intro w'
                      go_simp
                      with_reducible rfl
                    rotate_left
                    · simp only [Act.put, List.setIfInBounds_toArray, List.set_cons_zero, List.set_cons_succ, i64_w, i32_w]
                      rfl
                    refine pure_ (i := 3) (N := some 44) (v := ?_) (a' := ?_) #[false, true, true, true, false, false, false, false, false, false] rfl rfl (any_of HT_.out (by kernel_rfl)) (fun _ _ _ h => h) (Or.inl ⟨by rfl, ?_⟩) ?_ ?_
                    rotate_left
                    · intro w'
                      go_simp
                      with_reducible rfl
                    rotate_left
                    · simp only [Act.put, List.setIfInBounds_toArray, List.set_cons_zero, List.set_cons_succ, i64_w, i32_w]
                      rfl
                    refine take_ (i := 0) (N := some 41) (v := ?_) (a' := ?_) #[true, true, true, true, false, false, false, false, false, false] rfl rfl (take_ofW HT_.out HW_.out (by kernel_rfl)) (fun _ _ _ h => h) (Or.inl ⟨by rfl, ?_⟩) hHeld ?_ ?_
                    rotate_left
                    · rintro w' ⟨s0, s1, s2, s3, s4⟩
                      go_simp
                      with_reducible rfl
                    rotate_left
                    · simp only [Act.put, List.setIfInBounds_toArray, List.set_cons_zero, List.set_cons_succ, i64_w, i32_w]
                      rfl
                    refine one_ (i := 4) (N := some 45) #[true, true, true, true, true, false, false, false, false, false] rfl rfl (one_of HT_.out (by kernel_rfl)) (by decide) (fun K hK => ?_)
                    refine goes_ Try.func21 (by kernel_rfl) rfl #[.agg #[.slice Ao88 t474.length co88, .slice Ao90 t477.length co90, .int .i64 t480, .int .i64 t481, .slice (some ad486) t482.length co91], .slice A486_1 y487.length c486_1] (by rfl) rfl rfl (by (try simp only [List.map_toArray, List.map_cons, List.map_nil]); first | done | rfl | (simp only [List.length_drop, List.length_take]; rfl)) ?_
                    with_reducible refine (firsts_Of.calls k _ _ t474 _ _ t477 t480 t481 _ _ t482 _ _ y487 t491 false _ ?side1 ?side2 ?side3 ?side4 ?side5 ?side6 ?side7 ?side8 A15.out).mono ?_
                    (case side1 => repeat (first | exact (Kd.R_reads' HO476.out).2.2 | (with_reducible refine Kd.C_alloc ?_ _) | (with_reducible refine Kd.C_drewN ?_ _) | (with_reducible refine Kd.C_drew ?_)))
                    (case side2 => exact (Kd.R_reads' HO476.out).2.1)
                    (case side3 => repeat (first | exact (Kd.R_reads' HO479.out).2.2 | (with_reducible refine Kd.C_alloc ?_ _) | (with_reducible refine Kd.C_drewN ?_ _) | (with_reducible refine Kd.C_drew ?_)))
                    (case side4 => exact (Kd.R_reads' HO479.out).2.1)
                    (case side5 => repeat (first | exact (Kd.S_reads' HO484.out).2.2 | (with_reducible refine Kd.C_alloc ?_ _) | (with_reducible refine Kd.C_drewN ?_ _) | (with_reducible refine Kd.C_drew ?_)))
                    (case side6 => exact (Kd.S_reads' HO484.out).2.1)
                    (case side7 => repeat (first | exact (by repeat (first | (with_reducible exact HR490.out) | (with_reducible refine Kd.C_alloc ?_ _) | (with_reducible refine Kd.C_drewN ?_ _) | (with_reducible refine Kd.C_drew ?_) | exact HR490.out)) | (with_reducible refine Kd.C_alloc ?_ _) | (with_reducible refine Kd.C_drewN ?_ _) | (with_reducible refine Kd.C_drew ?_)))
                    (case side8 => exact HC490.out)
                    rintro e w96 ⟨v492, rfl, ho0, hb⟩
                    refine ⟨_, rfl, ?_⟩
                    have n0_ := Aside0.mk (Kd.R_below (by (with_reducible repeat (first | apply Kd.R_alloc | apply Kd.R_drewN | apply Kd.R_drew)); exact HO476.out) hb)
                    have n1_ := Aside0.mk (Kd.R_elder' (by (with_reducible repeat (first | apply Kd.R_alloc | apply Kd.R_drewN | apply Kd.R_drew)); exact HO479.out) (Kd.R_base ho0) hb)
                    have n2_ := Aside0.mk (Kd.S_below (by (with_reducible repeat (first | apply Kd.S_alloc | apply Kd.S_drewN | apply Kd.S_drew)); exact HO484.out) hb)
                    have n3_ := Aside0.mk (Kd.R_below (by (with_reducible repeat (first | apply Kd.R_alloc | apply Kd.R_drewN | apply Kd.R_drew)); exact HL486_1.out) hb)
                    have n4_ := Aside0.mk (Kd.R_lower ho0 (below_size (by repeat (first | (with_reducible first | exact HB.out | apply below_alloc | apply pw_below_drewN | apply below_drew1 | refine below_set ?_ GE485.out) | exact HB.out))))
                    have n5_ := Aside0.mk (blk_below (g := gb485) (o := .cells #[.slice Ao88 t474.length co88, .slice Ao90 t477.length co90, .int .i64 t480, .int .i64 t481, .slice (some ad486) t482.length co91] 26 (0, 0)) (by (with_reducible repeat (first | refine blk_drewN ?_ _ | refine blk_drew ?_ | refine blk_alloc ?_ _)); exact BK485.out) hb)
                    have n6_ := Aside0.mk (Kd.C_below (by repeat (first | (with_reducible exact HR486_1.out) | (with_reducible refine Kd.C_alloc ?_ _) | (with_reducible refine Kd.C_drewN ?_ _) | (with_reducible refine Kd.C_drew ?_) | exact HR486_1.out)) hb)
                    have n7_ := Aside0.mk (Kd.C_below (by repeat (first | (with_reducible exact HR490.out) | (with_reducible refine Kd.C_alloc ?_ _) | (with_reducible refine Kd.C_drewN ?_ _) | (with_reducible refine Kd.C_drew ?_) | exact HR490.out)) hb)
                    have n8_ := Aside0.mk (below_step (by repeat (first | (with_reducible first | exact HB.out | apply below_alloc | apply pw_below_drewN | apply below_drew1 | refine below_set ?_ GE485.out) | exact HB.out)) hb)
                    clear HO476
                    clear HO479
                    clear HO484
                    clear HL486_1
                    clear BK485
                    clear HR486_1
                    clear HR490
                    clear HB
                    have HO476 := n0_
                    have HO479 := n1_
                    have HO484 := n2_
                    have HL486_1 := n3_
                    have HO493 := n4_
                    have BK485 := n5_
                    have HR486_1 := n6_
                    have HR490 := n7_
                    have HB := n8_
                    clear n0_ n1_ n2_ n3_ n4_ n5_ n6_ n7_ n8_
                    (try clear hb)
                    (try clear hb2)
                    (try clear hk)
                    (try clear hi)
                    (try clear ho0)
                    refine hK.out _ _ ⟨(blk_cell BK485.out 0).trans rfl, (blk_cell BK485.out 1).trans rfl, (blk_cell BK485.out 2).trans rfl, (blk_cell BK485.out 3).trans rfl, (blk_cell BK485.out 4).trans rfl⟩ (fun hHeld => ?_)
                    clear hK K
                    refine norm_ (a' := ?_) ?_ ?_
                    rotate_left
                    · show Act.put _ (some 45) _ = _
                      simp only [Act.put, List.setIfInBounds_toArray, List.set_cons_zero, List.set_cons_succ, i64_w, i32_w]
                      rfl
                    refine pure_ (i := 5) (N := some 40) (v := ?_) (a' := ?_) #[true, true, true, true, true, true, false, false, false, false] rfl rfl (any_of HT_.out (by kernel_rfl)) (fun _ _ _ h => h) (Or.inl ⟨by rfl, ?_⟩) ?_ ?_
                    rotate_left
                    · intro w'
                      go_simp
                      with_reducible rfl
                    rotate_left
                    · simp only [Act.put, List.setIfInBounds_toArray, List.set_cons_zero, List.set_cons_succ, i64_w, i32_w]
                      rfl
                    refine pure_ (i := 6) (N := some 46) (v := ?_) (a' := ?_) #[true, true, true, true, true, true, true, false, false, false] rfl rfl (any_of HT_.out (by kernel_rfl)) (fun _ _ _ h => h) (Or.inl ⟨by rfl, ?_⟩) ?_ ?_
                    rotate_left
                    · intro w'
                      go_simp
                      with_reducible rfl
                    rotate_left
                    · simp only [Act.put, List.setIfInBounds_toArray, List.set_cons_zero, List.set_cons_succ, i64_w, i32_w]
                      rfl
                    refine pure_ (i := 7) (N := some 47) (v := ?_) (a' := ?_) #[true, true, true, true, true, true, true, true, false, false] rfl rfl (any_of HT_.out (by kernel_rfl)) (fun _ _ _ h => h) (Or.inl ⟨by rfl, ?_⟩) ?_ ?_
                    rotate_left
                    · intro w'
                      go_simp
                      with_reducible rfl
                    rotate_left
                    · simp only [Act.put, List.setIfInBounds_toArray, List.set_cons_zero, List.set_cons_succ, i64_w, i32_w]
                      rfl
                    refine pure_ (i := 8) (N := some 11) (v := ?_) (a' := ?_) #[true, true, true, true, true, true, true, true, true, false] rfl rfl (any_of HT_.out (by kernel_rfl)) (fun _ _ _ h => h) (Or.inl ⟨by rfl, ?_⟩) ?_ ?_
                    rotate_left
                    · intro w'
                      go_simp
                      with_reducible rfl
                    rotate_left
                    · simp only [Act.put, List.setIfInBounds_toArray, List.set_cons_zero, List.set_cons_succ, i64_w, i32_w]
                      rfl
                    refine pure_ (i := 9) (N := some 12) (v := ?_) (a' := ?_) #[true, true, true, true, true, true, true, true, true, true] rfl rfl (any_of HT_.out (by kernel_rfl)) (fun _ _ _ h => h) (Or.inl ⟨by rfl, ?_⟩) ?_ ?_
                    rotate_left
                    · intro w'
                      go_simp
                      with_reducible rfl
                    rotate_left
                    · simp only [Act.put, List.setIfInBounds_toArray, List.set_cons_zero, List.set_cons_succ, i64_w, i32_w]
                      rfl
                    refine done_ (done_of HT_.out (by kernel_rfl)) ?_
                    try go_wp2
                    have n0_ := Aside0.mk (Kd.R_drew HO476.out)
                    have n1_ := Aside0.mk (Kd.R_drew HO479.out)
                    have n2_ := Aside0.mk (Kd.S_drew HO484.out)
                    have n3_ := Aside0.mk (Kd.R_drew HL486_1.out)
                    have n4_ := Aside0.mk (Kd.R_drew HO493.out)
                    have n5_ := Aside0.mk (blk_drew BK485.out)
                    have n6_ := Aside0.mk (Kd.C_drew HR486_1.out)
                    have n7_ := Aside0.mk (Kd.C_drew HR490.out)
                    have n8_ := Aside0.mk (below_drew1 HB.out)
                    clear HO476
                    clear HO479
                    clear HO484
                    clear HL486_1
                    clear HO493
                    clear BK485
                    clear HR486_1
                    clear HR490
                    clear HB
                    have HO476 := n0_
                    have HO479 := n1_
                    have HO484 := n2_
                    have HL486_1 := n3_
                    have HO493 := n4_
                    have BK485 := n5_
                    have HR486_1 := n6_
                    have HR490 := n7_
                    have HB := n8_
                    clear n0_ n1_ n2_ n3_ n4_ n5_ n6_ n7_ n8_
                    have q98 : ((ji12) : Int) ≤ ((((rd_T34 t482 (ji8)).f1).length : Int) : Int) := of_decide_eq_true (by first | (with_reducible assumption) | assumption)
                    obtain ⟨i098, hi098, _, hsz98, _⟩ := info_parts info49
                    have hroom98 : ((rd_T34 t482 (ji8)).f1).length ≤ c486_1 := HC486_1.out
                    have hC98 : Kd.C k49 _ A486_1 ((rd_T34 t482 (ji8)).f1).length ((rd_T34 t482 (ji8)).f1) := (by repeat (first | (with_reducible exact HR486_1.out) | (with_reducible refine Kd.C_alloc ?_ _) | (with_reducible refine Kd.C_drewN ?_ _) | (with_reducible refine Kd.C_drew ?_) | exact HR486_1.out))
                    have q098 : (0 : Int) ≤ ((ji12) : Int) := of_decide_eq_true (by first | (with_reducible assumption) | assumption)
                    have hcut98 := cut_from (P := Try.prog) 27 49 .i64 Try.underlying27 hi098 2 hsz98 A486_1 ((rd_T34 t482 (ji8)).f1).length c486_1 (ji12) q098 q98
                    have hr98 := Kd.C_drop (m := ((ji12) : Int).toNat) (c := c486_1) hC98 (by omega) hroom98
                    obtain ⟨A98, hA98⟩ : ∃ A1, A1 = (if c486_1 = ((ji12) : Int).toNat then A486_1 else (A486_1 : Option Addr).map (·.add (((ji12) : Int).toNat * 2))) := ⟨_, rfl⟩
                    obtain ⟨c98, hc98⟩ : ∃ c1, c1 = c486_1 - ((ji12) : Int).toNat := ⟨_, rfl⟩
                    have hy98 : y495.length = ((rd_T34 t482 (ji8)).f1).length - ((ji12) : Int).toNat := (by rw [Ny495.out, List.length_drop] <;> omega)
                    rw [show ((rd_T34 t482 (ji8)).f1).drop ((ji12) : Int).toNat = y495 from Ny495.out.symm] at hr98
                    replace hr98 : Kd.C k49 _ A98 y495.length y495 := (by rw [hA98]; exact hr98)
                    rw [← hy98, ← hA98, ← hc98] at hcut98
                    have HR498 := Aside0.mk hr98
                    have HC498 := Aside0.mk (show y495.length ≤ c98 from by rw [hy98, hc98]; exact Nat.sub_le_sub_right hroom98 _)
                    clear hr98 hC98 hroom98 hi098 hsz98 hc98
                    have KY98 := Aside0.mk hy98
                    have KA98 := Aside0.mk hA98
                    clear hy98 hA98
                    replace q98 := eq_true q98
                    refine start_ (n := 10) (S := fun w' => w'.cell? ⟨gb485, 0, none⟩ = some (.slice Ao88 t474.length co88) ∧ w'.cell? ⟨gb485, 1, none⟩ = some (.slice Ao90 t477.length co90) ∧ w'.cell? ⟨gb485, 2, none⟩ = some (.int .i64 t480) ∧ w'.cell? ⟨gb485, 3, none⟩ = some (.int .i64 t481) ∧ w'.cell? ⟨gb485, 4, none⟩ = some (.slice (some ad486) t482.length co91)) (ds := []) #[false, false, false, false, false, false, false, false, false, false] (by kernel_rfl) rfl rfl ⟨(blk_cell BK485.out 0).trans rfl, (blk_cell BK485.out 1).trans rfl, (blk_cell BK485.out 2).trans rfl, (blk_cell BK485.out 3).trans rfl, (blk_cell BK485.out 4).trans rfl⟩ (fun hHeld => ?_); refine with_tabW regletlaw13_FirstsParts.tab8 regletlaw13_FirstsParts.bits8 (fun HT_ HW_ => ?_)
                    generalize w96.drew = w97 at HO476 HO479 HO484 HL486_1 HO493 BK485 HR486_1 HR490 HB HR498 hHeld ⊢
                    refine pure_ (i := 1) (N := some 50) (v := ?_) (a' := ?_) #[false, true, false, false, false, false, false, false, false, false] rfl rfl (any_of HT_.out (by kernel_rfl)) (fun _ _ _ h => h) (Or.inl ⟨by rfl, ?_⟩) ?_ ?_
                    rotate_left
                    · intro w'
                      go_simp
                      with_reducible rfl
                    rotate_left
                    · simp only [Act.put, List.setIfInBounds_toArray, List.set_cons_zero, List.set_cons_succ, i64_w, i32_w]
                      rfl
                    refine pure_ (i := 2) (N := some 51) (v := ?_) (a' := ?_) #[false, true, true, false, false, false, false, false, false, false] rfl rfl (any_of HT_.out (by kernel_rfl)) (fun _ _ _ h => h) (Or.inl ⟨by rfl, ?_⟩) ?_ ?_
                    rotate_left
                    · intro w'
                      go_simp
                      with_reducible rfl
                    rotate_left
                    · simp only [Act.put, List.setIfInBounds_toArray, List.set_cons_zero, List.set_cons_succ, i64_w, i32_w]
                      rfl
                    refine pure_ (i := 3) (N := some 52) (v := ?_) (a' := ?_) #[false, true, true, true, false, false, false, false, false, false] rfl rfl (any_of HT_.out (by kernel_rfl)) (fun _ _ _ h => h) (Or.inl ⟨by rfl, ?_⟩) ?_ ?_
                    rotate_left
                    · intro w'
                      go_simp
                      with_reducible rfl
                    rotate_left
                    · simp only [Act.put, List.setIfInBounds_toArray, List.set_cons_zero, List.set_cons_succ, i64_w, i32_w]
                      rfl
                    refine take_ (i := 0) (N := some 49) (v := ?_) (a' := ?_) #[true, true, true, true, false, false, false, false, false, false] rfl rfl (take_ofW HT_.out HW_.out (by kernel_rfl)) (fun _ _ _ h => h) (Or.inl ⟨by rfl, ?_⟩) hHeld ?_ ?_
                    rotate_left
                    · rintro w' ⟨s0, s1, s2, s3, s4⟩
                      go_simp
                      with_reducible rfl
                    rotate_left
                    · simp only [Act.put, List.setIfInBounds_toArray, List.set_cons_zero, List.set_cons_succ, i64_w, i32_w]
                      rfl
                    refine one_ (i := 4) (N := some 53) #[true, true, true, true, true, false, false, false, false, false] rfl rfl (one_of HT_.out (by kernel_rfl)) (by decide) (fun K hK => ?_)
                    refine goes_ Try.func21 (by kernel_rfl) rfl #[.agg #[.slice Ao88 t474.length co88, .slice Ao90 t477.length co90, .int .i64 t480, .int .i64 t481, .slice (some ad486) t482.length co91], .slice A98 y495.length c98] (by rfl) rfl rfl (by (try simp only [List.map_toArray, List.map_cons, List.map_nil]); first | done | rfl | (simp only [List.length_drop, List.length_take]; rfl)) ?_
                    with_reducible refine (firsts_Of.calls k _ _ t474 _ _ t477 t480 t481 _ _ t482 _ _ y495 t499 t502 _ ?side1 ?side2 ?side3 ?side4 ?side5 ?side6 ?side7 ?side8 A18.out).mono ?_
                    (case side1 => repeat (first | exact (Kd.R_reads' HO476.out).2.2 | (with_reducible refine Kd.C_alloc ?_ _) | (with_reducible refine Kd.C_drewN ?_ _) | (with_reducible refine Kd.C_drew ?_)))
                    (case side2 => exact (Kd.R_reads' HO476.out).2.1)
                    (case side3 => repeat (first | exact (Kd.R_reads' HO479.out).2.2 | (with_reducible refine Kd.C_alloc ?_ _) | (with_reducible refine Kd.C_drewN ?_ _) | (with_reducible refine Kd.C_drew ?_)))
                    (case side4 => exact (Kd.R_reads' HO479.out).2.1)
                    (case side5 => repeat (first | exact (Kd.S_reads' HO484.out).2.2 | (with_reducible refine Kd.C_alloc ?_ _) | (with_reducible refine Kd.C_drewN ?_ _) | (with_reducible refine Kd.C_drew ?_)))
                    (case side6 => exact (Kd.S_reads' HO484.out).2.1)
                    (case side7 => repeat (first | exact (by repeat (first | (with_reducible exact HR498.out) | (with_reducible refine Kd.C_alloc ?_ _) | (with_reducible refine Kd.C_drewN ?_ _) | (with_reducible refine Kd.C_drew ?_) | exact HR498.out)) | (with_reducible refine Kd.C_alloc ?_ _) | (with_reducible refine Kd.C_drewN ?_ _) | (with_reducible refine Kd.C_drew ?_)))
                    (case side8 => exact HC498.out)
                    rintro e w99 ⟨v500, rfl, ho0, hb⟩
                    refine ⟨_, rfl, ?_⟩
                    have n0_ := Aside0.mk (Kd.R_below (by (with_reducible repeat (first | apply Kd.R_alloc | apply Kd.R_drewN | apply Kd.R_drew)); exact HO476.out) hb)
                    have n1_ := Aside0.mk (Kd.R_elder' (by (with_reducible repeat (first | apply Kd.R_alloc | apply Kd.R_drewN | apply Kd.R_drew)); exact HO479.out) (Kd.R_base ho0) hb)
                    have n2_ := Aside0.mk (Kd.S_below (by (with_reducible repeat (first | apply Kd.S_alloc | apply Kd.S_drewN | apply Kd.S_drew)); exact HO484.out) hb)
                    have n3_ := Aside0.mk (Kd.R_below (by (with_reducible repeat (first | apply Kd.R_alloc | apply Kd.R_drewN | apply Kd.R_drew)); exact HL486_1.out) hb)
                    have n4_ := Aside0.mk (Kd.R_elder' (by (with_reducible repeat (first | apply Kd.R_alloc | apply Kd.R_drewN | apply Kd.R_drew)); exact HO493.out) (Kd.R_base ho0) hb)
                    have n5_ := Aside0.mk (Kd.R_lower (Kd.R_new' ho0 (Kd.R_lt (by (with_reducible repeat (first | apply Kd.R_alloc | apply Kd.R_drewN | apply Kd.R_drew)); exact HO493.out))) (below_size (by repeat (first | (with_reducible first | exact HB.out | apply below_alloc | apply pw_below_drewN | apply below_drew1 | refine below_set ?_ GE485.out) | exact HB.out))))
                    have n6_ := Aside0.mk (blk_below (g := gb485) (o := .cells #[.slice Ao88 t474.length co88, .slice Ao90 t477.length co90, .int .i64 t480, .int .i64 t481, .slice (some ad486) t482.length co91] 26 (0, 0)) (by (with_reducible repeat (first | refine blk_drewN ?_ _ | refine blk_drew ?_ | refine blk_alloc ?_ _)); exact BK485.out) hb)
                    have n7_ := Aside0.mk (Kd.C_below (by repeat (first | (with_reducible exact HR486_1.out) | (with_reducible refine Kd.C_alloc ?_ _) | (with_reducible refine Kd.C_drewN ?_ _) | (with_reducible refine Kd.C_drew ?_) | exact HR486_1.out)) hb)
                    have n8_ := Aside0.mk (Kd.C_below (by repeat (first | (with_reducible exact HR490.out) | (with_reducible refine Kd.C_alloc ?_ _) | (with_reducible refine Kd.C_drewN ?_ _) | (with_reducible refine Kd.C_drew ?_) | exact HR490.out)) hb)
                    have n9_ := Aside0.mk (Kd.C_below (by repeat (first | (with_reducible exact HR498.out) | (with_reducible refine Kd.C_alloc ?_ _) | (with_reducible refine Kd.C_drewN ?_ _) | (with_reducible refine Kd.C_drew ?_) | exact HR498.out)) hb)
                    have n10_ := Aside0.mk (below_step (by repeat (first | (with_reducible first | exact HB.out | apply below_alloc | apply pw_below_drewN | apply below_drew1 | refine below_set ?_ GE485.out) | exact HB.out)) hb)
                    clear HO476
                    clear HO479
                    clear HO484
                    clear HL486_1
                    clear HO493
                    clear BK485
                    clear HR486_1
                    clear HR490
                    clear HR498
                    clear HB
                    have HO476 := n0_
                    have HO479 := n1_
                    have HO484 := n2_
                    have HL486_1 := n3_
                    have HO493 := n4_
                    have HO501 := n5_
                    have BK485 := n6_
                    have HR486_1 := n7_
                    have HR490 := n8_
                    have HR498 := n9_
                    have HB := n10_
                    clear n0_ n1_ n2_ n3_ n4_ n5_ n6_ n7_ n8_ n9_ n10_
                    (try clear hb)
                    (try clear hb2)
                    (try clear hk)
                    (try clear hi)
                    (try clear ho0)
                    refine hK.out _ _ ⟨(blk_cell BK485.out 0).trans rfl, (blk_cell BK485.out 1).trans rfl, (blk_cell BK485.out 2).trans rfl, (blk_cell BK485.out 3).trans rfl, (blk_cell BK485.out 4).trans rfl⟩ (fun hHeld => ?_)
                    clear hK K
                    refine norm_ (a' := ?_) ?_ ?_
                    rotate_left
                    · show Act.put _ (some 53) _ = _
                      simp only [Act.put, List.setIfInBounds_toArray, List.set_cons_zero, List.set_cons_succ, i64_w, i32_w]
                      rfl
                    refine pure_ (i := 5) (N := some 48) (v := ?_) (a' := ?_) #[true, true, true, true, true, true, false, false, false, false] rfl rfl (any_of HT_.out (by kernel_rfl)) (fun _ _ _ h => h) (Or.inl ⟨by rfl, ?_⟩) ?_ ?_
                    rotate_left
                    · intro w'
                      go_simp
                      with_reducible rfl
                    rotate_left
                    · simp only [Act.put, List.setIfInBounds_toArray, List.set_cons_zero, List.set_cons_succ, i64_w, i32_w]
                      rfl
                    refine pure_ (i := 6) (N := some 54) (v := ?_) (a' := ?_) #[true, true, true, true, true, true, true, false, false, false] rfl rfl (any_of HT_.out (by kernel_rfl)) (fun _ _ _ h => h) (Or.inl ⟨by rfl, ?_⟩) ?_ ?_
                    rotate_left
                    · intro w'
                      go_simp
                      with_reducible rfl
                    rotate_left
                    · simp only [Act.put, List.setIfInBounds_toArray, List.set_cons_zero, List.set_cons_succ, i64_w, i32_w]
                      rfl
                    refine pure_ (i := 7) (N := some 55) (v := ?_) (a' := ?_) #[true, true, true, true, true, true, true, true, false, false] rfl rfl (any_of HT_.out (by kernel_rfl)) (fun _ _ _ h => h) (Or.inl ⟨by rfl, ?_⟩) ?_ ?_
                    rotate_left
                    · intro w'
                      go_simp
                      with_reducible rfl
                    rotate_left
                    · simp only [Act.put, List.setIfInBounds_toArray, List.set_cons_zero, List.set_cons_succ, i64_w, i32_w]
                      rfl
                    refine pure_ (i := 8) (N := some 13) (v := ?_) (a' := ?_) #[true, true, true, true, true, true, true, true, true, false] rfl rfl (any_of HT_.out (by kernel_rfl)) (fun _ _ _ h => h) (Or.inl ⟨by rfl, ?_⟩) ?_ ?_
                    rotate_left
                    · intro w'
                      go_simp
                      with_reducible rfl
                    rotate_left
                    · simp only [Act.put, List.setIfInBounds_toArray, List.set_cons_zero, List.set_cons_succ, i64_w, i32_w]
                      rfl
                    refine pure_ (i := 9) (N := some 14) (v := ?_) (a' := ?_) #[true, true, true, true, true, true, true, true, true, true] rfl rfl (any_of HT_.out (by kernel_rfl)) (fun _ _ _ h => h) (Or.inl ⟨by rfl, ?_⟩) ?_ ?_
                    rotate_left
                    · intro w'
                      go_simp
                      with_reducible rfl
                    rotate_left
                    · simp only [Act.put, List.setIfInBounds_toArray, List.set_cons_zero, List.set_cons_succ, i64_w, i32_w]
                      rfl
                    refine done_ (done_of HT_.out (by kernel_rfl)) ?_
                    have hcz100_0 : w99.cell? ⟨gb485, 0, none⟩ = some (.slice Ao88 t474.length co88) := (blk_cell BK485.out 0).trans rfl
                    have hcz100_1 : w99.cell? ⟨gb485, 1, none⟩ = some (.slice Ao90 t477.length co90) := (blk_cell BK485.out 1).trans rfl
                    have hcz100_2 : w99.cell? ⟨gb485, 2, none⟩ = some (.int .i64 t480) := (blk_cell BK485.out 2).trans rfl
                    have hcz100_3 : w99.cell? ⟨gb485, 3, none⟩ = some (.int .i64 t481) := (blk_cell BK485.out 3).trans rfl
                    have hcz100_4 : w99.cell? ⟨gb485, 4, none⟩ = some (.slice (some ad486) t482.length co91) := (blk_cell BK485.out 4).trans rfl
                    have hfz100_0 := blk_frozen BK485.out 0
                    have hfz100_1 := blk_frozen BK485.out 1
                    have hfz100_2 := blk_frozen BK485.out 2
                    have hfz100_3 := blk_frozen BK485.out 3
                    have hfz100_4 := blk_frozen BK485.out 4
                    try go_wp2_with (first | ((with_reducible refine gate_callee (f := 21) rfl ?_); refine goesL_ (some 59) rfl rfl Try.func21 (by kernel_rfl) rfl #[.agg #[.slice Ao88 t474.length co88, .slice Ao90 t477.length co90, .int .i64 t480, .int .i64 t481, .slice (some ad486) t482.length co91], .slice A486_1 ((rd_T34 t482 (ji8)).f1).length c486_1] rfl (by (try simp only [List.map_toArray, List.map_cons, List.map_nil]); first | done | (simp only [hji8]; rfl) | rfl | (simp only [List.length_drop, List.length_take]; rfl)) ?_; (with_reducible refine (firsts_Of.calls k _ _ t474 _ _ t477 t480 t481 _ _ t482 _ _ ((rd_T34 t482 (ji8)).f1) t503 t506 _ ?side1 ?side2 ?side3 ?side4 ?side5 ?side6 ?side7 ?side8 A19.out).mono ?_); (case side1 => repeat (first | exact (Kd.R_reads' HO476.out).2.2 | (with_reducible refine Kd.C_alloc ?_ _) | (with_reducible refine Kd.C_drewN ?_ _) | (with_reducible refine Kd.C_drew ?_))); (case side2 => exact (Kd.R_reads' HO476.out).2.1); (case side3 => repeat (first | exact (Kd.R_reads' HO479.out).2.2 | (with_reducible refine Kd.C_alloc ?_ _) | (with_reducible refine Kd.C_drewN ?_ _) | (with_reducible refine Kd.C_drew ?_))); (case side4 => exact (Kd.R_reads' HO479.out).2.1); (case side5 => repeat (first | exact (Kd.S_reads' HO484.out).2.2 | (with_reducible refine Kd.C_alloc ?_ _) | (with_reducible refine Kd.C_drewN ?_ _) | (with_reducible refine Kd.C_drew ?_))); (case side6 => exact (Kd.S_reads' HO484.out).2.1); (case side7 => repeat (first | exact (by repeat (first | (with_reducible exact HR486_1.out) | (with_reducible refine Kd.C_alloc ?_ _) | (with_reducible refine Kd.C_drewN ?_ _) | (with_reducible refine Kd.C_drew ?_) | exact HR486_1.out)) | (with_reducible refine Kd.C_alloc ?_ _) | (with_reducible refine Kd.C_drewN ?_ _) | (with_reducible refine Kd.C_drew ?_))); (case side8 => exact HC486_1.out); rintro e w101 ⟨v504, rfl, ho0, hb⟩; refine ⟨_, rfl, ?_⟩; have n0_ := Aside0.mk (Kd.R_below (by (with_reducible repeat (first | apply Kd.R_alloc | apply Kd.R_drewN | apply Kd.R_drew)); exact HO476.out) hb); have n1_ := Aside0.mk (Kd.R_elder' (by (with_reducible repeat (first | apply Kd.R_alloc | apply Kd.R_drewN | apply Kd.R_drew)); exact HO479.out) (Kd.R_base ho0) hb); have n2_ := Aside0.mk (Kd.S_below (by (with_reducible repeat (first | apply Kd.S_alloc | apply Kd.S_drewN | apply Kd.S_drew)); exact HO484.out) hb); have n3_ := Aside0.mk (Kd.R_below (by (with_reducible repeat (first | apply Kd.R_alloc | apply Kd.R_drewN | apply Kd.R_drew)); exact HL486_1.out) hb); have n4_ := Aside0.mk (Kd.R_elder' (by (with_reducible repeat (first | apply Kd.R_alloc | apply Kd.R_drewN | apply Kd.R_drew)); exact HO493.out) (Kd.R_base ho0) hb); have n5_ := Aside0.mk (Kd.R_elder' (by (with_reducible repeat (first | apply Kd.R_alloc | apply Kd.R_drewN | apply Kd.R_drew)); exact HO501.out) (Kd.R_base ho0) hb); have n6_ := Aside0.mk (Kd.R_lower (Kd.R_new' (Kd.R_new' ho0 (Kd.R_lt (by (with_reducible repeat (first | apply Kd.R_alloc | apply Kd.R_drewN | apply Kd.R_drew)); exact HO493.out))) (Kd.R_lt (by (with_reducible repeat (first | apply Kd.R_alloc | apply Kd.R_drewN | apply Kd.R_drew)); exact HO501.out))) (below_size (by repeat (first | (with_reducible first | exact HB.out | apply below_alloc | apply pw_below_drewN | apply below_drew1 | refine below_set ?_ GE485.out) | exact HB.out)))); have n7_ := Aside0.mk (blk_below (g := gb485) (o := .cells #[.slice Ao88 t474.length co88, .slice Ao90 t477.length co90, .int .i64 t480, .int .i64 t481, .slice (some ad486) t482.length co91] 26 (0, 0)) (by (with_reducible repeat (first | refine blk_drewN ?_ _ | refine blk_drew ?_ | refine blk_alloc ?_ _)); exact BK485.out) hb); have n8_ := Aside0.mk (Kd.C_below (by repeat (first | (with_reducible exact HR486_1.out) | (with_reducible refine Kd.C_alloc ?_ _) | (with_reducible refine Kd.C_drewN ?_ _) | (with_reducible refine Kd.C_drew ?_) | exact HR486_1.out)) hb); have n9_ := Aside0.mk (Kd.C_below (by repeat (first | (with_reducible exact HR490.out) | (with_reducible refine Kd.C_alloc ?_ _) | (with_reducible refine Kd.C_drewN ?_ _) | (with_reducible refine Kd.C_drew ?_) | exact HR490.out)) hb); have n10_ := Aside0.mk (Kd.C_below (by repeat (first | (with_reducible exact HR498.out) | (with_reducible refine Kd.C_alloc ?_ _) | (with_reducible refine Kd.C_drewN ?_ _) | (with_reducible refine Kd.C_drew ?_) | exact HR498.out)) hb); have n11_ := Aside0.mk (below_step (by repeat (first | (with_reducible first | exact HB.out | apply below_alloc | apply pw_below_drewN | apply below_drew1 | refine below_set ?_ GE485.out) | exact HB.out)) hb); clear HO476; clear HO479; clear HO484; clear HL486_1; clear HO493; clear HO501; clear BK485; clear HR486_1; clear HR490; clear HR498; clear HB; have HO476 := n0_; have HO479 := n1_; have HO484 := n2_; have HL486_1 := n3_; have HO493 := n4_; have HO501 := n5_; have HO505 := n6_; have BK485 := n7_; have HR486_1 := n8_; have HR490 := n9_; have HR498 := n10_; have HB := n11_; clear n0_ n1_ n2_ n3_ n4_ n5_ n6_ n7_ n8_ n9_ n10_ n11_; (try clear hb); (try clear hb2); (try clear hk); (try clear hi); (try clear ho0); obtain ⟨Ao102, co102, eo102⟩ := Kd.R_slice HO493.out; subst eo102; obtain ⟨Ao103, co103, eo103⟩ := Kd.R_slice HO505.out; subst eo103) | (go_at_call 22; (with_reducible refine (regletref13_SameInts.calls k _ _ t491 _ _ t503 false _ ?side1 ?side2 ?side3 ?side4 A64.out).mono ?_); (case side1 => repeat (first | exact (Kd.R_reads' HO493.out).2.2 | (with_reducible refine Kd.C_alloc ?_ _) | (with_reducible refine Kd.C_drewN ?_ _) | (with_reducible refine Kd.C_drew ?_))); (case side2 => exact (Kd.R_reads' HO493.out).2.1); (case side3 => repeat (first | exact (Kd.R_reads' HO505.out).2.2 | (with_reducible refine Kd.C_alloc ?_ _) | (with_reducible refine Kd.C_drewN ?_ _) | (with_reducible refine Kd.C_drew ?_))); (case side4 => exact (Kd.R_reads' HO505.out).2.1); rintro e w' ⟨rfl, ⟨nd, rfl⟩⟩))
                    go_ret
                    exact ⟨by first | rfl | (simp [errW_none, errW_some] <;> rfl) | (simp only [← hji8, ← hji12]; first | rfl | (simp [errW_none, errW_some] <;> rfl)) | (simp [*, errW_none, errW_some] <;> rfl), by repeat (first | (with_reducible first | exact HB.out | apply below_alloc | apply pw_below_drewN | apply below_drew1 | refine below_set ?_ GE485.out) | exact HB.out)⟩
              · rw [if_neg c14] at H
                exact absurd H (by simp)
            · rw [if_neg c13] at H
              exact absurd H (by simp)
        · rw [if_neg c10] at H
          exact absurd H (by simp)
      · rw [if_neg c9] at H
        exact absurd H (by simp)
  · replace c5 := Bool.eq_false_iff.mpr c5
    subst c5
    have H1 : (some false) = some r := by rw [if_neg (show ¬ (false = true) by decide)] at H; exact H
    clear H
    have H := H1
    clear H1
    obtain rfl := Option.some.inj H
    go_enter Try.func8, Try.ntmps8
    go_wp2_with (first | ((with_reducible refine gate_callee (f := 9) rfl ?_); refine goesL_ (some 18) rfl rfl Try.func9 (by kernel_rfl) rfl #[] rfl (by (try simp only [List.map_toArray, List.map_cons, List.map_nil]); first | done | rfl | (simp only [List.length_drop, List.length_take]; rfl)) ?_; (with_reducible refine (regletlaw13_awake.calls k  false _ A4.out).mono ?_); rintro e w104 ⟨rfl, hb⟩; refine ⟨_, rfl, ?_⟩; have n0_ := Aside0.mk (below_step (by repeat (first | (with_reducible first | exact HB.out | apply below_alloc | apply pw_below_drewN | apply below_drew1) | exact HB.out)) hb); clear HB; have HB := n0_; clear n0_; (try clear hb); (try clear hb2); (try clear hk); (try clear hi)))
    go_ret
    exact ⟨by first | rfl | (simp [errW_none, errW_some] <;> rfl) | (simp [*, errW_none, errW_some] <;> rfl), by repeat (first | (with_reducible first | exact HB.out | apply below_alloc | apply pw_below_drewN | apply below_drew1) | exact HB.out)⟩
def regletlaw13_FirstsParts.Pure : Prop := ∀ (l0 : List Int) (a1 : Int) (a2 : Int), l0.length ≤ maxLen → l0.length * 1 ≤ 140737488351232 → (∀ x ∈ l0, (Lit.int .u8 x).wf = true) → (Lit.int .u8 a1).wf = true → (Lit.int .u8 a2).wf = true → ∃ k, regletlaw13_FirstsParts.f k l0 a1 a2 = some true
theorem regletlaw13_FirstsParts.walk (P : regletlaw13_FirstsParts.Pure) (a0 : Option Addr) (len0 cap0 : Nat) (z0 : List Int) (a1 : Int) (a2 : Int) (w : World) (w0 : (a0 = none ∧ len0 = 0 ∧ cap0 = 0 ∧ z0 = []) ∨ ∃ x, a0 = some x ∧ len0 ≤ cap0 ∧ cap0 ≤ maxLen ∧ z0.length = cap0 ∧ (∀ i, i < z0.length → w.cell? (x.add i) = some (.int .u8 (z0.getD i 0))) ∧ ∀ n ∈ z0, (Lit.int .u8 n).wf = true) (y0 : len0 * 1 ≤ 140737488351232) (w1 : (Lit.int .u8 a1).wf = true) (w2 : (Lit.int .u8 a2).wf = true) :
    Calls Try.prog 8 #[.slice a0 len0 cap0, .int .u8 a1, .int .u8 a2] w fun e w' => e = .returned (.bool true) ∧ Below w.heap.size w w' := by
  obtain ⟨l0, rfl, hr0, hm0, hw0, hc0⟩ := ReadsInt.ofRowC w0
  obtain ⟨k, h⟩ := P l0 a1 a2 hm0 y0 hw0 w1 w2
  refine (regletlaw13_FirstsParts.calls k _ _ l0 a1 a2 true w (Kd.C_of_reads (d := (0 : Int)) (h1 := fun _ => rfl) hr0) hc0 h).mono ?_
  rintro e w' ⟨rfl, hd⟩
  exact ⟨rfl, hd⟩
end Go.Proofs.Ytojdjjbkpbapfaa.P
end

section
namespace Go.Proofs.Ytojdjjbkpbapfaa.M
open Go.RowKit Go.Proofs.YtojdjjbkpbapfaaW.PrintWords Go.Proofs.YtojdjjbkpbapfaaW.PrintLast Go.Proofs.YtojdjjbkpbapfaaW.PrintMore Go.Proofs.Ytojdjjbkpbapfaa.P Go.Proofs.Ytojdjjbkpbapfaa.H
set_option linter.unusedVariables false
set_option linter.unusedSimpArgs false
abbrev Sym := S49
abbrev Prod := S34
abbrev Tok := S62
theorem rdOf_mid {α : Type} (d : α) (p : List α) (x : α) (a : List α) (n : Int) (h : n = p.length) : rdOf d (p ++ x :: a) n = x := by
  subst h; simp [rdOf]
theorem getD_mid {α : Type} (d : α) (p : List α) (x : α) (a : List α) (n : Int) (h : n = p.length) : (p ++ x :: a).getD n.toNat d = x := by
  subst h; simp
theorem set_mid {α : Type} (p : List α) (x v : α) (a : List α) (n : Int) (h : n = p.length) : (p ++ x :: a).set n.toNat v = p ++ v :: a := by
  subst h; simp
theorem wrap_next {α : Type} (p : List α) (v : α) (h : p.length ≤ 1000000) : wrap64 ((p.length : Int) + 1) = ((p ++ [v]).length : Int) := by
  rw [wrap64_id (by omega) (by omega)]; simp
def orL (a b : List Bool) : List Bool := List.zipWith (· || ·) a b
def moreL : List Bool → List Bool → Bool
  | x :: a, y :: b => (y && !x) || moreL a b
  | _, _ => false
theorem orL_length {a b : List Bool} (h : a.length = b.length) : (orL a b).length = a.length := by simp [orL, h]
theorem add_l0_ev : ∀ (a b pre preb : List Bool) (g : Bool), a.length = b.length → pre.length = preb.length → pre.length + a.length ≤ 1000000 → Ev (fun k => firsts_set_add.l0 k (pre ++ a) g (preb ++ b) ((preb ++ b).length : Int) (pre.length : Int)) (g || moreL a b, pre ++ orL a b)
  | [], [], pre, preb, g, _, h2, _ => by
    refine Ev.step (fun k => by rw [firsts_set_add.l0]) (Ev.neg (by simp [h2]) (Ev.some (by simp [moreL, orL])))
  | x :: a, y :: b, pre, preb, g, h1, h2, h3 => by
    have h1' : a.length = b.length := by simpa using h1
    simp only [List.length_cons] at h3
    have ih := fun g v => add_l0_ev a b (pre ++ [v]) (preb ++ [y]) g h1' (by simp [h2]) (by simp; omega)
    simp only [← wrap_next pre _ (show pre.length ≤ 1000000 by omega), List.append_assoc, List.singleton_append] at ih
    refine Ev.step (fun k => by rw [firsts_set_add.l0]) ?_
    refine Ev.pos (by simp; omega) (Ev.pos (by omega) (Ev.pos (by simp; omega) ?_))
    rw [rdOf_mid _ preb y b _ (by rw [h2]), rdOf_mid _ pre x a _ rfl]
    cases y
    · refine Ev.neg (by simp) (Ev.val (ih g x) ?_)
      simp [moreL, orL]
    · refine Ev.pos rfl (Ev.pos (by simp; omega) ?_)
      cases x
      · refine Ev.neg (by simp) ?_
        rw [set_mid _ _ _ _ _ rfl]
        refine Ev.val (ih true true) ?_
        simp [moreL, orL]
      · refine Ev.pos rfl (Ev.val (ih g true) ?_)
        simp [moreL, orL]
theorem add_ev (a b : List Bool) (h1 : a.length = b.length) (h2 : a.length ≤ 1000000) : Ev (fun k => firsts_set_add.f k a b) (moreL a b, orL a b) := by
  exact Ev.congr (fun k => by rw [firsts_set_add.f]) (by simpa using add_l0_ev a b [] [] false h1 rfl (by simpa using h2) : Ev (fun k => firsts_set_add.l0 k a false b (b.length : Int) 0) _)
def idx : Nat → List Bool → List Int
  | _, [] => []
  | n, x :: a => if x = true then (n : Int) :: idx (n + 1) a else idx (n + 1) a
theorem idx_length : ∀ (n : Nat) (a : List Bool), (idx n a).length ≤ a.length
  | _, [] => by simp [idx]
  | n, x :: a => by have := idx_length (n + 1) a; unfold idx; split <;> simp <;> omega
theorem rising_l0_ev : ∀ (a pre : List Bool) (out : List Int), out.length ≤ pre.length → pre.length + a.length ≤ 1000000 → Ev (fun k => firsts_set_rising.l0 k out (pre ++ a) ((pre ++ a).length : Int) (pre.length : Int)) (out ++ idx pre.length a)
  | [], pre, out, _, _ => by
    refine Ev.step (fun k => by rw [firsts_set_rising.l0]) (Ev.neg (by simp) (Ev.some (by simp [idx])))
  | x :: a, pre, out, h2, h3 => by
    simp only [List.length_cons] at h3
    have ih := fun out h => rising_l0_ev a (pre ++ [x]) out h (by simp; omega)
    simp only [← wrap_next pre _ (show pre.length ≤ 1000000 by omega), List.append_assoc, List.singleton_append] at ih
    refine Ev.step (fun k => by rw [firsts_set_rising.l0]) ?_
    refine Ev.pos (by simp; omega) (Ev.pos (by omega) (Ev.pos (by simp; omega) ?_))
    rw [rdOf_mid _ pre x a _ rfl]
    cases x
    · exact Ev.neg (by simp) (Ev.val (ih out (by simp; omega)) (by simp [idx]))
    · exact Ev.pos rfl (Ev.pos (by omega) (Ev.val (ih _ (by simp; omega)) (by simp [idx])))
theorem rising_ev (a : List Bool) (h2 : a.length ≤ 1000000) : Ev (fun k => firsts_set_rising.f k a) (idx 0 a) := by
  exact Ev.congr (fun k => by rw [firsts_set_rising.f]) (by simpa using rising_l0_ev a [] [] (by simp) (by simpa using h2) : Ev (fun k => firsts_set_rising.l0 k [] a (a.length : Int) 0) _)
theorem sameInts_l0_ev : ∀ (a pre : List Int), pre.length + a.length ≤ 1000000 → Ev (fun k => regletref13_SameInts.l0 k (pre ++ a) (pre ++ a) (pre.length : Int)) true
  | [], pre, _ => Ev.step (fun k => by rw [regletref13_SameInts.l0]) (Ev.neg (by simp) (Ev.some rfl))
  | x :: a, pre, h3 => by
    simp only [List.length_cons] at h3
    have ih := sameInts_l0_ev a (pre ++ [x]) (by simp; omega)
    simp only [← wrap_next pre _ (show pre.length ≤ 1000000 by omega), List.append_assoc, List.singleton_append] at ih
    exact Ev.step (fun k => by rw [regletref13_SameInts.l0]) (Ev.pos (by simp; omega) (Ev.pos (by omega) (Ev.pos (by simp; omega) (Ev.pos rfl ih))))
theorem sameInts_ev (a : List Int) (h : a.length ≤ 1000000) : Ev (fun k => regletref13_SameInts.f k a a) true :=
  Ev.congr (fun k => by rw [regletref13_SameInts.f, if_pos rfl]) (by simpa using sameInts_l0_ev a [] (by simpa using h) : Ev (fun k => regletref13_SameInts.l0 k a a 0) _)
end Go.Proofs.Ytojdjjbkpbapfaa.M
end

section
namespace Go.Proofs.Ytojdjjbkpbapfaa.M
open Go.RowKit Go.Proofs.YtojdjjbkpbapfaaW.PrintWords Go.Proofs.YtojdjjbkpbapfaaW.PrintLast Go.Proofs.YtojdjjbkpbapfaaW.PrintMore Go.Proofs.Ytojdjjbkpbapfaa.P Go.Proofs.Ytojdjjbkpbapfaa.H
set_option linter.unusedVariables false
set_option linter.unusedSimpArgs false
def Sh (nn nt : Nat) (m : List (List Bool)) : Prop := m.length = nn ∧ ∀ r ∈ m, r.length = nt + 1
theorem Sh.get {nn nt : Nat} {m : List (List Bool)} (h : Sh nn nt m) {i : Nat} (hi : i < nn) : (m.getD i []).length = nt + 1 := by
  have hi' : i < m.length := by rw [h.1]; exact hi
  rw [List.getD_eq_getElem?_getD, List.getElem?_eq_getElem hi']
  exact h.2 _ (List.getElem_mem hi')
theorem Sh.set {nn nt : Nat} {m : List (List Bool)} (h : Sh nn nt m) (i : Nat) {r : List Bool} (hr : r.length = nt + 1) : Sh nn nt (m.set i r) :=
  ⟨by rw [List.length_set]; exact h.1, fun r' hr' => by
    rcases List.mem_or_eq_of_mem_set hr' with h1 | rfl
    · exact h.2 _ h1
    · exact hr⟩
def bg (em : List Bool) (first : List (List Bool)) : List Sym → List Bool → List Bool × Bool
  | [], out => (out, true)
  | x :: l, out => if x.f0 = true then (out.set x.f1.toNat true, false) else
      if em.getD x.f1.toNat false = true then bg em first l (orL out (first.getD x.f1.toNat [])) else (orL out (first.getD x.f1.toNat []), false)
theorem bg_length (em : List Bool) {first : List (List Bool)} {nn nt : Nat} (hs : Sh nn nt first) : ∀ (l : List Sym) (out : List Bool), l.all (okSym nn nt) = true → out.length = nt + 1 → (bg em first l out).1.length = nt + 1
  | [], out, _, h => h
  | x :: l, out, hl, h => by
    simp only [List.all_cons, Bool.and_eq_true] at hl
    unfold bg
    split
    · simpa using h
    · rename_i hx
      have hn : x.f1.toNat < nn := by
        have := hl.1
        simp only [okSym, hx, if_neg, Bool.and_eq_true, decide_eq_true_eq] at this
        simp at this
        omega
      have ho : (orL out (first.getD x.f1.toNat [])).length = nt + 1 := by rw [orL_length (by rw [h, hs.get hn]), h]
      split
      · exact bg_length em hs l _ hl.2 ho
      · exact ho
theorem okSym_tok {nn nt : Nat} {x : Sym} (h : okSym nn nt x = true) (hx : x.f0 = true) : 0 ≤ x.f1 ∧ x.f1 < (nt : Int) := by
  simp only [okSym, hx, if_pos, Bool.and_eq_true, decide_eq_true_eq] at h; exact h
theorem okSym_rule {nn nt : Nat} {x : Sym} (h : okSym nn nt x = true) (hx : x.f0 = false) : 0 ≤ x.f1 ∧ x.f1 < (nn : Int) := by
  simp [okSym, hx] at h; exact h
theorem begins_l0_ev {nn nt : Nat} {em : List Bool} {first : List (List Bool)} (hs : Sh nn nt first) (he : em.length = nn) (hnt : nt ≤ 1000) : ∀ (l pre : List Sym) (out : List Bool), l.all (okSym nn nt) = true → out.length = nt + 1 → pre.length + l.length ≤ 1000000 → Ev (fun k => begins_l0 em first (pre ++ l) k out (pre.length : Int)) (bg em first l out)
  | [], pre, out, _, _, _ => Ev.step (fun k => by rw [begins_l0]) (Ev.neg (by simp) (Ev.some (by simp [bg])))
  | x :: l, pre, out, hl, ho, h3 => by
    simp only [List.all_cons, Bool.and_eq_true] at hl
    simp only [List.length_cons] at h3
    have ih := fun out ho => begins_l0_ev hs he hnt l (pre ++ [x]) out hl.2 ho (by simp; omega)
    simp only [← wrap_next pre _ (show pre.length ≤ 1000000 by omega), List.append_assoc, List.singleton_append] at ih
    have e : rd_T49 (pre ++ x :: l) (pre.length : Int) = x := getD_mid _ pre x l _ rfl
    refine Ev.step (fun k => by rw [begins_l0]) ?_
    rw [e]
    refine Ev.pos (by simp; omega) (Ev.pos (by omega) ?_)
    cases hx : x.f0 with
    | true =>
      have hb := okSym_tok hl.1 hx
      exact Ev.pos rfl (Ev.pos hb.1 (Ev.pos (by omega) (Ev.some (by simp [bg, hx]))))
    | false =>
      have hb := okSym_rule hl.1 hx
      have hr := hs.get (i := x.f1.toNat) (by omega)
      have hs1 := hs.1
      refine Ev.neg (by simp) (Ev.pos hb.1 (Ev.pos (by omega) (Ev.bind (add_ev out _ (by rw [ho, hr]) (by omega)) (Ev.pos (by omega) ?_))))
      have e2 : rdOf false em x.f1 = em.getD x.f1.toNat false := rfl
      rw [e2]
      cases hem : em.getD x.f1.toNat false with
      | true => exact Ev.pos rfl (Ev.val (ih _ (by rw [orL_length (by rw [ho, hr]), ho])) (by rw [bg, hx, if_neg (by simp), hem, if_pos rfl]))
      | false => exact Ev.neg (by simp) (Ev.some (by rw [bg, hx, if_neg (by simp), hem, if_neg (by simp)]))
def none0 (nt : Nat) : List Bool := List.replicate (nt + 1) false
theorem begins_ev {nn nt : Nat} {em : List Bool} {first : List (List Bool)} (hs : Sh nn nt first) (he : em.length = nn) (hnt : nt ≤ 1000) (l : List Sym) (hl : l.all (okSym nn nt) = true) (h3 : l.length ≤ 1000000) : Ev (fun k => begins_f k nt em first l) (bg em first l (none0 nt)) := by
  have h := begins_l0_ev hs he hnt l [] (List.replicate (nt + 1) false) hl (by simp) (by simpa using h3)
  exact Ev.congr (fun k => by rw [begins_f, if_pos (by omega)]) (by simpa [none0] using h)
def gIn {σ : Type} (stp : σ → Prod → Bool × σ) : List Prod → Bool → σ → Bool × σ
  | [], ag, st => (ag, st)
  | p :: ps, ag, st => gIn stp ps ((stp st p).1 || ag) (stp st p).2
def gOut {σ : Type} (stp : σ → Prod → Bool × σ) (ps : List Prod) : Nat → σ → σ
  | 0, st => (gIn stp ps false st).2
  | n + 1, st => if (gIn stp ps false st).1 = true then gOut stp ps n (gIn stp ps false st).2 else (gIn stp ps false st).2
def Good {σ : Type} (I : σ → Prop) (μ : σ → Nat) (stp : σ → Prod → Bool × σ) (ps : List Prod) : Prop :=
  ∀ st p, I st → p ∈ ps → I (stp st p).2 ∧ μ (stp st p).2 ≤ μ st ∧ ((stp st p).1 = true → μ (stp st p).2 < μ st)
theorem gIn_good {σ : Type} {I : σ → Prop} {μ : σ → Nat} {stp : σ → Prod → Bool × σ} : ∀ {ps : List Prod}, Good I μ stp ps → ∀ (ag : Bool) (st : σ), I st → I (gIn stp ps ag st).2 ∧ μ (gIn stp ps ag st).2 ≤ μ st ∧ ((gIn stp ps ag st).1 = true → ag = true ∨ μ (gIn stp ps ag st).2 < μ st)
  | [], _, ag, st, h => ⟨h, Nat.le_refl _, fun h => .inl h⟩
  | p :: ps, hg, ag, st, h => by
    obtain ⟨h1, h2, h3⟩ := hg st p h List.mem_cons_self
    obtain ⟨h4, h5, h6⟩ := gIn_good (fun st p hI hp => hg st p hI (List.mem_cons_of_mem _ hp)) ((stp st p).1 || ag) _ h1
    refine ⟨h4, Nat.le_trans h5 h2, fun h => ?_⟩
    rcases h6 h with h7 | h7
    · rcases (Bool.or_eq_true _ _).mp h7 with h8 | h8
      · exact .inr (Nat.lt_of_le_of_lt h5 (h3 h8))
      · exact .inl h8
    · exact .inr (Nat.lt_of_lt_of_le h7 h2)
theorem gOut_I {σ : Type} {I : σ → Prop} {μ : σ → Nat} {stp : σ → Prod → Bool × σ} {ps : List Prod} (hg : Good I μ stp ps) : ∀ (n : Nat) (st : σ), I st → I (gOut stp ps n st)
  | 0, st, h => (gIn_good hg false st h).1
  | n + 1, st, h => by
    unfold gOut
    split
    · exact gOut_I hg n _ (gIn_good hg false st h).1
    · exact (gIn_good hg false st h).1
theorem growIn_ev {σ : Type} {I : σ → Prop} {μ : σ → Nat} {stp : σ → Prod → Bool × σ} {f : Nat → σ → Prod → Option (Bool × σ)} : ∀ {ps : List Prod}, Good I μ stp ps → (∀ st p, I st → p ∈ ps → Ev (fun k => f k st p) (stp st p)) → ∀ (ag : Bool) (st : σ), I st → Ev (fun k => growIn (f k) ps ag st) (gIn stp ps ag st)
  | [], _, _, ag, st, _ => Ev.congr (fun k => by rw [growIn]) (Ev.some (by rw [gIn]))
  | p :: ps, hg, hf, ag, st, h => by
    refine Ev.congr (fun k => by rw [growIn]) (Ev.bind (hf st p h List.mem_cons_self) ?_)
    exact Ev.val (growIn_ev (fun st p hI hp => hg st p hI (List.mem_cons_of_mem _ hp)) (fun st p hI hp => hf st p hI (List.mem_cons_of_mem _ hp)) _ _ (hg st p h List.mem_cons_self).1) (by rw [gIn])
theorem out_ev {σ : Type} {I : σ → Prop} {μ : σ → Nat} {stp : σ → Prod → Bool × σ} {ps : List Prod} (hg : Good I μ stp ps) (g : Nat → Nat → σ → Option σ) (b : Nat → σ → Option (Bool × σ)) (hb : ∀ st, I st → Ev (fun k => b k st) (gIn stp ps false st))
    (hgs : ∀ kk k st, g kk (k + 1) st = (b kk st).bind fun r => if r.1 = true then g kk k r.2 else some r.2) : ∀ (n : Nat) (st : σ), I st → μ st ≤ n → ∃ K, ∀ kk, K ≤ kk → ∀ k, K ≤ k → g kk k st = some (gOut stp ps n st)
  | n, st, h, hn => by
    obtain ⟨K1, hK1⟩ := hb st h
    obtain ⟨h1, h2, h3⟩ := gIn_good hg false st h
    cases hr : (gIn stp ps false st).1 with
    | false =>
      refine ⟨K1 + 1, fun kk hkk k hk => ?_⟩
      obtain ⟨k', rfl⟩ : ∃ k', k = k' + 1 := ⟨k - 1, by omega⟩
      rw [hgs, show b kk st = _ from hK1 kk (by omega)]
      simp only [Option.bind_some, hr]
      cases n <;> simp [gOut, hr]
    | true =>
      have hlt : μ (gIn stp ps false st).2 < μ st := (h3 hr).resolve_left (by simp)
      cases n with
      | zero => omega
      | succ n =>
        obtain ⟨K2, hK2⟩ := out_ev hg g b hb hgs n _ h1 (by omega)
        refine ⟨max K1 K2 + 1, fun kk hkk k hk => ?_⟩
        obtain ⟨k', rfl⟩ : ∃ k', k = k' + 1 := ⟨k - 1, by omega⟩
        rw [hgs, show b kk st = _ from hK1 kk (by omega)]
        simp only [Option.bind_some, hr, if_true]
        rw [hK2 kk (by omega) k' (by omega), gOut, if_pos hr]
theorem growOut_ev {σ : Type} {I : σ → Prop} {μ : σ → Nat} {stp : σ → Prod → Bool × σ} {ps : List Prod} (hg : Good I μ stp ps) (f : Nat → σ → Prod → Option (Bool × σ)) (hf : ∀ st p, I st → p ∈ ps → Ev (fun k => f k st p) (stp st p)) (n : Nat) (st : σ) (h : I st) (hn : μ st ≤ n) : Ev (fun k => growOut (f k) ps k st) (gOut stp ps n st) := by
  obtain ⟨K, hK⟩ := out_ev hg (fun kk k st => growOut (f kk) ps k st) (fun kk st => growIn (f kk) ps false st) (fun st h => growIn_ev hg hf false st h) (fun kk k st => by rw [growOut]) n st h hn
  exact ⟨K, fun k hk => hK k hk k hk⟩
def cf : List Bool → Nat
  | [] => 0
  | x :: a => (if x = true then 0 else 1) + cf a
theorem cf_orL : ∀ (a b : List Bool), a.length = b.length → cf (orL a b) ≤ cf a ∧ (moreL a b = true → cf (orL a b) < cf a)
  | [], [], _ => by simp [orL, cf, moreL]
  | x :: a, y :: b, h => by
    obtain ⟨h1, h2⟩ := cf_orL a b (by simpa using h)
    have e : orL (x :: a) (y :: b) = (x || y) :: orL a b := rfl
    rw [e]
    cases x <;> cases y <;> simp [cf, moreL] <;> first | exact ⟨h1, h2⟩ | (refine ⟨by omega, fun h => ?_⟩; have := h2 h; omega) | omega
theorem cf_set : ∀ (a : List Bool) (i : Nat), i < a.length → a.getD i false = false → cf (a.set i true) < cf a
  | x :: a, 0, _, h => by
    have : x = false := by simpa using h
    subst this; simp [cf]
  | x :: a, i + 1, hi, h => by
    have := cf_set a i (by simpa using hi) (by simpa using h)
    simp only [List.set_cons_succ, cf]; omega
def cfs : List (List Bool) → Nat
  | [] => 0
  | r :: m => cf r + cfs m
theorem cfs_set : ∀ (m : List (List Bool)) (i : Nat) (r : List Bool), i < m.length → cf r ≤ cf (m.getD i []) → cfs (m.set i r) ≤ cfs m ∧ (cf r < cf (m.getD i []) → cfs (m.set i r) < cfs m)
  | x :: m, 0, r, _, h => by
    simp only [List.getD_cons_zero, List.set_cons_zero, cfs] at h ⊢
    omega
  | x :: m, i + 1, r, hi, h => by
    have := cfs_set m i r (by simpa using hi) (by simpa using h)
    simp only [List.getD_cons_succ, List.set_cons_succ, cfs] at h ⊢
    omega
end Go.Proofs.Ytojdjjbkpbapfaa.M
end

section
namespace Go.Proofs.Ytojdjjbkpbapfaa.M
open Go.RowKit Go.Proofs.YtojdjjbkpbapfaaW.PrintWords Go.Proofs.YtojdjjbkpbapfaaW.PrintLast Go.Proofs.YtojdjjbkpbapfaaW.PrintMore Go.Proofs.Ytojdjjbkpbapfaa.P Go.Proofs.Ytojdjjbkpbapfaa.H
set_option linter.unusedVariables false
set_option linter.unusedSimpArgs false
def Small (ps : List Prod) : Prop := ps.length ≤ 1000000 ∧ ∀ p ∈ ps, p.f1.length ≤ 1000000
theorem firstsRight_val (l0 : List ByteArray) (l1 : List Tok) (a2 a3 : Int) (l4 : List Prod) (h : Small l4) : firsts_Right.f l0 l1 a2 a3 l4 = some (l4.all (okProd l0.length l1.length)) := by
  unfold firsts_Right.f
  rw [if_pos ⟨by have := h.1; omega, by rw [List.all_eq_true]; intro p hp; have := h.2 p hp; exact decide_eq_true (by omega)⟩]
def cNew (token : Bool) (out : List Bool) (p : Prod) : Bool := !(p.f1.any (oddP token out)) && !(out.getD p.f0.toNat false)
def cStep (token : Bool) (out : List Bool) (p : Prod) : Bool × List Bool := (cNew token out p, if cNew token out p = true then out.set p.f0.toNat true else out)
theorem closedStep_val (token : Bool) (out : List Bool) (p : Prod) : closedStep token out p = some (cStep token out p) := by
  have e : rdOf false out p.f0 = out.getD p.f0.toNat false := rfl
  unfold closedStep cStep cNew
  rw [e]
  cases out.getD p.f0.toNat false <;> cases p.f1.any (oddP token out) <;> rfl
theorem okProd_left {nn nt : Nat} {p : Prod} (h : okProd nn nt p = true) : 0 ≤ p.f0 ∧ p.f0 < (nn : Int) := by
  simp only [okProd, Bool.and_eq_true, decide_eq_true_eq] at h; exact h.1
theorem okProd_right {nn nt : Nat} {p : Prod} (h : okProd nn nt p = true) : p.f1.all (okSym nn nt) = true := by
  simp only [okProd, Bool.and_eq_true, decide_eq_true_eq] at h; exact h.2
theorem cStep_good (nn nt : Nat) (token : Bool) {ps : List Prod} (hps : ps.all (okProd nn nt) = true) : Good (fun out : List Bool => out.length = nn) cf (cStep token) ps := by
  intro st p hI hp
  have hl := okProd_left (List.all_eq_true.1 hps p hp)
  unfold cStep
  simp only
  cases hc : cNew token st p with
  | false => simp [hI]
  | true =>
    have h0 : st.getD p.f0.toNat false = false := by
      simp only [cNew, Bool.and_eq_true, Bool.not_eq_true'] at hc; exact hc.2
    have h := cf_set st p.f0.toNat (by omega) h0
    simp only [if_true]
    exact ⟨by simpa using hI, Nat.le_of_lt h, fun _ => h⟩
def clo (token : Bool) (nn : Nat) (ps : List Prod) : List Bool := gOut (cStep token) ps (cf (List.replicate nn false)) (List.replicate nn false)
theorem clo_length (nn nt : Nat) (token : Bool) {ps : List Prod} (hps : ps.all (okProd nn nt) = true) : (clo token nn ps).length = nn :=
  gOut_I (cStep_good nn nt token hps) _ _ (by simp)
theorem closed_ev (l0 : List ByteArray) (l1 : List Tok) (a2 a3 : Int) (l4 : List Prod) (h : Small l4) (hn : l0.length ≤ 1000000) (token : Bool) : Ev (fun k => firsts_closed.f k l0 l1 a2 a3 l4 token) (if l4.all (okProd l0.length l1.length) = true then clo token l0.length l4 else []) := by
  refine Ev.congr (fun k => by rw [firsts_closed.f]) (Ev.bind0 (firstsRight_val l0 l1 a2 a3 l4 h) ?_)
  cases hr : l4.all (okProd l0.length l1.length) with
  | false => exact Ev.neg (by simp) (Ev.some (by simp))
  | true =>
    rw [if_pos rfl]
    refine Ev.pos rfl (Ev.pos (by omega) ?_)
    exact growOut_ev (cStep_good l0.length l1.length token hr) (fun _ => closedStep token) (fun st p _ _ => Ev.some' (closedStep_val token st p)) _ _ (by simp) (Nat.le_refl _)
theorem empty_ev (l0 : List ByteArray) (l1 : List Tok) (a2 a3 : Int) (l4 : List Prod) (h : Small l4) (hn : l0.length ≤ 1000000) : Ev (fun k => firsts_Empty.f k l0 l1 a2 a3 l4) (if l4.all (okProd l0.length l1.length) = true then clo false l0.length l4 else []) :=
  Ev.congr (fun k => by rw [firsts_Empty.f]) (Ev.bind (closed_ev l0 l1 a2 a3 l4 h hn false) (Ev.some rfl))
end Go.Proofs.Ytojdjjbkpbapfaa.M
end

section
namespace Go.Proofs.Ytojdjjbkpbapfaa.M
open Go.RowKit Go.Proofs.YtojdjjbkpbapfaaW.PrintWords Go.Proofs.YtojdjjbkpbapfaaW.PrintLast Go.Proofs.YtojdjjbkpbapfaaW.PrintMore Go.Proofs.Ytojdjjbkpbapfaa.P Go.Proofs.Ytojdjjbkpbapfaa.H
set_option linter.unusedVariables false
set_option linter.unusedSimpArgs false
def rows0 (nn nt : Nat) : List (List Bool) := List.replicate nn (none0 nt)
theorem rows0_sh (nn nt : Nat) : Sh nn nt (rows0 nn nt) := ⟨by simp [rows0], fun r hr => by rw [List.eq_of_mem_replicate hr]; simp [none0]⟩
def sStep (nt : Nat) (em : List Bool) (m : List (List Bool)) (p : Prod) : Bool × List (List Bool) :=
  (moreL (m.getD p.f0.toNat []) (bg em m p.f1 (none0 nt)).1, m.set p.f0.toNat (orL (m.getD p.f0.toNat []) (bg em m p.f1 (none0 nt)).1))
theorem none0_length (nt : Nat) : (none0 nt).length = nt + 1 := by simp [none0]
theorem row_step {nn nt : Nat} {m : List (List Bool)} (hs : Sh nn nt m) {i : Nat} (hi : i < nn) {b : List Bool} (hb : b.length = nt + 1) : Sh nn nt (m.set i (orL (m.getD i []) b)) ∧ cfs (m.set i (orL (m.getD i []) b)) ≤ cfs m ∧ (moreL (m.getD i []) b = true → cfs (m.set i (orL (m.getD i []) b)) < cfs m) := by
  have hr := hs.get hi
  have h1 := cf_orL (m.getD i []) b (by rw [hr, hb])
  have h2 := cfs_set m i (orL (m.getD i []) b) (by rw [hs.1]; exact hi) h1.1
  exact ⟨hs.set i (by rw [orL_length (by rw [hr, hb]), hr]), h2.1, fun h => h2.2 (h1.2 h)⟩
theorem sStep_good {nn nt : Nat} (em : List Bool) {ps : List Prod} (hps : ps.all (okProd nn nt) = true) : Good (Sh nn nt) cfs (sStep nt em) ps := by
  intro st p hI hp
  have hok := List.all_eq_true.1 hps p hp
  have hl := okProd_left hok
  exact row_step hI (by omega) (bg_length em hI p.f1 _ (okProd_right hok) (none0_length nt))
def fst (nn nt : Nat) (em : List Bool) (ps : List Prod) : List (List Bool) := gOut (sStep nt em) ps (cfs (rows0 nn nt)) (rows0 nn nt)
theorem fst_sh (nn nt : Nat) (em : List Bool) {ps : List Prod} (hps : ps.all (okProd nn nt) = true) : Sh nn nt (fst nn nt em ps) :=
  gOut_I (sStep_good em hps) _ _ (rows0_sh nn nt)
theorem studiedStep_ev {nn nt : Nat} {em : List Bool} (he : em.length = nn) (hnt : nt ≤ 1000) {m : List (List Bool)} (hs : Sh nn nt m) {p : Prod} (hok : okProd nn nt p = true) (h3 : p.f1.length ≤ 1000000) : Ev (fun k => studiedStep k nt em m p) (sStep nt em m p) := by
  have hl := okProd_left hok
  have hs1 := hs.1
  have hb := bg_length em hs p.f1 _ (okProd_right hok) (none0_length nt)
  have hr := hs.get (i := p.f0.toNat) (by omega)
  refine Ev.congr (fun k => by rw [studiedStep]) (Ev.bind (begins_ev hs he hnt p.f1 (okProd_right hok) h3) ?_)
  refine Ev.pos hl.1 (Ev.pos (by omega) ?_)
  exact Ev.bind (add_ev (m.getD p.f0.toNat []) (bg em m p.f1 (none0 nt)).1 (by rw [hr, hb]) (by omega)) (Ev.some rfl)
theorem studied_ev (l0 : List ByteArray) (l1 : List Tok) (a2 a3 : Int) (l4 : List Prod) (h : Small l4) (h0 : l0.length ≤ 1000000) (h1 : l1.length ≤ 1000) (hok : l4.all (okProd l0.length l1.length) = true) : Ev (fun k => studied_f k l0 l1 a2 a3 l4) (clo false l0.length l4, fst l0.length l1.length (clo false l0.length l4) l4) := by
  refine Ev.congr (fun k => by rw [studied_f, if_pos ⟨by omega, by omega, by have := h.1; omega⟩]) (Ev.bind (Ev.val (empty_ev l0 l1 a2 a3 l4 h h0) (if_pos hok)) ?_)
  have he := clo_length l0.length l1.length false hok
  refine Ev.bind (growOut_ev (sStep_good _ hok) (fun k => studiedStep k l1.length (clo false l0.length l4)) (fun st p hI hp => studiedStep_ev he h1 hI (List.all_eq_true.1 hok p hp) (h.2 p hp)) _ _ (rows0_sh l0.length l1.length) (Nat.le_refl _)) (Ev.some rfl)
theorem or_three : ∀ (a b c : List Bool), a.length = b.length → b.length = c.length → orL a (orL b c) = orL (orL a b) c ∧ moreL a (orL b c) = (moreL (orL a b) c || moreL a b)
  | [], [], [], _, _ => ⟨rfl, rfl⟩
  | x :: a, y :: b, z :: c, h1, h2 => by
    obtain ⟨h3, h4⟩ := or_three a b c (by simpa using h1) (by simpa using h2)
    constructor
    · show (x || (y || z)) :: orL a (orL b c) = (x || y || z) :: orL (orL a b) c
      rw [h3, Bool.or_assoc]
    · show (((y || z) && !x) || moreL a (orL b c)) = (((z && !(x || y)) || moreL (orL a b) c) || ((y && !x) || moreL a b))
      rw [h4]
      cases x <;> cases y <;> cases z <;> simp
end Go.Proofs.Ytojdjjbkpbapfaa.M
end

section
namespace Go.Proofs.Ytojdjjbkpbapfaa.M
open Go.RowKit Go.Proofs.YtojdjjbkpbapfaaW.PrintWords Go.Proofs.YtojdjjbkpbapfaaW.PrintLast Go.Proofs.YtojdjjbkpbapfaaW.PrintMore Go.Proofs.Ytojdjjbkpbapfaa.P Go.Proofs.Ytojdjjbkpbapfaa.H
set_option linter.unusedVariables false
set_option linter.unusedSimpArgs false
theorem Sh.small {nn nt : Nat} {m : List (List Bool)} (h : Sh nn nt m) (h1 : nt ≤ 1000) : ∀ r ∈ m, r.length ≤ 1000000 := fun r hr => by rw [h.2 r hr]; omega
section
variable (l0 : List ByteArray) (l1 : List Tok) (a2 a3 : Int) (l4 : List Prod)
def dOf (nn nt : Nat) (ps : List Prod) (l : List Sym) : List Int × Bool := if ps.all (okProd nn nt) = true ∧ nn ≠ 0 ∧ l.all (okSym nn nt) = true then
  (idx 0 (bg (clo false nn ps) (fst nn nt (clo false nn ps) ps) l (none0 nt)).1, (bg (clo false nn ps) (fst nn nt (clo false nn ps) ps) l (none0 nt)).2) else ([], false)
variable (h : Small l4) (h0 : l0.length ≤ 1000000) (h1 : l1.length ≤ 1000)
include h h0 h1
theorem of_ev (l : List Sym) (hl : l.length ≤ 1000000) : Ev (fun k => firsts_Of.f k l0 l1 a2 a3 l4 l) (dOf l0.length l1.length l4 l) := by
  refine Ev.congr (fun k => by rw [firsts_Of.f]) (Ev.bind0 (firstsRight_val l0 l1 a2 a3 l4 h) ?_)
  unfold dOf
  cases hr : l4.all (okProd l0.length l1.length) with
  | false => exact Ev.neg (by simp) (Ev.some (by simp))
  | true =>
    refine Ev.pos rfl (Ev.bind0 (a := l.all (okSym l0.length l1.length)) (by rw [firsts_symbols.f, if_pos (by omega)]) ?_)
    cases hs : l.all (okSym l0.length l1.length) with
    | false => exact Ev.neg (by simp) (Ev.some (by simp))
    | true =>
      refine Ev.pos rfl ?_
      by_cases hn : (l0.length : Int) = 0
      · exact Ev.pos hn (Ev.some (if_neg (fun hc => hc.2.1 (Int.ofNat_eq_zero.1 hn))).symm)
      · refine Ev.neg hn (Ev.bind (studied_ev l0 l1 a2 a3 l4 h h0 h1 hr) ?_)
        have hsh := fst_sh l0.length l1.length (clo false l0.length l4) hr
        have hb := bg_length (clo false l0.length l4) hsh l _ hs (none0_length l1.length)
        refine Ev.bind (begins_ev hsh (clo_length l0.length l1.length false hr) h1 l hs hl) (Ev.bind (rising_ev _ (by rw [hb]; omega)) (Ev.some ?_))
        have hc : true = true ∧ l0.length ≠ 0 ∧ true = true := ⟨rfl, by omega, rfl⟩
        rw [if_pos hc]
end
end Go.Proofs.Ytojdjjbkpbapfaa.M
end

section
namespace Go.Proofs.Ytojdjjbkpbapfaa.M
open Go.RowKit Go.Proofs.YtojdjjbkpbapfaaW.PrintWords Go.Proofs.YtojdjjbkpbapfaaW.PrintLast Go.Proofs.YtojdjjbkpbapfaaW.PrintMore Go.Proofs.Ytojdjjbkpbapfaa.P Go.Proofs.Ytojdjjbkpbapfaa.H
set_option linter.unusedVariables false
set_option linter.unusedSimpArgs false
set_option maxRecDepth 100000 in
theorem awake_some : regletlaw13_awake.f 40 = some true := by kernel_rfl
theorem awake_ev : Ev (fun k => regletlaw13_awake.f k) true := Ev.of regletlaw13_awake.mono awake_some
theorem mRight_ok {l : List Int} (hu : ∀ x ∈ l, 0 ≤ x ∧ x ≤ 255) {n t : Nat} (hn : 0 < n) (ht : 0 < t) : ∀ (c at_ : Nat) (acc : List Sym), acc.all (okSym n t) = true → (mRight l n t c at_ acc).1.all (okSym n t) = true ∧ (mRight l n t c at_ acc).1.length = acc.length + c
  | 0, at_, acc, h => ⟨h, rfl⟩
  | c + 1, at_, acc, h => by
    unfold mRight
    obtain ⟨h1, h2⟩ := mRight_ok hu hn ht c (at_ + 2) (acc ++ [if mPick l at_ 2 = 0 then ⟨true, mPick l (at_ + 1) t⟩ else ⟨false, mPick l (at_ + 1) n⟩]) (by
      rw [List.all_append, h, Bool.true_and]
      have h3 := mPick_lt hu (at_ + 1) (n := (t : Int)) (by omega)
      have h4 := mPick_lt hu (at_ + 1) (n := (n : Int)) (by omega)
      split
      · simp only [List.all_cons, List.all_nil, Bool.and_true, okSym, if_true, Bool.and_eq_true, decide_eq_true_eq]
        exact h3
      · simp only [List.all_cons, List.all_nil, Bool.and_true, okSym, Bool.and_eq_true, decide_eq_true_eq]
        exact ⟨h4.1, by simpa using h4.2⟩)
    exact ⟨h1, by rw [h2]; simp; omega⟩
theorem mProds_ok {l : List Int} (hu : ∀ x ∈ l, 0 ≤ x ∧ x ≤ 255) {n t : Nat} (hn : 0 < n) (ht : 0 < t) : ∀ (i at_ : Nat) (acc : List Prod), acc.all (okProd n t) = true → (∀ p ∈ acc, p.f1.length ≤ 3) → (mProds l n t i at_ acc).all (okProd n t) = true ∧ (mProds l n t i at_ acc).length = acc.length + i ∧ ∀ p ∈ mProds l n t i at_ acc, p.f1.length ≤ 3
  | 0, at_, acc, h, h3 => ⟨h, rfl, h3⟩
  | i + 1, at_, acc, h, h3 => by
    unfold mProds
    obtain ⟨h1, h2⟩ := mRight_ok hu hn ht (mPick l (at_ + 1) 4).toNat (at_ + 2) [] rfl
    have h4 := mPick_lt hu at_ (n := (n : Int)) (by omega)
    have h5 := mPick_lt hu (at_ + 1) (n := 4) (by omega)
    obtain ⟨h6, h7, h8⟩ := mProds_ok hu hn ht i (mRight l n t (mPick l (at_ + 1) 4).toNat (at_ + 2) []).2 (acc ++ [⟨mPick l at_ n, (mRight l n t (mPick l (at_ + 1) 4).toNat (at_ + 2) []).1⟩]) (by
      rw [List.all_append, h, Bool.true_and]
      simp only [List.all_cons, List.all_nil, Bool.and_true, okProd, Bool.and_eq_true, decide_eq_true_eq]
      exact ⟨h4, h1⟩) (by
      intro p hp
      rcases List.mem_append.1 hp with hp | hp
      · exact h3 p hp
      · obtain rfl := List.mem_singleton.1 hp
        simp only
        rw [h2]; simp; omega)
    exact ⟨h6, by rw [h7]; simp; omega, h8⟩
structure MadeOk (ns : List ByteArray) (ts : List Tok) (ps : List Prod) : Prop where
  n1 : 0 < ns.length
  n5 : ns.length ≤ 5
  t1 : 0 < ts.length
  t4 : ts.length ≤ 4
  p1 : 0 < ps.length
  p10 : ps.length ≤ 10
  ok : ps.all (okProd ns.length ts.length) = true
  r3 : ∀ p ∈ ps, p.f1.length ≤ 3
theorem MadeOk.small {ns : List ByteArray} {ts : List Tok} {ps : List Prod} (h : MadeOk ns ts ps) : Small ps := ⟨by have := h.p10; omega, fun p hp => by have := h.r3 p hp; omega⟩
theorem made_ev {l : List Int} (hw : ∀ x ∈ l, (Lit.int .u8 x).wf = true) : ∃ ns ts ps, MadeOk ns ts ps ∧ Ev (fun k => regletlaw13_Made.f k l) (ns, ts, 0, 0, ps) := by
  have hu : ∀ x ∈ l, 0 ≤ x ∧ x ≤ 255 := fun x hx => wf_u8 (hw x hx)
  have h0 := mPick_lt hu 0 (n := 5) (by decide)
  have h1 := mPick_lt hu 1 (n := 4) (by decide)
  have h2 := mPick_lt hu 2 (n := 10) (by decide)
  obtain ⟨n, en⟩ : ∃ n : Nat, 1 + mPick l 0 5 = (n : Int) := ⟨(1 + mPick l 0 5).toNat, by omega⟩
  obtain ⟨t, et⟩ : ∃ n : Nat, 1 + mPick l 1 4 = (n : Int) := ⟨(1 + mPick l 1 4).toNat, by omega⟩
  obtain ⟨c, ec⟩ : ∃ n : Nat, 1 + mPick l 2 10 = (n : Int) := ⟨(1 + mPick l 2 10).toNat, by omega⟩
  obtain ⟨h3, h4, h5⟩ := mProds_ok hu (n := n) (t := t) (by omega) (by omega) c 3 [] rfl (fun p hp => by simp at hp)
  have ln : (mNames.take n).length = n := by rw [List.length_take]; show min n 5 = n; omega
  have lt : ((mTexts.map mTok).take t).length = t := by rw [List.length_take]; show min t 4 = t; omega
  refine ⟨mNames.take n, (mTexts.map mTok).take t, mProds l n t c 3 [], ⟨by omega, by omega, by omega, by omega, by simp at h4; omega, by simp at h4; omega, by rw [ln, lt]; exact h3, h5⟩, Ev.some' ?_⟩
  have h7 : l.all (fun x => decide (0 ≤ x ∧ x ≤ 255)) = true := List.all_eq_true.2 (fun x hx => decide_eq_true (hu x hx))
  show (if l.all (fun x => decide (0 ≤ x ∧ x ≤ 255)) = true then _ else none) = _
  rw [if_pos h7, en, et, ec]
  rfl
theorem rd_mem (ps : List Prod) (i : Int) (h0 : 0 ≤ i) (h1 : i < (ps.length : Int)) : rd_T34 ps i ∈ ps := by
  have h2 : i.toNat < ps.length := by omega
  show ps.getD i.toNat _ ∈ ps
  rw [List.getD_eq_getElem?_getD, List.getElem?_eq_getElem h2]
  exact List.getElem_mem h2
theorem wrap_u8' {x : Int} (h : (Lit.int .u8 x).wf = true) : wrap64 x = x ∧ 0 ≤ x := by
  have := wf_u8 h
  exact ⟨wrap64_id (by omega) (by omega), this.1⟩
end Go.Proofs.Ytojdjjbkpbapfaa.M
end

section
namespace Go.Proofs.Ytojdjjbkpbapfaa.M
open Go.RowKit Go.Proofs.YtojdjjbkpbapfaaW.PrintWords Go.Proofs.YtojdjjbkpbapfaaW.PrintLast Go.Proofs.YtojdjjbkpbapfaaW.PrintMore Go.Proofs.Ytojdjjbkpbapfaa.P Go.Proofs.Ytojdjjbkpbapfaa.H
set_option linter.unusedVariables false
set_option linter.unusedSimpArgs false
theorem has_l0_ev (n : Int) : ∀ (a pre : List Int), pre.length + a.length ≤ 1000000 → Ev (fun k => regletlaw13_has.l0 k (pre ++ a) n (pre.length : Int)) (decide (n ∈ a))
  | [], pre, _ => Ev.step (fun k => by rw [regletlaw13_has.l0]) (Ev.neg (by simp) (Ev.some (by simp)))
  | x :: a, pre, h3 => by
    simp only [List.length_cons] at h3
    have ih := has_l0_ev n a (pre ++ [x]) (by simp; omega)
    simp only [← wrap_next pre _ (show pre.length ≤ 1000000 by omega), List.append_assoc, List.singleton_append] at ih
    refine Ev.step (fun k => by rw [regletlaw13_has.l0]) (Ev.pos (by simp; omega) (Ev.pos (by omega) ?_))
    rw [show rd (pre ++ x :: a) (pre.length : Int) = x from getD_mid _ pre x a _ rfl]
    by_cases h : x = n
    · exact Ev.pos h (Ev.some (by simp [h]))
    · exact Ev.neg h (Ev.val ih (by simp [Ne.symm h]))
theorem has_ev (a : List Int) (n : Int) (h : a.length ≤ 1000000) : Ev (fun k => regletlaw13_has.f k a n) (decide (n ∈ a)) :=
  Ev.congr (fun k => by rw [regletlaw13_has.f]) (by simpa using has_l0_ev n a [] (by simpa using h))
theorem within_l0_ev (b : List Int) (hb : b.length ≤ 1000000) : ∀ (a pre : List Int), pre.length + a.length ≤ 1000000 → Ev (fun k => regletlaw13_within.l0 k (pre ++ a) b (pre.length : Int)) (a.all (fun x => decide (x ∈ b)))
  | [], pre, _ => Ev.step (fun k => by rw [regletlaw13_within.l0]) (Ev.neg (by simp) (Ev.some (by simp)))
  | x :: a, pre, h3 => by
    simp only [List.length_cons] at h3
    have ih := within_l0_ev b hb a (pre ++ [x]) (by simp; omega)
    simp only [← wrap_next pre _ (show pre.length ≤ 1000000 by omega), List.append_assoc, List.singleton_append] at ih
    refine Ev.step (fun k => by rw [regletlaw13_within.l0]) (Ev.pos (by simp; omega) (Ev.pos (by omega) ?_))
    rw [show rd (pre ++ x :: a) (pre.length : Int) = x from getD_mid _ pre x a _ rfl]
    refine Ev.bind (has_ev b x hb) ?_
    by_cases h : x ∈ b
    · exact Ev.pos (decide_eq_true h) (Ev.val ih (by simp [h]))
    · exact Ev.neg (by simp [h]) (Ev.some (by simp [h]))
theorem within_ev (a b : List Int) (ha : a.length ≤ 1000000) (hb : b.length ≤ 1000000) (h : ∀ x ∈ a, x ∈ b) : Ev (fun k => regletlaw13_within.f k a b) true :=
  Ev.congr (fun k => by rw [regletlaw13_within.f]) (Ev.val (by simpa using within_l0_ev b hb a [] (by simpa using ha)) (List.all_eq_true.2 (fun x hx => decide_eq_true (h x hx))))
theorem mem_idx (x : Int) : ∀ (a : List Bool) (n : Nat), x ∈ idx n a ↔ ∃ i : Nat, a.getD i false = true ∧ x = ((n + i : Nat) : Int)
  | [], n => by simp [idx]
  | y :: a, n => by
    have ih := mem_idx x a (n + 1)
    have hs : (∃ i : Nat, (y :: a).getD i false = true ∧ x = ((n + i : Nat) : Int)) ↔ ((y = true ∧ x = (n : Int)) ∨ ∃ i : Nat, a.getD i false = true ∧ x = ((n + 1 + i : Nat) : Int)) := by
      constructor
      · rintro ⟨i, h1, h2⟩
        cases i with
        | zero => exact .inl ⟨by simpa using h1, by simpa using h2⟩
        | succ i => exact .inr ⟨i, by simpa using h1, by rw [h2]; congr 1; omega⟩
      · rintro (⟨h1, h2⟩ | ⟨i, h1, h2⟩)
        · exact ⟨0, by simpa using h1, by simpa using h2⟩
        · exact ⟨i + 1, by simpa using h1, by rw [h2]; congr 1; omega⟩
    rw [hs, ← ih, show idx n (y :: a) = if y = true then (n : Int) :: idx (n + 1) a else idx (n + 1) a from rfl]
    cases y <;> simp
theorem orL_getD : ∀ (a b : List Bool) (i : Nat), a.length = b.length → (orL a b).getD i false = (a.getD i false || b.getD i false)
  | [], [], i, _ => by simp [orL]
  | x :: a, y :: b, 0, _ => by simp [orL]
  | x :: a, y :: b, i + 1, h => by
    have := orL_getD a b i (by simpa using h)
    simpa [orL] using this
theorem orL_none (nt : Nat) : ∀ (a : List Bool), a.length = nt + 1 → orL a (none0 nt) = a := by
  intro a h
  apply List.ext_getElem
  · rw [orL_length (by rw [h, none0_length])]
  · intro i h1 h2
    have := orL_getD a (none0 nt) i (by rw [h, none0_length])
    have h0 : (none0 nt).getD i false = false := by
      unfold none0
      rw [List.getD_eq_getElem?_getD, List.getElem?_replicate]
      split <;> rfl
    rw [h0, Bool.or_false, List.getD_eq_getElem?_getD, List.getD_eq_getElem?_getD, List.getElem?_eq_getElem h1, List.getElem?_eq_getElem h2] at this
    exact this
theorem bg_from (em : List Bool) {first : List (List Bool)} {nn nt : Nat} (hs : Sh nn nt first) : ∀ (l : List Sym) (out : List Bool), l.all (okSym nn nt) = true → out.length = nt + 1 → bg em first l out = (orL out (bg em first l (none0 nt)).1, (bg em first l (none0 nt)).2)
  | [], out, _, h => by simp only [bg]; rw [orL_none nt out h]
  | x :: l, out, hl, h => by
    simp only [List.all_cons, Bool.and_eq_true] at hl
    cases hx : x.f0 with
    | true =>
      have hb := okSym_tok hl.1 hx
      have e : ∀ out, bg em first (x :: l) out = (out.set x.f1.toNat true, false) := fun out => by rw [bg, if_pos hx]
      rw [e, e]
      congr 1
      apply List.ext_getElem
      · rw [orL_length (by rw [List.length_set, h, none0_length]), List.length_set]
      · intro i h1 h2
        have e := orL_getD out ((none0 nt).set x.f1.toNat true) i (by rw [List.length_set, h, none0_length])
        rw [List.getD_eq_getElem?_getD, List.getElem?_eq_getElem h2] at e
        simp only [Option.getD_some] at e
        rw [e]
        have h3 : i < out.length := by simpa using h1
        rw [List.getElem_set]
        rw [List.getD_eq_getElem?_getD, List.getElem?_eq_getElem h3, List.getD_eq_getElem?_getD, List.getElem?_set]
        simp only [Option.getD_some, none0_length]
        by_cases hi : x.f1.toNat = i
        · subst hi
          have : x.f1.toNat < nt + 1 := by omega
          simp [this]
        · rw [if_neg hi, if_neg hi]
          have h0 : ((none0 nt)[i]?.getD false) = false := by
            unfold none0
            rw [List.getElem?_replicate]
            split <;> rfl
          rw [h0, Bool.or_false]
    | false =>
      have hb := okSym_rule hl.1 hx
      have e : ∀ out, bg em first (x :: l) out = if em.getD x.f1.toNat false = true then bg em first l (orL out (first.getD x.f1.toNat [])) else (orL out (first.getD x.f1.toNat []), false) := fun out => by rw [bg, if_neg (by simp [hx])]
      rw [e, e]
      have hr := hs.get (i := x.f1.toNat) (by omega)
      have e1 : orL (none0 nt) (first.getD x.f1.toNat []) = first.getD x.f1.toNat [] := by
        have := orL_none nt (first.getD x.f1.toNat []) hr
        conv => rhs; rw [← this]
        unfold orL
        exact List.zipWith_comm_of_comm (fun a b => Bool.or_comm a b)
      rw [e1]
      cases hem : em.getD x.f1.toNat false with
      | false => rw [if_neg (by simp), if_neg (by simp)]
      | true =>
        rw [if_pos rfl, if_pos rfl]
        have hl2 := bg_length em hs l _ hl.2 (none0_length nt)
        rw [bg_from em hs l (orL out (first.getD x.f1.toNat [])) hl.2 (by rw [orL_length (by rw [h, hr]), h]), bg_from em hs l (first.getD x.f1.toNat []) hl.2 hr]
        simp only
        rw [(or_three out (first.getD x.f1.toNat []) (bg em first l (none0 nt)).1 (by rw [h, hr]) (by rw [hr, hl2])).1]
theorem bg_append (em : List Bool) (first : List (List Bool)) : ∀ (l1 l2 : List Sym) (out : List Bool), bg em first (l1 ++ l2) out = if (bg em first l1 out).2 = true then bg em first l2 (bg em first l1 out).1 else bg em first l1 out
  | [], l2, out => by simp [bg]
  | x :: l1, l2, out => by
    rw [List.cons_append]
    cases hx : x.f0 with
    | true =>
      have e : ∀ l, bg em first (x :: l) out = (out.set x.f1.toNat true, false) := fun l => by rw [bg, if_pos hx]
      rw [e, e]; simp
    | false =>
      have e : ∀ l, bg em first (x :: l) out = if em.getD x.f1.toNat false = true then bg em first l (orL out (first.getD x.f1.toNat [])) else (orL out (first.getD x.f1.toNat []), false) := fun l => by rw [bg, if_neg (by simp [hx])]
      rw [e, e]
      cases em.getD x.f1.toNat false with
      | true => rw [if_pos rfl, if_pos rfl]; exact bg_append em first l1 l2 _
      | false => simp
end Go.Proofs.Ytojdjjbkpbapfaa.M
end

section
namespace Go.Proofs.Ytojdjjbkpbapfaa.Pure
open Go.RowKit Go.Proofs.Ytojdjjbkpbapfaa.P Go.Proofs.YtojdjjbkpbapfaaW.PrintWords Go.Proofs.YtojdjjbkpbapfaaW.PrintLast Go.Proofs.YtojdjjbkpbapfaaW.PrintMore Go.Proofs.Ytojdjjbkpbapfaa.H Go.Proofs.Ytojdjjbkpbapfaa.M
theorem parts_l0_ev (a b c : List Int) (f : Bool) (ha : a.length ≤ 1000000) (hb : b.length ≤ 1000000) (hc : c.length ≤ 1000000) (hac : ∀ x ∈ a, x ∈ c) (hbc : ∀ x ∈ b, x ∈ c) : ∀ (rest pre : List Int), pre ++ rest = c → (∀ x ∈ rest, x ∈ a ∨ x ∈ b) → Ev (fun k => regletlaw13_FirstsParts.l0 k true a b f c f (pre.length : Int)) true
  | [], pre, e, _ => by
    subst e
    refine Ev.step (fun k => by rw [regletlaw13_FirstsParts.l0]) (Ev.neg (by simp) (Ev.pos rfl (Ev.bind (within_ev a _ ha (by simpa using hc) hac) (Ev.pos rfl (Ev.bind (within_ev b _ hb (by simpa using hc) hbc) (Ev.pos rfl (Ev.some (beq_self_eq_true f))))))))
  | x :: rest, pre, e, h => by
    have hlen : pre.length + (rest.length + 1) ≤ 1000000 := by rw [← e] at hc; simpa using hc
    have ih := parts_l0_ev a b c f ha hb hc hac hbc rest (pre ++ [x]) (by rw [← e]; simp) (fun y hy => h y (List.mem_cons_of_mem _ hy))
    rw [← wrap_next pre _ (show pre.length ≤ 1000000 by omega)] at ih
    have er : rd c (pre.length : Int) = x := by rw [← e]; exact getD_mid _ pre x rest _ rfl
    have hlt : (pre.length : Int) < (c.length : Int) := by rw [← e]; simp; omega
    refine Ev.step (fun k => by rw [regletlaw13_FirstsParts.l0]) (Ev.pos hlt (Ev.pos (by omega) ?_))
    rw [er]
    refine Ev.bind (has_ev a x ha) ?_
    by_cases hxa : x ∈ a
    · exact Ev.pos (decide_eq_true hxa) ih
    · have hxb := (h x List.mem_cons_self).resolve_left hxa
      exact Ev.neg (by simp [hxa]) (Ev.bind (has_ev b x hb) (Ev.pos (decide_eq_true hxb) ih))
theorem FirstsParts : regletlaw13_FirstsParts.Pure := by
  intro l0 a1 a2 _ _ hw h1 h2
  obtain ⟨ns, ts, ps, hm, hM⟩ := made_ev hw
  obtain ⟨e1, hp1⟩ := wrap_u8' h1
  obtain ⟨e2, hp2⟩ := wrap_u8' h2
  have hl : (0 : Int) < (ps.length : Int) := by have := hm.p1; omega
  have hi0 : 0 ≤ Int.tmod (wrap64 a1) (ps.length : Int) := Int.tmod_nonneg _ (by rw [e1]; exact hp1)
  have hi1 : Int.tmod (wrap64 a1) (ps.length : Int) < (ps.length : Int) := Int.tmod_lt_of_pos _ hl
  apply Ev.rounds
  unfold regletlaw13_FirstsParts.f
  refine Ev.bind awake_ev (Ev.pos rfl (Ev.bind hM (Ev.neg (by simp only; omega) (Ev.pos hi0 (Ev.pos hi1 ?_)))))
  simp only
  have hmem := rd_mem ps _ hi0 hi1
  generalize rd_T34 ps (Int.tmod (wrap64 a1) (ps.length : Int)) = p at hmem ⊢
  have hr3 := hm.r3 p hmem
  have hpok := List.all_eq_true.1 hm.ok p hmem
  have hrok := okProd_right hpok
  generalize p.f1 = r at hr3 hrok ⊢
  have ew : wrap64 ((r.length : Int) + 1) = (r.length : Int) + 1 := wrap64_id (by omega) (by omega)
  rw [ew]
  have hn0 : 0 ≤ Int.tmod (wrap64 a2) ((r.length : Int) + 1) := Int.tmod_nonneg _ (by rw [e2]; exact hp2)
  have hn1 : Int.tmod (wrap64 a2) ((r.length : Int) + 1) < (r.length : Int) + 1 := Int.tmod_lt_of_pos _ (by omega)
  refine Ev.neg (by omega) (Ev.pos hn0 (Ev.pos (by omega) ?_))
  generalize (Int.tmod (wrap64 a2) ((r.length : Int) + 1)).toNat = n
  have hn5 := hm.n5
  have ht4 := hm.t4
  have hn1' := hm.n1
  have ok1 : (r.take n).all (okSym ns.length ts.length) = true := List.all_eq_true.2 (fun x hx => List.all_eq_true.1 hrok x (List.mem_of_mem_take hx))
  have ok2 : (r.drop n).all (okSym ns.length ts.length) = true := List.all_eq_true.2 (fun x hx => List.all_eq_true.1 hrok x (List.mem_of_mem_drop hx))
  have hd : ∀ l : List Sym, l.all (okSym ns.length ts.length) = true → dOf ns.length ts.length ps l = (idx 0 (bg (clo false ns.length ps) (fst ns.length ts.length (clo false ns.length ps) ps) l (none0 ts.length)).1, (bg (clo false ns.length ps) (fst ns.length ts.length (clo false ns.length ps) ps) l (none0 ts.length)).2) := fun l hl => by
    unfold dOf
    rw [if_pos ⟨hm.ok, by omega, hl⟩]
  refine Ev.bind (Ev.val (of_ev ns ts 0 0 ps hm.small (by omega) (by omega) (r.take n) (by rw [List.length_take]; omega)) (hd _ ok1)) ?_
  refine Ev.bind (Ev.val (of_ev ns ts 0 0 ps hm.small (by omega) (by omega) (r.drop n) (by rw [List.length_drop]; omega)) (hd _ ok2)) ?_
  refine Ev.bind (Ev.val (of_ev ns ts 0 0 ps hm.small (by omega) (by omega) r (by omega)) (hd _ hrok)) ?_
  have hsh := fst_sh ns.length ts.length (clo false ns.length ps) hm.ok
  generalize fst ns.length ts.length (clo false ns.length ps) ps = first at hsh ⊢
  generalize clo false ns.length ps = em
  have hap := bg_append em first (r.take n) (r.drop n) (none0 ts.length)
  rw [List.take_append_drop] at hap
  rw [hap]
  have hA := bg_length em hsh (r.take n) _ ok1 (none0_length ts.length)
  have hB := bg_length em hsh (r.drop n) _ ok2 (none0_length ts.length)
  have hfrom := bg_from em hsh (r.drop n) (bg em first (r.take n) (none0 ts.length)).1 ok2 hA
  rw [hfrom]
  generalize bg em first (r.take n) (none0 ts.length) = A at hA ⊢
  generalize bg em first (r.drop n) (none0 ts.length) = B at hB ⊢
  obtain ⟨A, ea⟩ := A
  obtain ⟨B, eb⟩ := B
  simp only at hA hB ⊢
  have hla := idx_length 0 A
  have hlb := idx_length 0 B
  cases ea with
  | false =>
    refine Ev.neg (by simp) ?_
    exact Ev.bind (sameInts_ev _ (by omega)) (Ev.pos rfl (Ev.some rfl))
  | true =>
    refine Ev.pos rfl ?_
    rw [if_pos rfl]
    simp only
    have hlc := idx_length 0 (orL A B)
    have hLC : (orL A B).length = ts.length + 1 := by rw [orL_length (by rw [hA, hB]), hA]
    have hg := fun i => orL_getD A B i (by rw [hA, hB])
    refine parts_l0_ev (idx 0 A) (idx 0 B) (idx 0 (orL A B)) eb (by omega) (by omega) (by omega) ?_ ?_ (idx 0 (orL A B)) [] rfl ?_
    · intro x hx
      obtain ⟨i, h1, h2⟩ := (mem_idx x A 0).1 hx
      exact (mem_idx x _ 0).2 ⟨i, by rw [hg, h1]; rfl, h2⟩
    · intro x hx
      obtain ⟨i, h1, h2⟩ := (mem_idx x B 0).1 hx
      exact (mem_idx x _ 0).2 ⟨i, by rw [hg, h1, Bool.or_true], h2⟩
    · intro x hx
      obtain ⟨i, h1, h2⟩ := (mem_idx x _ 0).1 hx
      rw [hg, Bool.or_eq_true] at h1
      rcases h1 with h1 | h1
      · exact .inl ((mem_idx x _ 0).2 ⟨i, h1, h2⟩)
      · exact .inr ((mem_idx x _ 0).2 ⟨i, h1, h2⟩)
end Go.Proofs.Ytojdjjbkpbapfaa.Pure
end
