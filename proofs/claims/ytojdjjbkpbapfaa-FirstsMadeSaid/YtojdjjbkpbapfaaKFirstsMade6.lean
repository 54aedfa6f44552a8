/- Packed texts of this claim: the walks of the functions, and their plain laws; see the claim's last text. -/
import Derived.Laws.BitsLemmas
import Derived.Deep.Cut
import Derived.Shelf.Abstract
import Derived.Deep.RegionHeld3
import Derived.Test.YtojdjjbkpbapfaaKFirstsMade5
section
namespace Go.Proofs.Ytojdjjbkpbapfaa.P
open Go.RowKit Go.Proofs.YtojdjjbkpbapfaaW.PrintWords Go.Proofs.YtojdjjbkpbapfaaW.PrintLast Go.Proofs.YtojdjjbkpbapfaaW.PrintMore
attribute [local go_sem] max2_int min2_int max_two min_two max_three min_three max_four min_four   -- for this text's walks alone
set_option linter.unusedVariables false
set_option linter.unusedSimpArgs false
def regletlaw13_same.f (k : Nat) (l0_0 : List ByteArray) (l0_1 : List (S62)) (a0_2 : Int) (a0_3 : Int) (l0_4 : List (S34)) (l1 : List (S49)) : Option (Bool) := (firsts_Of.f k l0_0 l0_1 a0_2 a0_3 l0_4 l1).bind fun bt317 => ((regletref13_Of.f k l0_0 l0_1 a0_2 a0_3 l0_4 l1).bind fun bt321 => ((firsts_Right.f l0_0 l0_1 a0_2 a0_3 l0_4).bind fun t325 => ((regletref13_Right.f k l0_0 l0_1 a0_2 a0_3 l0_4).bind fun t326 => (if (t325 == t326) = true then ((firsts_Empty.f k l0_0 l0_1 a0_2 a0_3 l0_4).bind fun t327 => ((regletref13_Empty.f k l0_0 l0_1 a0_2 a0_3 l0_4).bind fun t330 => ((regletref13_SameBools.f k t327 t330).bind fun t333 => (if t333 = true then ((firsts_Useful.f k l0_0 l0_1 a0_2 a0_3 l0_4).bind fun t334 => ((regletref13_Useful.f k l0_0 l0_1 a0_2 a0_3 l0_4).bind fun t337 => ((regletref13_SameBools.f k t334 t337).bind fun t340 => (if t340 = true then ((firsts_First.f k l0_0 l0_1 a0_2 a0_3 l0_4).bind fun t341 => ((regletref13_First.f k l0_0 l0_1 a0_2 a0_3 l0_4).bind fun t344 => ((regletref13_SameLists.f k t341 t344).bind fun t347 => (if t347 = true then ((firsts_Follow.f k l0_0 l0_1 a0_2 a0_3 l0_4).bind fun t348 => ((regletref13_Follow.f k l0_0 l0_1 a0_2 a0_3 l0_4).bind fun t351 => ((regletref13_SameLists.f k t348 t351).bind fun t354 => (if t354 = true then ((regletref13_SameInts.f k bt317.1 bt321.1).bind fun t355 => (if t355 = true then (some (bt317.2 == bt321.2)) else (none))) else (none))))) else (none))))) else (none))))) else (none))))) else (none)))))
theorem regletlaw13_same.mono : ∀ a0 a1 a2 a3 a4 a5 k, LeO (regletlaw13_same.f k a0 a1 a2 a3 a4 a5) (regletlaw13_same.f (k + 1) a0 a1 a2 a3 a4 a5) := by
  intro a0 a1 a2 a3 a4 a5 k
  unfold regletlaw13_same.f
  repeat' first
      | (with_reducible exact firsts_Empty.mono _ _ _ _ _ _)
      | (with_reducible exact firsts_First.mono _ _ _ _ _ _)
      | (with_reducible exact firsts_Follow.mono _ _ _ _ _ _)
      | (with_reducible exact firsts_Of.mono _ _ _ _ _ _ _)
      | (with_reducible exact firsts_Useful.mono _ _ _ _ _ _)
      | (with_reducible exact regletref13_Empty.mono _ _ _ _ _ _)
      | (with_reducible exact regletref13_First.mono _ _ _ _ _ _)
      | (with_reducible exact regletref13_Follow.mono _ _ _ _ _ _)
      | (with_reducible exact regletref13_Of.mono _ _ _ _ _ _ _)
      | (with_reducible exact regletref13_Right.mono _ _ _ _ _ _)
      | (with_reducible exact regletref13_SameBools.mono _ _ _)
      | (with_reducible exact regletref13_SameInts.mono _ _ _)
      | (with_reducible exact regletref13_SameLists.mono _ _ _)
      | (with_reducible exact regletref13_Useful.mono _ _ _ _ _ _)
      | (with_reducible exact LeO.refl _)
      | (with_reducible exact LeO.none _)
      | (with_reducible refine LeO.ite ?_ ?_)
      | (with_reducible refine LeO.bind ?_ (fun _ => ?_))
      | exact firsts_Empty.mono _ _ _ _ _ _
      | exact firsts_First.mono _ _ _ _ _ _
      | exact firsts_Follow.mono _ _ _ _ _ _
      | exact firsts_Of.mono _ _ _ _ _ _ _
      | exact firsts_Useful.mono _ _ _ _ _ _
      | exact regletref13_Empty.mono _ _ _ _ _ _
      | exact regletref13_First.mono _ _ _ _ _ _
      | exact regletref13_Follow.mono _ _ _ _ _ _
      | exact regletref13_Of.mono _ _ _ _ _ _ _
      | exact regletref13_Right.mono _ _ _ _ _ _
      | exact regletref13_SameBools.mono _ _ _
      | exact regletref13_SameInts.mono _ _ _
      | exact regletref13_SameLists.mono _ _ _
      | exact regletref13_Useful.mono _ _ _ _ _ _
      | exact LeO.none _
      | refine LeO.ite ?_ ?_
      | refine LeO.bind ?_ (fun _ => ?_)
def regletlaw13_same.T3 : Bool × List (List Nat × List Nat) := (true, [([], []), ([0], [0]), ([], []), ([2, 1], [2]), ([1, 3], [1, 3]), ([4, 3], [4]), ([5], [5]), ([6, 5, 5], [5, 6]), ([5], [5]), ([8, 7, 5], [5, 8]), ([7, 9, 9, 5], [5, 7, 9]), ([5, 10], [5, 10]), ([11, 10], [11]), ([12], [12]), ([13, 12, 12], [12, 13]), ([12], [12]), ([15, 14, 12], [12, 15]), ([14, 16, 16, 12], [12, 14, 16]), ([12, 17], [12, 17]), ([18, 17], [18]), ([19], [19]), ([20, 19, 19], [19, 20]), ([19], [19]), ([22, 21, 19], [19, 22]), ([21, 23, 23, 19], [19, 21, 23]), ([19, 24], [19, 24]), ([25, 24], [25]), ([26], [26]), ([27, 26, 26], [26, 27]), ([26], [26]), ([29, 28, 26], [26, 29]), ([28, 30, 30, 26], [26, 28, 30]), ([26, 31], [26, 31]), ([32, 31], [32]), ([33], [33]), ([33], [33]), ([34, 35, 33, 33], [33, 34, 35]), ([33, 36], [33, 36]), ([37, 36], [37]), ([38], [38]), ([38], [38]), ([39, 40, 38], [38, 39, 40]), ([38, 41], [38, 41]), ([42, 38, 0, 1, 2, 3, 4, 5, 6, 7, 8, 9, 10, 11, 12, 13, 14, 15, 16, 17, 18, 19, 20, 21, 22, 23, 24, 25, 26, 27, 28, 29, 30, 31, 32, 33, 34, 35, 36, 37, 38, 39, 40, 41, 42], [42])])
def regletlaw13_same.B3 : List Nat := [0, 1, 0, 7, 15, 31, 63, 127, 63, 511, 1023, 2047, 4095, 8191, 16383, 8191, 65535, 131071, 262143, 524287, 1048575, 2097151, 1048575, 8388607, 16777215, 33554431, 67108863, 134217727, 268435455, 134217727, 1073741823, 2147483647, 4294967295, 8589934591, 17179869183, 17179869183, 68719476735, 137438953471, 274877906943, 549755813887, 549755813887, 2199023255551, 4398046511103, 8796093022207]
theorem regletlaw13_same.tab3 : rtab .any (opsOf Try.f11 3) = regletlaw13_same.T3 := by kernel_rfl
theorem regletlaw13_same.bits3 : waitsOk regletlaw13_same.T3.2 regletlaw13_same.B3 = true := by kernel_rfl
set_option maxHeartbeats 8000000 in
set_option maxRecDepth 100000 in
theorem regletlaw13_same.calls (k : Nat) (A0_0 : Option Addr) (c0_0 : Nat) (l0_0 : List ByteArray) (A0_1 : Option Addr) (c0_1 : Nat) (l0_1 : List (S62)) (a0_2 : Int) (a0_3 : Int) (A0_4 : Option Addr) (c0_4 : Nat) (l0_4 : List (S34)) (A1 : Option Addr) (c1 : Nat) (l1 : List (S49)) (r : Bool) (w : World) (hr0_0 : Kd.C Kd.string w A0_0 l0_0.length l0_0) (hc0_0 : l0_0.length ≤ c0_0) (hr0_1 : Kd.C k62 w A0_1 l0_1.length l0_1) (hc0_1 : l0_1.length ≤ c0_1) (hr0_4 : Kd.C k34 w A0_4 l0_4.length l0_4) (hc0_4 : l0_4.length ≤ c0_4) (hr1 : Kd.C k49 w A1 l1.length l1) (hc1 : l1.length ≤ c1) (h : regletlaw13_same.f k l0_0 l0_1 a0_2 a0_3 l0_4 l1 = some r) :
    Calls Try.prog 11 #[.agg #[.slice A0_0 l0_0.length c0_0, .slice A0_1 l0_1.length c0_1, .int .i64 a0_2, .int .i64 a0_3, .slice A0_4 l0_4.length c0_4], .slice A1 l1.length c1] w fun e w' => e = .returned (.bool r) ∧ Below w.heap.size w w' := by
  have hu26 := Try.underlying26
  have HR0_0 := Aside0.mk hr0_0
  have HC0_0 := Aside0.mk hc0_0
  clear hr0_0 hc0_0
  have HR0_1 := Aside0.mk hr0_1
  have HC0_1 := Aside0.mk hc0_1
  clear hr0_1 hc0_1
  have HR0_4 := Aside0.mk hr0_4
  have HC0_4 := Aside0.mk hc0_4
  clear hr0_4 hc0_4
  have HR1 := Aside0.mk hr1
  have HC1 := Aside0.mk hc1
  clear hr1 hc1
  have HB := Aside0.mk (Below.refl w.heap.size w)
  have H : ((firsts_Of.f k l0_0 l0_1 a0_2 a0_3 l0_4 l1).bind fun bt317 => ((regletref13_Of.f k l0_0 l0_1 a0_2 a0_3 l0_4 l1).bind fun bt321 => ((firsts_Right.f l0_0 l0_1 a0_2 a0_3 l0_4).bind fun t325 => ((regletref13_Right.f k l0_0 l0_1 a0_2 a0_3 l0_4).bind fun t326 => (if (t325 == t326) = true then ((firsts_Empty.f k l0_0 l0_1 a0_2 a0_3 l0_4).bind fun t327 => ((regletref13_Empty.f k l0_0 l0_1 a0_2 a0_3 l0_4).bind fun t330 => ((regletref13_SameBools.f k t327 t330).bind fun t333 => (if t333 = true then ((firsts_Useful.f k l0_0 l0_1 a0_2 a0_3 l0_4).bind fun t334 => ((regletref13_Useful.f k l0_0 l0_1 a0_2 a0_3 l0_4).bind fun t337 => ((regletref13_SameBools.f k t334 t337).bind fun t340 => (if t340 = true then ((firsts_First.f k l0_0 l0_1 a0_2 a0_3 l0_4).bind fun t341 => ((regletref13_First.f k l0_0 l0_1 a0_2 a0_3 l0_4).bind fun t344 => ((regletref13_SameLists.f k t341 t344).bind fun t347 => (if t347 = true then ((firsts_Follow.f k l0_0 l0_1 a0_2 a0_3 l0_4).bind fun t348 => ((regletref13_Follow.f k l0_0 l0_1 a0_2 a0_3 l0_4).bind fun t351 => ((regletref13_SameLists.f k t348 t351).bind fun t354 => (if t354 = true then ((regletref13_SameInts.f k bt317.1 bt321.1).bind fun t355 => (if t355 = true then (some (bt317.2 == bt321.2)) else (none))) else (none))))) else (none))))) else (none))))) else (none))))) else (none)))))) = some r := h
  clear h
  replace H := Option.bind_eq_some_iff.mp H
  obtain ⟨⟨t317, t320⟩, A30, H⟩ := H
  replace H : ((regletref13_Of.f k l0_0 l0_1 a0_2 a0_3 l0_4 l1).bind fun bt321 => ((firsts_Right.f l0_0 l0_1 a0_2 a0_3 l0_4).bind fun t325 => ((regletref13_Right.f k l0_0 l0_1 a0_2 a0_3 l0_4).bind fun t326 => (if (t325 == t326) = true then ((firsts_Empty.f k l0_0 l0_1 a0_2 a0_3 l0_4).bind fun t327 => ((regletref13_Empty.f k l0_0 l0_1 a0_2 a0_3 l0_4).bind fun t330 => ((regletref13_SameBools.f k t327 t330).bind fun t333 => (if t333 = true then ((firsts_Useful.f k l0_0 l0_1 a0_2 a0_3 l0_4).bind fun t334 => ((regletref13_Useful.f k l0_0 l0_1 a0_2 a0_3 l0_4).bind fun t337 => ((regletref13_SameBools.f k t334 t337).bind fun t340 => (if t340 = true then ((firsts_First.f k l0_0 l0_1 a0_2 a0_3 l0_4).bind fun t341 => ((regletref13_First.f k l0_0 l0_1 a0_2 a0_3 l0_4).bind fun t344 => ((regletref13_SameLists.f k t341 t344).bind fun t347 => (if t347 = true then ((firsts_Follow.f k l0_0 l0_1 a0_2 a0_3 l0_4).bind fun t348 => ((regletref13_Follow.f k l0_0 l0_1 a0_2 a0_3 l0_4).bind fun t351 => ((regletref13_SameLists.f k t348 t351).bind fun t354 => (if t354 = true then ((regletref13_SameInts.f k t317 bt321.1).bind fun t355 => (if t355 = true then (some (t320 == bt321.2)) else (none))) else (none))))) else (none))))) else (none))))) else (none))))) else (none))))) = some r := H
  have A3 := Aside0.mk A30
  clear A30
  replace H := Option.bind_eq_some_iff.mp H
  obtain ⟨⟨t321, t324⟩, A40, H⟩ := H
  replace H : ((firsts_Right.f l0_0 l0_1 a0_2 a0_3 l0_4).bind fun t325 => ((regletref13_Right.f k l0_0 l0_1 a0_2 a0_3 l0_4).bind fun t326 => (if (t325 == t326) = true then ((firsts_Empty.f k l0_0 l0_1 a0_2 a0_3 l0_4).bind fun t327 => ((regletref13_Empty.f k l0_0 l0_1 a0_2 a0_3 l0_4).bind fun t330 => ((regletref13_SameBools.f k t327 t330).bind fun t333 => (if t333 = true then ((firsts_Useful.f k l0_0 l0_1 a0_2 a0_3 l0_4).bind fun t334 => ((regletref13_Useful.f k l0_0 l0_1 a0_2 a0_3 l0_4).bind fun t337 => ((regletref13_SameBools.f k t334 t337).bind fun t340 => (if t340 = true then ((firsts_First.f k l0_0 l0_1 a0_2 a0_3 l0_4).bind fun t341 => ((regletref13_First.f k l0_0 l0_1 a0_2 a0_3 l0_4).bind fun t344 => ((regletref13_SameLists.f k t341 t344).bind fun t347 => (if t347 = true then ((firsts_Follow.f k l0_0 l0_1 a0_2 a0_3 l0_4).bind fun t348 => ((regletref13_Follow.f k l0_0 l0_1 a0_2 a0_3 l0_4).bind fun t351 => ((regletref13_SameLists.f k t348 t351).bind fun t354 => (if t354 = true then ((regletref13_SameInts.f k t317 t321).bind fun t355 => (if t355 = true then (some (t320 == t324)) else (none))) else (none))))) else (none))))) else (none))))) else (none))))) else (none)))) = some r := H
  have A4 := Aside0.mk A40
  clear A40
  replace H := Option.bind_eq_some_iff.mp H
  obtain ⟨t325, A50, H⟩ := H
  replace H : ((regletref13_Right.f k l0_0 l0_1 a0_2 a0_3 l0_4).bind fun t326 => (if (t325 == t326) = true then ((firsts_Empty.f k l0_0 l0_1 a0_2 a0_3 l0_4).bind fun t327 => ((regletref13_Empty.f k l0_0 l0_1 a0_2 a0_3 l0_4).bind fun t330 => ((regletref13_SameBools.f k t327 t330).bind fun t333 => (if t333 = true then ((firsts_Useful.f k l0_0 l0_1 a0_2 a0_3 l0_4).bind fun t334 => ((regletref13_Useful.f k l0_0 l0_1 a0_2 a0_3 l0_4).bind fun t337 => ((regletref13_SameBools.f k t334 t337).bind fun t340 => (if t340 = true then ((firsts_First.f k l0_0 l0_1 a0_2 a0_3 l0_4).bind fun t341 => ((regletref13_First.f k l0_0 l0_1 a0_2 a0_3 l0_4).bind fun t344 => ((regletref13_SameLists.f k t341 t344).bind fun t347 => (if t347 = true then ((firsts_Follow.f k l0_0 l0_1 a0_2 a0_3 l0_4).bind fun t348 => ((regletref13_Follow.f k l0_0 l0_1 a0_2 a0_3 l0_4).bind fun t351 => ((regletref13_SameLists.f k t348 t351).bind fun t354 => (if t354 = true then ((regletref13_SameInts.f k t317 t321).bind fun t355 => (if t355 = true then (some (t320 == t324)) else (none))) else (none))))) else (none))))) else (none))))) else (none))))) else (none))) = some r := H
  have A5 := Aside0.mk A50
  clear A50
  replace H := Option.bind_eq_some_iff.mp H
  obtain ⟨t326, A60, H⟩ := H
  replace H : (if (t325 == t326) = true then ((firsts_Empty.f k l0_0 l0_1 a0_2 a0_3 l0_4).bind fun t327 => ((regletref13_Empty.f k l0_0 l0_1 a0_2 a0_3 l0_4).bind fun t330 => ((regletref13_SameBools.f k t327 t330).bind fun t333 => (if t333 = true then ((firsts_Useful.f k l0_0 l0_1 a0_2 a0_3 l0_4).bind fun t334 => ((regletref13_Useful.f k l0_0 l0_1 a0_2 a0_3 l0_4).bind fun t337 => ((regletref13_SameBools.f k t334 t337).bind fun t340 => (if t340 = true then ((firsts_First.f k l0_0 l0_1 a0_2 a0_3 l0_4).bind fun t341 => ((regletref13_First.f k l0_0 l0_1 a0_2 a0_3 l0_4).bind fun t344 => ((regletref13_SameLists.f k t341 t344).bind fun t347 => (if t347 = true then ((firsts_Follow.f k l0_0 l0_1 a0_2 a0_3 l0_4).bind fun t348 => ((regletref13_Follow.f k l0_0 l0_1 a0_2 a0_3 l0_4).bind fun t351 => ((regletref13_SameLists.f k t348 t351).bind fun t354 => (if t354 = true then ((regletref13_SameInts.f k t317 t321).bind fun t355 => (if t355 = true then (some (t320 == t324)) else (none))) else (none))))) else (none))))) else (none))))) else (none))))) else (none)) = some r := H
  have A6 := Aside0.mk A60
  clear A60
  by_cases c7 : (t325 == t326) = true
  · rw [if_pos c7] at H
    have c7b0 : (t325 == t326) = true := c7
    (try (have c7b1 : decide (t325 = t326) = true := by simpa using c7))
    (try (have c7b2 : (t325 == t326) = true := by simpa using c7))
    clear c7
    replace H := Option.bind_eq_some_iff.mp H
    obtain ⟨t327, A80, H⟩ := H
    replace H : ((regletref13_Empty.f k l0_0 l0_1 a0_2 a0_3 l0_4).bind fun t330 => ((regletref13_SameBools.f k t327 t330).bind fun t333 => (if t333 = true then ((firsts_Useful.f k l0_0 l0_1 a0_2 a0_3 l0_4).bind fun t334 => ((regletref13_Useful.f k l0_0 l0_1 a0_2 a0_3 l0_4).bind fun t337 => ((regletref13_SameBools.f k t334 t337).bind fun t340 => (if t340 = true then ((firsts_First.f k l0_0 l0_1 a0_2 a0_3 l0_4).bind fun t341 => ((regletref13_First.f k l0_0 l0_1 a0_2 a0_3 l0_4).bind fun t344 => ((regletref13_SameLists.f k t341 t344).bind fun t347 => (if t347 = true then ((firsts_Follow.f k l0_0 l0_1 a0_2 a0_3 l0_4).bind fun t348 => ((regletref13_Follow.f k l0_0 l0_1 a0_2 a0_3 l0_4).bind fun t351 => ((regletref13_SameLists.f k t348 t351).bind fun t354 => (if t354 = true then ((regletref13_SameInts.f k t317 t321).bind fun t355 => (if t355 = true then (some (t320 == t324)) else (none))) else (none))))) else (none))))) else (none))))) else (none)))) = some r := H
    have A8 := Aside0.mk A80
    clear A80
    replace H := Option.bind_eq_some_iff.mp H
    obtain ⟨t330, A90, H⟩ := H
    replace H : ((regletref13_SameBools.f k t327 t330).bind fun t333 => (if t333 = true then ((firsts_Useful.f k l0_0 l0_1 a0_2 a0_3 l0_4).bind fun t334 => ((regletref13_Useful.f k l0_0 l0_1 a0_2 a0_3 l0_4).bind fun t337 => ((regletref13_SameBools.f k t334 t337).bind fun t340 => (if t340 = true then ((firsts_First.f k l0_0 l0_1 a0_2 a0_3 l0_4).bind fun t341 => ((regletref13_First.f k l0_0 l0_1 a0_2 a0_3 l0_4).bind fun t344 => ((regletref13_SameLists.f k t341 t344).bind fun t347 => (if t347 = true then ((firsts_Follow.f k l0_0 l0_1 a0_2 a0_3 l0_4).bind fun t348 => ((regletref13_Follow.f k l0_0 l0_1 a0_2 a0_3 l0_4).bind fun t351 => ((regletref13_SameLists.f k t348 t351).bind fun t354 => (if t354 = true then ((regletref13_SameInts.f k t317 t321).bind fun t355 => (if t355 = true then (some (t320 == t324)) else (none))) else (none))))) else (none))))) else (none))))) else (none))) = some r := H
    have A9 := Aside0.mk A90
    clear A90
    replace H := Option.bind_eq_some_iff.mp H
    obtain ⟨t333, A100, H⟩ := H
    replace H : (if t333 = true then ((firsts_Useful.f k l0_0 l0_1 a0_2 a0_3 l0_4).bind fun t334 => ((regletref13_Useful.f k l0_0 l0_1 a0_2 a0_3 l0_4).bind fun t337 => ((regletref13_SameBools.f k t334 t337).bind fun t340 => (if t340 = true then ((firsts_First.f k l0_0 l0_1 a0_2 a0_3 l0_4).bind fun t341 => ((regletref13_First.f k l0_0 l0_1 a0_2 a0_3 l0_4).bind fun t344 => ((regletref13_SameLists.f k t341 t344).bind fun t347 => (if t347 = true then ((firsts_Follow.f k l0_0 l0_1 a0_2 a0_3 l0_4).bind fun t348 => ((regletref13_Follow.f k l0_0 l0_1 a0_2 a0_3 l0_4).bind fun t351 => ((regletref13_SameLists.f k t348 t351).bind fun t354 => (if t354 = true then ((regletref13_SameInts.f k t317 t321).bind fun t355 => (if t355 = true then (some (t320 == t324)) else (none))) else (none))))) else (none))))) else (none))))) else (none)) = some r := H
    have A10 := Aside0.mk A100
    clear A100
    by_cases c11 : t333 = true
    · subst c11
      have H1 : ((firsts_Useful.f k l0_0 l0_1 a0_2 a0_3 l0_4).bind fun t334 => ((regletref13_Useful.f k l0_0 l0_1 a0_2 a0_3 l0_4).bind fun t337 => ((regletref13_SameBools.f k t334 t337).bind fun t340 => (if t340 = true then ((firsts_First.f k l0_0 l0_1 a0_2 a0_3 l0_4).bind fun t341 => ((regletref13_First.f k l0_0 l0_1 a0_2 a0_3 l0_4).bind fun t344 => ((regletref13_SameLists.f k t341 t344).bind fun t347 => (if t347 = true then ((firsts_Follow.f k l0_0 l0_1 a0_2 a0_3 l0_4).bind fun t348 => ((regletref13_Follow.f k l0_0 l0_1 a0_2 a0_3 l0_4).bind fun t351 => ((regletref13_SameLists.f k t348 t351).bind fun t354 => (if t354 = true then ((regletref13_SameInts.f k t317 t321).bind fun t355 => (if t355 = true then (some (t320 == t324)) else (none))) else (none))))) else (none))))) else (none))))) = some r := by rw [if_pos rfl] at H; exact H
      clear H
      have H := H1
      clear H1
      replace H := Option.bind_eq_some_iff.mp H
      obtain ⟨t334, A120, H⟩ := H
      replace H : ((regletref13_Useful.f k l0_0 l0_1 a0_2 a0_3 l0_4).bind fun t337 => ((regletref13_SameBools.f k t334 t337).bind fun t340 => (if t340 = true then ((firsts_First.f k l0_0 l0_1 a0_2 a0_3 l0_4).bind fun t341 => ((regletref13_First.f k l0_0 l0_1 a0_2 a0_3 l0_4).bind fun t344 => ((regletref13_SameLists.f k t341 t344).bind fun t347 => (if t347 = true then ((firsts_Follow.f k l0_0 l0_1 a0_2 a0_3 l0_4).bind fun t348 => ((regletref13_Follow.f k l0_0 l0_1 a0_2 a0_3 l0_4).bind fun t351 => ((regletref13_SameLists.f k t348 t351).bind fun t354 => (if t354 = true then ((regletref13_SameInts.f k t317 t321).bind fun t355 => (if t355 = true then (some (t320 == t324)) else (none))) else (none))))) else (none))))) else (none)))) = some r := H
      have A12 := Aside0.mk A120
      clear A120
      replace H := Option.bind_eq_some_iff.mp H
      obtain ⟨t337, A130, H⟩ := H
      replace H : ((regletref13_SameBools.f k t334 t337).bind fun t340 => (if t340 = true then ((firsts_First.f k l0_0 l0_1 a0_2 a0_3 l0_4).bind fun t341 => ((regletref13_First.f k l0_0 l0_1 a0_2 a0_3 l0_4).bind fun t344 => ((regletref13_SameLists.f k t341 t344).bind fun t347 => (if t347 = true then ((firsts_Follow.f k l0_0 l0_1 a0_2 a0_3 l0_4).bind fun t348 => ((regletref13_Follow.f k l0_0 l0_1 a0_2 a0_3 l0_4).bind fun t351 => ((regletref13_SameLists.f k t348 t351).bind fun t354 => (if t354 = true then ((regletref13_SameInts.f k t317 t321).bind fun t355 => (if t355 = true then (some (t320 == t324)) else (none))) else (none))))) else (none))))) else (none))) = some r := H
      have A13 := Aside0.mk A130
      clear A130
      replace H := Option.bind_eq_some_iff.mp H
      obtain ⟨t340, A140, H⟩ := H
      replace H : (if t340 = true then ((firsts_First.f k l0_0 l0_1 a0_2 a0_3 l0_4).bind fun t341 => ((regletref13_First.f k l0_0 l0_1 a0_2 a0_3 l0_4).bind fun t344 => ((regletref13_SameLists.f k t341 t344).bind fun t347 => (if t347 = true then ((firsts_Follow.f k l0_0 l0_1 a0_2 a0_3 l0_4).bind fun t348 => ((regletref13_Follow.f k l0_0 l0_1 a0_2 a0_3 l0_4).bind fun t351 => ((regletref13_SameLists.f k t348 t351).bind fun t354 => (if t354 = true then ((regletref13_SameInts.f k t317 t321).bind fun t355 => (if t355 = true then (some (t320 == t324)) else (none))) else (none))))) else (none))))) else (none)) = some r := H
      have A14 := Aside0.mk A140
      clear A140
      by_cases c15 : t340 = true
      · subst c15
        have H1 : ((firsts_First.f k l0_0 l0_1 a0_2 a0_3 l0_4).bind fun t341 => ((regletref13_First.f k l0_0 l0_1 a0_2 a0_3 l0_4).bind fun t344 => ((regletref13_SameLists.f k t341 t344).bind fun t347 => (if t347 = true then ((firsts_Follow.f k l0_0 l0_1 a0_2 a0_3 l0_4).bind fun t348 => ((regletref13_Follow.f k l0_0 l0_1 a0_2 a0_3 l0_4).bind fun t351 => ((regletref13_SameLists.f k t348 t351).bind fun t354 => (if t354 = true then ((regletref13_SameInts.f k t317 t321).bind fun t355 => (if t355 = true then (some (t320 == t324)) else (none))) else (none))))) else (none))))) = some r := by rw [if_pos rfl] at H; exact H
        clear H
        have H := H1
        clear H1
        replace H := Option.bind_eq_some_iff.mp H
        obtain ⟨t341, A160, H⟩ := H
        replace H : ((regletref13_First.f k l0_0 l0_1 a0_2 a0_3 l0_4).bind fun t344 => ((regletref13_SameLists.f k t341 t344).bind fun t347 => (if t347 = true then ((firsts_Follow.f k l0_0 l0_1 a0_2 a0_3 l0_4).bind fun t348 => ((regletref13_Follow.f k l0_0 l0_1 a0_2 a0_3 l0_4).bind fun t351 => ((regletref13_SameLists.f k t348 t351).bind fun t354 => (if t354 = true then ((regletref13_SameInts.f k t317 t321).bind fun t355 => (if t355 = true then (some (t320 == t324)) else (none))) else (none))))) else (none)))) = some r := H
        have A16 := Aside0.mk A160
        clear A160
        replace H := Option.bind_eq_some_iff.mp H
        obtain ⟨t344, A170, H⟩ := H
        replace H : ((regletref13_SameLists.f k t341 t344).bind fun t347 => (if t347 = true then ((firsts_Follow.f k l0_0 l0_1 a0_2 a0_3 l0_4).bind fun t348 => ((regletref13_Follow.f k l0_0 l0_1 a0_2 a0_3 l0_4).bind fun t351 => ((regletref13_SameLists.f k t348 t351).bind fun t354 => (if t354 = true then ((regletref13_SameInts.f k t317 t321).bind fun t355 => (if t355 = true then (some (t320 == t324)) else (none))) else (none))))) else (none))) = some r := H
        have A17 := Aside0.mk A170
        clear A170
        replace H := Option.bind_eq_some_iff.mp H
        obtain ⟨t347, A180, H⟩ := H
        replace H : (if t347 = true then ((firsts_Follow.f k l0_0 l0_1 a0_2 a0_3 l0_4).bind fun t348 => ((regletref13_Follow.f k l0_0 l0_1 a0_2 a0_3 l0_4).bind fun t351 => ((regletref13_SameLists.f k t348 t351).bind fun t354 => (if t354 = true then ((regletref13_SameInts.f k t317 t321).bind fun t355 => (if t355 = true then (some (t320 == t324)) else (none))) else (none))))) else (none)) = some r := H
        have A18 := Aside0.mk A180
        clear A180
        by_cases c19 : t347 = true
        · subst c19
          have H1 : ((firsts_Follow.f k l0_0 l0_1 a0_2 a0_3 l0_4).bind fun t348 => ((regletref13_Follow.f k l0_0 l0_1 a0_2 a0_3 l0_4).bind fun t351 => ((regletref13_SameLists.f k t348 t351).bind fun t354 => (if t354 = true then ((regletref13_SameInts.f k t317 t321).bind fun t355 => (if t355 = true then (some (t320 == t324)) else (none))) else (none))))) = some r := by rw [if_pos rfl] at H; exact H
          clear H
          have H := H1
          clear H1
          replace H := Option.bind_eq_some_iff.mp H
          obtain ⟨t348, A200, H⟩ := H
          replace H : ((regletref13_Follow.f k l0_0 l0_1 a0_2 a0_3 l0_4).bind fun t351 => ((regletref13_SameLists.f k t348 t351).bind fun t354 => (if t354 = true then ((regletref13_SameInts.f k t317 t321).bind fun t355 => (if t355 = true then (some (t320 == t324)) else (none))) else (none)))) = some r := H
          have A20 := Aside0.mk A200
          clear A200
          replace H := Option.bind_eq_some_iff.mp H
          obtain ⟨t351, A210, H⟩ := H
          replace H : ((regletref13_SameLists.f k t348 t351).bind fun t354 => (if t354 = true then ((regletref13_SameInts.f k t317 t321).bind fun t355 => (if t355 = true then (some (t320 == t324)) else (none))) else (none))) = some r := H
          have A21 := Aside0.mk A210
          clear A210
          replace H := Option.bind_eq_some_iff.mp H
          obtain ⟨t354, A220, H⟩ := H
          replace H : (if t354 = true then ((regletref13_SameInts.f k t317 t321).bind fun t355 => (if t355 = true then (some (t320 == t324)) else (none))) else (none)) = some r := H
          have A22 := Aside0.mk A220
          clear A220
          by_cases c23 : t354 = true
          · subst c23
            have H1 : ((regletref13_SameInts.f k t317 t321).bind fun t355 => (if t355 = true then (some (t320 == t324)) else (none))) = some r := by rw [if_pos rfl] at H; exact H
            clear H
            have H := H1
            clear H1
            replace H := Option.bind_eq_some_iff.mp H
            obtain ⟨t355, A240, H⟩ := H
            replace H : (if t355 = true then (some (t320 == t324)) else (none)) = some r := H
            have A24 := Aside0.mk A240
            clear A240
            by_cases c25 : t355 = true
            · subst c25
              have H1 : (some (t320 == t324)) = some r := by rw [if_pos rfl] at H; exact H
              clear H
              have H := H1
              clear H1
              obtain rfl := Option.some.inj H
              go_enter Try.func11, Try.ntmps11
              try go_wp2_with (first | ((with_reducible refine gate_dst (N := 2) rfl ?_); refine box_event ?hg (N := 2) ?hd (cs := #[.slice A0_0 l0_0.length c0_0, .slice A0_1 l0_1.length c0_1, .int .i64 a0_2, .int .i64 a0_3, .slice A0_4 l0_4.length c0_4]) (t := 26) ?hr ?_; (case hd => rfl); (case hg => rfl); (case hr => first | (go_simp; done) | (go_simp; rfl)); intro gb316 hg w26 hbox hb; have n0_ := Aside0.mk (below_step (by repeat (first | (with_reducible first | exact HB.out | apply below_alloc | apply pw_below_drewN | apply below_drew1) | exact HB.out)) hb); have n1_ := Aside0.mk (hbox); have n2_ := Aside0.mk ((by rw [hg]; exact (below_size (by repeat (first | (with_reducible first | exact HB.out | apply below_alloc | apply pw_below_drewN | apply below_drew1) | exact HB.out))) : w.heap.size ≤ gb316)); have n3_ := Aside0.mk ((by rw [hg]; exact (below_size (by repeat (first | (with_reducible first | exact HB.out | apply below_alloc | apply pw_below_drewN | apply below_drew1) | exact HB.out))) : w.heap.size ≤ gb316)); clear HB; have HB := n0_; have BK316 := n1_; have GW316 := n2_; have GE316 := n3_; clear n0_ n1_ n2_ n3_; clear hb hbox hg; have hcz27_0 : w26.cell? ⟨gb316, 0, none⟩ = some (.slice A0_0 l0_0.length c0_0) := (blk_cell BK316.out 0).trans rfl; have hcz27_1 : w26.cell? ⟨gb316, 1, none⟩ = some (.slice A0_1 l0_1.length c0_1) := (blk_cell BK316.out 1).trans rfl; have hcz27_2 : w26.cell? ⟨gb316, 2, none⟩ = some (.int .i64 a0_2) := (blk_cell BK316.out 2).trans rfl; have hcz27_3 : w26.cell? ⟨gb316, 3, none⟩ = some (.int .i64 a0_3) := (blk_cell BK316.out 3).trans rfl; have hcz27_4 : w26.cell? ⟨gb316, 4, none⟩ = some (.slice A0_4 l0_4.length c0_4) := (blk_cell BK316.out 4).trans rfl; have hfz27_0 := blk_frozen BK316.out 0; have hfz27_1 := blk_frozen BK316.out 1; have hfz27_2 := blk_frozen BK316.out 2; have hfz27_3 := blk_frozen BK316.out 3; have hfz27_4 := blk_frozen BK316.out 4) | ((with_reducible refine gate_callee (f := 21) rfl ?_); refine goesL_ (some 12) rfl rfl Try.func21 (by kernel_rfl) rfl #[.agg #[.slice A0_0 l0_0.length c0_0, .slice A0_1 l0_1.length c0_1, .int .i64 a0_2, .int .i64 a0_3, .slice A0_4 l0_4.length c0_4], .slice A1 l1.length c1] rfl (by (try simp only [List.map_toArray, List.map_cons, List.map_nil]); first | done | rfl | (simp only [List.length_drop, List.length_take]; rfl)) ?_; (with_reducible refine (firsts_Of.calls k _ _ l0_0 _ _ l0_1 a0_2 a0_3 _ _ l0_4 _ _ l1 t317 t320 _ ?side1 ?side2 ?side3 ?side4 ?side5 ?side6 ?side7 ?side8 A3.out).mono ?_); (case side1 => repeat (first | exact (Kd.C_below HR0_0.out HB.out) | (with_reducible refine Kd.C_alloc ?_ _) | (with_reducible refine Kd.C_drewN ?_ _) | (with_reducible refine Kd.C_drew ?_))); (case side2 => exact HC0_0.out); (case side3 => repeat (first | exact (Kd.C_below HR0_1.out HB.out) | (with_reducible refine Kd.C_alloc ?_ _) | (with_reducible refine Kd.C_drewN ?_ _) | (with_reducible refine Kd.C_drew ?_))); (case side4 => exact HC0_1.out); (case side5 => repeat (first | exact (Kd.C_below HR0_4.out HB.out) | (with_reducible refine Kd.C_alloc ?_ _) | (with_reducible refine Kd.C_drewN ?_ _) | (with_reducible refine Kd.C_drew ?_))); (case side6 => exact HC0_4.out); (case side7 => repeat (first | exact (Kd.C_below HR1.out HB.out) | (with_reducible refine Kd.C_alloc ?_ _) | (with_reducible refine Kd.C_drewN ?_ _) | (with_reducible refine Kd.C_drew ?_))); (case side8 => exact HC1.out); rintro e w28 ⟨v318, rfl, ho0, hb⟩; refine ⟨_, rfl, ?_⟩; have n0_ := Aside0.mk (Kd.R_lower ho0 (below_size (by repeat (first | (with_reducible first | exact HB.out | apply below_alloc | apply pw_below_drewN | apply below_drew1 | refine below_set ?_ GE316.out) | exact HB.out)))); have n1_ := Aside0.mk (blk_below (g := gb316) (o := .cells #[.slice A0_0 l0_0.length c0_0, .slice A0_1 l0_1.length c0_1, .int .i64 a0_2, .int .i64 a0_3, .slice A0_4 l0_4.length c0_4] 26 (0, 0)) (by (with_reducible repeat (first | refine blk_drewN ?_ _ | refine blk_drew ?_ | refine blk_alloc ?_ _)); exact BK316.out) hb); have n2_ := Aside0.mk (below_step (by repeat (first | (with_reducible first | exact HB.out | apply below_alloc | apply pw_below_drewN | apply below_drew1 | refine below_set ?_ GE316.out) | exact HB.out)) hb); clear BK316; clear HB; have HO319 := n0_; have BK316 := n1_; have HB := n2_; clear n0_ n1_ n2_; (try clear hb); (try clear hb2); (try clear hk); (try clear hi); (try clear ho0); have hcz29_0 : w28.cell? ⟨gb316, 0, none⟩ = some (.slice A0_0 l0_0.length c0_0) := (blk_cell BK316.out 0).trans rfl; have hcz29_1 : w28.cell? ⟨gb316, 1, none⟩ = some (.slice A0_1 l0_1.length c0_1) := (blk_cell BK316.out 1).trans rfl; have hcz29_2 : w28.cell? ⟨gb316, 2, none⟩ = some (.int .i64 a0_2) := (blk_cell BK316.out 2).trans rfl; have hcz29_3 : w28.cell? ⟨gb316, 3, none⟩ = some (.int .i64 a0_3) := (blk_cell BK316.out 3).trans rfl; have hcz29_4 : w28.cell? ⟨gb316, 4, none⟩ = some (.slice A0_4 l0_4.length c0_4) := (blk_cell BK316.out 4).trans rfl; have hfz29_0 := blk_frozen BK316.out 0; have hfz29_1 := blk_frozen BK316.out 1; have hfz29_2 := blk_frozen BK316.out 2; have hfz29_3 := blk_frozen BK316.out 3; have hfz29_4 := blk_frozen BK316.out 4) | ((with_reducible refine gate_callee (f := 26) rfl ?_); refine goesL_ (some 18) rfl rfl Try.func26 (by kernel_rfl) rfl #[.agg #[.slice A0_0 l0_0.length c0_0, .slice A0_1 l0_1.length c0_1, .int .i64 a0_2, .int .i64 a0_3, .slice A0_4 l0_4.length c0_4], .slice A1 l1.length c1] rfl (by (try simp only [List.map_toArray, List.map_cons, List.map_nil]); first | done | rfl | (simp only [List.length_drop, List.length_take]; rfl)) ?_; (with_reducible refine (regletref13_Of.calls k _ _ l0_0 _ _ l0_1 a0_2 a0_3 _ _ l0_4 _ _ l1 t321 t324 _ ?side1 ?side2 ?side3 ?side4 ?side5 ?side6 ?side7 ?side8 A4.out).mono ?_); (case side1 => repeat (first | exact (Kd.C_below HR0_0.out HB.out) | (with_reducible refine Kd.C_alloc ?_ _) | (with_reducible refine Kd.C_drewN ?_ _) | (with_reducible refine Kd.C_drew ?_))); (case side2 => exact HC0_0.out); (case side3 => repeat (first | exact (Kd.C_below HR0_1.out HB.out) | (with_reducible refine Kd.C_alloc ?_ _) | (with_reducible refine Kd.C_drewN ?_ _) | (with_reducible refine Kd.C_drew ?_))); (case side4 => exact HC0_1.out); (case side5 => repeat (first | exact (Kd.C_below HR0_4.out HB.out) | (with_reducible refine Kd.C_alloc ?_ _) | (with_reducible refine Kd.C_drewN ?_ _) | (with_reducible refine Kd.C_drew ?_))); (case side6 => exact HC0_4.out); (case side7 => repeat (first | exact (Kd.C_below HR1.out HB.out) | (with_reducible refine Kd.C_alloc ?_ _) | (with_reducible refine Kd.C_drewN ?_ _) | (with_reducible refine Kd.C_drew ?_))); (case side8 => exact HC1.out); rintro e w30 ⟨v322, rfl, ho0, hb⟩; refine ⟨_, rfl, ?_⟩; have n0_ := Aside0.mk (Kd.R_elder' (by (with_reducible repeat (first | apply Kd.R_alloc | apply Kd.R_drewN | apply Kd.R_drew)); exact HO319.out) (Kd.R_base ho0) hb); have n1_ := Aside0.mk (Kd.R_lower (Kd.R_new' ho0 (Kd.R_lt (by (with_reducible repeat (first | apply Kd.R_alloc | apply Kd.R_drewN | apply Kd.R_drew)); exact HO319.out))) (below_size (by repeat (first | (with_reducible first | exact HB.out | apply below_alloc | apply pw_below_drewN | apply below_drew1 | refine below_set ?_ GE316.out) | exact HB.out)))); have n2_ := Aside0.mk (blk_below (g := gb316) (o := .cells #[.slice A0_0 l0_0.length c0_0, .slice A0_1 l0_1.length c0_1, .int .i64 a0_2, .int .i64 a0_3, .slice A0_4 l0_4.length c0_4] 26 (0, 0)) (by (with_reducible repeat (first | refine blk_drewN ?_ _ | refine blk_drew ?_ | refine blk_alloc ?_ _)); exact BK316.out) hb); have n3_ := Aside0.mk (below_step (by repeat (first | (with_reducible first | exact HB.out | apply below_alloc | apply pw_below_drewN | apply below_drew1 | refine below_set ?_ GE316.out) | exact HB.out)) hb); clear HO319; clear BK316; clear HB; have HO319 := n0_; have HO323 := n1_; have BK316 := n2_; have HB := n3_; clear n0_ n1_ n2_ n3_; (try clear hb); (try clear hb2); (try clear hk); (try clear hi); (try clear ho0)))
              have n0_ := Aside0.mk (Kd.R_drew HO319.out)
              have n1_ := Aside0.mk (Kd.R_drew HO323.out)
              have n2_ := Aside0.mk (blk_drew BK316.out)
              have n3_ := Aside0.mk (below_drew1 HB.out)
              clear HO319
              clear HO323
              clear BK316
              clear HB
              have HO319 := n0_
              have HO323 := n1_
              have BK316 := n2_
              have HB := n3_
              clear n0_ n1_ n2_ n3_
              refine start_ (n := 44) (S := fun w' => w'.cell? ⟨gb316, 0, none⟩ = some (.slice A0_0 l0_0.length c0_0) ∧ w'.cell? ⟨gb316, 1, none⟩ = some (.slice A0_1 l0_1.length c0_1) ∧ w'.cell? ⟨gb316, 2, none⟩ = some (.int .i64 a0_2) ∧ w'.cell? ⟨gb316, 3, none⟩ = some (.int .i64 a0_3) ∧ w'.cell? ⟨gb316, 4, none⟩ = some (.slice A0_4 l0_4.length c0_4)) (ds := []) #[false, false, false, false, false, false, false, false, false, false, false, false, false, false, false, false, false, false, false, false, false, false, false, false, false, false, false, false, false, false, false, false, false, false, false, false, false, false, false, false, false, false, false, false] (by kernel_rfl) rfl rfl ⟨(blk_cell BK316.out 0).trans rfl, (blk_cell BK316.out 1).trans rfl, (blk_cell BK316.out 2).trans rfl, (blk_cell BK316.out 3).trans rfl, (blk_cell BK316.out 4).trans rfl⟩ (fun hHeld => ?_); refine with_tabW regletlaw13_same.tab3 regletlaw13_same.bits3 (fun HT_ HW_ => ?_)
              generalize w30.drew = w31 at HO319 HO323 BK316 HB hHeld ⊢
              refine take_ (i := 0) (N := some 21) (v := ?_) (a' := ?_) #[true, false, false, false, false, false, false, false, false, false, false, false, false, false, false, false, false, false, false, false, false, false, false, false, false, false, false, false, false, false, false, false, false, false, false, false, false, false, false, false, false, false, false, false] rfl rfl (take_ofW HT_.out HW_.out (by kernel_rfl)) (fun _ _ _ h => h) (Or.inl ⟨by rfl, ?_⟩) hHeld ?_ ?_
              rotate_left
              · rintro w' ⟨s0, s1, s2, s3, s4⟩
                go_simp
                with_reducible rfl
              rotate_left
              · simp only [Act.put, List.setIfInBounds_toArray, List.set_cons_zero, List.set_cons_succ, i64_w, i32_w]
                rfl
              refine take_ (i := 2) (N := some 23) (v := ?_) (a' := ?_) #[true, false, true, false, false, false, false, false, false, false, false, false, false, false, false, false, false, false, false, false, false, false, false, false, false, false, false, false, false, false, false, false, false, false, false, false, false, false, false, false, false, false, false, false] rfl rfl (take_ofW HT_.out HW_.out (by kernel_rfl)) (fun _ _ _ h => h) (Or.inl ⟨by rfl, ?_⟩) hHeld ?_ ?_
              rotate_left
              · rintro w' ⟨s0, s1, s2, s3, s4⟩
                go_simp
                with_reducible rfl
              rotate_left
              · simp only [Act.put, List.setIfInBounds_toArray, List.set_cons_zero, List.set_cons_succ, i64_w, i32_w]
                rfl
              refine one_ (i := 1) (N := some 22) #[true, true, true, false, false, false, false, false, false, false, false, false, false, false, false, false, false, false, false, false, false, false, false, false, false, false, false, false, false, false, false, false, false, false, false, false, false, false, false, false, false, false, false, false] rfl rfl (one_of HT_.out (by kernel_rfl)) (by decide) (fun K hK => ?_)
              refine goes_ Try.func23 (by kernel_rfl) rfl #[.agg #[.slice A0_0 l0_0.length c0_0, .slice A0_1 l0_1.length c0_1, .int .i64 a0_2, .int .i64 a0_3, .slice A0_4 l0_4.length c0_4]] (by rfl) rfl rfl (by (try simp only [List.map_toArray, List.map_cons, List.map_nil]); first | done | rfl | (simp only [List.length_drop, List.length_take]; rfl)) ?_
              with_reducible refine (firsts_Right.calls _ _ l0_0 _ _ l0_1 a0_2 a0_3 _ _ l0_4 t325 _ ?side1 ?side2 ?side3 ?side4 ?side5 ?side6 A5.out).mono ?_
              (case side1 => repeat (first | exact (Kd.C_below HR0_0.out HB.out) | (with_reducible refine Kd.C_alloc ?_ _) | (with_reducible refine Kd.C_drewN ?_ _) | (with_reducible refine Kd.C_drew ?_)))
              (case side2 => exact HC0_0.out)
              (case side3 => repeat (first | exact (Kd.C_below HR0_1.out HB.out) | (with_reducible refine Kd.C_alloc ?_ _) | (with_reducible refine Kd.C_drewN ?_ _) | (with_reducible refine Kd.C_drew ?_)))
              (case side4 => exact HC0_1.out)
              (case side5 => repeat (first | exact (Kd.C_below HR0_4.out HB.out) | (with_reducible refine Kd.C_alloc ?_ _) | (with_reducible refine Kd.C_drewN ?_ _) | (with_reducible refine Kd.C_drew ?_)))
              (case side6 => exact HC0_4.out)
              rintro e w32 ⟨rfl, hb⟩
              refine ⟨_, rfl, ?_⟩
              have n0_ := Aside0.mk (Kd.R_below (by (with_reducible repeat (first | apply Kd.R_alloc | apply Kd.R_drewN | apply Kd.R_drew)); exact HO319.out) hb)
              have n1_ := Aside0.mk (Kd.R_below (by (with_reducible repeat (first | apply Kd.R_alloc | apply Kd.R_drewN | apply Kd.R_drew)); exact HO323.out) hb)
              have n2_ := Aside0.mk (blk_below (g := gb316) (o := .cells #[.slice A0_0 l0_0.length c0_0, .slice A0_1 l0_1.length c0_1, .int .i64 a0_2, .int .i64 a0_3, .slice A0_4 l0_4.length c0_4] 26 (0, 0)) (by (with_reducible repeat (first | refine blk_drewN ?_ _ | refine blk_drew ?_ | refine blk_alloc ?_ _)); exact BK316.out) hb)
              have n3_ := Aside0.mk (below_step (by repeat (first | (with_reducible first | exact HB.out | apply below_alloc | apply pw_below_drewN | apply below_drew1 | refine below_set ?_ GE316.out) | exact HB.out)) hb)
              clear HO319
              clear HO323
              clear BK316
              clear HB
              have HO319 := n0_
              have HO323 := n1_
              have BK316 := n2_
              have HB := n3_
              clear n0_ n1_ n2_ n3_
              (try clear hb)
              (try clear hb2)
              (try clear hk)
              (try clear hi)
              refine hK.out _ _ ⟨(blk_cell BK316.out 0).trans rfl, (blk_cell BK316.out 1).trans rfl, (blk_cell BK316.out 2).trans rfl, (blk_cell BK316.out 3).trans rfl, (blk_cell BK316.out 4).trans rfl⟩ (fun hHeld => ?_)
              clear hK K
              refine norm_ (a' := ?_) ?_ ?_
              rotate_left
              · show Act.put _ (some 22) _ = _
                simp only [Act.put, List.setIfInBounds_toArray, List.set_cons_zero, List.set_cons_succ, i64_w, i32_w]
                rfl
              refine one_ (i := 3) (N := some 24) #[true, true, true, true, false, false, false, false, false, false, false, false, false, false, false, false, false, false, false, false, false, false, false, false, false, false, false, false, false, false, false, false, false, false, false, false, false, false, false, false, false, false, false, false] rfl rfl (one_of HT_.out (by kernel_rfl)) (by decide) (fun K hK => ?_)
              refine goes_ Try.func19 (by kernel_rfl) rfl #[.agg #[.slice A0_0 l0_0.length c0_0, .slice A0_1 l0_1.length c0_1, .int .i64 a0_2, .int .i64 a0_3, .slice A0_4 l0_4.length c0_4]] (by rfl) rfl rfl (by (try simp only [List.map_toArray, List.map_cons, List.map_nil]); first | done | rfl | (simp only [List.length_drop, List.length_take]; rfl)) ?_
              with_reducible refine (regletref13_Right.calls k _ _ l0_0 _ _ l0_1 a0_2 a0_3 _ _ l0_4 t326 _ ?side1 ?side2 ?side3 ?side4 ?side5 ?side6 A6.out).mono ?_
              (case side1 => repeat (first | exact (Kd.C_below HR0_0.out HB.out) | (with_reducible refine Kd.C_alloc ?_ _) | (with_reducible refine Kd.C_drewN ?_ _) | (with_reducible refine Kd.C_drew ?_)))
              (case side2 => exact HC0_0.out)
              (case side3 => repeat (first | exact (Kd.C_below HR0_1.out HB.out) | (with_reducible refine Kd.C_alloc ?_ _) | (with_reducible refine Kd.C_drewN ?_ _) | (with_reducible refine Kd.C_drew ?_)))
              (case side4 => exact HC0_1.out)
              (case side5 => repeat (first | exact (Kd.C_below HR0_4.out HB.out) | (with_reducible refine Kd.C_alloc ?_ _) | (with_reducible refine Kd.C_drewN ?_ _) | (with_reducible refine Kd.C_drew ?_)))
              (case side6 => exact HC0_4.out)
              rintro e w33 ⟨rfl, hb⟩
              refine ⟨_, rfl, ?_⟩
              have n0_ := Aside0.mk (Kd.R_below (by (with_reducible repeat (first | apply Kd.R_alloc | apply Kd.R_drewN | apply Kd.R_drew)); exact HO319.out) hb)
              have n1_ := Aside0.mk (Kd.R_below (by (with_reducible repeat (first | apply Kd.R_alloc | apply Kd.R_drewN | apply Kd.R_drew)); exact HO323.out) hb)
              have n2_ := Aside0.mk (blk_below (g := gb316) (o := .cells #[.slice A0_0 l0_0.length c0_0, .slice A0_1 l0_1.length c0_1, .int .i64 a0_2, .int .i64 a0_3, .slice A0_4 l0_4.length c0_4] 26 (0, 0)) (by (with_reducible repeat (first | refine blk_drewN ?_ _ | refine blk_drew ?_ | refine blk_alloc ?_ _)); exact BK316.out) hb)
              have n3_ := Aside0.mk (below_step (by repeat (first | (with_reducible first | exact HB.out | apply below_alloc | apply pw_below_drewN | apply below_drew1 | refine below_set ?_ GE316.out) | exact HB.out)) hb)
              clear HO319
              clear HO323
              clear BK316
              clear HB
              have HO319 := n0_
              have HO323 := n1_
              have BK316 := n2_
              have HB := n3_
              clear n0_ n1_ n2_ n3_
              (try clear hb)
              (try clear hb2)
              (try clear hk)
              (try clear hi)
              refine hK.out _ _ ⟨(blk_cell BK316.out 0).trans rfl, (blk_cell BK316.out 1).trans rfl, (blk_cell BK316.out 2).trans rfl, (blk_cell BK316.out 3).trans rfl, (blk_cell BK316.out 4).trans rfl⟩ (fun hHeld => ?_)
              clear hK K
              refine norm_ (a' := ?_) ?_ ?_
              rotate_left
              · show Act.put _ (some 24) _ = _
                simp only [Act.put, List.setIfInBounds_toArray, List.set_cons_zero, List.set_cons_succ, i64_w, i32_w]
                rfl
              refine pure_ (i := 4) (N := some 25) (v := ?_) (a' := ?_) #[true, true, true, true, true, false, false, false, false, false, false, false, false, false, false, false, false, false, false, false, false, false, false, false, false, false, false, false, false, false, false, false, false, false, false, false, false, false, false, false, false, false, false, false] rfl rfl (any_of HT_.out (by kernel_rfl)) (fun _ _ _ h => h) (Or.inl ⟨by rfl, ?_⟩) ?_ ?_
              rotate_left
              · intro w'
                go_simp
                with_reducible rfl
              rotate_left
              · simp only [Act.put, List.setIfInBounds_toArray, List.set_cons_zero, List.set_cons_succ, i64_w, i32_w]
                rfl
              refine pure_ (i := 5) (N := some 26) (v := ?_) (a' := ?_) #[true, true, true, true, true, true, false, false, false, false, false, false, false, false, false, false, false, false, false, false, false, false, false, false, false, false, false, false, false, false, false, false, false, false, false, false, false, false, false, false, false, false, false, false] rfl rfl (any_of HT_.out (by kernel_rfl)) (fun _ _ _ h => h) (Or.inl ⟨by rfl, ?_⟩) ?_ ?_
              rotate_left
              · intro w'
                go_simp
                with_reducible rfl
              rotate_left
              · simp only [Act.put, List.setIfInBounds_toArray, List.set_cons_zero, List.set_cons_succ, i64_w, i32_w]
                rfl
              refine take_ (i := 6) (N := some 27) (v := ?_) (a' := ?_) #[true, true, true, true, true, true, true, false, false, false, false, false, false, false, false, false, false, false, false, false, false, false, false, false, false, false, false, false, false, false, false, false, false, false, false, false, false, false, false, false, false, false, false, false] rfl rfl (take_ofW HT_.out HW_.out (by kernel_rfl)) (fun _ _ _ h => h) (Or.inl ⟨by rfl, ?_⟩) hHeld ?_ ?_
              rotate_left
              · rintro w' ⟨s0, s1, s2, s3, s4⟩
                go_simp
                with_reducible rfl
              rotate_left
              · simp only [Act.put, List.setIfInBounds_toArray, List.set_cons_zero, List.set_cons_succ, i64_w, i32_w]
                rfl
              refine take_ (i := 8) (N := some 29) (v := ?_) (a' := ?_) #[true, true, true, true, true, true, true, false, true, false, false, false, false, false, false, false, false, false, false, false, false, false, false, false, false, false, false, false, false, false, false, false, false, false, false, false, false, false, false, false, false, false, false, false] rfl rfl (take_ofW HT_.out HW_.out (by kernel_rfl)) (fun _ _ _ h => h) (Or.inl ⟨by rfl, ?_⟩) hHeld ?_ ?_
              rotate_left
              · rintro w' ⟨s0, s1, s2, s3, s4⟩
                go_simp
                with_reducible rfl
              rotate_left
              · simp only [Act.put, List.setIfInBounds_toArray, List.set_cons_zero, List.set_cons_succ, i64_w, i32_w]
                rfl
              refine one_ (i := 7) (N := some 28) #[true, true, true, true, true, true, true, true, true, false, false, false, false, false, false, false, false, false, false, false, false, false, false, false, false, false, false, false, false, false, false, false, false, false, false, false, false, false, false, false, false, false, false, false] rfl rfl (one_of HT_.out (by kernel_rfl)) (by decide) (fun K hK => ?_)
              refine goes_ Try.func15 (by kernel_rfl) rfl #[.agg #[.slice A0_0 l0_0.length c0_0, .slice A0_1 l0_1.length c0_1, .int .i64 a0_2, .int .i64 a0_3, .slice A0_4 l0_4.length c0_4]] (by rfl) rfl rfl (by (try simp only [List.map_toArray, List.map_cons, List.map_nil]); first | done | rfl | (simp only [List.length_drop, List.length_take]; rfl)) ?_
              with_reducible refine (firsts_Empty.calls k _ _ l0_0 _ _ l0_1 a0_2 a0_3 _ _ l0_4 t327 _ ?side1 ?side2 ?side3 ?side4 ?side5 ?side6 A8.out).mono ?_
              (case side1 => repeat (first | exact (Kd.C_below HR0_0.out HB.out) | (with_reducible refine Kd.C_alloc ?_ _) | (with_reducible refine Kd.C_drewN ?_ _) | (with_reducible refine Kd.C_drew ?_)))
              (case side2 => exact HC0_0.out)
              (case side3 => repeat (first | exact (Kd.C_below HR0_1.out HB.out) | (with_reducible refine Kd.C_alloc ?_ _) | (with_reducible refine Kd.C_drewN ?_ _) | (with_reducible refine Kd.C_drew ?_)))
              (case side4 => exact HC0_1.out)
              (case side5 => repeat (first | exact (Kd.C_below HR0_4.out HB.out) | (with_reducible refine Kd.C_alloc ?_ _) | (with_reducible refine Kd.C_drewN ?_ _) | (with_reducible refine Kd.C_drew ?_)))
              (case side6 => exact HC0_4.out)
              rintro e w34 ⟨v328, rfl, ho0, hb⟩
              refine ⟨_, rfl, ?_⟩
              have n0_ := Aside0.mk (Kd.R_below (by (with_reducible repeat (first | apply Kd.R_alloc | apply Kd.R_drewN | apply Kd.R_drew)); exact HO319.out) hb)
              have n1_ := Aside0.mk (Kd.R_below (by (with_reducible repeat (first | apply Kd.R_alloc | apply Kd.R_drewN | apply Kd.R_drew)); exact HO323.out) hb)
              have n2_ := Aside0.mk (Kd.R_lower ho0 (below_size (by repeat (first | (with_reducible first | exact HB.out | apply below_alloc | apply pw_below_drewN | apply below_drew1 | refine below_set ?_ GE316.out) | exact HB.out))))
              have n3_ := Aside0.mk (blk_below (g := gb316) (o := .cells #[.slice A0_0 l0_0.length c0_0, .slice A0_1 l0_1.length c0_1, .int .i64 a0_2, .int .i64 a0_3, .slice A0_4 l0_4.length c0_4] 26 (0, 0)) (by (with_reducible repeat (first | refine blk_drewN ?_ _ | refine blk_drew ?_ | refine blk_alloc ?_ _)); exact BK316.out) hb)
              have n4_ := Aside0.mk (below_step (by repeat (first | (with_reducible first | exact HB.out | apply below_alloc | apply pw_below_drewN | apply below_drew1 | refine below_set ?_ GE316.out) | exact HB.out)) hb)
              clear HO319
              clear HO323
              clear BK316
              clear HB
              have HO319 := n0_
              have HO323 := n1_
              have HO329 := n2_
              have BK316 := n3_
              have HB := n4_
              clear n0_ n1_ n2_ n3_ n4_
              (try clear hb)
              (try clear hb2)
              (try clear hk)
              (try clear hi)
              (try clear ho0)
              refine hK.out _ _ ⟨(blk_cell BK316.out 0).trans rfl, (blk_cell BK316.out 1).trans rfl, (blk_cell BK316.out 2).trans rfl, (blk_cell BK316.out 3).trans rfl, (blk_cell BK316.out 4).trans rfl⟩ (fun hHeld => ?_)
              clear hK K
              refine norm_ (a' := ?_) ?_ ?_
              rotate_left
              · show Act.put _ (some 28) _ = _
                simp only [Act.put, List.setIfInBounds_toArray, List.set_cons_zero, List.set_cons_succ, i64_w, i32_w]
                rfl
              refine one_ (i := 9) (N := some 30) #[true, true, true, true, true, true, true, true, true, true, false, false, false, false, false, false, false, false, false, false, false, false, false, false, false, false, false, false, false, false, false, false, false, false, false, false, false, false, false, false, false, false, false, false] rfl rfl (one_of HT_.out (by kernel_rfl)) (by decide) (fun K hK => ?_)
              refine goes_ Try.func27 (by kernel_rfl) rfl #[.agg #[.slice A0_0 l0_0.length c0_0, .slice A0_1 l0_1.length c0_1, .int .i64 a0_2, .int .i64 a0_3, .slice A0_4 l0_4.length c0_4]] (by rfl) rfl rfl (by (try simp only [List.map_toArray, List.map_cons, List.map_nil]); first | done | rfl | (simp only [List.length_drop, List.length_take]; rfl)) ?_
              with_reducible refine (regletref13_Empty.calls k _ _ l0_0 _ _ l0_1 a0_2 a0_3 _ _ l0_4 t330 _ ?side1 ?side2 ?side3 ?side4 ?side5 ?side6 A9.out).mono ?_
              (case side1 => repeat (first | exact (Kd.C_below HR0_0.out HB.out) | (with_reducible refine Kd.C_alloc ?_ _) | (with_reducible refine Kd.C_drewN ?_ _) | (with_reducible refine Kd.C_drew ?_)))
              (case side2 => exact HC0_0.out)
              (case side3 => repeat (first | exact (Kd.C_below HR0_1.out HB.out) | (with_reducible refine Kd.C_alloc ?_ _) | (with_reducible refine Kd.C_drewN ?_ _) | (with_reducible refine Kd.C_drew ?_)))
              (case side4 => exact HC0_1.out)
              (case side5 => repeat (first | exact (Kd.C_below HR0_4.out HB.out) | (with_reducible refine Kd.C_alloc ?_ _) | (with_reducible refine Kd.C_drewN ?_ _) | (with_reducible refine Kd.C_drew ?_)))
              (case side6 => exact HC0_4.out)
              rintro e w35 ⟨v331, rfl, ho0, hb⟩
              refine ⟨_, rfl, ?_⟩
              have n0_ := Aside0.mk (Kd.R_below (by (with_reducible repeat (first | apply Kd.R_alloc | apply Kd.R_drewN | apply Kd.R_drew)); exact HO319.out) hb)
              have n1_ := Aside0.mk (Kd.R_below (by (with_reducible repeat (first | apply Kd.R_alloc | apply Kd.R_drewN | apply Kd.R_drew)); exact HO323.out) hb)
              have n2_ := Aside0.mk (Kd.R_elder' (by (with_reducible repeat (first | apply Kd.R_alloc | apply Kd.R_drewN | apply Kd.R_drew)); exact HO329.out) (Kd.R_base ho0) hb)
              have n3_ := Aside0.mk (Kd.R_lower (Kd.R_new' ho0 (Kd.R_lt (by (with_reducible repeat (first | apply Kd.R_alloc | apply Kd.R_drewN | apply Kd.R_drew)); exact HO329.out))) (below_size (by repeat (first | (with_reducible first | exact HB.out | apply below_alloc | apply pw_below_drewN | apply below_drew1 | refine below_set ?_ GE316.out) | exact HB.out))))
              have n4_ := Aside0.mk (blk_below (g := gb316) (o := .cells #[.slice A0_0 l0_0.length c0_0, .slice A0_1 l0_1.length c0_1, .int .i64 a0_2, .int .i64 a0_3, .slice A0_4 l0_4.length c0_4] 26 (0, 0)) (by (with_reducible repeat (first | refine blk_drewN ?_ _ | refine blk_drew ?_ | refine blk_alloc ?_ _)); exact BK316.out) hb)
              have n5_ := Aside0.mk (below_step (by repeat (first | (with_reducible first | exact HB.out | apply below_alloc | apply pw_below_drewN | apply below_drew1 | refine below_set ?_ GE316.out) | exact HB.out)) hb)
              clear HO319
              clear HO323
              clear HO329
              clear BK316
              clear HB
              have HO319 := n0_
              have HO323 := n1_
              have HO329 := n2_
              have HO332 := n3_
              have BK316 := n4_
              have HB := n5_
              clear n0_ n1_ n2_ n3_ n4_ n5_
              (try clear hb)
              (try clear hb2)
              (try clear hk)
              (try clear hi)
              (try clear ho0)
              obtain ⟨Ao36, co36, eo36⟩ := Kd.R_slice HO329.out
              (first | subst eo36 | (injection eo36 with f1_ f2_ f3_; have f4_ := f1_.symm; have f5_ := f3_.symm; clear f1_ f2_ f3_; subst f4_; subst f5_))
              obtain ⟨Ao37, co37, eo37⟩ := Kd.R_slice HO332.out
              (first | subst eo37 | (injection eo37 with f1_ f2_ f3_; have f4_ := f1_.symm; have f5_ := f3_.symm; clear f1_ f2_ f3_; subst f4_; subst f5_))
              refine hK.out _ _ ⟨(blk_cell BK316.out 0).trans rfl, (blk_cell BK316.out 1).trans rfl, (blk_cell BK316.out 2).trans rfl, (blk_cell BK316.out 3).trans rfl, (blk_cell BK316.out 4).trans rfl⟩ (fun hHeld => ?_)
              clear hK K
              refine norm_ (a' := ?_) ?_ ?_
              rotate_left
              · show Act.put _ (some 30) _ = _
                simp only [Act.put, List.setIfInBounds_toArray, List.set_cons_zero, List.set_cons_succ, i64_w, i32_w]
                rfl
              refine one_ (i := 10) (N := some 31) #[true, true, true, true, true, true, true, true, true, true, true, false, false, false, false, false, false, false, false, false, false, false, false, false, false, false, false, false, false, false, false, false, false, false, false, false, false, false, false, false, false, false, false, false] rfl rfl (one_of HT_.out (by kernel_rfl)) (by decide) (fun K hK => ?_)
              refine goes_ Try.func25 (by kernel_rfl) rfl #[.slice Ao36 t327.length co36, .slice Ao37 t330.length co37] (by rfl) rfl rfl (by (try simp only [List.map_toArray, List.map_cons, List.map_nil]); first | done | rfl | (simp only [List.length_drop, List.length_take]; rfl)) ?_
              with_reducible refine (regletref13_SameBools.calls k _ _ t327 _ _ t330 true _ ?side1 ?side2 ?side3 ?side4 A10.out).mono ?_
              (case side1 => repeat (first | exact (Kd.R_reads' HO329.out).2.2 | (with_reducible refine Kd.C_alloc ?_ _) | (with_reducible refine Kd.C_drewN ?_ _) | (with_reducible refine Kd.C_drew ?_)))
              (case side2 => exact (Kd.R_reads' HO329.out).2.1)
              (case side3 => repeat (first | exact (Kd.R_reads' HO332.out).2.2 | (with_reducible refine Kd.C_alloc ?_ _) | (with_reducible refine Kd.C_drewN ?_ _) | (with_reducible refine Kd.C_drew ?_)))
              (case side4 => exact (Kd.R_reads' HO332.out).2.1)
              rintro e w' ⟨rfl, ⟨nd, rfl⟩⟩
              refine ⟨_, rfl, ?_⟩
              refine hK.out _ _ ⟨(blk_cell BK316.out 0).trans rfl, (blk_cell BK316.out 1).trans rfl, (blk_cell BK316.out 2).trans rfl, (blk_cell BK316.out 3).trans rfl, (blk_cell BK316.out 4).trans rfl⟩ (fun hHeld => ?_)
              clear hK K
              refine norm_ (a' := ?_) ?_ ?_
              rotate_left
              · show Act.put _ (some 31) _ = _
                simp only [Act.put, List.setIfInBounds_toArray, List.set_cons_zero, List.set_cons_succ, i64_w, i32_w]
                rfl
              refine pure_ (i := 11) (N := some 32) (v := ?_) (a' := ?_) #[true, true, true, true, true, true, true, true, true, true, true, true, false, false, false, false, false, false, false, false, false, false, false, false, false, false, false, false, false, false, false, false, false, false, false, false, false, false, false, false, false, false, false, false] rfl rfl (any_of HT_.out (by kernel_rfl)) (fun _ _ _ h => h) (Or.inl ⟨by rfl, ?_⟩) ?_ ?_
              rotate_left
              · intro w'
                go_simp
                with_reducible rfl
              rotate_left
              · simp only [Act.put, List.setIfInBounds_toArray, List.set_cons_zero, List.set_cons_succ, i64_w, i32_w]
                rfl
              refine pure_ (i := 12) (N := some 33) (v := ?_) (a' := ?_) #[true, true, true, true, true, true, true, true, true, true, true, true, true, false, false, false, false, false, false, false, false, false, false, false, false, false, false, false, false, false, false, false, false, false, false, false, false, false, false, false, false, false, false, false] rfl rfl (any_of HT_.out (by kernel_rfl)) (fun _ _ _ h => h) (Or.inl ⟨by rfl, ?_⟩) ?_ ?_
              rotate_left
              · intro w'
                go_simp
                with_reducible rfl
              rotate_left
              · simp only [Act.put, List.setIfInBounds_toArray, List.set_cons_zero, List.set_cons_succ, i64_w, i32_w]
                rfl
              refine take_ (i := 13) (N := some 34) (v := ?_) (a' := ?_) #[true, true, true, true, true, true, true, true, true, true, true, true, true, true, false, false, false, false, false, false, false, false, false, false, false, false, false, false, false, false, false, false, false, false, false, false, false, false, false, false, false, false, false, false] rfl rfl (take_ofW HT_.out HW_.out (by kernel_rfl)) (fun _ _ _ h => h) (Or.inl ⟨by rfl, ?_⟩) hHeld ?_ ?_
              rotate_left
              · rintro w' ⟨s0, s1, s2, s3, s4⟩
                go_simp
                with_reducible rfl
              rotate_left
              · simp only [Act.put, List.setIfInBounds_toArray, List.set_cons_zero, List.set_cons_succ, i64_w, i32_w]
                rfl
              refine take_ (i := 15) (N := some 36) (v := ?_) (a' := ?_) #[true, true, true, true, true, true, true, true, true, true, true, true, true, true, false, true, false, false, false, false, false, false, false, false, false, false, false, false, false, false, false, false, false, false, false, false, false, false, false, false, false, false, false, false] rfl rfl (take_ofW HT_.out HW_.out (by kernel_rfl)) (fun _ _ _ h => h) (Or.inl ⟨by rfl, ?_⟩) hHeld ?_ ?_
              rotate_left
              · rintro w' ⟨s0, s1, s2, s3, s4⟩
                go_simp
                with_reducible rfl
              rotate_left
              · simp only [Act.put, List.setIfInBounds_toArray, List.set_cons_zero, List.set_cons_succ, i64_w, i32_w]
                rfl
              refine one_ (i := 14) (N := some 35) #[true, true, true, true, true, true, true, true, true, true, true, true, true, true, true, true, false, false, false, false, false, false, false, false, false, false, false, false, false, false, false, false, false, false, false, false, false, false, false, false, false, false, false, false] rfl rfl (one_of HT_.out (by kernel_rfl)) (by decide) (fun K hK => ?_)
              refine goes_ Try.func16 (by kernel_rfl) rfl #[.agg #[.slice A0_0 l0_0.length c0_0, .slice A0_1 l0_1.length c0_1, .int .i64 a0_2, .int .i64 a0_3, .slice A0_4 l0_4.length c0_4]] (by rfl) rfl rfl (by (try simp only [List.map_toArray, List.map_cons, List.map_nil]); first | done | rfl | (simp only [List.length_drop, List.length_take]; rfl)) ?_
              with_reducible refine (firsts_Useful.calls k _ _ l0_0 _ _ l0_1 a0_2 a0_3 _ _ l0_4 t334 _ ?side1 ?side2 ?side3 ?side4 ?side5 ?side6 A12.out).mono ?_
              (case side1 => repeat (first | exact (Kd.C_below HR0_0.out (by repeat (first | (with_reducible first | exact HB.out | apply below_alloc | apply pw_below_drewN | apply below_drew1 | refine below_set ?_ GE316.out) | exact HB.out))) | (with_reducible refine Kd.C_alloc ?_ _) | (with_reducible refine Kd.C_drewN ?_ _) | (with_reducible refine Kd.C_drew ?_)))
              (case side2 => exact HC0_0.out)
              (case side3 => repeat (first | exact (Kd.C_below HR0_1.out (by repeat (first | (with_reducible first | exact HB.out | apply below_alloc | apply pw_below_drewN | apply below_drew1 | refine below_set ?_ GE316.out) | exact HB.out))) | (with_reducible refine Kd.C_alloc ?_ _) | (with_reducible refine Kd.C_drewN ?_ _) | (with_reducible refine Kd.C_drew ?_)))
              (case side4 => exact HC0_1.out)
              (case side5 => repeat (first | exact (Kd.C_below HR0_4.out (by repeat (first | (with_reducible first | exact HB.out | apply below_alloc | apply pw_below_drewN | apply below_drew1 | refine below_set ?_ GE316.out) | exact HB.out))) | (with_reducible refine Kd.C_alloc ?_ _) | (with_reducible refine Kd.C_drewN ?_ _) | (with_reducible refine Kd.C_drew ?_)))
              (case side6 => exact HC0_4.out)
              rintro e w38 ⟨v335, rfl, ho0, hb⟩
              refine ⟨_, rfl, ?_⟩
              have n0_ := Aside0.mk (Kd.R_below (by (with_reducible repeat (first | apply Kd.R_alloc | apply Kd.R_drewN | apply Kd.R_drew)); exact HO319.out) hb)
              have n1_ := Aside0.mk (Kd.R_below (by (with_reducible repeat (first | apply Kd.R_alloc | apply Kd.R_drewN | apply Kd.R_drew)); exact HO323.out) hb)
              have n2_ := Aside0.mk (Kd.R_elder' (by (with_reducible repeat (first | apply Kd.R_alloc | apply Kd.R_drewN | apply Kd.R_drew)); exact HO329.out) (Kd.R_base ho0) hb)
              have n3_ := Aside0.mk (Kd.R_elder' (by (with_reducible repeat (first | apply Kd.R_alloc | apply Kd.R_drewN | apply Kd.R_drew)); exact HO332.out) (Kd.R_base ho0) hb)
              have n4_ := Aside0.mk (Kd.R_lower (Kd.R_new' (Kd.R_new' ho0 (Kd.R_lt (by (with_reducible repeat (first | apply Kd.R_alloc | apply Kd.R_drewN | apply Kd.R_drew)); exact HO329.out))) (Kd.R_lt (by (with_reducible repeat (first | apply Kd.R_alloc | apply Kd.R_drewN | apply Kd.R_drew)); exact HO332.out))) (below_size (by repeat (first | (with_reducible first | exact HB.out | apply below_alloc | apply pw_below_drewN | apply below_drew1 | refine below_set ?_ GE316.out) | exact HB.out))))
              have n5_ := Aside0.mk (blk_below (g := gb316) (o := .cells #[.slice A0_0 l0_0.length c0_0, .slice A0_1 l0_1.length c0_1, .int .i64 a0_2, .int .i64 a0_3, .slice A0_4 l0_4.length c0_4] 26 (0, 0)) (by (with_reducible repeat (first | refine blk_drewN ?_ _ | refine blk_drew ?_ | refine blk_alloc ?_ _)); exact BK316.out) hb)
              have n6_ := Aside0.mk (below_step (by repeat (first | (with_reducible first | exact HB.out | apply below_alloc | apply pw_below_drewN | apply below_drew1 | refine below_set ?_ GE316.out) | exact HB.out)) hb)
              clear HO319
              clear HO323
              clear HO329
              clear HO332
              clear BK316
              clear HB
              have HO319 := n0_
              have HO323 := n1_
              have HO329 := n2_
              have HO332 := n3_
              have HO336 := n4_
              have BK316 := n5_
              have HB := n6_
              clear n0_ n1_ n2_ n3_ n4_ n5_ n6_
              (try clear hb)
              (try clear hb2)
              (try clear hk)
              (try clear hi)
              (try clear ho0)
              refine hK.out _ _ ⟨(blk_cell BK316.out 0).trans rfl, (blk_cell BK316.out 1).trans rfl, (blk_cell BK316.out 2).trans rfl, (blk_cell BK316.out 3).trans rfl, (blk_cell BK316.out 4).trans rfl⟩ (fun hHeld => ?_)
              clear hK K
              refine norm_ (a' := ?_) ?_ ?_
              rotate_left
              · show Act.put _ (some 35) _ = _
                simp only [Act.put, List.setIfInBounds_toArray, List.set_cons_zero, List.set_cons_succ, i64_w, i32_w]
                rfl
              refine one_ (i := 16) (N := some 37) #[true, true, true, true, true, true, true, true, true, true, true, true, true, true, true, true, true, false, false, false, false, false, false, false, false, false, false, false, false, false, false, false, false, false, false, false, false, false, false, false, false, false, false, false] rfl rfl (one_of HT_.out (by kernel_rfl)) (by decide) (fun K hK => ?_)
              refine goes_ Try.func28 (by kernel_rfl) rfl #[.agg #[.slice A0_0 l0_0.length c0_0, .slice A0_1 l0_1.length c0_1, .int .i64 a0_2, .int .i64 a0_3, .slice A0_4 l0_4.length c0_4]] (by rfl) rfl rfl (by (try simp only [List.map_toArray, List.map_cons, List.map_nil]); first | done | rfl | (simp only [List.length_drop, List.length_take]; rfl)) ?_
              with_reducible refine (regletref13_Useful.calls k _ _ l0_0 _ _ l0_1 a0_2 a0_3 _ _ l0_4 t337 _ ?side1 ?side2 ?side3 ?side4 ?side5 ?side6 A13.out).mono ?_
              (case side1 => repeat (first | exact (Kd.C_below HR0_0.out HB.out) | (with_reducible refine Kd.C_alloc ?_ _) | (with_reducible refine Kd.C_drewN ?_ _) | (with_reducible refine Kd.C_drew ?_)))
              (case side2 => exact HC0_0.out)
              (case side3 => repeat (first | exact (Kd.C_below HR0_1.out HB.out) | (with_reducible refine Kd.C_alloc ?_ _) | (with_reducible refine Kd.C_drewN ?_ _) | (with_reducible refine Kd.C_drew ?_)))
              (case side4 => exact HC0_1.out)
              (case side5 => repeat (first | exact (Kd.C_below HR0_4.out HB.out) | (with_reducible refine Kd.C_alloc ?_ _) | (with_reducible refine Kd.C_drewN ?_ _) | (with_reducible refine Kd.C_drew ?_)))
              (case side6 => exact HC0_4.out)
              rintro e w39 ⟨v338, rfl, ho0, hb⟩
              refine ⟨_, rfl, ?_⟩
              have n0_ := Aside0.mk (Kd.R_below (by (with_reducible repeat (first | apply Kd.R_alloc | apply Kd.R_drewN | apply Kd.R_drew)); exact HO319.out) hb)
              have n1_ := Aside0.mk (Kd.R_below (by (with_reducible repeat (first | apply Kd.R_alloc | apply Kd.R_drewN | apply Kd.R_drew)); exact HO323.out) hb)
              have n2_ := Aside0.mk (Kd.R_elder' (by (with_reducible repeat (first | apply Kd.R_alloc | apply Kd.R_drewN | apply Kd.R_drew)); exact HO329.out) (Kd.R_base ho0) hb)
              have n3_ := Aside0.mk (Kd.R_elder' (by (with_reducible repeat (first | apply Kd.R_alloc | apply Kd.R_drewN | apply Kd.R_drew)); exact HO332.out) (Kd.R_base ho0) hb)
              have n4_ := Aside0.mk (Kd.R_elder' (by (with_reducible repeat (first | apply Kd.R_alloc | apply Kd.R_drewN | apply Kd.R_drew)); exact HO336.out) (Kd.R_base ho0) hb)
              have n5_ := Aside0.mk (Kd.R_lower (Kd.R_new' (Kd.R_new' (Kd.R_new' ho0 (Kd.R_lt (by (with_reducible repeat (first | apply Kd.R_alloc | apply Kd.R_drewN | apply Kd.R_drew)); exact HO329.out))) (Kd.R_lt (by (with_reducible repeat (first | apply Kd.R_alloc | apply Kd.R_drewN | apply Kd.R_drew)); exact HO332.out))) (Kd.R_lt (by (with_reducible repeat (first | apply Kd.R_alloc | apply Kd.R_drewN | apply Kd.R_drew)); exact HO336.out))) (below_size (by repeat (first | (with_reducible first | exact HB.out | apply below_alloc | apply pw_below_drewN | apply below_drew1 | refine below_set ?_ GE316.out) | exact HB.out))))
              have n6_ := Aside0.mk (blk_below (g := gb316) (o := .cells #[.slice A0_0 l0_0.length c0_0, .slice A0_1 l0_1.length c0_1, .int .i64 a0_2, .int .i64 a0_3, .slice A0_4 l0_4.length c0_4] 26 (0, 0)) (by (with_reducible repeat (first | refine blk_drewN ?_ _ | refine blk_drew ?_ | refine blk_alloc ?_ _)); exact BK316.out) hb)
              have n7_ := Aside0.mk (below_step (by repeat (first | (with_reducible first | exact HB.out | apply below_alloc | apply pw_below_drewN | apply below_drew1 | refine below_set ?_ GE316.out) | exact HB.out)) hb)
              clear HO319
              clear HO323
              clear HO329
              clear HO332
              clear HO336
              clear BK316
              clear HB
              have HO319 := n0_
              have HO323 := n1_
              have HO329 := n2_
              have HO332 := n3_
              have HO336 := n4_
              have HO339 := n5_
              have BK316 := n6_
              have HB := n7_
              clear n0_ n1_ n2_ n3_ n4_ n5_ n6_ n7_
              (try clear hb)
              (try clear hb2)
              (try clear hk)
              (try clear hi)
              (try clear ho0)
              obtain ⟨Ao40, co40, eo40⟩ := Kd.R_slice HO336.out
              (first | subst eo40 | (injection eo40 with f1_ f2_ f3_; have f4_ := f1_.symm; have f5_ := f3_.symm; clear f1_ f2_ f3_; subst f4_; subst f5_))
              obtain ⟨Ao41, co41, eo41⟩ := Kd.R_slice HO339.out
              (first | subst eo41 | (injection eo41 with f1_ f2_ f3_; have f4_ := f1_.symm; have f5_ := f3_.symm; clear f1_ f2_ f3_; subst f4_; subst f5_))
              refine hK.out _ _ ⟨(blk_cell BK316.out 0).trans rfl, (blk_cell BK316.out 1).trans rfl, (blk_cell BK316.out 2).trans rfl, (blk_cell BK316.out 3).trans rfl, (blk_cell BK316.out 4).trans rfl⟩ (fun hHeld => ?_)
              clear hK K
              refine norm_ (a' := ?_) ?_ ?_
              rotate_left
              · show Act.put _ (some 37) _ = _
                simp only [Act.put, List.setIfInBounds_toArray, List.set_cons_zero, List.set_cons_succ, i64_w, i32_w]
                rfl
              refine one_ (i := 17) (N := some 38) #[true, true, true, true, true, true, true, true, true, true, true, true, true, true, true, true, true, true, false, false, false, false, false, false, false, false, false, false, false, false, false, false, false, false, false, false, false, false, false, false, false, false, false, false] rfl rfl (one_of HT_.out (by kernel_rfl)) (by decide) (fun K hK => ?_)
              refine goes_ Try.func25 (by kernel_rfl) rfl #[.slice Ao40 t334.length co40, .slice Ao41 t337.length co41] (by rfl) rfl rfl (by (try simp only [List.map_toArray, List.map_cons, List.map_nil]); first | done | rfl | (simp only [List.length_drop, List.length_take]; rfl)) ?_
              with_reducible refine (regletref13_SameBools.calls k _ _ t334 _ _ t337 true _ ?side1 ?side2 ?side3 ?side4 A14.out).mono ?_
              (case side1 => repeat (first | exact (Kd.R_reads' HO336.out).2.2 | (with_reducible refine Kd.C_alloc ?_ _) | (with_reducible refine Kd.C_drewN ?_ _) | (with_reducible refine Kd.C_drew ?_)))
              (case side2 => exact (Kd.R_reads' HO336.out).2.1)
              (case side3 => repeat (first | exact (Kd.R_reads' HO339.out).2.2 | (with_reducible refine Kd.C_alloc ?_ _) | (with_reducible refine Kd.C_drewN ?_ _) | (with_reducible refine Kd.C_drew ?_)))
              (case side4 => exact (Kd.R_reads' HO339.out).2.1)
              rintro e w' ⟨rfl, ⟨nd, rfl⟩⟩
              refine ⟨_, rfl, ?_⟩
              refine hK.out _ _ ⟨(blk_cell BK316.out 0).trans rfl, (blk_cell BK316.out 1).trans rfl, (blk_cell BK316.out 2).trans rfl, (blk_cell BK316.out 3).trans rfl, (blk_cell BK316.out 4).trans rfl⟩ (fun hHeld => ?_)
              clear hK K
              refine norm_ (a' := ?_) ?_ ?_
              rotate_left
              · show Act.put _ (some 38) _ = _
                simp only [Act.put, List.setIfInBounds_toArray, List.set_cons_zero, List.set_cons_succ, i64_w, i32_w]
                rfl
              refine pure_ (i := 18) (N := some 39) (v := ?_) (a' := ?_) #[true, true, true, true, true, true, true, true, true, true, true, true, true, true, true, true, true, true, true, false, false, false, false, false, false, false, false, false, false, false, false, false, false, false, false, false, false, false, false, false, false, false, false, false] rfl rfl (any_of HT_.out (by kernel_rfl)) (fun _ _ _ h => h) (Or.inl ⟨by rfl, ?_⟩) ?_ ?_
              rotate_left
              · intro w'
                go_simp
                with_reducible rfl
              rotate_left
              · simp only [Act.put, List.setIfInBounds_toArray, List.set_cons_zero, List.set_cons_succ, i64_w, i32_w]
                rfl
              refine pure_ (i := 19) (N := some 40) (v := ?_) (a' := ?_) #[true, true, true, true, true, true, true, true, true, true, true, true, true, true, true, true, true, true, true, true, false, false, false, false, false, false, false, false, false, false, false, false, false, false, false, false, false, false, false, false, false, false, false, false] rfl rfl (any_of HT_.out (by kernel_rfl)) (fun _ _ _ h => h) (Or.inl ⟨by rfl, ?_⟩) ?_ ?_
              rotate_left
              · intro w'
                go_simp
                with_reducible rfl
              rotate_left
              · simp only [Act.put, List.setIfInBounds_toArray, List.set_cons_zero, List.set_cons_succ, i64_w, i32_w]
                rfl
              refine take_ (i := 20) (N := some 41) (v := ?_) (a' := ?_) #[true, true, true, true, true, true, true, true, true, true, true, true, true, true, true, true, true, true, true, true, true, false, false, false, false, false, false, false, false, false, false, false, false, false, false, false, false, false, false, false, false, false, false, false] rfl rfl (take_ofW HT_.out HW_.out (by kernel_rfl)) (fun _ _ _ h => h) (Or.inl ⟨by rfl, ?_⟩) hHeld ?_ ?_
              rotate_left
              · rintro w' ⟨s0, s1, s2, s3, s4⟩
                go_simp
                with_reducible rfl
              rotate_left
              · simp only [Act.put, List.setIfInBounds_toArray, List.set_cons_zero, List.set_cons_succ, i64_w, i32_w]
                rfl
              refine take_ (i := 22) (N := some 43) (v := ?_) (a' := ?_) #[true, true, true, true, true, true, true, true, true, true, true, true, true, true, true, true, true, true, true, true, true, false, true, false, false, false, false, false, false, false, false, false, false, false, false, false, false, false, false, false, false, false, false, false] rfl rfl (take_ofW HT_.out HW_.out (by kernel_rfl)) (fun _ _ _ h => h) (Or.inl ⟨by rfl, ?_⟩) hHeld ?_ ?_
              rotate_left
              · rintro w' ⟨s0, s1, s2, s3, s4⟩
                go_simp
                with_reducible rfl
              rotate_left
              · simp only [Act.put, List.setIfInBounds_toArray, List.set_cons_zero, List.set_cons_succ, i64_w, i32_w]
                rfl
              refine one_ (i := 21) (N := some 42) #[true, true, true, true, true, true, true, true, true, true, true, true, true, true, true, true, true, true, true, true, true, true, true, false, false, false, false, false, false, false, false, false, false, false, false, false, false, false, false, false, false, false, false, false] rfl rfl (one_of HT_.out (by kernel_rfl)) (by decide) (fun K hK => ?_)
              refine goes_ Try.func14 (by kernel_rfl) rfl #[.agg #[.slice A0_0 l0_0.length c0_0, .slice A0_1 l0_1.length c0_1, .int .i64 a0_2, .int .i64 a0_3, .slice A0_4 l0_4.length c0_4]] (by rfl) rfl rfl (by (try simp only [List.map_toArray, List.map_cons, List.map_nil]); first | done | rfl | (simp only [List.length_drop, List.length_take]; rfl)) ?_
              with_reducible refine (firsts_First.calls k _ _ l0_0 _ _ l0_1 a0_2 a0_3 _ _ l0_4 t341 _ ?side1 ?side2 ?side3 ?side4 ?side5 ?side6 A16.out).mono ?_
              (case side1 => repeat (first | exact (Kd.C_below HR0_0.out (by repeat (first | (with_reducible first | exact HB.out | apply below_alloc | apply pw_below_drewN | apply below_drew1 | refine below_set ?_ GE316.out) | exact HB.out))) | (with_reducible refine Kd.C_alloc ?_ _) | (with_reducible refine Kd.C_drewN ?_ _) | (with_reducible refine Kd.C_drew ?_)))
              (case side2 => exact HC0_0.out)
              (case side3 => repeat (first | exact (Kd.C_below HR0_1.out (by repeat (first | (with_reducible first | exact HB.out | apply below_alloc | apply pw_below_drewN | apply below_drew1 | refine below_set ?_ GE316.out) | exact HB.out))) | (with_reducible refine Kd.C_alloc ?_ _) | (with_reducible refine Kd.C_drewN ?_ _) | (with_reducible refine Kd.C_drew ?_)))
              (case side4 => exact HC0_1.out)
              (case side5 => repeat (first | exact (Kd.C_below HR0_4.out (by repeat (first | (with_reducible first | exact HB.out | apply below_alloc | apply pw_below_drewN | apply below_drew1 | refine below_set ?_ GE316.out) | exact HB.out))) | (with_reducible refine Kd.C_alloc ?_ _) | (with_reducible refine Kd.C_drewN ?_ _) | (with_reducible refine Kd.C_drew ?_)))
              (case side6 => exact HC0_4.out)
              rintro e w42 ⟨v342, rfl, ho0, hb⟩
              refine ⟨_, rfl, ?_⟩
              have n0_ := Aside0.mk (Kd.R_below (by (with_reducible repeat (first | apply Kd.R_alloc | apply Kd.R_drewN | apply Kd.R_drew)); exact HO319.out) hb)
              have n1_ := Aside0.mk (Kd.R_below (by (with_reducible repeat (first | apply Kd.R_alloc | apply Kd.R_drewN | apply Kd.R_drew)); exact HO323.out) hb)
              have n2_ := Aside0.mk (Kd.R_below (by (with_reducible repeat (first | apply Kd.R_alloc | apply Kd.R_drewN | apply Kd.R_drew)); exact HO329.out) hb)
              have n3_ := Aside0.mk (Kd.R_below (by (with_reducible repeat (first | apply Kd.R_alloc | apply Kd.R_drewN | apply Kd.R_drew)); exact HO332.out) hb)
              have n4_ := Aside0.mk (Kd.R_below (by (with_reducible repeat (first | apply Kd.R_alloc | apply Kd.R_drewN | apply Kd.R_drew)); exact HO336.out) hb)
              have n5_ := Aside0.mk (Kd.R_below (by (with_reducible repeat (first | apply Kd.R_alloc | apply Kd.R_drewN | apply Kd.R_drew)); exact HO339.out) hb)
              have n6_ := Aside0.mk (Kd.S_lower (Kd.S_new' (Kd.S_new' ho0 (Kd.R_lt (by (with_reducible repeat (first | apply Kd.R_alloc | apply Kd.R_drewN | apply Kd.R_drew)); exact HO319.out))) (Kd.R_lt (by (with_reducible repeat (first | apply Kd.R_alloc | apply Kd.R_drewN | apply Kd.R_drew)); exact HO323.out))) (below_size (by repeat (first | (with_reducible first | exact HB.out | apply below_alloc | apply pw_below_drewN | apply below_drew1 | refine below_set ?_ GE316.out) | exact HB.out))))
              have n7_ := Aside0.mk (blk_below (g := gb316) (o := .cells #[.slice A0_0 l0_0.length c0_0, .slice A0_1 l0_1.length c0_1, .int .i64 a0_2, .int .i64 a0_3, .slice A0_4 l0_4.length c0_4] 26 (0, 0)) (by (with_reducible repeat (first | refine blk_drewN ?_ _ | refine blk_drew ?_ | refine blk_alloc ?_ _)); exact BK316.out) hb)
              have n8_ := Aside0.mk (below_step (by repeat (first | (with_reducible first | exact HB.out | apply below_alloc | apply pw_below_drewN | apply below_drew1 | refine below_set ?_ GE316.out) | exact HB.out)) hb)
              clear HO319
              clear HO323
              clear HO329
              clear HO332
              clear HO336
              clear HO339
              clear BK316
              clear HB
              have HO319 := n0_
              have HO323 := n1_
              have HO329 := n2_
              have HO332 := n3_
              have HO336 := n4_
              have HO339 := n5_
              have HO343 := n6_
              have BK316 := n7_
              have HB := n8_
              clear n0_ n1_ n2_ n3_ n4_ n5_ n6_ n7_ n8_
              (try clear hb)
              (try clear hb2)
              (try clear hk)
              (try clear hi)
              (try clear ho0)
              refine hK.out _ _ ⟨(blk_cell BK316.out 0).trans rfl, (blk_cell BK316.out 1).trans rfl, (blk_cell BK316.out 2).trans rfl, (blk_cell BK316.out 3).trans rfl, (blk_cell BK316.out 4).trans rfl⟩ (fun hHeld => ?_)
              clear hK K
              refine norm_ (a' := ?_) ?_ ?_
              rotate_left
              · show Act.put _ (some 42) _ = _
                simp only [Act.put, List.setIfInBounds_toArray, List.set_cons_zero, List.set_cons_succ, i64_w, i32_w]
                rfl
              refine one_ (i := 23) (N := some 44) #[true, true, true, true, true, true, true, true, true, true, true, true, true, true, true, true, true, true, true, true, true, true, true, true, false, false, false, false, false, false, false, false, false, false, false, false, false, false, false, false, false, false, false, false] rfl rfl (one_of HT_.out (by kernel_rfl)) (by decide) (fun K hK => ?_)
              refine goes_ Try.func29 (by kernel_rfl) rfl #[.agg #[.slice A0_0 l0_0.length c0_0, .slice A0_1 l0_1.length c0_1, .int .i64 a0_2, .int .i64 a0_3, .slice A0_4 l0_4.length c0_4]] (by rfl) rfl rfl (by (try simp only [List.map_toArray, List.map_cons, List.map_nil]); first | done | rfl | (simp only [List.length_drop, List.length_take]; rfl)) ?_
              with_reducible refine (regletref13_First.calls k _ _ l0_0 _ _ l0_1 a0_2 a0_3 _ _ l0_4 t344 _ ?side1 ?side2 ?side3 ?side4 ?side5 ?side6 A17.out).mono ?_
              (case side1 => repeat (first | exact (Kd.C_below HR0_0.out HB.out) | (with_reducible refine Kd.C_alloc ?_ _) | (with_reducible refine Kd.C_drewN ?_ _) | (with_reducible refine Kd.C_drew ?_)))
              (case side2 => exact HC0_0.out)
              (case side3 => repeat (first | exact (Kd.C_below HR0_1.out HB.out) | (with_reducible refine Kd.C_alloc ?_ _) | (with_reducible refine Kd.C_drewN ?_ _) | (with_reducible refine Kd.C_drew ?_)))
              (case side4 => exact HC0_1.out)
              (case side5 => repeat (first | exact (Kd.C_below HR0_4.out HB.out) | (with_reducible refine Kd.C_alloc ?_ _) | (with_reducible refine Kd.C_drewN ?_ _) | (with_reducible refine Kd.C_drew ?_)))
              (case side6 => exact HC0_4.out)
              rintro e w43 ⟨v345, rfl, ho0, hb⟩
              refine ⟨_, rfl, ?_⟩
              have n0_ := Aside0.mk (Kd.R_below (by (with_reducible repeat (first | apply Kd.R_alloc | apply Kd.R_drewN | apply Kd.R_drew)); exact HO319.out) hb)
              have n1_ := Aside0.mk (Kd.R_below (by (with_reducible repeat (first | apply Kd.R_alloc | apply Kd.R_drewN | apply Kd.R_drew)); exact HO323.out) hb)
              have n2_ := Aside0.mk (Kd.R_below (by (with_reducible repeat (first | apply Kd.R_alloc | apply Kd.R_drewN | apply Kd.R_drew)); exact HO329.out) hb)
              have n3_ := Aside0.mk (Kd.R_below (by (with_reducible repeat (first | apply Kd.R_alloc | apply Kd.R_drewN | apply Kd.R_drew)); exact HO332.out) hb)
              have n4_ := Aside0.mk (Kd.R_below (by (with_reducible repeat (first | apply Kd.R_alloc | apply Kd.R_drewN | apply Kd.R_drew)); exact HO336.out) hb)
              have n5_ := Aside0.mk (Kd.R_below (by (with_reducible repeat (first | apply Kd.R_alloc | apply Kd.R_drewN | apply Kd.R_drew)); exact HO339.out) hb)
              have n6_ := Aside0.mk (Kd.S_elder' (by (with_reducible repeat (first | apply Kd.S_alloc | apply Kd.S_drewN | apply Kd.S_drew)); exact HO343.out) (Kd.S_base ho0) hb)
              have n7_ := Aside0.mk (Kd.S_lower (Kd.S_new' (Kd.S_new' (Kd.S_new' ho0 (Kd.R_lt (by (with_reducible repeat (first | apply Kd.R_alloc | apply Kd.R_drewN | apply Kd.R_drew)); exact HO319.out))) (Kd.R_lt (by (with_reducible repeat (first | apply Kd.R_alloc | apply Kd.R_drewN | apply Kd.R_drew)); exact HO323.out))) (Kd.S_lt (by (with_reducible repeat (first | apply Kd.S_alloc | apply Kd.S_drewN | apply Kd.S_drew)); exact HO343.out))) (below_size (by repeat (first | (with_reducible first | exact HB.out | apply below_alloc | apply pw_below_drewN | apply below_drew1 | refine below_set ?_ GE316.out) | exact HB.out))))
              have n8_ := Aside0.mk (blk_below (g := gb316) (o := .cells #[.slice A0_0 l0_0.length c0_0, .slice A0_1 l0_1.length c0_1, .int .i64 a0_2, .int .i64 a0_3, .slice A0_4 l0_4.length c0_4] 26 (0, 0)) (by (with_reducible repeat (first | refine blk_drewN ?_ _ | refine blk_drew ?_ | refine blk_alloc ?_ _)); exact BK316.out) hb)
              have n9_ := Aside0.mk (below_step (by repeat (first | (with_reducible first | exact HB.out | apply below_alloc | apply pw_below_drewN | apply below_drew1 | refine below_set ?_ GE316.out) | exact HB.out)) hb)
              clear HO319
              clear HO323
              clear HO329
              clear HO332
              clear HO336
              clear HO339
              clear HO343
              clear BK316
              clear HB
              have HO319 := n0_
              have HO323 := n1_
              have HO329 := n2_
              have HO332 := n3_
              have HO336 := n4_
              have HO339 := n5_
              have HO343 := n6_
              have HO346 := n7_
              have BK316 := n8_
              have HB := n9_
              clear n0_ n1_ n2_ n3_ n4_ n5_ n6_ n7_ n8_ n9_
              (try clear hb)
              (try clear hb2)
              (try clear hk)
              (try clear hi)
              (try clear ho0)
              obtain ⟨Ao44, co44, eo44⟩ := Kd.S_slice HO343.out
              (first | subst eo44 | (injection eo44 with f1_ f2_ f3_; have f4_ := f1_.symm; have f5_ := f3_.symm; clear f1_ f2_ f3_; subst f4_; subst f5_))
              obtain ⟨Ao45, co45, eo45⟩ := Kd.S_slice HO346.out
              (first | subst eo45 | (injection eo45 with f1_ f2_ f3_; have f4_ := f1_.symm; have f5_ := f3_.symm; clear f1_ f2_ f3_; subst f4_; subst f5_))
              refine hK.out _ _ ⟨(blk_cell BK316.out 0).trans rfl, (blk_cell BK316.out 1).trans rfl, (blk_cell BK316.out 2).trans rfl, (blk_cell BK316.out 3).trans rfl, (blk_cell BK316.out 4).trans rfl⟩ (fun hHeld => ?_)
              clear hK K
              refine norm_ (a' := ?_) ?_ ?_
              rotate_left
              · show Act.put _ (some 44) _ = _
                simp only [Act.put, List.setIfInBounds_toArray, List.set_cons_zero, List.set_cons_succ, i64_w, i32_w]
                rfl
              refine one_ (i := 24) (N := some 45) #[true, true, true, true, true, true, true, true, true, true, true, true, true, true, true, true, true, true, true, true, true, true, true, true, true, false, false, false, false, false, false, false, false, false, false, false, false, false, false, false, false, false, false, false] rfl rfl (one_of HT_.out (by kernel_rfl)) (by decide) (fun K hK => ?_)
              refine goes_ Try.func24 (by kernel_rfl) rfl #[.slice Ao44 t341.length co44, .slice Ao45 t344.length co45] (by rfl) rfl rfl (by (try simp only [List.map_toArray, List.map_cons, List.map_nil]); first | done | rfl | (simp only [List.length_drop, List.length_take]; rfl)) ?_
              with_reducible refine (regletref13_SameLists.calls k _ _ t341 _ _ t344 true _ ?side1 ?side2 ?side3 ?side4 A18.out).mono ?_
              (case side1 => repeat (first | exact (Kd.S_reads' HO343.out).2.2 | (with_reducible refine Kd.C_alloc ?_ _) | (with_reducible refine Kd.C_drewN ?_ _) | (with_reducible refine Kd.C_drew ?_)))
              (case side2 => exact (Kd.S_reads' HO343.out).2.1)
              (case side3 => repeat (first | exact (Kd.S_reads' HO346.out).2.2 | (with_reducible refine Kd.C_alloc ?_ _) | (with_reducible refine Kd.C_drewN ?_ _) | (with_reducible refine Kd.C_drew ?_)))
              (case side4 => exact (Kd.S_reads' HO346.out).2.1)
              rintro e w' ⟨rfl, ⟨nd, rfl⟩⟩
              refine ⟨_, rfl, ?_⟩
              refine hK.out _ _ ⟨(blk_cell BK316.out 0).trans rfl, (blk_cell BK316.out 1).trans rfl, (blk_cell BK316.out 2).trans rfl, (blk_cell BK316.out 3).trans rfl, (blk_cell BK316.out 4).trans rfl⟩ (fun hHeld => ?_)
              clear hK K
              refine norm_ (a' := ?_) ?_ ?_
              rotate_left
              · show Act.put _ (some 45) _ = _
                simp only [Act.put, List.setIfInBounds_toArray, List.set_cons_zero, List.set_cons_succ, i64_w, i32_w]
                rfl
              refine pure_ (i := 25) (N := some 46) (v := ?_) (a' := ?_) #[true, true, true, true, true, true, true, true, true, true, true, true, true, true, true, true, true, true, true, true, true, true, true, true, true, true, false, false, false, false, false, false, false, false, false, false, false, false, false, false, false, false, false, false] rfl rfl (any_of HT_.out (by kernel_rfl)) (fun _ _ _ h => h) (Or.inl ⟨by rfl, ?_⟩) ?_ ?_
              rotate_left
              · intro w'
                go_simp
                with_reducible rfl
              rotate_left
              · simp only [Act.put, List.setIfInBounds_toArray, List.set_cons_zero, List.set_cons_succ, i64_w, i32_w]
                rfl
              refine pure_ (i := 26) (N := some 47) (v := ?_) (a' := ?_) #[true, true, true, true, true, true, true, true, true, true, true, true, true, true, true, true, true, true, true, true, true, true, true, true, true, true, true, false, false, false, false, false, false, false, false, false, false, false, false, false, false, false, false, false] rfl rfl (any_of HT_.out (by kernel_rfl)) (fun _ _ _ h => h) (Or.inl ⟨by rfl, ?_⟩) ?_ ?_
              rotate_left
              · intro w'
                go_simp
                with_reducible rfl
              rotate_left
              · simp only [Act.put, List.setIfInBounds_toArray, List.set_cons_zero, List.set_cons_succ, i64_w, i32_w]
                rfl
              refine take_ (i := 27) (N := some 48) (v := ?_) (a' := ?_) #[true, true, true, true, true, true, true, true, true, true, true, true, true, true, true, true, true, true, true, true, true, true, true, true, true, true, true, true, false, false, false, false, false, false, false, false, false, false, false, false, false, false, false, false] rfl rfl (take_ofW HT_.out HW_.out (by kernel_rfl)) (fun _ _ _ h => h) (Or.inl ⟨by rfl, ?_⟩) hHeld ?_ ?_
              rotate_left
              · rintro w' ⟨s0, s1, s2, s3, s4⟩
                go_simp
                with_reducible rfl
              rotate_left
              · simp only [Act.put, List.setIfInBounds_toArray, List.set_cons_zero, List.set_cons_succ, i64_w, i32_w]
                rfl
              refine take_ (i := 29) (N := some 50) (v := ?_) (a' := ?_) #[true, true, true, true, true, true, true, true, true, true, true, true, true, true, true, true, true, true, true, true, true, true, true, true, true, true, true, true, false, true, false, false, false, false, false, false, false, false, false, false, false, false, false, false] rfl rfl (take_ofW HT_.out HW_.out (by kernel_rfl)) (fun _ _ _ h => h) (Or.inl ⟨by rfl, ?_⟩) hHeld ?_ ?_
              rotate_left
              · rintro w' ⟨s0, s1, s2, s3, s4⟩
                go_simp
                with_reducible rfl
              rotate_left
              · simp only [Act.put, List.setIfInBounds_toArray, List.set_cons_zero, List.set_cons_succ, i64_w, i32_w]
                rfl
              refine one_ (i := 28) (N := some 49) #[true, true, true, true, true, true, true, true, true, true, true, true, true, true, true, true, true, true, true, true, true, true, true, true, true, true, true, true, true, true, false, false, false, false, false, false, false, false, false, false, false, false, false, false] rfl rfl (one_of HT_.out (by kernel_rfl)) (by decide) (fun K hK => ?_)
              refine goes_ Try.func18 (by kernel_rfl) rfl #[.agg #[.slice A0_0 l0_0.length c0_0, .slice A0_1 l0_1.length c0_1, .int .i64 a0_2, .int .i64 a0_3, .slice A0_4 l0_4.length c0_4]] (by rfl) rfl rfl (by (try simp only [List.map_toArray, List.map_cons, List.map_nil]); first | done | rfl | (simp only [List.length_drop, List.length_take]; rfl)) ?_
              with_reducible refine (firsts_Follow.calls k _ _ l0_0 _ _ l0_1 a0_2 a0_3 _ _ l0_4 t348 _ ?side1 ?side2 ?side3 ?side4 ?side5 ?side6 A20.out).mono ?_
              (case side1 => repeat (first | exact (Kd.C_below HR0_0.out (by repeat (first | (with_reducible first | exact HB.out | apply below_alloc | apply pw_below_drewN | apply below_drew1 | refine below_set ?_ GE316.out) | exact HB.out))) | (with_reducible refine Kd.C_alloc ?_ _) | (with_reducible refine Kd.C_drewN ?_ _) | (with_reducible refine Kd.C_drew ?_)))
              (case side2 => exact HC0_0.out)
              (case side3 => repeat (first | exact (Kd.C_below HR0_1.out (by repeat (first | (with_reducible first | exact HB.out | apply below_alloc | apply pw_below_drewN | apply below_drew1 | refine below_set ?_ GE316.out) | exact HB.out))) | (with_reducible refine Kd.C_alloc ?_ _) | (with_reducible refine Kd.C_drewN ?_ _) | (with_reducible refine Kd.C_drew ?_)))
              (case side4 => exact HC0_1.out)
              (case side5 => repeat (first | exact (Kd.C_below HR0_4.out (by repeat (first | (with_reducible first | exact HB.out | apply below_alloc | apply pw_below_drewN | apply below_drew1 | refine below_set ?_ GE316.out) | exact HB.out))) | (with_reducible refine Kd.C_alloc ?_ _) | (with_reducible refine Kd.C_drewN ?_ _) | (with_reducible refine Kd.C_drew ?_)))
              (case side6 => exact HC0_4.out)
              rintro e w46 ⟨v349, rfl, ho0, hb⟩
              refine ⟨_, rfl, ?_⟩
              have n0_ := Aside0.mk (Kd.R_below (by (with_reducible repeat (first | apply Kd.R_alloc | apply Kd.R_drewN | apply Kd.R_drew)); exact HO319.out) hb)
              have n1_ := Aside0.mk (Kd.R_below (by (with_reducible repeat (first | apply Kd.R_alloc | apply Kd.R_drewN | apply Kd.R_drew)); exact HO323.out) hb)
              have n2_ := Aside0.mk (Kd.R_below (by (with_reducible repeat (first | apply Kd.R_alloc | apply Kd.R_drewN | apply Kd.R_drew)); exact HO329.out) hb)
              have n3_ := Aside0.mk (Kd.R_below (by (with_reducible repeat (first | apply Kd.R_alloc | apply Kd.R_drewN | apply Kd.R_drew)); exact HO332.out) hb)
              have n4_ := Aside0.mk (Kd.R_below (by (with_reducible repeat (first | apply Kd.R_alloc | apply Kd.R_drewN | apply Kd.R_drew)); exact HO336.out) hb)
              have n5_ := Aside0.mk (Kd.R_below (by (with_reducible repeat (first | apply Kd.R_alloc | apply Kd.R_drewN | apply Kd.R_drew)); exact HO339.out) hb)
              have n6_ := Aside0.mk (Kd.S_elder' (by (with_reducible repeat (first | apply Kd.S_alloc | apply Kd.S_drewN | apply Kd.S_drew)); exact HO343.out) (Kd.S_base ho0) hb)
              have n7_ := Aside0.mk (Kd.S_elder' (by (with_reducible repeat (first | apply Kd.S_alloc | apply Kd.S_drewN | apply Kd.S_drew)); exact HO346.out) (Kd.S_base ho0) hb)
              have n8_ := Aside0.mk (Kd.S_lower (Kd.S_new' (Kd.S_new' (Kd.S_new' (Kd.S_new' ho0 (Kd.R_lt (by (with_reducible repeat (first | apply Kd.R_alloc | apply Kd.R_drewN | apply Kd.R_drew)); exact HO319.out))) (Kd.R_lt (by (with_reducible repeat (first | apply Kd.R_alloc | apply Kd.R_drewN | apply Kd.R_drew)); exact HO323.out))) (Kd.S_lt (by (with_reducible repeat (first | apply Kd.S_alloc | apply Kd.S_drewN | apply Kd.S_drew)); exact HO343.out))) (Kd.S_lt (by (with_reducible repeat (first | apply Kd.S_alloc | apply Kd.S_drewN | apply Kd.S_drew)); exact HO346.out))) (below_size (by repeat (first | (with_reducible first | exact HB.out | apply below_alloc | apply pw_below_drewN | apply below_drew1 | refine below_set ?_ GE316.out) | exact HB.out))))
              have n9_ := Aside0.mk (blk_below (g := gb316) (o := .cells #[.slice A0_0 l0_0.length c0_0, .slice A0_1 l0_1.length c0_1, .int .i64 a0_2, .int .i64 a0_3, .slice A0_4 l0_4.length c0_4] 26 (0, 0)) (by (with_reducible repeat (first | refine blk_drewN ?_ _ | refine blk_drew ?_ | refine blk_alloc ?_ _)); exact BK316.out) hb)
              have n10_ := Aside0.mk (below_step (by repeat (first | (with_reducible first | exact HB.out | apply below_alloc | apply pw_below_drewN | apply below_drew1 | refine below_set ?_ GE316.out) | exact HB.out)) hb)
              clear HO319
              clear HO323
              clear HO329
              clear HO332
              clear HO336
              clear HO339
              clear HO343
              clear HO346
              clear BK316
              clear HB
              have HO319 := n0_
              have HO323 := n1_
              have HO329 := n2_
              have HO332 := n3_
              have HO336 := n4_
              have HO339 := n5_
              have HO343 := n6_
              have HO346 := n7_
              have HO350 := n8_
              have BK316 := n9_
              have HB := n10_
              clear n0_ n1_ n2_ n3_ n4_ n5_ n6_ n7_ n8_ n9_ n10_
              (try clear hb)
              (try clear hb2)
              (try clear hk)
              (try clear hi)
              (try clear ho0)
              refine hK.out _ _ ⟨(blk_cell BK316.out 0).trans rfl, (blk_cell BK316.out 1).trans rfl, (blk_cell BK316.out 2).trans rfl, (blk_cell BK316.out 3).trans rfl, (blk_cell BK316.out 4).trans rfl⟩ (fun hHeld => ?_)
              clear hK K
              refine norm_ (a' := ?_) ?_ ?_
              rotate_left
              · show Act.put _ (some 49) _ = _
                simp only [Act.put, List.setIfInBounds_toArray, List.set_cons_zero, List.set_cons_succ, i64_w, i32_w]
                rfl
              refine one_ (i := 30) (N := some 51) #[true, true, true, true, true, true, true, true, true, true, true, true, true, true, true, true, true, true, true, true, true, true, true, true, true, true, true, true, true, true, true, false, false, false, false, false, false, false, false, false, false, false, false, false] rfl rfl (one_of HT_.out (by kernel_rfl)) (by decide) (fun K hK => ?_)
              refine goes_ Try.func30 (by kernel_rfl) rfl #[.agg #[.slice A0_0 l0_0.length c0_0, .slice A0_1 l0_1.length c0_1, .int .i64 a0_2, .int .i64 a0_3, .slice A0_4 l0_4.length c0_4]] (by rfl) rfl rfl (by (try simp only [List.map_toArray, List.map_cons, List.map_nil]); first | done | rfl | (simp only [List.length_drop, List.length_take]; rfl)) ?_
              with_reducible refine (regletref13_Follow.calls k _ _ l0_0 _ _ l0_1 a0_2 a0_3 _ _ l0_4 t351 _ ?side1 ?side2 ?side3 ?side4 ?side5 ?side6 A21.out).mono ?_
              (case side1 => repeat (first | exact (Kd.C_below HR0_0.out HB.out) | (with_reducible refine Kd.C_alloc ?_ _) | (with_reducible refine Kd.C_drewN ?_ _) | (with_reducible refine Kd.C_drew ?_)))
              (case side2 => exact HC0_0.out)
              (case side3 => repeat (first | exact (Kd.C_below HR0_1.out HB.out) | (with_reducible refine Kd.C_alloc ?_ _) | (with_reducible refine Kd.C_drewN ?_ _) | (with_reducible refine Kd.C_drew ?_)))
              (case side4 => exact HC0_1.out)
              (case side5 => repeat (first | exact (Kd.C_below HR0_4.out HB.out) | (with_reducible refine Kd.C_alloc ?_ _) | (with_reducible refine Kd.C_drewN ?_ _) | (with_reducible refine Kd.C_drew ?_)))
              (case side6 => exact HC0_4.out)
              rintro e w47 ⟨v352, rfl, ho0, hb⟩
              refine ⟨_, rfl, ?_⟩
              have n0_ := Aside0.mk (Kd.R_below (by (with_reducible repeat (first | apply Kd.R_alloc | apply Kd.R_drewN | apply Kd.R_drew)); exact HO319.out) hb)
              have n1_ := Aside0.mk (Kd.R_below (by (with_reducible repeat (first | apply Kd.R_alloc | apply Kd.R_drewN | apply Kd.R_drew)); exact HO323.out) hb)
              have n2_ := Aside0.mk (Kd.R_below (by (with_reducible repeat (first | apply Kd.R_alloc | apply Kd.R_drewN | apply Kd.R_drew)); exact HO329.out) hb)
              have n3_ := Aside0.mk (Kd.R_below (by (with_reducible repeat (first | apply Kd.R_alloc | apply Kd.R_drewN | apply Kd.R_drew)); exact HO332.out) hb)
              have n4_ := Aside0.mk (Kd.R_below (by (with_reducible repeat (first | apply Kd.R_alloc | apply Kd.R_drewN | apply Kd.R_drew)); exact HO336.out) hb)
              have n5_ := Aside0.mk (Kd.R_below (by (with_reducible repeat (first | apply Kd.R_alloc | apply Kd.R_drewN | apply Kd.R_drew)); exact HO339.out) hb)
              have n6_ := Aside0.mk (Kd.S_elder' (by (with_reducible repeat (first | apply Kd.S_alloc | apply Kd.S_drewN | apply Kd.S_drew)); exact HO343.out) (Kd.S_base ho0) hb)
              have n7_ := Aside0.mk (Kd.S_elder' (by (with_reducible repeat (first | apply Kd.S_alloc | apply Kd.S_drewN | apply Kd.S_drew)); exact HO346.out) (Kd.S_base ho0) hb)
              have n8_ := Aside0.mk (Kd.S_elder' (by (with_reducible repeat (first | apply Kd.S_alloc | apply Kd.S_drewN | apply Kd.S_drew)); exact HO350.out) (Kd.S_base ho0) hb)
              have n9_ := Aside0.mk (Kd.S_lower (Kd.S_new' (Kd.S_new' (Kd.S_new' (Kd.S_new' (Kd.S_new' ho0 (Kd.R_lt (by (with_reducible repeat (first | apply Kd.R_alloc | apply Kd.R_drewN | apply Kd.R_drew)); exact HO319.out))) (Kd.R_lt (by (with_reducible repeat (first | apply Kd.R_alloc | apply Kd.R_drewN | apply Kd.R_drew)); exact HO323.out))) (Kd.S_lt (by (with_reducible repeat (first | apply Kd.S_alloc | apply Kd.S_drewN | apply Kd.S_drew)); exact HO343.out))) (Kd.S_lt (by (with_reducible repeat (first | apply Kd.S_alloc | apply Kd.S_drewN | apply Kd.S_drew)); exact HO346.out))) (Kd.S_lt (by (with_reducible repeat (first | apply Kd.S_alloc | apply Kd.S_drewN | apply Kd.S_drew)); exact HO350.out))) (below_size (by repeat (first | (with_reducible first | exact HB.out | apply below_alloc | apply pw_below_drewN | apply below_drew1 | refine below_set ?_ GE316.out) | exact HB.out))))
              have n10_ := Aside0.mk (blk_below (g := gb316) (o := .cells #[.slice A0_0 l0_0.length c0_0, .slice A0_1 l0_1.length c0_1, .int .i64 a0_2, .int .i64 a0_3, .slice A0_4 l0_4.length c0_4] 26 (0, 0)) (by (with_reducible repeat (first | refine blk_drewN ?_ _ | refine blk_drew ?_ | refine blk_alloc ?_ _)); exact BK316.out) hb)
              have n11_ := Aside0.mk (below_step (by repeat (first | (with_reducible first | exact HB.out | apply below_alloc | apply pw_below_drewN | apply below_drew1 | refine below_set ?_ GE316.out) | exact HB.out)) hb)
              clear HO319
              clear HO323
              clear HO329
              clear HO332
              clear HO336
              clear HO339
              clear HO343
              clear HO346
              clear HO350
              clear BK316
              clear HB
              have HO319 := n0_
              have HO323 := n1_
              have HO329 := n2_
              have HO332 := n3_
              have HO336 := n4_
              have HO339 := n5_
              have HO343 := n6_
              have HO346 := n7_
              have HO350 := n8_
              have HO353 := n9_
              have BK316 := n10_
              have HB := n11_
              clear n0_ n1_ n2_ n3_ n4_ n5_ n6_ n7_ n8_ n9_ n10_ n11_
              (try clear hb)
              (try clear hb2)
              (try clear hk)
              (try clear hi)
              (try clear ho0)
              obtain ⟨Ao48, co48, eo48⟩ := Kd.S_slice HO350.out
              (first | subst eo48 | (injection eo48 with f1_ f2_ f3_; have f4_ := f1_.symm; have f5_ := f3_.symm; clear f1_ f2_ f3_; subst f4_; subst f5_))
              obtain ⟨Ao49, co49, eo49⟩ := Kd.S_slice HO353.out
              (first | subst eo49 | (injection eo49 with f1_ f2_ f3_; have f4_ := f1_.symm; have f5_ := f3_.symm; clear f1_ f2_ f3_; subst f4_; subst f5_))
              refine hK.out _ _ ⟨(blk_cell BK316.out 0).trans rfl, (blk_cell BK316.out 1).trans rfl, (blk_cell BK316.out 2).trans rfl, (blk_cell BK316.out 3).trans rfl, (blk_cell BK316.out 4).trans rfl⟩ (fun hHeld => ?_)
              clear hK K
              refine norm_ (a' := ?_) ?_ ?_
              rotate_left
              · show Act.put _ (some 51) _ = _
                simp only [Act.put, List.setIfInBounds_toArray, List.set_cons_zero, List.set_cons_succ, i64_w, i32_w]
                rfl
              refine one_ (i := 31) (N := some 52) #[true, true, true, true, true, true, true, true, true, true, true, true, true, true, true, true, true, true, true, true, true, true, true, true, true, true, true, true, true, true, true, true, false, false, false, false, false, false, false, false, false, false, false, false] rfl rfl (one_of HT_.out (by kernel_rfl)) (by decide) (fun K hK => ?_)
              refine goes_ Try.func24 (by kernel_rfl) rfl #[.slice Ao48 t348.length co48, .slice Ao49 t351.length co49] (by rfl) rfl rfl (by (try simp only [List.map_toArray, List.map_cons, List.map_nil]); first | done | rfl | (simp only [List.length_drop, List.length_take]; rfl)) ?_
              with_reducible refine (regletref13_SameLists.calls k _ _ t348 _ _ t351 true _ ?side1 ?side2 ?side3 ?side4 A22.out).mono ?_
              (case side1 => repeat (first | exact (Kd.S_reads' HO350.out).2.2 | (with_reducible refine Kd.C_alloc ?_ _) | (with_reducible refine Kd.C_drewN ?_ _) | (with_reducible refine Kd.C_drew ?_)))
              (case side2 => exact (Kd.S_reads' HO350.out).2.1)
              (case side3 => repeat (first | exact (Kd.S_reads' HO353.out).2.2 | (with_reducible refine Kd.C_alloc ?_ _) | (with_reducible refine Kd.C_drewN ?_ _) | (with_reducible refine Kd.C_drew ?_)))
              (case side4 => exact (Kd.S_reads' HO353.out).2.1)
              rintro e w' ⟨rfl, ⟨nd, rfl⟩⟩
              refine ⟨_, rfl, ?_⟩
              obtain ⟨Ao50, co50, eo50⟩ := Kd.R_slice HO319.out
              (first | subst eo50 | (injection eo50 with f1_ f2_ f3_; have f4_ := f1_.symm; have f5_ := f3_.symm; clear f1_ f2_ f3_; subst f4_; subst f5_))
              obtain ⟨Ao51, co51, eo51⟩ := Kd.R_slice HO323.out
              (first | subst eo51 | (injection eo51 with f1_ f2_ f3_; have f4_ := f1_.symm; have f5_ := f3_.symm; clear f1_ f2_ f3_; subst f4_; subst f5_))
              refine hK.out _ _ ⟨(blk_cell BK316.out 0).trans rfl, (blk_cell BK316.out 1).trans rfl, (blk_cell BK316.out 2).trans rfl, (blk_cell BK316.out 3).trans rfl, (blk_cell BK316.out 4).trans rfl⟩ (fun hHeld => ?_)
              clear hK K
              refine norm_ (a' := ?_) ?_ ?_
              rotate_left
              · show Act.put _ (some 52) _ = _
                simp only [Act.put, List.setIfInBounds_toArray, List.set_cons_zero, List.set_cons_succ, i64_w, i32_w]
                rfl
              refine pure_ (i := 32) (N := some 53) (v := ?_) (a' := ?_) #[true, true, true, true, true, true, true, true, true, true, true, true, true, true, true, true, true, true, true, true, true, true, true, true, true, true, true, true, true, true, true, true, true, false, false, false, false, false, false, false, false, false, false, false] rfl rfl (any_of HT_.out (by kernel_rfl)) (fun _ _ _ h => h) (Or.inl ⟨by rfl, ?_⟩) ?_ ?_
              rotate_left
              · intro w'
                go_simp
                with_reducible rfl
              rotate_left
              · simp only [Act.put, List.setIfInBounds_toArray, List.set_cons_zero, List.set_cons_succ, i64_w, i32_w]
                rfl
              refine pure_ (i := 33) (N := some 54) (v := ?_) (a' := ?_) #[true, true, true, true, true, true, true, true, true, true, true, true, true, true, true, true, true, true, true, true, true, true, true, true, true, true, true, true, true, true, true, true, true, true, false, false, false, false, false, false, false, false, false, false] rfl rfl (any_of HT_.out (by kernel_rfl)) (fun _ _ _ h => h) (Or.inl ⟨by rfl, ?_⟩) ?_ ?_
              rotate_left
              · intro w'
                go_simp
                with_reducible rfl
              rotate_left
              · simp only [Act.put, List.setIfInBounds_toArray, List.set_cons_zero, List.set_cons_succ, i64_w, i32_w]
                rfl
              refine pure_ (i := 34) (N := some 55) (v := ?_) (a' := ?_) #[true, true, true, true, true, true, true, true, true, true, true, true, true, true, true, true, true, true, true, true, true, true, true, true, true, true, true, true, true, true, true, true, true, true, true, false, false, false, false, false, false, false, false, false] rfl rfl (any_of HT_.out (by kernel_rfl)) (fun _ _ _ h => h) (Or.inl ⟨by rfl, ?_⟩) ?_ ?_
              rotate_left
              · intro w'
                go_simp
                with_reducible rfl
              rotate_left
              · simp only [Act.put, List.setIfInBounds_toArray, List.set_cons_zero, List.set_cons_succ, i64_w, i32_w]
                rfl
              refine pure_ (i := 35) (N := some 56) (v := ?_) (a' := ?_) #[true, true, true, true, true, true, true, true, true, true, true, true, true, true, true, true, true, true, true, true, true, true, true, true, true, true, true, true, true, true, true, true, true, true, true, true, false, false, false, false, false, false, false, false] rfl rfl (any_of HT_.out (by kernel_rfl)) (fun _ _ _ h => h) (Or.inl ⟨by rfl, ?_⟩) ?_ ?_
              rotate_left
              · intro w'
                go_simp
                with_reducible rfl
              rotate_left
              · simp only [Act.put, List.setIfInBounds_toArray, List.set_cons_zero, List.set_cons_succ, i64_w, i32_w]
                rfl
              refine one_ (i := 36) (N := some 57) #[true, true, true, true, true, true, true, true, true, true, true, true, true, true, true, true, true, true, true, true, true, true, true, true, true, true, true, true, true, true, true, true, true, true, true, true, true, false, false, false, false, false, false, false] rfl rfl (one_of HT_.out (by kernel_rfl)) (by decide) (fun K hK => ?_)
              refine goes_ Try.func22 (by kernel_rfl) rfl #[.slice Ao50 t317.length co50, .slice Ao51 t321.length co51] (by rfl) rfl rfl (by (try simp only [List.map_toArray, List.map_cons, List.map_nil]); first | done | rfl | (simp only [List.length_drop, List.length_take]; rfl)) ?_
              with_reducible refine (regletref13_SameInts.calls k _ _ t317 _ _ t321 true _ ?side1 ?side2 ?side3 ?side4 A24.out).mono ?_
              (case side1 => repeat (first | exact (Kd.R_reads' HO319.out).2.2 | (with_reducible refine Kd.C_alloc ?_ _) | (with_reducible refine Kd.C_drewN ?_ _) | (with_reducible refine Kd.C_drew ?_)))
              (case side2 => exact (Kd.R_reads' HO319.out).2.1)
              (case side3 => repeat (first | exact (Kd.R_reads' HO323.out).2.2 | (with_reducible refine Kd.C_alloc ?_ _) | (with_reducible refine Kd.C_drewN ?_ _) | (with_reducible refine Kd.C_drew ?_)))
              (case side4 => exact (Kd.R_reads' HO323.out).2.1)
              rintro e w' ⟨rfl, ⟨nd, rfl⟩⟩
              refine ⟨_, rfl, ?_⟩
              refine hK.out _ _ ⟨(blk_cell BK316.out 0).trans rfl, (blk_cell BK316.out 1).trans rfl, (blk_cell BK316.out 2).trans rfl, (blk_cell BK316.out 3).trans rfl, (blk_cell BK316.out 4).trans rfl⟩ (fun hHeld => ?_)
              clear hK K
              refine norm_ (a' := ?_) ?_ ?_
              rotate_left
              · show Act.put _ (some 57) _ = _
                simp only [Act.put, List.setIfInBounds_toArray, List.set_cons_zero, List.set_cons_succ, i64_w, i32_w]
                rfl
              refine pure_ (i := 37) (N := some 58) (v := ?_) (a' := ?_) #[true, true, true, true, true, true, true, true, true, true, true, true, true, true, true, true, true, true, true, true, true, true, true, true, true, true, true, true, true, true, true, true, true, true, true, true, true, true, false, false, false, false, false, false] rfl rfl (any_of HT_.out (by kernel_rfl)) (fun _ _ _ h => h) (Or.inl ⟨by rfl, ?_⟩) ?_ ?_
              rotate_left
              · intro w'
                go_simp
                with_reducible rfl
              rotate_left
              · simp only [Act.put, List.setIfInBounds_toArray, List.set_cons_zero, List.set_cons_succ, i64_w, i32_w]
                rfl
              refine pure_ (i := 38) (N := some 59) (v := ?_) (a' := ?_) #[true, true, true, true, true, true, true, true, true, true, true, true, true, true, true, true, true, true, true, true, true, true, true, true, true, true, true, true, true, true, true, true, true, true, true, true, true, true, true, false, false, false, false, false] rfl rfl (any_of HT_.out (by kernel_rfl)) (fun _ _ _ h => h) (Or.inl ⟨by rfl, ?_⟩) ?_ ?_
              rotate_left
              · intro w'
                go_simp
                with_reducible rfl
              rotate_left
              · simp only [Act.put, List.setIfInBounds_toArray, List.set_cons_zero, List.set_cons_succ, i64_w, i32_w]
                rfl
              refine pure_ (i := 39) (N := some 60) (v := ?_) (a' := ?_) #[true, true, true, true, true, true, true, true, true, true, true, true, true, true, true, true, true, true, true, true, true, true, true, true, true, true, true, true, true, true, true, true, true, true, true, true, true, true, true, true, false, false, false, false] rfl rfl (any_of HT_.out (by kernel_rfl)) (fun _ _ _ h => h) (Or.inl ⟨by rfl, ?_⟩) ?_ ?_
              rotate_left
              · intro w'
                go_simp
                with_reducible rfl
              rotate_left
              · simp only [Act.put, List.setIfInBounds_toArray, List.set_cons_zero, List.set_cons_succ, i64_w, i32_w]
                rfl
              refine pure_ (i := 40) (N := some 61) (v := ?_) (a' := ?_) #[true, true, true, true, true, true, true, true, true, true, true, true, true, true, true, true, true, true, true, true, true, true, true, true, true, true, true, true, true, true, true, true, true, true, true, true, true, true, true, true, true, false, false, false] rfl rfl (any_of HT_.out (by kernel_rfl)) (fun _ _ _ h => h) (Or.inl ⟨by rfl, ?_⟩) ?_ ?_
              rotate_left
              · intro w'
                go_simp
                with_reducible rfl
              rotate_left
              · simp only [Act.put, List.setIfInBounds_toArray, List.set_cons_zero, List.set_cons_succ, i64_w, i32_w]
                rfl
              refine pure_ (i := 41) (N := some 62) (v := ?_) (a' := ?_) #[true, true, true, true, true, true, true, true, true, true, true, true, true, true, true, true, true, true, true, true, true, true, true, true, true, true, true, true, true, true, true, true, true, true, true, true, true, true, true, true, true, true, false, false] rfl rfl (any_of HT_.out (by kernel_rfl)) (fun _ _ _ h => h) (Or.inl ⟨by rfl, ?_⟩) ?_ ?_
              rotate_left
              · intro w'
                go_simp
                with_reducible rfl
              rotate_left
              · simp only [Act.put, List.setIfInBounds_toArray, List.set_cons_zero, List.set_cons_succ, i64_w, i32_w]
                rfl
              refine pure_ (i := 42) (N := some 63) (v := ?_) (a' := ?_) #[true, true, true, true, true, true, true, true, true, true, true, true, true, true, true, true, true, true, true, true, true, true, true, true, true, true, true, true, true, true, true, true, true, true, true, true, true, true, true, true, true, true, true, false] rfl rfl (any_of HT_.out (by kernel_rfl)) (fun _ _ _ h => h) (Or.inl ⟨by rfl, ?_⟩) ?_ ?_
              rotate_left
              · intro w'
                go_simp
                with_reducible rfl
              rotate_left
              · simp only [Act.put, List.setIfInBounds_toArray, List.set_cons_zero, List.set_cons_succ, i64_w, i32_w]
                rfl
              refine pure_ (i := 43) (N := some 4) (v := ?_) (a' := ?_) #[true, true, true, true, true, true, true, true, true, true, true, true, true, true, true, true, true, true, true, true, true, true, true, true, true, true, true, true, true, true, true, true, true, true, true, true, true, true, true, true, true, true, true, true] rfl rfl (any_of HT_.out (by kernel_rfl)) (fun _ _ _ h => h) (Or.inl ⟨by rfl, ?_⟩) ?_ ?_
              rotate_left
              · intro w'
                go_simp
                with_reducible rfl
              rotate_left
              · simp only [Act.put, List.setIfInBounds_toArray, List.set_cons_zero, List.set_cons_succ, i64_w, i32_w]
                rfl
              refine done_ (done_of HT_.out (by kernel_rfl)) ?_
              try go_wp2
              go_ret
              exact ⟨by first | rfl | (simp [errW_none, errW_some] <;> rfl) | (simp [*, errW_none, errW_some] <;> rfl), by repeat (first | (with_reducible first | exact HB.out | apply below_alloc | apply pw_below_drewN | apply below_drew1 | refine below_set ?_ GE316.out) | exact HB.out)⟩
            · replace c25 := Bool.eq_false_iff.mpr c25
              subst c25
              have H1 : (none) = some r := by rw [if_neg (show ¬ (false = true) by decide)] at H; exact H
              clear H
              have H := H1
              clear H1
              exact absurd H (by simp)
          · replace c23 := Bool.eq_false_iff.mpr c23
            subst c23
            have H1 : (none) = some r := by rw [if_neg (show ¬ (false = true) by decide)] at H; exact H
            clear H
            have H := H1
            clear H1
            exact absurd H (by simp)
        · replace c19 := Bool.eq_false_iff.mpr c19
          subst c19
          have H1 : (none) = some r := by rw [if_neg (show ¬ (false = true) by decide)] at H; exact H
          clear H
          have H := H1
          clear H1
          exact absurd H (by simp)
      · replace c15 := Bool.eq_false_iff.mpr c15
        subst c15
        have H1 : (none) = some r := by rw [if_neg (show ¬ (false = true) by decide)] at H; exact H
        clear H
        have H := H1
        clear H1
        exact absurd H (by simp)
    · replace c11 := Bool.eq_false_iff.mpr c11
      subst c11
      have H1 : (none) = some r := by rw [if_neg (show ¬ (false = true) by decide)] at H; exact H
      clear H
      have H := H1
      clear H1
      exact absurd H (by simp)
  · rw [if_neg c7] at H
    exact absurd H (by simp)
end Go.Proofs.Ytojdjjbkpbapfaa.P
end

section
namespace Go.Proofs.Ytojdjjbkpbapfaa.H
open Go.RowKit Go.Proofs.YtojdjjbkpbapfaaW.PrintWords Go.Proofs.YtojdjjbkpbapfaaW.PrintLast Go.Proofs.YtojdjjbkpbapfaaW.PrintMore
theorem Ev.pos {α : Type} {c : Prop} [Decidable c] {f g : Nat → Option α} {r : α} (h : c) (k : Ev f r) : Ev (fun n => if c then f n else g n) r :=
  Ev.congr (fun _ => if_pos h) k
theorem Ev.neg {α : Type} {c : Prop} [Decidable c] {f g : Nat → Option α} {r : α} (h : ¬ c) (k : Ev g r) : Ev (fun n => if c then f n else g n) r :=
  Ev.congr (fun _ => if_neg h) k
theorem Ev.some {α : Type} {r s : α} (h : r = s) : Ev (fun _ => Option.some r) s := h ▸ Ev.now r
theorem Ev.some' {α : Type} {g : Option α} {r : α} (h : g = Option.some r) : Ev (fun _ => g) r := ⟨0, fun _ _ => h⟩
theorem Ev.bind0 {α β : Type} {g : Option α} {f : Nat → α → Option β} {a : α} {r : β} (h : g = Option.some a) (k : Ev (fun n => f n a) r) : Ev (fun n => g.bind (f n)) r :=
  Ev.congr (fun _ => by rw [h]; rfl) k
theorem Ev.val {α : Type} {g : Nat → Option α} {r s : α} (h : Ev g r) (e : r = s) : Ev g s := e ▸ h
theorem wrap64_id {x : Int} (h0 : -9223372036854775808 ≤ x) (h1 : x ≤ 9223372036854775807) : wrap64 x = x := by
  unfold wrap64; omega
theorem wf_u8 {x : Int} (h : (Lit.int .u8 x).wf = true) : 0 ≤ x ∧ x ≤ 255 := by
  simp [Lit.wf, IntKind.min, IntKind.max, IntKind.bits, IntKind.signed] at h; omega
end Go.Proofs.Ytojdjjbkpbapfaa.H
end

section
namespace Go.Proofs.Ytojdjjbkpbapfaa.P
open Go.RowKit Go.Proofs.YtojdjjbkpbapfaaW.PrintWords Go.Proofs.YtojdjjbkpbapfaaW.PrintLast Go.Proofs.YtojdjjbkpbapfaaW.PrintMore
set_option linter.unusedVariables false
set_option linter.unusedSimpArgs false
def mPick (l : List Int) (at_ : Nat) (n : Int) : Int := if l.length < at_ + 1 then 0 else Int.tmod (l.getD at_ 0) n
theorem wrap_u8 {x : Int} (h0 : 0 ≤ x) (h1 : x ≤ 255) : IntKind.i64.wrap x = x := by rw [IntKind.wrap_i64]; omega
theorem wrap_tmod {x n : Int} (h0 : 0 ≤ x) (h1 : x ≤ 255) : IntKind.i64.wrap (x.tmod n) = x.tmod n := by
  have h2 : 0 ≤ x.tmod n := Int.tmod_nonneg n h0
  have h3 : x.tmod n ≤ x := by
    obtain ⟨a, rfl⟩ := Int.eq_ofNat_of_zero_le h0
    rcases Int.lt_or_le n 0 with hn | hn
    · obtain ⟨b, hb⟩ := Int.eq_ofNat_of_zero_le (show 0 ≤ -n by omega)
      have : (a : Int).tmod n = (a : Int).tmod b := by rw [show n = -(b : Int) by omega, Int.tmod_neg]
      rw [this, ← Int.ofNat_tmod]
      exact_mod_cast Nat.mod_le a b
    · obtain ⟨b, rfl⟩ := Int.eq_ofNat_of_zero_le hn
      rw [← Int.ofNat_tmod]
      exact_mod_cast Nat.mod_le a b
  rw [IntKind.wrap_i64]; omega
set_option maxHeartbeats 1000000 in
theorem pick_any (l : List Int) (A0 : Option Addr) (c0 at_ : Nat) (n : Int) (LB AB : Nat) (W : World) (hne : LB ≠ AB) (hl : W.cell? ⟨LB, 0, none⟩ = some (.slice A0 l.length c0)) (hab : W.heap[AB]? = some (.cells #[.int .i64 (at_ : Int)] 3 (0, 0)))
    (hr : ∀ W', Kept W W' (fun k => k = AB) → Kd.C (Kd.int .u8) W' A0 l.length l) (hn : n ≠ 0) (hat : at_ < 1000000) (hu : ∀ x ∈ l, 0 ≤ x ∧ x ≤ 255) :
    Calls Try.prog 31 #[.int .i64 n, .pointer (some ⟨AB, 0, none⟩), .pointer (some ⟨LB, 0, none⟩)] W fun e w' => e = .returned (.int .i64 (mPick l at_ n)) ∧ Aside0 (Kept W w' (fun k => k = AB)) ∧ Aside0 (w'.heap[AB]? = some (.cells #[.int .i64 ((at_ + 1 : Nat) : Int)] 3 (0, 0))) ∧ Aside0 (Below AB W w') := by
  have ha : W.cell? ⟨AB, 0, none⟩ = some (.int .i64 (at_ : Int)) := (blk_cell hab 0).trans rfl
  have hf := blk_frozen hab 0
  have HA3 := Aside0.mk (blk_put hab 0 (.int .i64 ((at_ : Int) + 1)) (cs' := #[.int .i64 ((at_ + 1 : Nat) : Int)]) rfl)
  have hK := Kept.setCell (Kept.refl W (fun k => k = AB)) (p := ⟨AB, 0, none⟩) (.inl rfl) (.int .i64 ((at_ : Int) + 1))
  have hw1 : IntKind.i64.wrap ((at_ : Int) + 1) = (at_ : Int) + 1 := by rw [IntKind.wrap_i64]; omega
  have hw2 : IntKind.i64.wrap ((at_ : Int) + 1 - 1) = (at_ : Int) := by rw [IntKind.wrap_i64]; omega
  have hl2 : (W.setCell ⟨AB, 0, none⟩ (.int .i64 ((at_ : Int) + 1))).cell? ⟨LB, 0, none⟩ = some (.slice A0 l.length c0) := cell_kept hl hK hne
  have ha2 : (W.setCell ⟨AB, 0, none⟩ (.int .i64 ((at_ : Int) + 1))).cell? ⟨AB, 0, none⟩ = some (.int .i64 ((at_ : Int) + 1)) := World.cell?_setCell_same' _ _ _ (by rw [ha]; rfl)
  have HB : Aside0 (Below AB W (W.setCell ⟨AB, 0, none⟩ (.int .i64 ((at_ : Int) + 1)))) := ⟨(Below.refl AB W).setCell (Nat.le_refl _) _⟩
  have HK := Aside0.mk hK
  have HU := Aside0.mk hu
  have HR := Aside0.mk hr
  clear hK hu hr hab
  by_cases hlt : l.length < at_ + 1
  · have e : mPick l at_ n = 0 := if_pos hlt
    rw [e]
    have d0 : decide ((at_ : Int) + 1 > (l.length : Int)) = true := decide_eq_true (by omega)
    clear hlt e
    go_enter Try.func31, Try.ntmps31
    go_wp2
    go_ret
    exact ⟨rfl, HK, HA3, HB⟩
  · have e : mPick l at_ n = Int.tmod (l.getD at_ 0) n := if_neg hlt
    rw [e]
    have d0 : decide ((at_ : Int) + 1 > (l.length : Int)) = false := decide_eq_false (by omega)
    obtain ⟨ad, ead, hc⟩ := Kd.at_int (HR.out _ HK.out) (at_ : Int) (by omega) (by omega)
    cases ead
    have p0 : (0 ≤ (at_ : Int)) = True := eq_true (by omega)
    have p1 : ((at_ : Int) < (l.length : Int)) = True := eq_true (by omega)
    have hx := HU.out (l.getD at_ 0) (by rw [List.getD_eq_getElem?_getD, List.getElem?_eq_getElem (by omega)]; exact List.getElem_mem _)
    have hx0 : rd l (at_ : Int) = l.getD at_ 0 := rfl
    rw [hx0] at hc
    generalize l.getD at_ 0 = x at hc hx
    have hw3 := wrap_u8 hx.1 hx.2
    have hw4 := wrap_tmod (n := n) hx.1 hx.2
    rw [Int.toNat_natCast] at hc
    clear hx hx0 hlt e
    go_enter Try.func31, Try.ntmps31
    go_wp2
    go_ret
    exact ⟨rfl, HK, HA3, HB⟩
theorem mPick_lt {l : List Int} (hu : ∀ x ∈ l, 0 ≤ x ∧ x ≤ 255) (at_ : Nat) {n : Int} (hn : 0 < n) : 0 ≤ mPick l at_ n ∧ mPick l at_ n < n := by
  unfold mPick
  split
  · omega
  · have hx := hu (l.getD at_ 0) (by rw [List.getD_eq_getElem?_getD, List.getElem?_eq_getElem (by omega)]; exact List.getElem_mem _)
    exact ⟨Int.tmod_nonneg n hx.1, Int.tmod_lt_of_pos _ hn⟩
def mRight (l : List Int) (n t : Int) : Nat → Nat → List S49 → List S49 × Nat
  | 0, at_, acc => (acc, at_)
  | c + 1, at_, acc => mRight l n t c (at_ + 2) (acc ++ [if mPick l at_ 2 = 0 then ⟨true, mPick l (at_ + 1) t⟩ else ⟨false, mPick l (at_ + 1) n⟩])
def mProds (l : List Int) (n t : Int) : Nat → Nat → List S34 → List S34
  | 0, _, acc => acc
  | i + 1, at_, acc => mProds l n t i (mRight l n t (mPick l (at_ + 1) 4).toNat (at_ + 2) []).2 (acc ++ [⟨mPick l at_ n, (mRight l n t (mPick l (at_ + 1) 4).toNat (at_ + 2) []).1⟩])
def mNames : List ByteArray := [⟨#[97]⟩, ⟨#[98]⟩, ⟨#[99]⟩, ⟨#[100]⟩, ⟨#[101]⟩]
def mTexts : List ByteArray := [⟨#[120]⟩, ⟨#[121]⟩, ⟨#[122]⟩, ⟨#[119]⟩]
def mTok (s : ByteArray) : S62 := ⟨⟨#[]⟩, ⟨5, s, [], 0, 0, []⟩⟩
def regletlaw13_Made.f (k : Nat) (l : List Int) : Option (List ByteArray × List S62 × Int × Int × List S34) :=
  if l.all (fun x => decide (0 ≤ x ∧ x ≤ 255)) = true then some (mNames.take (1 + mPick l 0 5).toNat, (mTexts.map mTok).take (1 + mPick l 1 4).toNat, 0, 0, mProds l (1 + mPick l 0 5) (1 + mPick l 1 4) (1 + mPick l 2 10).toNat 3 []) else none
theorem regletlaw13_Made.mono : ∀ l k, LeO (regletlaw13_Made.f k l) (regletlaw13_Made.f (k + 1) l) := fun _ _ => LeO.refl _
structure MadeI (w : World) (A0 : Option Addr) (n0 c0 : Nat) (at_ : Nat) (vn vt vp : Value) (W : World) : Prop where
  bel : Below w.heap.size w W
  l : W.heap[w.heap.size]? = some (.cells #[.slice A0 n0 c0] 31 (0, 0))
  r : W.heap[w.heap.size + 1]? = some (.cells #[.slice none 0 0, .slice none 0 0, .int .i64 0, .int .i64 0, .slice none 0 0] 26 (0, 0))
  s : W.heap[w.heap.size + 2]? = some (.cells #[vn, vt, .int .i64 0, .int .i64 0, vp] 26 (0, 0))
  a : W.heap[w.heap.size + 3]? = some (.cells #[.int .i64 (at_ : Int)] 3 (0, 0))
theorem MadeI.pick {w W W' : World} {A0 : Option Addr} {n0 c0 at_ : Nat} {vn vt vp : Value} (h : MadeI w A0 n0 c0 at_ vn vt vp W) (hk : Kept W W' (fun k => k = w.heap.size + 3)) (ha : W'.heap[w.heap.size + 3]? = some (.cells #[.int .i64 ((at_ + 1 : Nat) : Int)] 3 (0, 0))) (hb : Below (w.heap.size + 3) W W') : MadeI w A0 n0 c0 (at_ + 1) vn vt vp W' :=
  ⟨h.bel.trans (hb.mono (by omega)), blk_kept h.l hk (by simp), blk_kept h.r hk (by simp), blk_kept h.s hk (by simp), ha⟩
theorem MadeI.calls {w W : World} {A0 : Option Addr} {l : List Int} {c0 at_ : Nat} {vn vt vp : Value} (h : MadeI w A0 l.length c0 at_ vn vt vp W) (hr : Kd.C (Kd.int .u8) w A0 l.length l) (n : Int) (hn : n ≠ 0) (hat : at_ < 1000000) (hu : ∀ x ∈ l, 0 ≤ x ∧ x ≤ 255) :
    Calls Try.prog 31 #[.int .i64 n, .pointer (some ⟨w.heap.size + 3, 0, none⟩), .pointer (some ⟨w.heap.size, 0, none⟩)] W fun e w' => e = .returned (.int .i64 (mPick l at_ n)) ∧ Aside0 (MadeI w A0 l.length c0 (at_ + 1) vn vt vp w') ∧ Aside0 (Kept W w' (fun k => k = w.heap.size + 3)) := by
  refine (pick_any l A0 c0 at_ n w.heap.size (w.heap.size + 3) W (by omega) ((blk_cell h.l 0).trans rfl) h.a (fun W' hk => ?_) hn hat hu).mono ?_
  · refine Kd.C_kept_came (Kd.heap_int _) hr h.bel (S := fun k => k = w.heap.size + 3) (fun k hk => by omega) W' hk
  · rintro e w' ⟨rfl, hk, ha, hb⟩
    exact ⟨rfl, ⟨h.pick hk.out ha.out hb.out⟩, hk⟩
end Go.Proofs.Ytojdjjbkpbapfaa.P
end

section
namespace Go.Proofs.Ytojdjjbkpbapfaa.P
open Go.RowKit Go.Proofs.YtojdjjbkpbapfaaW.PrintWords Go.Proofs.YtojdjjbkpbapfaaW.PrintLast Go.Proofs.YtojdjjbkpbapfaaW.PrintMore
set_option linter.unusedVariables false
set_option linter.unusedSimpArgs false
theorem miStr : (Try.prog.info? 9).map (fun i => (i.zero, i.size, i.bytes)) = some (some (.string ⟨#[]⟩), 1, 16) := by kernel_rfl
theorem miSym : (Try.prog.info? 49).map (fun i => (i.zero, i.size, i.bytes)) = some (some (.agg #[.bool false, .int .i64 0]), 2, 16) := by kernel_rfl
theorem miTok : (Try.prog.info? 62).map (fun i => (i.zero, i.size, i.bytes)) = some (some (.agg #[.string ⟨#[]⟩, .int .i64 0, .string ⟨#[]⟩, .slice none 0 0, .int .i64 0, .int .i64 0, .slice none 0 0]), 7, 104) := by kernel_rfl
theorem miProd : (Try.prog.info? 34).map (fun i => (i.zero, i.size, i.bytes)) = some (some (.agg #[.int .i64 0, .slice none 0 0]), 2, 32) := by kernel_rfl
section
variable {w W W' : World} {A0 : Option Addr} {n0 c0 at_ : Nat} {vn vt vp : Value}
theorem MadeI.below (h : MadeI w A0 n0 c0 at_ vn vt vp W) (hb : Below W.heap.size W W') : MadeI w A0 n0 c0 at_ vn vt vp W' :=
  ⟨h.bel.trans (hb.mono h.bel.size), (hb.block _ (blk_lt h.l)).trans h.l, (hb.block _ (blk_lt h.r)).trans h.r, (hb.block _ (blk_lt h.s)).trans h.s, (hb.block _ (blk_lt h.a)).trans h.a⟩
theorem MadeI.below4 (h : MadeI w A0 n0 c0 at_ vn vt vp W) (hb : Below (w.heap.size + 4) W W') : MadeI w A0 n0 c0 at_ vn vt vp W' :=
  ⟨h.bel.trans (hb.mono (by omega)), (hb.block _ (by omega)).trans h.l, (hb.block _ (by omega)).trans h.r, (hb.block _ (by omega)).trans h.s, (hb.block _ (by omega)).trans h.a⟩
theorem MadeI.size (h : MadeI w A0 n0 c0 at_ vn vt vp W) : w.heap.size + 4 ≤ W.heap.size := blk_lt h.a
theorem MadeI.put0 (h : MadeI w A0 n0 c0 at_ vn vt vp W) (v : Value) : MadeI w A0 n0 c0 at_ v vt vp (W.setCell ⟨w.heap.size + 2, 0, none⟩ v) :=
  ⟨below_set h.bel (by simp), blk_far h.l (by simp) _, blk_far h.r (by simp) _, blk_put h.s 0 v rfl, blk_far h.a (by simp) _⟩
theorem MadeI.put1 (h : MadeI w A0 n0 c0 at_ vn vt vp W) (v : Value) : MadeI w A0 n0 c0 at_ vn v vp (W.setCell ⟨w.heap.size + 2, 1, none⟩ v) :=
  ⟨below_set h.bel (by simp), blk_far h.l (by simp) _, blk_far h.r (by simp) _, blk_put h.s 1 v rfl, blk_far h.a (by simp) _⟩
theorem MadeI.put4 (h : MadeI w A0 n0 c0 at_ vn vt vp W) (v : Value) : MadeI w A0 n0 c0 at_ vn vt v (W.setCell ⟨w.heap.size + 2, 4, none⟩ v) :=
  ⟨below_set h.bel (by simp), blk_far h.l (by simp) _, blk_far h.r (by simp) _, blk_put h.s 4 v rfl, blk_far h.a (by simp) _⟩
end
theorem set5_kept (W : World) (g : Nat) (v0 v1 v2 v3 v4 : Value) : Kept W (((((W.setCell ⟨g, 0, none⟩ v0).setCell ⟨g, 1, none⟩ v1).setCell ⟨g, 2, none⟩ v2).setCell ⟨g, 3, none⟩ v3).setCell ⟨g, 4, none⟩ v4) (fun k => k = g) := by
  have h0 := Kept.setCell (Kept.refl W (fun k => k = g)) (p := ⟨g, 0, none⟩) (.inl rfl) v0
  have h1 := Kept.setCell h0 (p := ⟨g, 1, none⟩) (.inl rfl) v1
  have h2 := Kept.setCell h1 (p := ⟨g, 2, none⟩) (.inl rfl) v2
  have h3 := Kept.setCell h2 (p := ⟨g, 3, none⟩) (.inl rfl) v3
  exact Kept.setCell h3 (p := ⟨g, 4, none⟩) (.inl rfl) v4
theorem set5_below {w W : World} {g : Nat} (h : Below w.heap.size w W) (hg : w.heap.size ≤ g) (v0 v1 v2 v3 v4 : Value) : Below w.heap.size w (((((W.setCell ⟨g, 0, none⟩ v0).setCell ⟨g, 1, none⟩ v1).setCell ⟨g, 2, none⟩ v2).setCell ⟨g, 3, none⟩ v3).setCell ⟨g, 4, none⟩ v4) := by
  have h0 := below_set (j := 0) (v := v0) h hg
  have h1 := below_set (j := 1) (v := v1) h0 hg
  have h2 := below_set (j := 2) (v := v2) h1 hg
  have h3 := below_set (j := 3) (v := v3) h2 hg
  exact below_set (j := 4) (v := v4) h3 hg
theorem name_at (i : Nat) (h : i < 5) : ([Value.string ⟨#[97]⟩, Value.string ⟨#[98]⟩, Value.string ⟨#[99]⟩, Value.string ⟨#[100]⟩, Value.string ⟨#[101]⟩] : List Value)[i]? = some (.string (mNames.getD i ⟨#[]⟩)) := by
  match i, h with
  | 0, _ => rfl
  | 1, _ => rfl
  | 2, _ => rfl
  | 3, _ => rfl
  | 4, _ => rfl
theorem text_at (i : Nat) (h : i < 4) : ([Value.string ⟨#[120]⟩, Value.string ⟨#[121]⟩, Value.string ⟨#[122]⟩, Value.string ⟨#[119]⟩] : List Value)[i]? = some (.string (mTexts.getD i ⟨#[]⟩)) := by
  match i, h with
  | 0, _ => rfl
  | 1, _ => rfl
  | 2, _ => rfl
  | 3, _ => rfl
theorem take_next {α : Type} (xs : List α) (d : α) (i : Nat) (h : i < xs.length) : xs.take i ++ [xs.getD i d] = xs.take (i + 1) := by
  rw [List.take_add_one, List.getD_eq_getElem?_getD, List.getElem?_eq_getElem h]; rfl
set_option maxHeartbeats 4000000 in
set_option maxRecDepth 100000 in
theorem regletlaw13_Made.calls (k : Nat) (A0 : Option Addr) (c0 : Nat) (l0 : List Int) (r1 : List ByteArray) (r2 : List S62) (r3 r4 : Int) (r5 : List S34) (w : World) (hr0 : Kd.C (Kd.int .u8) w A0 l0.length l0) (hc0 : l0.length ≤ c0) (h : regletlaw13_Made.f k l0 = some (r1, r2, r3, r4, r5)) :
    Calls Try.prog 12 #[.slice A0 l0.length c0] w fun e w' => ∃ v0_ v1_ v2_ : Value, e = .returned (.agg #[v0_, v1_, .int .i64 r3, .int .i64 r4, v2_]) ∧ Kd.R Kd.string 9 w' w.heap.size (fun _ => True) v0_ r1 ∧ Kd.R k62 62 w' w.heap.size (fun _ => True) v1_ r2 ∧ Kd.S k34 34 w' w.heap.size (fun _ => True) v2_ r5 ∧ Below w.heap.size w w' := by
  unfold regletlaw13_Made.f at h
  split at h
  case isFalse => simp at h
  rename_i hall
  have hu : ∀ x ∈ l0, 0 ≤ x ∧ x ≤ 255 := fun x hx => of_decide_eq_true (List.all_eq_true.1 hall x hx)
  obtain ⟨h1, h2⟩ := Prod.mk.inj (Option.some.inj h)
  obtain ⟨h2, h3⟩ := Prod.mk.inj h2
  obtain ⟨h3, h4⟩ := Prod.mk.inj h3
  obtain ⟨h4, h5⟩ := Prod.mk.inj h4
  subst h1 h2 h3 h4 h5
  have HU := Aside0.mk hu
  have HR0 := Aside0.mk hr0
  clear h hall hu hr0 hc0
  clear h2 h3 h4
  have hI0 : MadeI w A0 l0.length c0 0 (.slice none 0 0) (.slice none 0 0) (.slice none 0 0) ((((w.alloc (.cells #[.slice A0 l0.length c0] 31)).alloc (.cells #[.slice none 0 0, .slice none 0 0, .int .i64 0, .int .i64 0, .slice none 0 0] 26)).alloc (.cells #[.slice none 0 0, .slice none 0 0, .int .i64 0, .int .i64 0, .slice none 0 0] 26)).alloc (.cells #[.int .i64 0] 3)) := by
    refine ⟨below_alloc (below_alloc (below_alloc (below_alloc (Below.refl _ w) _) _) _) _, ?_, ?_, ?_, ?_⟩
    · exact blk_alloc (blk_alloc (blk_alloc (heap_alloc_new w _) _) _) _
    · have h := heap_alloc_new (w.alloc (.cells #[.slice A0 l0.length c0] 31)) (.cells #[.slice none 0 0, .slice none 0 0, .int .i64 0, .int .i64 0, .slice none 0 0] 26)
      rw [World.size_alloc] at h
      exact blk_alloc (blk_alloc h _) _
    · have h := heap_alloc_new ((w.alloc (.cells #[.slice A0 l0.length c0] 31)).alloc (.cells #[.slice none 0 0, .slice none 0 0, .int .i64 0, .int .i64 0, .slice none 0 0] 26)) (.cells #[.slice none 0 0, .slice none 0 0, .int .i64 0, .int .i64 0, .slice none 0 0] 26)
      rw [World.size_alloc, World.size_alloc] at h
      exact blk_alloc h _
    · have h := heap_alloc_new (((w.alloc (.cells #[.slice A0 l0.length c0] 31)).alloc (.cells #[.slice none 0 0, .slice none 0 0, .int .i64 0, .int .i64 0, .slice none 0 0] 26)).alloc (.cells #[.slice none 0 0, .slice none 0 0, .int .i64 0, .int .i64 0, .slice none 0 0] 26)) (.cells #[.int .i64 0] 3)
      rw [World.size_alloc, World.size_alloc, World.size_alloc] at h
      exact h
  have HI0 := Aside0.mk hI0
  clear hI0
  have eg : ∀ args w, (callFunc 31 args).run Try.prog w = .ok (.enter 31 args) w := enters_of Try.func31 (by kernel_rfl) rfl
  have hp0 := mPick_lt HU.out 0 (n := 5) (by decide)
  have hp1 := mPick_lt HU.out 1 (n := 4) (by decide)
  have hp2 := mPick_lt HU.out 2 (n := 10) (by decide)
  obtain ⟨m, em, hm1, hm5⟩ : ∃ m : Nat, 1 + mPick l0 0 5 = (m : Int) ∧ 1 ≤ m ∧ m ≤ 5 := ⟨(1 + mPick l0 0 5).toNat, by omega, by omega, by omega⟩
  obtain ⟨q, eq_, hq1, hq4⟩ : ∃ q : Nat, 1 + mPick l0 1 4 = (q : Int) ∧ 1 ≤ q ∧ q ≤ 4 := ⟨(1 + mPick l0 1 4).toNat, by omega, by omega, by omega⟩
  obtain ⟨c, ec, hc1, hc10⟩ : ∃ c : Nat, 1 + mPick l0 2 10 = (c : Int) ∧ 1 ≤ c ∧ c ≤ 10 := ⟨(1 + mPick l0 2 10).toNat, by omega, by omega, by omega⟩
  simp only [em, eq_, ec, Int.toNat_natCast]
  have EM := Aside0.mk em
  have EQ := Aside0.mk eq_
  have EC := Aside0.mk ec
  clear em eq_ ec hp0 hp1 hp2
  go_enter Try.func12, Try.ntmps12
  go_upto_region 4 with fail
  simp only [Nat.add_assoc, Nat.reduceAdd]
  generalize ((((w.alloc (.cells #[.slice A0 l0.length c0] 31)).alloc (.cells #[.slice none 0 0, .slice none 0 0, .int .i64 0, .int .i64 0, .slice none 0 0] 26)).alloc (.cells #[.slice none 0 0, .slice none 0 0, .int .i64 0, .int .i64 0, .slice none 0 0] 26)).alloc (.cells #[.int .i64 0] 3)) = W0 at HI0 ⊢
  go_cut [6, 7] from 14 (fun s6 s7 wc => s6 = .int .i64 (m : Int) ∧ s7 = .int .i64 (q : Int) ∧ Aside0 (MadeI w A0 l0.length c0 2 (.slice none 0 0) (.slice none 0 0) (.slice none 0 0) wc))
  case first =>
    have P1 := Aside0.mk (HI0.out.calls HR0.out 5 (by decide) (by decide) HU.out)
    have hw1 : IntKind.i64.wrap (1 + mPick l0 0 5) = 1 + mPick l0 0 5 := by have := mPick_lt HU.out 0 (n := 5) (by decide); rw [IntKind.wrap_i64]; omega
    have hw2 : IntKind.i64.wrap (1 + mPick l0 1 4) = 1 + mPick l0 1 4 := by have := mPick_lt HU.out 1 (n := 4) (by decide); rw [IntKind.wrap_i64]; omega
    go_wp2_with (first
      | (go_at_fn 31; (with_reducible refine P1.out.mono ?_); rintro e w1 ⟨rfl, HI1, hk1⟩; have P2 := Aside0.mk (HI1.out.calls HR0.out 4 (by decide) (by decide) HU.out); clear P1)
      | (go_at_fn 31; (with_reducible refine P2.out.mono ?_); rintro e w2 ⟨rfl, HI2, hk2⟩; clear P2))
    go_meet
    case rel => exact ⟨congrArg _ EM.out, congrArg _ EQ.out, HI2⟩
  case rest =>
    obtain ⟨rfl, rfl, HI2⟩ := hcut
    obtain ⟨w2, ew2⟩ : ∃ w2 : World, w2 = wc := ⟨_, rfl⟩
    subst ew2
    clear HI0
    have M5 := Aside0.mk hm5
    have Q4 := Aside0.mk hq4
    have C10 := Aside0.mk hc10
    have M1 := Aside0.mk hm1
    have Q1 := Aside0.mk hq1
    have C1 := Aside0.mk hc1
    clear hm5 hq4 hc10 hm1 hq1 hc1
    go_upto_region 5 with fail
    iterate 7 (first | go_values | go_skip | go_guarded | go_step | go_upon | go_back | (simp only [Int.not_lt, Int.not_le] at *; go_simp))
    go_cut [8] from 14 (fun s8 wc => ∃ vn : Value, Aside0 (MadeI w A0 l0.length c0 2 vn (.slice none 0 0) (.slice none 0 0) wc) ∧ Aside0 (Kd.R Kd.string 9 wc (w.heap.size + 4) (fun k => w.heap.size + 4 ≤ k) vn (mNames.take m)))
    case first =>
      go_wp2
      go_loopg [8] m (fun kq v8 wr => ∃ (i : Nat) (vn : Value), v8 = .int .i64 i ∧ i ≤ m ∧ m - i ≤ kq ∧ Aside0 (MadeI w A0 l0.length c0 2 vn (.slice none 0 0) (.slice none 0 0) wr) ∧ Aside0 (Kd.R Kd.string 9 wr (w.heap.size + 4) (fun k => w.heap.size + 4 ≤ k) vn (mNames.take i)))
      case atStart => exact ⟨0, .slice none 0 0, rfl, by omega, by omega, HI2, ⟨Kd.R_nil _ _ _ _ _⟩⟩
      case round =>
        clear HI2
        obtain ⟨i, vn, rfl, hi, hm, HI, HN⟩ := hrel
        by_cases hlt : i < m
        · have d0 : decide (i < m) = true := decide_eq_true hlt
          have d1 : (i < m) = True := eq_true hlt
          have HLT := Aside0.mk hlt
          have HM := Aside0.mk hm
          have p0 : (0 ≤ (i : Int)) = True := eq_true (by omega)
          have p1 : ((i : Int) < 5) = True := eq_true (by have := M5.out; omega)
          have hwr : IntKind.i64.wrap ((i : Int) + 1) = (i : Int) + 1 := by rw [IntKind.wrap_i64]; have := M5.out; omega
          have H1 := Aside0.mk (HI.out.below (below_drew1 (Below.refl _ wr)))
          have H2 := Aside0.mk (H1.out.below (below_alloc (Below.refl _ wr.drew) (.cells #[.string ⟨#[97]⟩, .string ⟨#[98]⟩, .string ⟨#[99]⟩, .string ⟨#[100]⟩, .string ⟨#[101]⟩] 9)))
          obtain ⟨nm, enm⟩ : ∃ nm : ByteArray, nm = mNames.getD i ⟨#[]⟩ := ⟨_, rfl⟩
          have c8 : ([Value.string ⟨#[97]⟩, Value.string ⟨#[98]⟩, Value.string ⟨#[99]⟩, Value.string ⟨#[100]⟩, Value.string ⟨#[101]⟩] : List Value)[i]? = some (.string nm) := by rw [enm]; exact name_at i (by have := M5.out; omega)
          have ENM := Aside0.mk enm
          clear enm
          have HS2 := Aside0.mk H2.out.size
          clear hlt hm hi
          go_wp2
          refine start_ (n := 10) (S := fun w' => w'.cell? ⟨w.heap.size + 2, 0, none⟩ = some vn) (ds := [9]) #[false, false, false, false, false, false, false, false, false, false] (by kernel_rfl) rfl rfl ((blk_cell HI.out.s 0).trans rfl) (fun hHeld => ?_)
          refine pure_ (i := 0) (N := some 25) (v := ?_) (a' := ?_) #[true, false, false, false, false, false, false, false, false, false] rfl rfl (by kernel_rfl) (fun _ _ _ h => h) (Or.inl ⟨by rfl, ?_⟩) ?_ ?_
          rotate_left
          · intro w'
            go_simp
            with_reducible rfl
          rotate_left
          · simp only [Act.put, List.setIfInBounds_toArray, List.set_cons_zero, List.set_cons_succ, i64_w, i32_w]
            rfl
          refine pure_ (i := 3) (N := some 28) (v := ?_) (a' := ?_) #[true, false, false, true, false, false, false, false, false, false] rfl rfl (by kernel_rfl) (fun _ _ _ h => h) (Or.inl ⟨by rfl, ?_⟩) ?_ ?_
          rotate_left
          · intro w'
            go_simp
            with_reducible rfl
          rotate_left
          · simp only [Act.put, List.setIfInBounds_toArray, List.set_cons_zero, List.set_cons_succ, i64_w, i32_w]
            rfl
          refine take_ (i := 1) (N := some 26) (v := ?_) (a' := ?_) #[true, true, false, true, false, false, false, false, false, false] rfl rfl (by kernel_rfl) (fun _ _ _ h => h) (Or.inl ⟨by rfl, ?_⟩) hHeld ?_ ?_
          rotate_left
          · intro w' s0
            go_simp
            with_reducible rfl
          rotate_left
          · simp only [Act.put, List.setIfInBounds_toArray, List.set_cons_zero, List.set_cons_succ, i64_w, i32_w]
            rfl
          refine one_ (i := 2) (N := some 27) #[true, true, true, true, false, false, false, false, false, false] rfl rfl (by kernel_rfl) (by decide) (fun K hK => ?_)
          refine value_ (w1 := ?_) (v := ?_) (by rfl) rfl ?_ ?_
          rotate_left 2
          · go_simp
            constructor
            · rfl
            · rfl
          refine hK.out _ _ ((blk_cell H2.out.s 0).trans rfl) (fun hHeld => ?_)
          clear hK K
          refine norm_ (a' := ?_) ?_ ?_
          rotate_left
          · show Act.put _ (some 27) _ = _
            simp only [Act.put, List.setIfInBounds_toArray, List.set_cons_zero, List.set_cons_succ, i64_w, i32_w]
            rfl
          refine pure_ (i := 4) (N := some 29) (v := ?_) (a' := ?_) #[true, true, true, true, true, false, false, false, false, false] rfl rfl (by kernel_rfl) (fun _ _ _ h => h) (Or.inl ⟨by rfl, ?_⟩) ?_ ?_
          rotate_left
          · intro w'
            go_simp
            with_reducible rfl
          rotate_left
          · simp only [Act.put, List.setIfInBounds_toArray, List.set_cons_zero, List.set_cons_succ, i64_w, i32_w]
            rfl
          refine one_ (i := 5) (N := some 30) #[true, true, true, true, true, true, false, false, false, false] rfl rfl (by kernel_rfl) (by decide) (fun K hK => ?_)
          refine value_ (w1 := ?_) (v := ?_) (by rfl) rfl ?_ ?_
          rotate_left 2
          · go_simp
            constructor
            · rfl
            · rfl
          refine hK.out _ _ (hHeld) (fun hHeld => ?_)
          clear hK K
          refine norm_ (a' := ?_) ?_ ?_
          rotate_left
          · show Act.put _ (some 30) _ = _
            simp only [Act.put, List.setIfInBounds_toArray, List.set_cons_zero, List.set_cons_succ, i64_w, i32_w]
            rfl
          refine one_ (i := 6) (N := some 31) #[true, true, true, true, true, true, true, false, false, false] rfl rfl (by kernel_rfl) (by decide) (fun K hK => ?_)
          refine value_ (w1 := ?_) (v := ?_) (by rfl) rfl ?_ ?_
          rotate_left 2
          · go_simp
            constructor
            · rfl
            · rfl
          refine hK.out _ _ ((blk_cell (H2.out.below (below_alloc (Below.refl _ _) _)).s 0).trans rfl) (fun hHeld => ?_)
          clear hK K
          refine norm_ (a' := ?_) ?_ ?_
          rotate_left
          · show Act.put _ (some 31) _ = _
            simp only [Act.put, List.setIfInBounds_toArray, List.set_cons_zero, List.set_cons_succ, i64_w, i32_w]
            rfl
          refine one_ (i := 7) (N := some 32) #[true, true, true, true, true, true, true, true, false, false] rfl rfl (by kernel_rfl) (by decide) (fun K hK => ?_)
          refine Kd.R_append_step Kd.string (w0 := wr.drew.alloc (.cells #[.string ⟨#[97]⟩, .string ⟨#[98]⟩, .string ⟨#[99]⟩, .string ⟨#[100]⟩, .string ⟨#[101]⟩] 9)) (w.heap.size + 4) (by rfl) (.tmp 26) (.tmp 31) 22 9 (.string ⟨#[]⟩) 16 rfl Try.underlying22 miStr rfl (by decide) (by omega) vn (mNames.take i) nm [.string nm] (fun k => w.heap.size + 4 ≤ k) (fun _ => False) rfl (by rw [World.size_alloc]; rfl) rfl (fun _ hk => hk.elim) (fun k hk => Nat.le_trans HS2.out hk) (Kd.R_alloc (Kd.R_drew HN.out) _) (Below.refl _ _) HS2.out (by have := M5.out; have := HLT.out; have := List.length_take_le i mNames; omega) ?_
          intro v1 w1 ho hb hg hat
          obtain ⟨An, ln, cn, rfl⟩ : ∃ An ln cn, v1 = .slice An ln cn := by obtain ⟨An, cn, e⟩ := Kd.R_slice ho; exact ⟨An, _, cn, e⟩
          rw [ENM.out, take_next mNames ⟨#[]⟩ i (by have := M5.out; have := HLT.out; show i < 5; omega)] at ho
          have H3 := Aside0.mk (H2.out.below4 hb)
          have HN3 := Aside0.mk ho
          have f3 := blk_frozen H3.out.s 0
          clear ho hb hg hat
          refine hK.out _ _ ((blk_cell H3.out.s 0).trans rfl) (fun hHeld => ?_)
          clear hK K
          refine norm_ (a' := ?_) ?_ ?_
          rotate_left
          · show Act.put _ (some 32) _ = _
            simp only [Act.put, List.setIfInBounds_toArray, List.set_cons_zero, List.set_cons_succ, i64_w, i32_w]
            rfl
          refine pure_ (i := 8) (N := some 33) (v := ?_) (a' := ?_) #[true, true, true, true, true, true, true, true, true, false] rfl rfl (by kernel_rfl) (fun _ _ _ h => h) (Or.inl ⟨by rfl, ?_⟩) ?_ ?_
          rotate_left
          · intro w'
            go_simp
            with_reducible rfl
          rotate_left
          · simp only [Act.put, List.setIfInBounds_toArray, List.set_cons_zero, List.set_cons_succ, i64_w, i32_w]
            rfl
          refine last_ (i := 9) (N := none) #[true, true, true, true, true, true, true, true, true, true] rfl rfl (by kernel_rfl) (by decide) (fun K hK => ?_)
          refine skip_ (w1 := ?_) (by rfl) rfl ?_ ?_
          rotate_left
          · go_simp
            rfl
          refine hK.out _ _ ?_
          clear hK K
          refine done_ (by kernel_rfl) ?_
          go_wp2
          go_roundg (m - (i + 1))
          case measure => have := HM.out; have := HLT.out; omega
          case rel => exact ⟨i + 1, _, rfl, by have := HLT.out; omega, Nat.le_refl _, ⟨H3.out.put0 _⟩, ⟨Kd.R_kept HN3.out (Kept.setCell (Kept.refl _ (fun k => k = w.heap.size + 2)) (.inl rfl) _) (fun k hk => by omega)⟩⟩
        · obtain rfl : i = m := by omega
          have d0 : decide ((i : Int) < (i : Int)) = false := decide_eq_false (by omega)
          clear hlt
          go_wp2
          go_meet
          case rel => exact ⟨vn, HI, HN⟩
    case rest =>
      obtain ⟨vn, HI3, HN3⟩ := hcut
      obtain ⟨w3, ew3⟩ : ∃ w3 : World, w3 = wc := ⟨_, rfl⟩
      subst ew3
      clear HI2
      have HB3 := Aside0.mk HI3.out.size
      have HN3b : Aside0 (Kd.R Kd.string 9 w3 (w.heap.size + 4) (fun k => w.heap.size + 4 ≤ k ∧ k < w3.heap.size) vn (mNames.take m)) := ⟨Kd.R_mono (Kd.R_bound HN3.out) (fun k hk => ⟨hk.2.1, hk.2.2.1⟩)⟩
      clear HN3
      go_upto_region 9 with fail
      iterate 7 (first | go_values | go_skip | go_guarded | go_step | go_upon | go_back | (simp only [Int.not_lt, Int.not_le] at *; go_simp))
      go_cut [9] from 14 (fun s9 wc => ∃ vt : Value, Aside0 (MadeI w A0 l0.length c0 2 vn vt (.slice none 0 0) wc) ∧ Aside0 (Kept w3 wc (fun k => k < w.heap.size + 4 ∨ w3.heap.size ≤ k)) ∧ Aside0 (Kd.R k62 62 wc (w.heap.size + 4) (fun k => w3.heap.size ≤ k) vt ((mTexts.map mTok).take q)))
      case first =>
        go_wp2
        go_loopg [9] q (fun kq v9 wr => ∃ (i : Nat) (vt : Value), v9 = .int .i64 i ∧ i ≤ q ∧ q - i ≤ kq ∧ Aside0 (MadeI w A0 l0.length c0 2 vn vt (.slice none 0 0) wr) ∧ Aside0 (Kept w3 wr (fun k => k < w.heap.size + 4 ∨ w3.heap.size ≤ k)) ∧ Aside0 (Kd.R k62 62 wr (w.heap.size + 4) (fun k => w3.heap.size ≤ k) vt ((mTexts.map mTok).take i)))
        case atStart => exact ⟨0, .slice none 0 0, rfl, by omega, by omega, HI3, ⟨Kept.refl _ _⟩, ⟨Kd.R_nil _ _ _ _ _⟩⟩
        case round =>
          clear HI3
          obtain ⟨i, vt, rfl, hi, hm, HI, HK, HT⟩ := hrel
          by_cases hlt : i < q
          · have d0 : decide (i < q) = true := decide_eq_true hlt
            have d1 : (i < q) = True := eq_true hlt
            have HLT := Aside0.mk hlt
            have HM := Aside0.mk hm
            have p0 : (0 ≤ (i : Int)) = True := eq_true (by omega)
            have p1 : ((i : Int) < 4) = True := eq_true (by have := Q4.out; omega)
            have hwr : IntKind.i64.wrap ((i : Int) + 1) = (i : Int) + 1 := by rw [IntKind.wrap_i64]; have := Q4.out; omega
            have H1 := Aside0.mk (HI.out.below (below_drew1 (Below.refl _ wr)))
            have H2 := Aside0.mk (H1.out.below (below_alloc (Below.refl _ wr.drew) (.cells #[.string ⟨#[120]⟩, .string ⟨#[121]⟩, .string ⟨#[122]⟩, .string ⟨#[119]⟩] 9)))
            have HK2 : Aside0 (Kept w3 (wr.drew.alloc (.cells #[.string ⟨#[120]⟩, .string ⟨#[121]⟩, .string ⟨#[122]⟩, .string ⟨#[119]⟩] 9)) (fun k => k < w.heap.size + 4 ∨ w3.heap.size ≤ k)) := ⟨Kept.alloc (Kept.drew HK.out) _⟩
            obtain ⟨tx, etx⟩ : ∃ tx : ByteArray, tx = mTexts.getD i ⟨#[]⟩ := ⟨_, rfl⟩
            have c8 : ([Value.string ⟨#[120]⟩, Value.string ⟨#[121]⟩, Value.string ⟨#[122]⟩, Value.string ⟨#[119]⟩] : List Value)[i]? = some (.string tx) := by rw [etx]; exact text_at i (by have := Q4.out; omega)
            have ETX : Aside0 (mTok tx = (mTexts.map mTok).getD i (mTok ⟨#[]⟩)) := ⟨by rw [etx, List.getD_eq_getElem?_getD, List.getD_eq_getElem?_getD, List.getElem?_map, List.getElem?_eq_getElem (show i < mTexts.length by have := Q4.out; show i < 4; omega)]; rfl⟩
            have HS2 := Aside0.mk H2.out.size
            have HZ2 : Aside0 (w3.heap.size ≤ (wr.drew.alloc (.cells #[.string ⟨#[120]⟩, .string ⟨#[121]⟩, .string ⟨#[122]⟩, .string ⟨#[119]⟩] 9)).heap.size) := ⟨HK2.out.1⟩
            clear hlt hm hi etx
            go_wp2
            refine start_ (n := 12) (S := fun w' => w'.cell? ⟨w.heap.size + 2, 1, none⟩ = some vt) (ds := [11]) #[false, false, false, false, false, false, false, false, false, false, false, false] (by kernel_rfl) rfl rfl ((blk_cell HI.out.s 1).trans rfl) (fun hHeld => ?_)
            refine pure_ (i := 0) (N := some 39) (v := ?_) (a' := ?_) #[true, false, false, false, false, false, false, false, false, false, false, false] rfl rfl (by kernel_rfl) (fun _ _ _ h => h) (Or.inl ⟨by rfl, ?_⟩) ?_ ?_
            rotate_left
            · intro w'
              go_simp
              with_reducible rfl
            rotate_left
            · simp only [Act.put, List.setIfInBounds_toArray, List.set_cons_zero, List.set_cons_succ, i64_w, i32_w]
              rfl
            refine pure_ (i := 3) (N := some 42) (v := ?_) (a' := ?_) #[true, false, false, true, false, false, false, false, false, false, false, false] rfl rfl (by kernel_rfl) (fun _ _ _ h => h) (Or.inl ⟨by rfl, ?_⟩) ?_ ?_
            rotate_left
            · intro w'
              go_simp
              with_reducible rfl
            rotate_left
            · simp only [Act.put, List.setIfInBounds_toArray, List.set_cons_zero, List.set_cons_succ, i64_w, i32_w]
              rfl
            refine take_ (i := 1) (N := some 40) (v := ?_) (a' := ?_) #[true, true, false, true, false, false, false, false, false, false, false, false] rfl rfl (by kernel_rfl) (fun _ _ _ h => h) (Or.inl ⟨by rfl, ?_⟩) hHeld ?_ ?_
            rotate_left
            · intro w' s0
              go_simp
              with_reducible rfl
            rotate_left
            · simp only [Act.put, List.setIfInBounds_toArray, List.set_cons_zero, List.set_cons_succ, i64_w, i32_w]
              rfl
            refine one_ (i := 2) (N := some 41) #[true, true, true, true, false, false, false, false, false, false, false, false] rfl rfl (by kernel_rfl) (by decide) (fun K hK => ?_)
            refine value_ (w1 := ?_) (v := ?_) (by rfl) rfl ?_ ?_
            rotate_left 2
            · go_simp
              constructor
              · rfl
              · rfl
            refine hK.out _ _ ((blk_cell H2.out.s 1).trans rfl) (fun hHeld => ?_)
            clear hK K
            refine norm_ (a' := ?_) ?_ ?_
            rotate_left
            · show Act.put _ (some 41) _ = _
              simp only [Act.put, List.setIfInBounds_toArray, List.set_cons_zero, List.set_cons_succ, i64_w, i32_w]
              rfl
            refine pure_ (i := 4) (N := some 43) (v := ?_) (a' := ?_) #[true, true, true, true, true, false, false, false, false, false, false, false] rfl rfl (by kernel_rfl) (fun _ _ _ h => h) (Or.inl ⟨by rfl, ?_⟩) ?_ ?_
            rotate_left
            · intro w'
              go_simp
              with_reducible rfl
            rotate_left
            · simp only [Act.put, List.setIfInBounds_toArray, List.set_cons_zero, List.set_cons_succ, i64_w, i32_w]
              rfl
            refine one_ (i := 5) (N := some 44) #[true, true, true, true, true, true, false, false, false, false, false, false] rfl rfl (by kernel_rfl) (by decide) (fun K hK => ?_)
            refine value_ (w1 := ?_) (v := ?_) (by rfl) rfl ?_ ?_
            rotate_left 2
            · go_simp
              constructor
              · rfl
              · rfl
            refine hK.out _ _ (hHeld) (fun hHeld => ?_)
            clear hK K
            refine norm_ (a' := ?_) ?_ ?_
            rotate_left
            · show Act.put _ (some 44) _ = _
              simp only [Act.put, List.setIfInBounds_toArray, List.set_cons_zero, List.set_cons_succ, i64_w, i32_w]
              rfl
            refine pure_ (i := 6) (N := some 45) (v := ?_) (a' := ?_) #[true, true, true, true, true, true, true, false, false, false, false, false] rfl rfl (by kernel_rfl) (fun _ _ _ h => h) (Or.inl ⟨by rfl, ?_⟩) ?_ ?_
            rotate_left
            · intro w'
              go_simp
              with_reducible rfl
            rotate_left
            · simp only [Act.put, List.setIfInBounds_toArray, List.set_cons_zero, List.set_cons_succ, i64_w, i32_w]
              rfl
            refine pure_ (i := 7) (N := some 46) (v := ?_) (a' := ?_) #[true, true, true, true, true, true, true, true, false, false, false, false] rfl rfl (by kernel_rfl) (fun _ _ _ h => h) (Or.inl ⟨by rfl, ?_⟩) ?_ ?_
            rotate_left
            · intro w'
              go_simp
              with_reducible rfl
            rotate_left
            · simp only [Act.put, List.setIfInBounds_toArray, List.set_cons_zero, List.set_cons_succ, i64_w, i32_w]
              rfl
            refine one_ (i := 8) (N := some 47) #[true, true, true, true, true, true, true, true, true, false, false, false] rfl rfl (by kernel_rfl) (by decide) (fun K hK => ?_)
            refine value_ (w1 := ?_) (v := ?_) (by rfl) rfl ?_ ?_
            rotate_left 2
            · go_simp
              constructor
              · rfl
              · rfl
            refine hK.out _ _ ((blk_cell (H2.out.below (below_alloc (Below.refl _ _) _)).s 1).trans rfl) (fun hHeld => ?_)
            clear hK K
            refine norm_ (a' := ?_) ?_ ?_
            rotate_left
            · show Act.put _ (some 47) _ = _
              simp only [Act.put, List.setIfInBounds_toArray, List.set_cons_zero, List.set_cons_succ, i64_w, i32_w]
              rfl
            refine one_ (i := 9) (N := some 48) #[true, true, true, true, true, true, true, true, true, true, false, false] rfl rfl (by kernel_rfl) (by decide) (fun K hK => ?_)
            refine Kd.R_append_step k62 (w0 := wr.drew.alloc (.cells #[.string ⟨#[120]⟩, .string ⟨#[121]⟩, .string ⟨#[122]⟩, .string ⟨#[119]⟩] 9)) (w.heap.size + 4) (by rfl) (.tmp 40) (.tmp 47) 23 62 (.agg #[.string ⟨#[]⟩, .int .i64 0, .string ⟨#[]⟩, .slice none 0 0, .int .i64 0, .int .i64 0, .slice none 0 0]) 104 rfl Try.underlying23 miTok rfl (by decide) (by omega) vt ((mTexts.map mTok).take i) (mTok tx) [.string ⟨#[]⟩, .int .i64 5, .string tx, .slice none 0 0, .int .i64 0, .int .i64 0, .slice none 0 0] (fun k => w3.heap.size ≤ k) (fun _ => False) rfl (by rw [World.size_alloc]; rfl) (k62_mkM _ _ _ (mTok tx) (Kd.R_nil _ _ _ _ _) (Kd.R_nil _ _ _ _ _)) (fun _ hk => hk.elim) (fun k hk => Nat.le_trans HZ2.out hk) (Kd.R_alloc (Kd.R_drew HT.out) _) (Below.refl _ _) HS2.out (by have := Q4.out; have := HLT.out; have := List.length_take_le i (mTexts.map mTok); omega) ?_
            intro v1 w1 ho hb hg hat
            obtain ⟨An, ln, cn, rfl⟩ : ∃ An ln cn, v1 = .slice An ln cn := by obtain ⟨An, cn, e⟩ := Kd.R_slice ho; exact ⟨An, _, cn, e⟩
            rw [ETX.out, take_next (mTexts.map mTok) (mTok ⟨#[]⟩) i (by have := Q4.out; have := HLT.out; show i < 4; omega)] at ho
            have H3 := Aside0.mk (H2.out.below4 hb)
            have HK3 := Aside0.mk (Kept.of_grown hg HK2.out (fun k hk => .inl (.inr (HT.out.1 k hk))))
            have HT3 := Aside0.mk ho
            have f3 := blk_frozen H3.out.s 1
            clear ho hb hg hat
            refine hK.out _ _ ((blk_cell H3.out.s 1).trans rfl) (fun hHeld => ?_)
            clear hK K
            refine norm_ (a' := ?_) ?_ ?_
            rotate_left
            · show Act.put _ (some 48) _ = _
              simp only [Act.put, List.setIfInBounds_toArray, List.set_cons_zero, List.set_cons_succ, i64_w, i32_w]
              rfl
            refine pure_ (i := 10) (N := some 49) (v := ?_) (a' := ?_) #[true, true, true, true, true, true, true, true, true, true, true, false] rfl rfl (by kernel_rfl) (fun _ _ _ h => h) (Or.inl ⟨by rfl, ?_⟩) ?_ ?_
            rotate_left
            · intro w'
              go_simp
              with_reducible rfl
            rotate_left
            · simp only [Act.put, List.setIfInBounds_toArray, List.set_cons_zero, List.set_cons_succ, i64_w, i32_w]
              rfl
            refine last_ (i := 11) (N := none) #[true, true, true, true, true, true, true, true, true, true, true, true] rfl rfl (by kernel_rfl) (by decide) (fun K hK => ?_)
            refine skip_ (w1 := ?_) (by rfl) rfl ?_ ?_
            rotate_left
            · go_simp
              rfl
            refine hK.out _ _ ?_
            clear hK K
            refine done_ (by kernel_rfl) ?_
            go_wp2
            go_roundg (q - (i + 1))
            case measure => have := HM.out; have := HLT.out; omega
            case rel => exact ⟨i + 1, _, rfl, by have := HLT.out; omega, Nat.le_refl _, ⟨H3.out.put1 _⟩, ⟨Kept.setCell HK3.out (.inl (.inl (by simp))) _⟩, ⟨Kd.R_kept HT3.out (Kept.setCell (Kept.refl _ (fun k => k = w.heap.size + 2)) (.inl rfl) _) (fun k hk => by have := HB3.out; omega)⟩⟩
          · obtain rfl : i = q := by omega
            clear hlt
            go_wp2
            go_meet
            case rel => exact ⟨vt, HI, HK, HT⟩
      case rest =>
        obtain ⟨vt, HI4, HK4, HT4⟩ := hcut
        obtain ⟨w4, ew4⟩ : ∃ w4 : World, w4 = wc := ⟨_, rfl⟩
        subst ew4
        clear HI3
        have HN4 := Aside0.mk (Kd.R_kept HN3b.out HK4.out (fun k hk h => by omega))
        clear HN3b
        go_upto_region 13 with fail
        have P3 := Aside0.mk (HI4.out.calls HR0.out 10 (by decide) (by decide) HU.out)
        have hw3 : IntKind.i64.wrap (1 + mPick l0 2 10) = 1 + mPick l0 2 10 := by have := EC.out; have := C10.out; rw [IntKind.wrap_i64]; omega
        go_cut [10] from 14 (fun s10 wc => s10 = .int .i64 (c : Int) ∧ Aside0 (MadeI w A0 l0.length c0 3 vn vt (.slice none 0 0) wc) ∧ Aside0 (Kept w4 wc (fun k => k < w.heap.size + 4 ∨ w4.heap.size ≤ k)))
        case first =>
          go_wp2_with (first
            | (go_at_fn 31; (with_reducible refine P3.out.mono ?_); rintro e w5 ⟨rfl, HI5, HK5⟩; clear P3))
          go_meet
          case rel => exact ⟨congrArg _ EC.out, HI5, ⟨Kept.mono HK5.out (fun k hk => .inl (by omega))⟩⟩
        case rest =>
          obtain ⟨rfl, HI5, HK5⟩ := hcut
          obtain ⟨w5, ew5⟩ : ∃ w5 : World, w5 = wc := ⟨_, rfl⟩
          subst ew5
          clear P3 hw3 HI4
          have HS4 : Aside0 (w.heap.size + 4 ≤ w4.heap.size) := ⟨by have := HK4.out.1; have := HB3.out; omega⟩
          go_wp2
          go_loopg [10, 11, 12] c (fun kq v10 v11 v12 wr => ∃ (i at_ : Nat) (vp : Value) (acc : List S34), v10 = .int .i64 (i : Int) ∧ i ≤ kq ∧ Aside0 (acc.length + i = c) ∧ Aside0 (at_ + 8 * i ≤ 3 + 8 * c) ∧ Aside0 (mProds l0 m q i at_ acc = mProds l0 m q c 3 []) ∧ Aside0 (MadeI w A0 l0.length c0 at_ vn vt vp wr) ∧ Aside0 (Kept w4 wr (fun k => k < w.heap.size + 4 ∨ w4.heap.size ≤ k)) ∧ Aside0 (Kd.S k34 34 wr (w.heap.size + 4) (fun k => w4.heap.size ≤ k) vp acc))
          case atStart => exact ⟨c, 3, .slice none 0 0, [], rfl, by omega, ⟨by simp⟩, ⟨by omega⟩, ⟨rfl⟩, HI5, HK5, ⟨Kd.S_nil _ _ _ _ _⟩⟩
          case round =>
            clear HI5 HK5
            obtain ⟨i, at_, vp, acc, rfl, hi, HL, HAT, HM, HI, HK, HP⟩ := hrel
            cases i with
            | zero =>
              obtain ⟨An, ln, kn, rfl⟩ : ∃ An ln kn, vn = .slice An ln kn := by obtain ⟨An, cn, e⟩ := Kd.R_slice HN4.out; exact ⟨An, _, cn, e⟩
              obtain ⟨At, lt, kt, rfl⟩ : ∃ At lt kt, vt = .slice At lt kt := by obtain ⟨An, cn, e⟩ := Kd.R_slice HT4.out; exact ⟨An, _, cn, e⟩
              obtain ⟨Ap, lp, kp, rfl⟩ : ∃ Ap lp kp, vp = .slice Ap lp kp := by obtain ⟨An, cn, e⟩ := Kd.S_slice HP.out; exact ⟨An, _, cn, e⟩
              obtain ⟨q0, q1, q2, q3, q4⟩ : wr.cell? ⟨w.heap.size + 2, 0, none⟩ = some (.slice An ln kn) ∧ wr.cell? ⟨w.heap.size + 2, 1, none⟩ = some (.slice At lt kt) ∧ wr.cell? ⟨w.heap.size + 2, 2, none⟩ = some (.int .i64 0) ∧ wr.cell? ⟨w.heap.size + 2, 3, none⟩ = some (.int .i64 0) ∧ wr.cell? ⟨w.heap.size + 2, 4, none⟩ = some (.slice Ap lp kp) := ⟨(blk_cell HI.out.s 0).trans rfl, (blk_cell HI.out.s 1).trans rfl, (blk_cell HI.out.s 2).trans rfl, (blk_cell HI.out.s 3).trans rfl, (blk_cell HI.out.s 4).trans rfl⟩
              obtain ⟨q5, q6, q7, q8, q9⟩ : wr.cell? ⟨w.heap.size + 1, 0, none⟩ = some (.slice none 0 0) ∧ wr.cell? ⟨w.heap.size + 1, 1, none⟩ = some (.slice none 0 0) ∧ wr.cell? ⟨w.heap.size + 1, 2, none⟩ = some (.int .i64 0) ∧ wr.cell? ⟨w.heap.size + 1, 3, none⟩ = some (.int .i64 0) ∧ wr.cell? ⟨w.heap.size + 1, 4, none⟩ = some (.slice none 0 0) := ⟨(blk_cell HI.out.r 0).trans rfl, (blk_cell HI.out.r 1).trans rfl, (blk_cell HI.out.r 2).trans rfl, (blk_cell HI.out.r 3).trans rfl, (blk_cell HI.out.r 4).trans rfl⟩
              have f5 := blk_frozen HI.out.r 0
              have f6 := blk_frozen HI.out.r 1
              have f7 := blk_frozen HI.out.r 2
              have f8 := blk_frozen HI.out.r 3
              have f9 := blk_frozen HI.out.r 4
              go_wp2
              refine bodyPost_ret (results_cell_row rfl _ _ (w.heap.size + 1) 26 #[.slice An ln kn, .slice At lt kt, .int .i64 0, .int .i64 0, .slice Ap lp kp] (0, 0) _ rfl (by refine blk_put (cs := #[.slice An ln kn, .slice At lt kt, .int .i64 0, .int .i64 0, .slice none 0 0]) ?_ 4 _ rfl; refine blk_put (cs := #[.slice An ln kn, .slice At lt kt, .int .i64 0, .int .i64 0, .slice none 0 0]) ?_ 3 _ rfl; refine blk_put (cs := #[.slice An ln kn, .slice At lt kt, .int .i64 0, .int .i64 0, .slice none 0 0]) ?_ 2 _ rfl; refine blk_put (cs := #[.slice An ln kn, .slice none 0 0, .int .i64 0, .int .i64 0, .slice none 0 0]) ?_ 1 _ rfl; refine blk_put (cs := #[.slice none 0 0, .slice none 0 0, .int .i64 0, .int .i64 0, .slice none 0 0]) ?_ 0 _ rfl; exact HI.out.r) Try.underlying26 rfl (by kernel_rfl)) rfl ?_
              have hS34 : w3.heap.size ≤ w4.heap.size := HK4.out.1
              refine ⟨_, _, _, rfl, ?_, ?_, ?_, ?_⟩
              · exact Kd.R_lower (Kd.R_mono (Kd.R_kept (Kd.R_kept HN4.out HK.out (fun k hk h => by have := HS4.out; omega)) (set5_kept wr _ _ _ _ _ _) (fun k hk h => by omega)) (fun _ _ => trivial)) (by omega)
              · exact Kd.R_lower (Kd.R_mono (Kd.R_kept (Kd.R_kept (Kd.R_mono (ok' := fun k => w3.heap.size ≤ k ∧ k < w4.heap.size) (Kd.R_bound HT4.out) (fun k hk => ⟨hk.1, hk.2.2.1⟩)) HK.out (fun k hk h => by have := HB3.out; omega)) (set5_kept wr _ _ _ _ _ _) (fun k hk h => by have := HB3.out; omega)) (fun _ _ => trivial)) (by omega)
              · have hp := HM.out
                rw [mProds] at hp
                rw [← hp]
                exact Kd.S_lower (Kd.S_mono (Kd.S_kept HP.out (set5_kept wr _ _ _ _ _ _) (fun k hk h => by have := HS4.out; omega)) (fun _ _ => trivial)) (by omega)
              · exact set5_below HI.out.bel (by omega) _ _ _ _ _
            | succ i =>
              have d0 : decide (((i + 1 : Nat) : Int) > 0) = true := decide_eq_true (by omega)
              have d0b : (0 < ((i : Int) + 1)) = True := eq_true (by omega)
              have P6 := Aside0.mk (HI.out.calls HR0.out (m : Int) (by have := M1.out; omega) (by have := HAT.out; have := C10.out; omega) HU.out)
              have hpn := mPick_lt HU.out (at_ + 1) (n := 4) (by decide)
              obtain ⟨cn, ecn, hcn⟩ : ∃ cn : Nat, mPick l0 (at_ + 1) 4 = (cn : Int) ∧ cn ≤ 3 := ⟨(mPick l0 (at_ + 1) 4).toNat, by omega, by omega⟩
              have HATB : Aside0 (at_ + 8 * (i + 1) ≤ 83) := ⟨by have := HAT.out; have := C10.out; omega⟩
              have HCN := Aside0.mk hcn
              have ECN := Aside0.mk ecn
              clear hpn hcn ecn
              go_wp2_with (first
                | (go_at_fn 31; (with_reducible refine P6.out.mono ?_); rintro e w6 ⟨rfl, HI6, HK6⟩; clear P6; have HI7 := Aside0.mk (HI6.out.below (below_alloc (Below.refl _ w6) (.cells #[.int .i64 (mPick l0 at_ (m : Int)), .slice none 0 0] 34))); have P7 := Aside0.mk (HI7.out.calls HR0.out 4 (by decide) (by have := HATB.out; omega) HU.out); rw [ECN.out] at P7)
                | (go_at_fn 31; (with_reducible refine P7.out.mono ?_); rintro e w7 ⟨rfl, HI8, HK8⟩; clear P7))
              have HB8 := Aside0.mk (blk_kept (heap_alloc_new w6 (.cells #[.int .i64 (mPick l0 at_ (m : Int)), .slice none 0 0] 34)) HK8.out (fun h => by have := HI6.out.size; omega))
              have HSZ6 : Aside0 (wr.heap.size ≤ w6.heap.size ∧ w.heap.size + 4 ≤ wr.heap.size ∧ w4.heap.size ≤ wr.heap.size) := ⟨HK6.out.1, HI.out.size, HK.out.1⟩
              have HK9 : Aside0 (Kept wr w7 (fun k => k < w.heap.size + 4 ∨ wr.heap.size ≤ k)) := ⟨Kept.then_ (Kept.alloc (Kept.mono HK6.out (fun k hk => .inl (by omega))) (.cells #[.int .i64 (mPick l0 at_ (m : Int)), .slice none 0 0] 34)) HK8.out (fun k hk => .inl (.inl (by omega)))⟩
              clear HI7 HI6 HK6 HK8
              have HQI := Aside0.mk hi
              have hwi : IntKind.i64.wrap (((i + 1 : Nat) : Int) - 1) = (i : Int) := by rw [IntKind.wrap_i64]; have := HL.out; have := C10.out; omega
              clear hi
              obtain ⟨wo, ewo⟩ : ∃ wo : World, wo = wr := ⟨_, rfl⟩
              subst ewo
              go_loopg [12] cn (fun kq v12 wr => ∃ (j a2 : Nat) (vr : Value) (ar : List S49), v12 = .int .i64 (j : Int) ∧ j ≤ kq ∧ Aside0 (ar.length + j = cn) ∧ Aside0 (a2 + 2 * j ≤ at_ + 2 + 2 * cn) ∧ Aside0 (mRight l0 m q j a2 ar = mRight l0 m q cn (at_ + 2) []) ∧ Aside0 (MadeI w A0 l0.length c0 a2 vn vt vp wr) ∧ Aside0 (wr.heap[w6.heap.size]? = some (.cells #[.int .i64 (mPick l0 at_ (m : Int)), vr] 34 (0, 0))) ∧ Aside0 (Kept wo wr (fun k => k < w.heap.size + 4 ∨ wo.heap.size ≤ k)) ∧ Aside0 (Kd.R k49 49 wr (w.heap.size + 4) (fun k => w6.heap.size < k) vr ar))
              case atStart => exact ⟨cn, at_ + 2, .slice none 0 0, [], rfl, by omega, ⟨by simp⟩, ⟨by omega⟩, ⟨rfl⟩, HI8, HB8, HK9, ⟨Kd.R_nil _ _ _ _ _⟩⟩
              case round =>
                clear HI8 HB8 HK9
                obtain ⟨j, a2, vr, ar, rfl, hj, HJL, HA2, HMR, HI8, HB8, HK9, HR8⟩ := hrel
                cases j with
                | zero =>
                  have b0 : wr.cell? ⟨w6.heap.size, 0, none⟩ = some (.int .i64 (mPick l0 at_ (m : Int))) := (blk_cell HB8.out 0).trans rfl
                  have b1 : wr.cell? ⟨w6.heap.size, 1, none⟩ = some vr := (blk_cell HB8.out 1).trans rfl
                  have q4 : wr.cell? ⟨w.heap.size + 2, 4, none⟩ = some vp := (blk_cell HI8.out.s 4).trans rfl
                  have HPB := Aside0.mk (Kd.S_kept (Kd.S_mono (ok' := fun k => w4.heap.size ≤ k ∧ k < wo.heap.size) (Kd.S_bound HP.out) (fun k hk => ⟨hk.1, hk.2.2.1⟩)) HK9.out (fun k hk h => by have := HS4.out; omega))
                  have HKw := Aside0.mk (Kept.then_ HK.out HK9.out (fun k hk => hk.elim (fun h => .inl (.inl h)) (fun h => .inl (.inr (by have := HSZ6.out; omega)))))
                  have HSi := Aside0.mk HI8.out.size
                  have HSw : Aside0 (w4.heap.size ≤ wr.heap.size) := ⟨HKw.out.1⟩
                  have HACC : Aside0 (acc.length ≤ 10) := ⟨by have := HL.out; have := C10.out; omega⟩
                  go_wp2_with (first
                    | ((with_reducible refine gate_builtin (b := .append) (xs := #[.tmp 89, .tmp 91]) rfl ?_); at_builtin; refine Kd.S_append k34 (w0 := wr) (w.heap.size + 4) rfl (.tmp 89) (.tmp 91) 24 34 (.agg #[.int .i64 0, .slice none 0 0]) 32 rfl Try.underlying24 miProd rfl (by decide) (by omega) vp acc (⟨mPick l0 at_ (m : Int), ar⟩ : S34) [.int .i64 (mPick l0 at_ (m : Int)), vr] (fun k => w4.heap.size ≤ k) (fun k => w6.heap.size < k) rfl rfl (k34_mkM _ _ _ (⟨mPick l0 at_ (m : Int), ar⟩ : S34) HR8.out) (fun k hk => ⟨by have := HSZ6.out; omega, fun e => by have := (Kd.S_R HPB.out).1 k e.symm; have := HSZ6.out; omega⟩) (fun k hk => Nat.le_trans HSw.out hk) (Kd.S_mono HPB.out (fun k hk => ⟨hk.1, by have := HSZ6.out; omega⟩)) (Below.refl _ _) HSi.out (by have := HACC.out; omega) ?_; intro v1 w10 ho hb hg hat; obtain ⟨Ap, lp, kp, rfl⟩ : ∃ An ln cn, v1 = .slice An ln cn := (by obtain ⟨An, cn, e⟩ := Kd.S_slice ho; exact ⟨An, _, cn, e⟩); have HI12 := Aside0.mk (HI8.out.below4 hb); have HK12 := Aside0.mk (Kept.of_grown hg HKw.out (fun k hk => .inl (.inr ((Kd.S_R HPB.out).1 k hk).1))); have HS12 := Aside0.mk ho; have f4 := blk_frozen HI12.out.s 4; have q4' : w10.cell? ⟨w.heap.size + 2, 4, none⟩ = some vp := (blk_cell HI12.out.s 4).trans rfl; clear ho hb hg hat q4 b0 b1))
                  go_roundg i
                  case measure => have := HQI.out; omega
                  case rel => exact ⟨i, a2, _, acc ++ [⟨mPick l0 at_ (m : Int), ar⟩], congrArg (Value.int .i64) (by unfold wrap64; have := HACC.out; have := HL.out; have := C10.out; omega), Nat.le_refl _, ⟨by have := HL.out; simp; omega⟩, ⟨by have := HAT.out; have := HA2.out; have := HCN.out; omega⟩, ⟨by have h := HM.out; rw [mProds, ECN.out, Int.toNat_natCast, ← HMR.out, mRight] at h; exact h⟩, ⟨HI12.out.put4 _⟩, ⟨Kept.setCell HK12.out (.inl (.inl (by simp))) _⟩, ⟨Kd.S_kept HS12.out (Kept.setCell (Kept.refl _ (fun k => k = w.heap.size + 2)) (.inl rfl) _) (fun k hk h => by have := HS4.out; omega)⟩⟩
                | succ j =>
                  have d2 : (0 < ((j : Int) + 1)) = True := eq_true (by omega)
                  have P8 := Aside0.mk (HI8.out.calls HR0.out 2 (by decide) (by have := HATB.out; have := HA2.out; have := HCN.out; omega) HU.out)
                  have HJ := Aside0.mk hj
                  clear hj
                  by_cases hz : mPick l0 a2 2 = 0
                  · rw [hz] at P8
                    go_wp2_with (first
                      | (go_at_fn 31; (with_reducible refine P8.out.mono ?_); rintro e w8 ⟨rfl, HI10, HK10⟩; clear P8))
                    have HZ := Aside0.mk hz
                    clear hz
                    have HI10d := Aside0.mk (HI10.out.below (below_drew1 (Below.refl _ w8)))
                    have P9 := Aside0.mk (HI10d.out.calls HR0.out (q : Int) (by have := Q1.out; omega) (by have := HATB.out; have := HA2.out; have := HCN.out; omega) HU.out)
                    obtain ⟨x, ex⟩ : ∃ x : Int, x = mPick l0 (a2 + 1) (q : Int) := ⟨_, rfl⟩
                    rw [← ex] at P9
                    have EX := Aside0.mk ex
                    have HB10 := Aside0.mk (blk_kept HB8.out HK10.out (fun h => by have := HSZ6.out; omega))
                    have HR10 := Aside0.mk (Kd.R_kept HR8.out HK10.out (fun k hk h => by have := HSZ6.out; omega))
                    have HK12 := Aside0.mk (Kept.then_ HK9.out HK10.out (fun k hk => .inl (.inl (by omega))))
                    have HARL : Aside0 (ar.length ≤ 3) := ⟨by have := HJL.out; have := HCN.out; omega⟩
                    clear ex
                    refine start_ (n := 10) (S := fun w' => w'.cell? ⟨w6.heap.size, 1, none⟩ = some vr) (ds := [9]) #[false, false, false, false, false, false, false, false, false, false] (by kernel_rfl) rfl rfl ((blk_cell HB10.out 1).trans rfl) (fun hHeld => ?_)
                    refine pure_ (i := 0) (N := some 70) (v := ?_) (a' := ?_) #[true, false, false, false, false, false, false, false, false, false] rfl rfl (by kernel_rfl) (fun _ _ _ h => h) (Or.inl ⟨by rfl, ?_⟩) ?_ ?_
                    rotate_left
                    · intro w'
                      go_simp
                      with_reducible rfl
                    rotate_left
                    · simp only [Act.put, List.setIfInBounds_toArray, List.set_cons_zero, List.set_cons_succ, i64_w, i32_w]
                      rfl
                    refine pure_ (i := 2) (N := some 72) (v := ?_) (a' := ?_) #[true, false, true, false, false, false, false, false, false, false] rfl rfl (by kernel_rfl) (fun _ _ _ h => h) (Or.inl ⟨by rfl, ?_⟩) ?_ ?_
                    rotate_left
                    · intro w'
                      go_simp
                      with_reducible rfl
                    rotate_left
                    · simp only [Act.put, List.setIfInBounds_toArray, List.set_cons_zero, List.set_cons_succ, i64_w, i32_w]
                      rfl
                    refine pure_ (i := 3) (N := some 73) (v := ?_) (a' := ?_) #[true, false, true, true, false, false, false, false, false, false] rfl rfl (by kernel_rfl) (fun _ _ _ h => h) (Or.inl ⟨by rfl, ?_⟩) ?_ ?_
                    rotate_left
                    · intro w'
                      go_simp
                      with_reducible rfl
                    rotate_left
                    · simp only [Act.put, List.setIfInBounds_toArray, List.set_cons_zero, List.set_cons_succ, i64_w, i32_w]
                      rfl
                    refine take_ (i := 1) (N := some 71) (v := ?_) (a' := ?_) #[true, true, true, true, false, false, false, false, false, false] rfl rfl (by kernel_rfl) (fun _ _ _ h => h) (Or.inl ⟨by rfl, ?_⟩) hHeld ?_ ?_
                    rotate_left
                    · intro w' s0
                      go_simp
                      with_reducible rfl
                    rotate_left
                    · simp only [Act.put, List.setIfInBounds_toArray, List.set_cons_zero, List.set_cons_succ, i64_w, i32_w]
                      rfl
                    refine one_ (i := 4) (N := some 74) #[true, true, true, true, true, false, false, false, false, false] rfl rfl (by kernel_rfl) (by decide) (fun K hK => ?_)
                    refine call_ 31 #[.int .i64 (q : Int), .pointer (some ⟨w.heap.size + 3, 0, none⟩), .pointer (some ⟨w.heap.size, 0, none⟩)] (by rfl) rfl (by unfold execOp; simp [resolve, Deferred.ofValue, invoke, Act.eval, eg]) ?_
                    with_reducible refine P9.out.mono ?_
                    rintro e w9 ⟨rfl, HI11, HK11⟩
                    refine ⟨_, rfl, ?_⟩
                    have HB11 := Aside0.mk (blk_kept (W := w8.drew) HB10.out HK11.out (fun h => by have := HSZ6.out; omega))
                    have HR11 := Aside0.mk (Kd.R_kept (Kd.R_drew HR10.out) HK11.out (fun k hk h => by have := HSZ6.out; omega))
                    have HK13 := Aside0.mk (Kept.then_ (Kept.drew HK12.out) HK11.out (fun k hk => .inl (.inl (by omega))))
                    have HS11 := Aside0.mk HI11.out.size
                    have HL11 : Aside0 (w6.heap.size < w9.heap.size) := ⟨blk_lt HB11.out⟩
                    refine hK.out _ _ ((blk_cell HB11.out 1).trans rfl) (fun hHeld => ?_)
                    clear hK K
                    refine norm_ (a' := ?_) ?_ ?_
                    rotate_left
                    · show Act.put _ (some 74) _ = _
                      simp only [Act.put, List.setIfInBounds_toArray, List.set_cons_zero, List.set_cons_succ, i64_w, i32_w]
                      rfl
                    refine pure_ (i := 5) (N := some 75) (v := ?_) (a' := ?_) #[true, true, true, true, true, true, false, false, false, false] rfl rfl (by kernel_rfl) (fun _ _ _ h => h) (Or.inl ⟨by rfl, ?_⟩) ?_ ?_
                    rotate_left
                    · intro w'
                      go_simp
                      with_reducible rfl
                    rotate_left
                    · simp only [Act.put, List.setIfInBounds_toArray, List.set_cons_zero, List.set_cons_succ, i64_w, i32_w]
                      rfl
                    refine one_ (i := 6) (N := some 76) #[true, true, true, true, true, true, true, false, false, false] rfl rfl (by kernel_rfl) (by decide) (fun K hK => ?_)
                    refine value_ (w1 := ?_) (v := ?_) (by rfl) rfl ?_ ?_
                    rotate_left 2
                    · go_simp
                      constructor
                      · rfl
                      · rfl
                    refine hK.out _ _ ((blk_cell (blk_alloc HB11.out _) 1).trans rfl) (fun hHeld => ?_)
                    clear hK K
                    refine norm_ (a' := ?_) ?_ ?_
                    rotate_left
                    · show Act.put _ (some 76) _ = _
                      simp only [Act.put, List.setIfInBounds_toArray, List.set_cons_zero, List.set_cons_succ, i64_w, i32_w]
                      rfl
                    refine one_ (i := 7) (N := some 77) #[true, true, true, true, true, true, true, true, false, false] rfl rfl (by kernel_rfl) (by decide) (fun K hK => ?_)
                    refine Kd.R_append_step k49 (w0 := w9) (w.heap.size + 4) (by rfl) (.tmp 71) (.tmp 76) 27 49 (.agg #[.bool false, .int .i64 0]) 16 rfl Try.underlying27 miSym rfl (by decide) (by omega) vr ar (⟨true, x⟩ : S49) [.bool true, .int .i64 x] (fun k => w6.heap.size < k) (fun _ => False) rfl rfl (k49_mkM _ _ _ (⟨true, x⟩ : S49)) (fun _ hk => hk.elim) (fun k hk => Nat.lt_of_lt_of_le HL11.out hk) HR11.out (Below.refl _ _) HS11.out (by have := HARL.out; omega) ?_
                    intro v1 w1 ho hb hg hat
                    obtain ⟨An, ln, kn, rfl⟩ : ∃ An ln cn, v1 = .slice An ln cn := by obtain ⟨An, cn, e⟩ := Kd.R_slice ho; exact ⟨An, _, cn, e⟩
                    have HI12 := Aside0.mk (HI11.out.below4 hb)
                    have HB12 := Aside0.mk (blk_grown HB11.out hg (fun e => Nat.lt_irrefl _ (HR11.out.1 _ e.symm)))
                    have HK14 := Aside0.mk (Kept.of_grown hg HK13.out (fun k hk => .inl (.inr (by have := HR11.out.1 k hk; have := HSZ6.out; omega))))
                    have HR12 := Aside0.mk ho
                    have f3 := blk_frozen HB12.out 1
                    clear ho hb hg hat
                    refine hK.out _ _ ((blk_cell HB12.out 1).trans rfl) (fun hHeld => ?_)
                    clear hK K
                    refine norm_ (a' := ?_) ?_ ?_
                    rotate_left
                    · show Act.put _ (some 77) _ = _
                      simp only [Act.put, List.setIfInBounds_toArray, List.set_cons_zero, List.set_cons_succ, i64_w, i32_w]
                      rfl
                    refine pure_ (i := 8) (N := some 78) (v := ?_) (a' := ?_) #[true, true, true, true, true, true, true, true, true, false] rfl rfl (by kernel_rfl) (fun _ _ _ h => h) (Or.inl ⟨by rfl, ?_⟩) ?_ ?_
                    rotate_left
                    · intro w'
                      go_simp
                      with_reducible rfl
                    rotate_left
                    · simp only [Act.put, List.setIfInBounds_toArray, List.set_cons_zero, List.set_cons_succ, i64_w, i32_w]
                      rfl
                    refine last_ (i := 9) (N := none) #[true, true, true, true, true, true, true, true, true, true] rfl rfl (by kernel_rfl) (by decide) (fun K hK => ?_)
                    refine skip_ (w1 := ?_) (by rfl) rfl ?_ ?_
                    rotate_left
                    · go_simp
                      rfl
                    refine hK.out _ _ ?_
                    clear hK K
                    refine done_ (by kernel_rfl) ?_
                    go_wp2
                    go_roundg j
                    case measure => have := HJ.out; omega
                    case rel => exact ⟨j, a2 + 2, _, ar ++ [⟨true, x⟩], congrArg (Value.int .i64) (by unfold wrap64; have := HJL.out; have := HCN.out; omega), Nat.le_refl _, ⟨by have := HJL.out; simp; omega⟩, ⟨by have := HA2.out; omega⟩, ⟨by have h := HMR.out; rw [mRight, if_pos HZ.out, ← EX.out] at h; exact h⟩, ⟨HI12.out.below4 ((Below.refl _ _).setCell (show w.heap.size + 4 ≤ w6.heap.size by have := HSZ6.out; omega) _)⟩, ⟨blk_put HB12.out 1 _ rfl⟩, ⟨Kept.setCell HK14.out (.inl (.inr (show wo.heap.size ≤ w6.heap.size from HSZ6.out.1))) _⟩, ⟨Kd.R_kept HR12.out (Kept.setCell (Kept.refl _ (fun k => k = w6.heap.size)) (.inl rfl) _) (fun k hk h => by omega)⟩⟩
                  · have hzd : (mPick l0 a2 2 = 0) = False := eq_false hz
                    go_wp2_with (first
                      | (go_at_fn 31; (with_reducible refine P8.out.mono ?_); rintro e w8 ⟨rfl, HI10, HK10⟩; clear P8))
                    have HZ := Aside0.mk hz
                    clear hz
                    have HI10d := Aside0.mk (HI10.out.below (below_drew1 (Below.refl _ w8)))
                    have P9 := Aside0.mk (HI10d.out.calls HR0.out (m : Int) (by have := M1.out; omega) (by have := HATB.out; have := HA2.out; have := HCN.out; omega) HU.out)
                    obtain ⟨x, ex⟩ : ∃ x : Int, x = mPick l0 (a2 + 1) (m : Int) := ⟨_, rfl⟩
                    rw [← ex] at P9
                    have EX := Aside0.mk ex
                    have HB10 := Aside0.mk (blk_kept HB8.out HK10.out (fun h => by have := HSZ6.out; omega))
                    have HR10 := Aside0.mk (Kd.R_kept HR8.out HK10.out (fun k hk h => by have := HSZ6.out; omega))
                    have HK12 := Aside0.mk (Kept.then_ HK9.out HK10.out (fun k hk => .inl (.inl (by omega))))
                    have HARL : Aside0 (ar.length ≤ 3) := ⟨by have := HJL.out; have := HCN.out; omega⟩
                    clear ex
                    refine start_ (n := 10) (S := fun w' => w'.cell? ⟨w6.heap.size, 1, none⟩ = some vr) (ds := [9]) #[false, false, false, false, false, false, false, false, false, false] (by kernel_rfl) rfl rfl ((blk_cell HB10.out 1).trans rfl) (fun hHeld => ?_)
                    refine pure_ (i := 0) (N := some 79) (v := ?_) (a' := ?_) #[true, false, false, false, false, false, false, false, false, false] rfl rfl (by kernel_rfl) (fun _ _ _ h => h) (Or.inl ⟨by rfl, ?_⟩) ?_ ?_
                    rotate_left
                    · intro w'
                      go_simp
                      with_reducible rfl
                    rotate_left
                    · simp only [Act.put, List.setIfInBounds_toArray, List.set_cons_zero, List.set_cons_succ, i64_w, i32_w]
                      rfl
                    refine pure_ (i := 2) (N := some 81) (v := ?_) (a' := ?_) #[true, false, true, false, false, false, false, false, false, false] rfl rfl (by kernel_rfl) (fun _ _ _ h => h) (Or.inl ⟨by rfl, ?_⟩) ?_ ?_
                    rotate_left
                    · intro w'
                      go_simp
                      with_reducible rfl
                    rotate_left
                    · simp only [Act.put, List.setIfInBounds_toArray, List.set_cons_zero, List.set_cons_succ, i64_w, i32_w]
                      rfl
                    refine pure_ (i := 3) (N := some 82) (v := ?_) (a' := ?_) #[true, false, true, true, false, false, false, false, false, false] rfl rfl (by kernel_rfl) (fun _ _ _ h => h) (Or.inl ⟨by rfl, ?_⟩) ?_ ?_
                    rotate_left
                    · intro w'
                      go_simp
                      with_reducible rfl
                    rotate_left
                    · simp only [Act.put, List.setIfInBounds_toArray, List.set_cons_zero, List.set_cons_succ, i64_w, i32_w]
                      rfl
                    refine take_ (i := 1) (N := some 80) (v := ?_) (a' := ?_) #[true, true, true, true, false, false, false, false, false, false] rfl rfl (by kernel_rfl) (fun _ _ _ h => h) (Or.inl ⟨by rfl, ?_⟩) hHeld ?_ ?_
                    rotate_left
                    · intro w' s0
                      go_simp
                      with_reducible rfl
                    rotate_left
                    · simp only [Act.put, List.setIfInBounds_toArray, List.set_cons_zero, List.set_cons_succ, i64_w, i32_w]
                      rfl
                    refine one_ (i := 4) (N := some 83) #[true, true, true, true, true, false, false, false, false, false] rfl rfl (by kernel_rfl) (by decide) (fun K hK => ?_)
                    refine call_ 31 #[.int .i64 (m : Int), .pointer (some ⟨w.heap.size + 3, 0, none⟩), .pointer (some ⟨w.heap.size, 0, none⟩)] (by rfl) rfl (by unfold execOp; simp [resolve, Deferred.ofValue, invoke, Act.eval, eg]) ?_
                    with_reducible refine P9.out.mono ?_
                    rintro e w9 ⟨rfl, HI11, HK11⟩
                    refine ⟨_, rfl, ?_⟩
                    have HB11 := Aside0.mk (blk_kept (W := w8.drew) HB10.out HK11.out (fun h => by have := HSZ6.out; omega))
                    have HR11 := Aside0.mk (Kd.R_kept (Kd.R_drew HR10.out) HK11.out (fun k hk h => by have := HSZ6.out; omega))
                    have HK13 := Aside0.mk (Kept.then_ (Kept.drew HK12.out) HK11.out (fun k hk => .inl (.inl (by omega))))
                    have HS11 := Aside0.mk HI11.out.size
                    have HL11 : Aside0 (w6.heap.size < w9.heap.size) := ⟨blk_lt HB11.out⟩
                    refine hK.out _ _ ((blk_cell HB11.out 1).trans rfl) (fun hHeld => ?_)
                    clear hK K
                    refine norm_ (a' := ?_) ?_ ?_
                    rotate_left
                    · show Act.put _ (some 83) _ = _
                      simp only [Act.put, List.setIfInBounds_toArray, List.set_cons_zero, List.set_cons_succ, i64_w, i32_w]
                      rfl
                    refine pure_ (i := 5) (N := some 84) (v := ?_) (a' := ?_) #[true, true, true, true, true, true, false, false, false, false] rfl rfl (by kernel_rfl) (fun _ _ _ h => h) (Or.inl ⟨by rfl, ?_⟩) ?_ ?_
                    rotate_left
                    · intro w'
                      go_simp
                      with_reducible rfl
                    rotate_left
                    · simp only [Act.put, List.setIfInBounds_toArray, List.set_cons_zero, List.set_cons_succ, i64_w, i32_w]
                      rfl
                    refine one_ (i := 6) (N := some 85) #[true, true, true, true, true, true, true, false, false, false] rfl rfl (by kernel_rfl) (by decide) (fun K hK => ?_)
                    refine value_ (w1 := ?_) (v := ?_) (by rfl) rfl ?_ ?_
                    rotate_left 2
                    · go_simp
                      constructor
                      · rfl
                      · rfl
                    refine hK.out _ _ ((blk_cell (blk_alloc HB11.out _) 1).trans rfl) (fun hHeld => ?_)
                    clear hK K
                    refine norm_ (a' := ?_) ?_ ?_
                    rotate_left
                    · show Act.put _ (some 85) _ = _
                      simp only [Act.put, List.setIfInBounds_toArray, List.set_cons_zero, List.set_cons_succ, i64_w, i32_w]
                      rfl
                    refine one_ (i := 7) (N := some 86) #[true, true, true, true, true, true, true, true, false, false] rfl rfl (by kernel_rfl) (by decide) (fun K hK => ?_)
                    refine Kd.R_append_step k49 (w0 := w9) (w.heap.size + 4) (by rfl) (.tmp 80) (.tmp 85) 27 49 (.agg #[.bool false, .int .i64 0]) 16 rfl Try.underlying27 miSym rfl (by decide) (by omega) vr ar (⟨false, x⟩ : S49) [.bool false, .int .i64 x] (fun k => w6.heap.size < k) (fun _ => False) rfl rfl (k49_mkM _ _ _ (⟨false, x⟩ : S49)) (fun _ hk => hk.elim) (fun k hk => Nat.lt_of_lt_of_le HL11.out hk) HR11.out (Below.refl _ _) HS11.out (by have := HARL.out; omega) ?_
                    intro v1 w1 ho hb hg hat
                    obtain ⟨An, ln, kn, rfl⟩ : ∃ An ln cn, v1 = .slice An ln cn := by obtain ⟨An, cn, e⟩ := Kd.R_slice ho; exact ⟨An, _, cn, e⟩
                    have HI12 := Aside0.mk (HI11.out.below4 hb)
                    have HB12 := Aside0.mk (blk_grown HB11.out hg (fun e => Nat.lt_irrefl _ (HR11.out.1 _ e.symm)))
                    have HK14 := Aside0.mk (Kept.of_grown hg HK13.out (fun k hk => .inl (.inr (by have := HR11.out.1 k hk; have := HSZ6.out; omega))))
                    have HR12 := Aside0.mk ho
                    have f3 := blk_frozen HB12.out 1
                    clear ho hb hg hat
                    refine hK.out _ _ ((blk_cell HB12.out 1).trans rfl) (fun hHeld => ?_)
                    clear hK K
                    refine norm_ (a' := ?_) ?_ ?_
                    rotate_left
                    · show Act.put _ (some 86) _ = _
                      simp only [Act.put, List.setIfInBounds_toArray, List.set_cons_zero, List.set_cons_succ, i64_w, i32_w]
                      rfl
                    refine pure_ (i := 8) (N := some 87) (v := ?_) (a' := ?_) #[true, true, true, true, true, true, true, true, true, false] rfl rfl (by kernel_rfl) (fun _ _ _ h => h) (Or.inl ⟨by rfl, ?_⟩) ?_ ?_
                    rotate_left
                    · intro w'
                      go_simp
                      with_reducible rfl
                    rotate_left
                    · simp only [Act.put, List.setIfInBounds_toArray, List.set_cons_zero, List.set_cons_succ, i64_w, i32_w]
                      rfl
                    refine last_ (i := 9) (N := none) #[true, true, true, true, true, true, true, true, true, true] rfl rfl (by kernel_rfl) (by decide) (fun K hK => ?_)
                    refine skip_ (w1 := ?_) (by rfl) rfl ?_ ?_
                    rotate_left
                    · go_simp
                      rfl
                    refine hK.out _ _ ?_
                    clear hK K
                    refine done_ (by kernel_rfl) ?_
                    go_wp2
                    go_roundg j
                    case measure => have := HJ.out; omega
                    case rel => exact ⟨j, a2 + 2, _, ar ++ [⟨false, x⟩], congrArg (Value.int .i64) (by unfold wrap64; have := HJL.out; have := HCN.out; omega), Nat.le_refl _, ⟨by have := HJL.out; simp; omega⟩, ⟨by have := HA2.out; omega⟩, ⟨by have h := HMR.out; rw [mRight, if_neg HZ.out, ← EX.out] at h; exact h⟩, ⟨HI12.out.below4 ((Below.refl _ _).setCell (show w.heap.size + 4 ≤ w6.heap.size by have := HSZ6.out; omega) _)⟩, ⟨blk_put HB12.out 1 _ rfl⟩, ⟨Kept.setCell HK14.out (.inl (.inr (show wo.heap.size ≤ w6.heap.size from HSZ6.out.1))) _⟩, ⟨Kd.R_kept HR12.out (Kept.setCell (Kept.refl _ (fun k => k = w6.heap.size)) (.inl rfl) _) (fun k hk h => by omega)⟩⟩
end Go.Proofs.Ytojdjjbkpbapfaa.P
end

section
namespace Go.Proofs.Ytojdjjbkpbapfaa.P
open Go.RowKit Go.Proofs.YtojdjjbkpbapfaaW.PrintWords Go.Proofs.YtojdjjbkpbapfaaW.PrintLast Go.Proofs.YtojdjjbkpbapfaaW.PrintMore
attribute [local go_sem] max2_int min2_int max_two min_two max_three min_three max_four min_four   -- for this text's walks alone
set_option linter.unusedVariables false
set_option linter.unusedSimpArgs false
def regletlaw13_FirstsMade.f (k : Nat) (l0 : List Int) (a1 : Int) : Option (Bool) := (regletlaw13_Made.f k l0).bind fun bt360 => ((regletlaw13_awake.f k).bind fun t372 => (if t372 = true then (if (bt360.2.2.2.2.length : Int) = 0 then (none) else (if 0 ≤ (Int.tmod (wrap64 (a1)) (bt360.2.2.2.2.length : Int)) then (if (Int.tmod (wrap64 (a1)) (bt360.2.2.2.2.length : Int)) < (bt360.2.2.2.2.length : Int) then ((regletlaw13_same.f k bt360.1 bt360.2.1 bt360.2.2.1 bt360.2.2.2.1 bt360.2.2.2.2 ((rd_T34 bt360.2.2.2.2 (Int.tmod (wrap64 (a1)) (bt360.2.2.2.2.length : Int))).f1)).bind fun t374 => (some t374)) else (none)) else (none))) else (some false)))
theorem regletlaw13_FirstsMade.mono : ∀ a0 a1 k, LeO (regletlaw13_FirstsMade.f k a0 a1) (regletlaw13_FirstsMade.f (k + 1) a0 a1) := by
  intro a0 a1 k
  unfold regletlaw13_FirstsMade.f
  repeat' first
      | (with_reducible exact regletlaw13_Made.mono _ _)
      | (with_reducible exact regletlaw13_awake.mono _)
      | (with_reducible exact regletlaw13_same.mono _ _ _ _ _ _ _)
      | (with_reducible exact LeO.refl _)
      | (with_reducible exact LeO.none _)
      | (with_reducible refine LeO.ite ?_ ?_)
      | (with_reducible refine LeO.bind ?_ (fun _ => ?_))
      | exact regletlaw13_Made.mono _ _
      | exact regletlaw13_awake.mono _
      | exact regletlaw13_same.mono _ _ _ _ _ _ _
      | exact LeO.none _
      | refine LeO.ite ?_ ?_
      | refine LeO.bind ?_ (fun _ => ?_)
def regletlaw13_FirstsMade.T2 : Bool × List (List Nat × List Nat) := (true, [([], []), ([0, 0], [0]), ([1], [1]), ([1], [1]), ([3, 1], [1, 3]), ([1], [1]), ([5, 1], [1, 5]), ([1], [1]), ([7, 1], [1, 7]), ([8, 1], [1, 8]), ([6, 9, 1], [1, 6, 9]), ([4, 10, 1], [1, 4, 10]), ([11, 1], [1, 11]), ([12, 1], [1, 12]), ([2, 13, 1, 1], [1, 2, 13]), ([1, 14], [1, 14]), ([15, 14, 0, 1, 2, 3, 4, 5, 6, 7, 8, 9, 10, 11, 12, 13, 14, 15], [15])])
def regletlaw13_FirstsMade.B2 : List Nat := [0, 1, 3, 3, 11, 3, 35, 3, 131, 387, 995, 2043, 4091, 8187, 16383, 32767, 65535]
theorem regletlaw13_FirstsMade.tab2 : rtab .any (opsOf Try.f4 2) = regletlaw13_FirstsMade.T2 := by kernel_rfl
theorem regletlaw13_FirstsMade.bits2 : waitsOk regletlaw13_FirstsMade.T2.2 regletlaw13_FirstsMade.B2 = true := by kernel_rfl
set_option maxHeartbeats 8000000 in
set_option maxRecDepth 100000 in
theorem regletlaw13_FirstsMade.calls (k : Nat) (A0 : Option Addr) (c0 : Nat) (l0 : List Int) (a1 : Int) (r : Bool) (w : World) (hr0 : Kd.C (Kd.int .u8) w A0 l0.length l0) (hc0 : l0.length ≤ c0) (h : regletlaw13_FirstsMade.f k l0 a1 = some r) :
    Calls Try.prog 4 #[.slice A0 l0.length c0, .int .u8 a1] w fun e w' => e = .returned (.bool r) ∧ Below w.heap.size w w' := by
  have hu26 := Try.underlying26
  have HR0 := Aside0.mk hr0
  have HC0 := Aside0.mk hc0
  clear hr0 hc0
  have HB := Aside0.mk (Below.refl w.heap.size w)
  have H : ((regletlaw13_Made.f k l0).bind fun bt360 => ((regletlaw13_awake.f k).bind fun t372 => (if t372 = true then (if (bt360.2.2.2.2.length : Int) = 0 then (none) else (if 0 ≤ (Int.tmod (wrap64 (a1)) (bt360.2.2.2.2.length : Int)) then (if (Int.tmod (wrap64 (a1)) (bt360.2.2.2.2.length : Int)) < (bt360.2.2.2.2.length : Int) then ((regletlaw13_same.f k bt360.1 bt360.2.1 bt360.2.2.1 bt360.2.2.2.1 bt360.2.2.2.2 ((rd_T34 bt360.2.2.2.2 (Int.tmod (wrap64 (a1)) (bt360.2.2.2.2.length : Int))).f1)).bind fun t374 => (some t374)) else (none)) else (none))) else (some false)))) = some r := h
  clear h
  replace H := Option.bind_eq_some_iff.mp H
  obtain ⟨⟨t360, t363, t366, t367, t368⟩, A30, H⟩ := H
  replace H : ((regletlaw13_awake.f k).bind fun t372 => (if t372 = true then (if (t368.length : Int) = 0 then (none) else (if 0 ≤ (Int.tmod (wrap64 (a1)) (t368.length : Int)) then (if (Int.tmod (wrap64 (a1)) (t368.length : Int)) < (t368.length : Int) then ((regletlaw13_same.f k t360 t363 t366 t367 t368 ((rd_T34 t368 (Int.tmod (wrap64 (a1)) (t368.length : Int))).f1)).bind fun t374 => (some t374)) else (none)) else (none))) else (some false))) = some r := H
  have A3 := Aside0.mk A30
  clear A30
  replace H := Option.bind_eq_some_iff.mp H
  obtain ⟨t372, A40, H⟩ := H
  replace H : (if t372 = true then (if (t368.length : Int) = 0 then (none) else (if 0 ≤ (Int.tmod (wrap64 (a1)) (t368.length : Int)) then (if (Int.tmod (wrap64 (a1)) (t368.length : Int)) < (t368.length : Int) then ((regletlaw13_same.f k t360 t363 t366 t367 t368 ((rd_T34 t368 (Int.tmod (wrap64 (a1)) (t368.length : Int))).f1)).bind fun t374 => (some t374)) else (none)) else (none))) else (some false)) = some r := H
  have A4 := Aside0.mk A40
  clear A40
  by_cases c5 : t372 = true
  · subst c5
    have H1 : (if (t368.length : Int) = 0 then (none) else (if 0 ≤ (Int.tmod (wrap64 (a1)) (t368.length : Int)) then (if (Int.tmod (wrap64 (a1)) (t368.length : Int)) < (t368.length : Int) then ((regletlaw13_same.f k t360 t363 t366 t367 t368 ((rd_T34 t368 (Int.tmod (wrap64 (a1)) (t368.length : Int))).f1)).bind fun t374 => (some t374)) else (none)) else (none))) = some r := by rw [if_pos rfl] at H; exact H
    clear H
    have H := H1
    clear H1
    by_cases c6 : (t368.length : Int) = 0
    · rw [if_pos c6] at H
      exact absurd H (by simp)
    · rw [if_neg c6] at H
      have c6b0 : ((t368.length : Int) == 0) = false := beq_eq_false_iff_ne.mpr c6
      have c6b1 : ((t368.length : Int) != 0) = true := bne_iff_ne.mpr c6
      have c6b2 : ¬ (t368 = []) := fun h_ => c6 (by rw [h_]; rfl)
      obtain ⟨ji7, hji7⟩ : ∃ j_ : Int, (Int.tmod (wrap64 (a1)) (t368.length : Int)) = j_ := ⟨_, rfl⟩
      replace H : (if 0 ≤ (ji7) then (if (ji7) < (t368.length : Int) then ((regletlaw13_same.f k t360 t363 t366 t367 t368 ((rd_T34 t368 (ji7)).f1)).bind fun t374 => (some t374)) else (none)) else (none)) = some r := by first | (rw [hji7] at H; exact H) | (simp only [hji7] at H ⊢; exact H)
      (try rw [hji7] at A3)
      (try rw [hji7] at A4)
      by_cases c8 : 0 ≤ (ji7)
      · rw [if_pos c8] at H
        have c8b0 : decide (0 ≤ (ji7)) = true := decide_eq_true c8
        clear c8
        by_cases c9 : (ji7) < (t368.length : Int)
        · rw [if_pos c9] at H
          have c9b0 : decide ((ji7) < (t368.length : Int)) = true := decide_eq_true c9
          clear c9
          replace H := Option.bind_eq_some_iff.mp H
          obtain ⟨t374, A100, H⟩ := H
          replace H : (some t374) = some r := H
          have A10 := Aside0.mk A100
          clear A100
          obtain rfl := Option.some.inj H
          go_enter Try.func4, Try.ntmps4
          try go_wp2_with (first | ((with_reducible refine gate_callee (f := 12) rfl ?_); refine goesL_ (some 7) rfl rfl Try.func12 (by kernel_rfl) rfl #[.slice A0 l0.length c0] rfl (by (try simp only [List.map_toArray, List.map_cons, List.map_nil]); first | done | rfl | (simp only [List.length_drop, List.length_take]; rfl)) ?_; (with_reducible refine (regletlaw13_Made.calls k _ _ l0 t360 t363 t366 t367 t368 _ ?side1 ?side2 A3.out).mono ?_); (case side1 => repeat (first | exact HR0.out | (with_reducible refine Kd.C_alloc ?_ _) | (with_reducible refine Kd.C_drewN ?_ _) | (with_reducible refine Kd.C_drew ?_))); (case side2 => exact HC0.out); rintro e w11 ⟨v361, v364, v369, rfl, ho0, ho1, ho2, hb⟩; refine ⟨_, rfl, ?_⟩; have n0_ := Aside0.mk (Kd.R_lower ho0 (below_size (by repeat (first | (with_reducible first | exact HB.out | apply below_alloc | apply pw_below_drewN | apply below_drew1) | exact HB.out)))); have n1_ := Aside0.mk (Kd.R_lower ho1 (below_size (by repeat (first | (with_reducible first | exact HB.out | apply below_alloc | apply pw_below_drewN | apply below_drew1) | exact HB.out)))); have n2_ := Aside0.mk (Kd.S_lower ho2 (below_size (by repeat (first | (with_reducible first | exact HB.out | apply below_alloc | apply pw_below_drewN | apply below_drew1) | exact HB.out)))); have n3_ := Aside0.mk (below_step (by repeat (first | (with_reducible first | exact HB.out | apply below_alloc | apply pw_below_drewN | apply below_drew1) | exact HB.out)) hb); clear HB; have HO362 := n0_; have HO365 := n1_; have HO370 := n2_; have HB := n3_; clear n0_ n1_ n2_ n3_; (try clear hb); (try clear hb2); (try clear hk); (try clear hi); (try clear ho0); (try clear ho1); (try clear ho2)) | ((with_reducible refine gate_dst (N := 5) rfl ?_); (try (refine gate_guard (by rfl) ?_; dsimp only)); refine box_event ?hg (N := 5) ?hd (cs := #[.slice none 0 0, .slice none 0 0, .int .i64 0, .int .i64 0, .slice none 0 0]) (t := 26) ?hr ?_; (case hd => rfl); (case hg => rfl); (case hr => first | (go_simp; done) | (go_simp; rfl)); intro gb371 hg w12 hbox hb; have n0_ := Aside0.mk (Kd.R_below (by (with_reducible repeat (first | apply Kd.R_alloc | apply Kd.R_drewN | apply Kd.R_drew)); exact HO362.out) hb); have n1_ := Aside0.mk (Kd.R_below (by (with_reducible repeat (first | apply Kd.R_alloc | apply Kd.R_drewN | apply Kd.R_drew)); exact HO365.out) hb); have n2_ := Aside0.mk (Kd.S_below (by (with_reducible repeat (first | apply Kd.S_alloc | apply Kd.S_drewN | apply Kd.S_drew)); exact HO370.out) hb); have n3_ := Aside0.mk (below_step (by repeat (first | (with_reducible first | exact HB.out | apply below_alloc | apply pw_below_drewN | apply below_drew1) | exact HB.out)) hb); have n4_ := Aside0.mk (hbox); have n5_ := Aside0.mk ((by rw [hg]; exact (below_size (by repeat (first | (with_reducible first | exact HB.out | apply below_alloc | apply pw_below_drewN | apply below_drew1) | exact HB.out))) : w.heap.size ≤ gb371)); have n6_ := Aside0.mk ((by rw [hg]; exact (below_size (by repeat (first | (with_reducible first | exact HB.out | apply below_alloc | apply pw_below_drewN | apply below_drew1) | exact HB.out))) : w.heap.size ≤ gb371)); clear HO362; clear HO365; clear HO370; clear HB; have HO362 := n0_; have HO365 := n1_; have HO370 := n2_; have HB := n3_; have BK371 := n4_; have GW371 := n5_; have GE371 := n6_; clear n0_ n1_ n2_ n3_ n4_ n5_ n6_; clear hb hbox hg; obtain ⟨Ao13, co13, eo13⟩ := Kd.R_slice HO362.out; subst eo13; have hcz14_0 : w12.cell? ⟨gb371, 0, none⟩ = some (.slice none 0 0) := (blk_cell BK371.out 0).trans rfl; have hcz14_1 : w12.cell? ⟨gb371, 1, none⟩ = some (.slice none 0 0) := (blk_cell BK371.out 1).trans rfl; have hcz14_2 : w12.cell? ⟨gb371, 2, none⟩ = some (.int .i64 0) := (blk_cell BK371.out 2).trans rfl; have hcz14_3 : w12.cell? ⟨gb371, 3, none⟩ = some (.int .i64 0) := (blk_cell BK371.out 3).trans rfl; have hcz14_4 : w12.cell? ⟨gb371, 4, none⟩ = some (.slice none 0 0) := (blk_cell BK371.out 4).trans rfl; have hfz14_0 := blk_frozen BK371.out 0; have hfz14_1 := blk_frozen BK371.out 1; have hfz14_2 := blk_frozen BK371.out 2; have hfz14_3 := blk_frozen BK371.out 3; have hfz14_4 := blk_frozen BK371.out 4; obtain ⟨Ao15, co15, eo15⟩ := Kd.R_slice HO365.out; subst eo15; obtain ⟨Ao16, co16, eo16⟩ := Kd.S_slice HO370.out; subst eo16))
          have n0_ : Aside0 (Kd.R Kd.string 9 (((((w12.setCell ⟨gb371, 0, none⟩ (.slice Ao13 t360.length co13)).setCell ⟨gb371, 1, none⟩ (.slice Ao15 t363.length co15)).setCell ⟨gb371, 2, none⟩ (.int .i64 t366)).setCell ⟨gb371, 3, none⟩ (.int .i64 t367)).setCell ⟨gb371, 4, none⟩ (.slice Ao16 t368.length co16)) w.heap.size (fun _ => True) (.slice Ao13 t360.length co13) t360) := ⟨by (with_reducible repeat (first | apply Kd.R_alloc | apply Kd.R_drewN | apply Kd.R_drew)); exact Kd.R_mono (Kd.R_far (p := ⟨gb371, 4, none⟩) (Kd.R_far (p := ⟨gb371, 3, none⟩) (Kd.R_far (p := ⟨gb371, 2, none⟩) (Kd.R_far (p := ⟨gb371, 1, none⟩) (Kd.R_far (p := ⟨gb371, 0, none⟩) (Kd.R_types HO362.out BK371.out (by decide)) (fun _ hk => hk.2) (.slice Ao13 t360.length co13)) (fun _ hk => hk.2) (.slice Ao15 t363.length co15)) (fun _ hk => hk.2) (.int .i64 t366)) (fun _ hk => hk.2) (.int .i64 t367)) (fun _ hk => hk.2) (.slice Ao16 t368.length co16)) (fun _ hk => trivial)⟩
          have n1_ : Aside0 (Kd.R k62 62 (((((w12.setCell ⟨gb371, 0, none⟩ (.slice Ao13 t360.length co13)).setCell ⟨gb371, 1, none⟩ (.slice Ao15 t363.length co15)).setCell ⟨gb371, 2, none⟩ (.int .i64 t366)).setCell ⟨gb371, 3, none⟩ (.int .i64 t367)).setCell ⟨gb371, 4, none⟩ (.slice Ao16 t368.length co16)) w.heap.size (fun _ => True) (.slice Ao15 t363.length co15) t363) := ⟨by (with_reducible repeat (first | apply Kd.R_alloc | apply Kd.R_drewN | apply Kd.R_drew)); exact Kd.R_mono (Kd.R_far (p := ⟨gb371, 4, none⟩) (Kd.R_far (p := ⟨gb371, 3, none⟩) (Kd.R_far (p := ⟨gb371, 2, none⟩) (Kd.R_far (p := ⟨gb371, 1, none⟩) (Kd.R_far (p := ⟨gb371, 0, none⟩) (Kd.R_types HO365.out BK371.out (by decide)) (fun _ hk => hk.2) (.slice Ao13 t360.length co13)) (fun _ hk => hk.2) (.slice Ao15 t363.length co15)) (fun _ hk => hk.2) (.int .i64 t366)) (fun _ hk => hk.2) (.int .i64 t367)) (fun _ hk => hk.2) (.slice Ao16 t368.length co16)) (fun _ hk => trivial)⟩
          have n2_ : Aside0 (Kd.S k34 34 (((((w12.setCell ⟨gb371, 0, none⟩ (.slice Ao13 t360.length co13)).setCell ⟨gb371, 1, none⟩ (.slice Ao15 t363.length co15)).setCell ⟨gb371, 2, none⟩ (.int .i64 t366)).setCell ⟨gb371, 3, none⟩ (.int .i64 t367)).setCell ⟨gb371, 4, none⟩ (.slice Ao16 t368.length co16)) w.heap.size (fun _ => True) (.slice Ao16 t368.length co16) t368) := ⟨by (with_reducible repeat (first | apply Kd.S_alloc | apply Kd.S_drewN | apply Kd.S_drew)); exact Kd.S_mono (Kd.S_far (p := ⟨gb371, 4, none⟩) (Kd.S_far (p := ⟨gb371, 3, none⟩) (Kd.S_far (p := ⟨gb371, 2, none⟩) (Kd.S_far (p := ⟨gb371, 1, none⟩) (Kd.S_far (p := ⟨gb371, 0, none⟩) (Kd.S_types HO370.out BK371.out (by decide)) (fun _ hk => hk.2) (.slice Ao13 t360.length co13)) (fun _ hk => hk.2) (.slice Ao15 t363.length co15)) (fun _ hk => hk.2) (.int .i64 t366)) (fun _ hk => hk.2) (.int .i64 t367)) (fun _ hk => hk.2) (.slice Ao16 t368.length co16)) (fun _ hk => trivial)⟩
          have n3_ : Aside0 ((((((w12.setCell ⟨gb371, 0, none⟩ (.slice Ao13 t360.length co13)).setCell ⟨gb371, 1, none⟩ (.slice Ao15 t363.length co15)).setCell ⟨gb371, 2, none⟩ (.int .i64 t366)).setCell ⟨gb371, 3, none⟩ (.int .i64 t367)).setCell ⟨gb371, 4, none⟩ (.slice Ao16 t368.length co16)).heap[gb371]? = some (.cells #[.slice Ao13 t360.length co13, .slice Ao15 t363.length co15, .int .i64 t366, .int .i64 t367, .slice Ao16 t368.length co16] 26 (0, 0))) := ⟨by (with_reducible repeat (first | refine blk_drewN ?_ _ | refine blk_drew ?_ | refine blk_alloc ?_ _)); refine blk_put (cs := #[.slice Ao13 t360.length co13, .slice Ao15 t363.length co15, .int .i64 t366, .int .i64 t367, .slice none 0 0]) ?_ 4 _ rfl; (with_reducible repeat (first | refine blk_drewN ?_ _ | refine blk_drew ?_ | refine blk_alloc ?_ _)); refine blk_put (cs := #[.slice Ao13 t360.length co13, .slice Ao15 t363.length co15, .int .i64 t366, .int .i64 0, .slice none 0 0]) ?_ 3 _ rfl; (with_reducible repeat (first | refine blk_drewN ?_ _ | refine blk_drew ?_ | refine blk_alloc ?_ _)); refine blk_put (cs := #[.slice Ao13 t360.length co13, .slice Ao15 t363.length co15, .int .i64 0, .int .i64 0, .slice none 0 0]) ?_ 2 _ rfl; (with_reducible repeat (first | refine blk_drewN ?_ _ | refine blk_drew ?_ | refine blk_alloc ?_ _)); refine blk_put (cs := #[.slice Ao13 t360.length co13, .slice none 0 0, .int .i64 0, .int .i64 0, .slice none 0 0]) ?_ 1 _ rfl; (with_reducible repeat (first | refine blk_drewN ?_ _ | refine blk_drew ?_ | refine blk_alloc ?_ _)); refine blk_put (cs := #[.slice none 0 0, .slice none 0 0, .int .i64 0, .int .i64 0, .slice none 0 0]) ?_ 0 _ rfl; (with_reducible repeat (first | refine blk_drewN ?_ _ | refine blk_drew ?_ | refine blk_alloc ?_ _)); exact BK371.out⟩
          have n4_ : Aside0 (Below w.heap.size w (((((w12.setCell ⟨gb371, 0, none⟩ (.slice Ao13 t360.length co13)).setCell ⟨gb371, 1, none⟩ (.slice Ao15 t363.length co15)).setCell ⟨gb371, 2, none⟩ (.int .i64 t366)).setCell ⟨gb371, 3, none⟩ (.int .i64 t367)).setCell ⟨gb371, 4, none⟩ (.slice Ao16 t368.length co16))) := ⟨by repeat (first | (with_reducible first | exact HB.out | apply below_alloc | apply pw_below_drewN | apply below_drew1 | refine below_set ?_ GE371.out) | exact HB.out)⟩
          (try clear HO362)
          (try clear HO365)
          (try clear HO370)
          (try clear BK371)
          (try clear HB)
          generalize (((((w12.setCell ⟨gb371, 0, none⟩ (.slice Ao13 t360.length co13)).setCell ⟨gb371, 1, none⟩ (.slice Ao15 t363.length co15)).setCell ⟨gb371, 2, none⟩ (.int .i64 t366)).setCell ⟨gb371, 3, none⟩ (.int .i64 t367)).setCell ⟨gb371, 4, none⟩ (.slice Ao16 t368.length co16)) = w17 at n0_ n1_ n2_ n3_ n4_ ⊢
          have HO362 := n0_
          have HO365 := n1_
          have HO370 := n2_
          have BK371 := n3_
          have HB := n4_
          clear n0_ n1_ n2_ n3_ n4_
          have n0_ := Aside0.mk (Kd.R_drew HO362.out)
          have n1_ := Aside0.mk (Kd.R_drew HO365.out)
          have n2_ := Aside0.mk (Kd.S_drew HO370.out)
          have n3_ := Aside0.mk (blk_drew BK371.out)
          have n4_ := Aside0.mk (below_drew1 HB.out)
          clear HO362
          clear HO365
          clear HO370
          clear BK371
          clear HB
          have HO362 := n0_
          have HO365 := n1_
          have HO370 := n2_
          have BK371 := n3_
          have HB := n4_
          clear n0_ n1_ n2_ n3_ n4_
          have p373 : 0 ≤ ((ji7) : Int) := of_decide_eq_true (by first | (with_reducible assumption) | assumption)
          have q373 : (ji7) < (t368.length : Int) := of_decide_eq_true (by first | (with_reducible assumption) | assumption)
          obtain ⟨ad373, A373_1, c373_1, e373, hx373_0, hx373_1, hl373_1, hi373_1⟩ := at_T34 (Kd.S_reads' HO370.out).2.2 (ji7) p373 q373
          cases e373
          obtain ⟨ce373, hce373, hMe373, hcc373⟩ := Kd.S_get HO370.out z34 (ji7) p373 (by first | exact q373 | exact of_decide_eq_true (by first | (with_reducible assumption) | assumption) | (have e_ := (Kd.S_reads' HO370.out).1; omega))
          obtain ⟨ve373_1, rfl, ge373_1⟩ := k34_openM hMe373
          have hv373_1 := hcc373 1 _ rfl
          rw [add_field _ _ 1 (by omega)] at hv373_1
          replace hv373_1 := Option.some.inj (hv373_1.symm.trans hx373_1)
          rw [hv373_1] at ge373_1
          have HL373_1 := Aside0.mk (show Kd.R k49 49 _ _ _ _ ((rd_T34 t368 (ji7)).f1) from ge373_1)
          clear hv373_1 ge373_1
          clear hcc373 hce373
          have HR373_1 := Aside0.mk hi373_1
          have HC373_1 := Aside0.mk hl373_1
          clear hi373_1 hl373_1
          replace p373 := eq_true p373
          replace q373 := eq_true q373
          refine start_ (n := 17) (S := fun w' => w'.cell? ⟨gb371, 0, none⟩ = some (.slice Ao13 t360.length co13) ∧ w'.cell? ⟨gb371, 1, none⟩ = some (.slice Ao15 t363.length co15) ∧ w'.cell? ⟨gb371, 2, none⟩ = some (.int .i64 t366) ∧ w'.cell? ⟨gb371, 3, none⟩ = some (.int .i64 t367) ∧ w'.cell? ⟨gb371, 4, none⟩ = some (.slice (some ad373) t368.length co16) ∧ w'.cell? (ad373.add (((ji7)).toNat * 2)) = some (.int .i64 ((rd_T34 t368 (ji7)).f0)) ∧ w'.cell? ⟨(ad373.add (((ji7)).toNat * 2)).block, (ad373.add (((ji7)).toNat * 2)).off + 1, none⟩ = some (.slice A373_1 ((rd_T34 t368 (ji7)).f1).length c373_1)) (ds := []) #[false, false, false, false, false, false, false, false, false, false, false, false, false, false, false, false, false] (by kernel_rfl) rfl rfl ⟨(blk_cell BK371.out 0).trans rfl, (blk_cell BK371.out 1).trans rfl, (blk_cell BK371.out 2).trans rfl, (blk_cell BK371.out 3).trans rfl, (blk_cell BK371.out 4).trans rfl, hx373_0, hx373_1⟩ (fun hHeld => ?_); refine with_tabW regletlaw13_FirstsMade.tab2 regletlaw13_FirstsMade.bits2 (fun HT_ HW_ => ?_)
          generalize w17.drew = w18 at HO362 HO365 HO370 BK371 HB HL373_1 HR373_1 hx373_0 hx373_1 hHeld ⊢
          refine one_ (i := 0) (N := some 8) #[true, false, false, false, false, false, false, false, false, false, false, false, false, false, false, false, false] rfl rfl (one_of HT_.out (by kernel_rfl)) (by decide) (fun K hK => ?_)
          refine goes_ Try.func9 (by kernel_rfl) rfl #[] (by rfl) rfl rfl (by (try simp only [List.map_toArray, List.map_cons, List.map_nil]); first | done | rfl | (simp only [List.length_drop, List.length_take]; rfl)) ?_
          with_reducible refine (regletlaw13_awake.calls k  true _ A4.out).mono ?_
          rintro e w19 ⟨rfl, hb⟩
          have HS5_ := (hb.cell (World.block_lt_of_cell? _ _ (hHeld.2.2.2.2.2.1))).trans (hHeld.2.2.2.2.2.1)
          have HS6_ := (hb.cell (World.block_lt_of_cell? _ _ (hHeld.2.2.2.2.2.2))).trans (hHeld.2.2.2.2.2.2)
          refine ⟨_, rfl, ?_⟩
          have n0_ := Aside0.mk (Kd.R_below (by (with_reducible repeat (first | apply Kd.R_alloc | apply Kd.R_drewN | apply Kd.R_drew)); exact HO362.out) hb)
          have n1_ := Aside0.mk (Kd.R_below (by (with_reducible repeat (first | apply Kd.R_alloc | apply Kd.R_drewN | apply Kd.R_drew)); exact HO365.out) hb)
          have n2_ := Aside0.mk (Kd.S_below (by (with_reducible repeat (first | apply Kd.S_alloc | apply Kd.S_drewN | apply Kd.S_drew)); exact HO370.out) hb)
          have n3_ := Aside0.mk (blk_below (g := gb371) (o := .cells #[.slice Ao13 t360.length co13, .slice Ao15 t363.length co15, .int .i64 t366, .int .i64 t367, .slice (some ad373) t368.length co16] 26 (0, 0)) (by (with_reducible repeat (first | refine blk_drewN ?_ _ | refine blk_drew ?_ | refine blk_alloc ?_ _)); exact BK371.out) hb)
          have n4_ := Aside0.mk (below_step (by repeat (first | (with_reducible first | exact HB.out | apply below_alloc | apply pw_below_drewN | apply below_drew1 | refine below_set ?_ GE371.out) | exact HB.out)) hb)
          clear HO362
          clear HO365
          clear HO370
          clear BK371
          clear HB
          have HO362 := n0_
          have HO365 := n1_
          have HO370 := n2_
          have BK371 := n3_
          have HB := n4_
          clear n0_ n1_ n2_ n3_ n4_
          have HL373_1 := Aside0.mk (Kd.R_below HL373_1.out hb)
          have HR373_1 := Aside0.mk (Kd.C_below HR373_1.out hb)
          (try clear hb)
          (try clear hb2)
          (try clear hk)
          (try clear hi)
          refine hK.out _ _ ⟨(blk_cell BK371.out 0).trans rfl, (blk_cell BK371.out 1).trans rfl, (blk_cell BK371.out 2).trans rfl, (blk_cell BK371.out 3).trans rfl, (blk_cell BK371.out 4).trans rfl, HS5_, HS6_⟩ (fun hHeld => ?_)
          clear hK K
          refine norm_ (a' := ?_) ?_ ?_
          rotate_left
          · show Act.put _ (some 8) _ = _
            simp only [Act.put, List.setIfInBounds_toArray, List.set_cons_zero, List.set_cons_succ, i64_w, i32_w]
            rfl
          refine pure_ (i := 1) (N := some 9) (v := ?_) (a' := ?_) #[true, true, false, false, false, false, false, false, false, false, false, false, false, false, false, false, false] rfl rfl (any_of HT_.out (by kernel_rfl)) (fun _ _ _ h => h) (Or.inl ⟨by rfl, ?_⟩) ?_ ?_
          rotate_left
          · intro w'
            go_simp
            with_reducible rfl
          rotate_left
          · simp only [Act.put, List.setIfInBounds_toArray, List.set_cons_zero, List.set_cons_succ, i64_w, i32_w]
            rfl
          refine pure_ (i := 3) (N := some 11) (v := ?_) (a' := ?_) #[true, true, false, true, false, false, false, false, false, false, false, false, false, false, false, false, false] rfl rfl (any_of HT_.out (by kernel_rfl)) (fun _ _ _ h => h) (Or.inl ⟨by rfl, ?_⟩) ?_ ?_
          rotate_left
          · intro w'
            go_simp
            with_reducible rfl
          rotate_left
          · simp only [Act.put, List.setIfInBounds_toArray, List.set_cons_zero, List.set_cons_succ, i64_w, i32_w]
            rfl
          refine pure_ (i := 5) (N := some 13) (v := ?_) (a' := ?_) #[true, true, false, true, false, true, false, false, false, false, false, false, false, false, false, false, false] rfl rfl (any_of HT_.out (by kernel_rfl)) (fun _ _ _ h => h) (Or.inl ⟨by rfl, ?_⟩) ?_ ?_
          rotate_left
          · intro w'
            go_simp
            with_reducible rfl
          rotate_left
          · simp only [Act.put, List.setIfInBounds_toArray, List.set_cons_zero, List.set_cons_succ, i64_w, i32_w]
            rfl
          refine pure_ (i := 6) (N := some 14) (v := ?_) (a' := ?_) #[true, true, false, true, false, true, true, false, false, false, false, false, false, false, false, false, false] rfl rfl (any_of HT_.out (by kernel_rfl)) (fun _ _ _ h => h) (Or.inl ⟨by rfl, ?_⟩) ?_ ?_
          rotate_left
          · intro w'
            go_simp
            with_reducible rfl
          rotate_left
          · simp only [Act.put, List.setIfInBounds_toArray, List.set_cons_zero, List.set_cons_succ, i64_w, i32_w]
            rfl
          refine pure_ (i := 7) (N := some 15) (v := ?_) (a' := ?_) #[true, true, false, true, false, true, true, true, false, false, false, false, false, false, false, false, false] rfl rfl (any_of HT_.out (by kernel_rfl)) (fun _ _ _ h => h) (Or.inl ⟨by rfl, ?_⟩) ?_ ?_
          rotate_left
          · intro w'
            go_simp
            with_reducible rfl
          rotate_left
          · simp only [Act.put, List.setIfInBounds_toArray, List.set_cons_zero, List.set_cons_succ, i64_w, i32_w]
            rfl
          refine take_ (i := 2) (N := some 10) (v := ?_) (a' := ?_) #[true, true, true, true, false, true, true, true, false, false, false, false, false, false, false, false, false] rfl rfl (take_ofW HT_.out HW_.out (by kernel_rfl)) (fun _ _ _ h => h) (Or.inl ⟨by rfl, ?_⟩) hHeld ?_ ?_
          rotate_left
          · rintro w' ⟨s0, s1, s2, s3, s4, s5, s6⟩
            go_simp
            with_reducible rfl
          rotate_left
          · simp only [Act.put, List.setIfInBounds_toArray, List.set_cons_zero, List.set_cons_succ, i64_w, i32_w]
            rfl
          refine take_ (i := 4) (N := some 12) (v := ?_) (a' := ?_) #[true, true, true, true, true, true, true, true, false, false, false, false, false, false, false, false, false] rfl rfl (take_ofW HT_.out HW_.out (by kernel_rfl)) (fun _ _ _ h => h) (Or.inl ⟨by rfl, ?_⟩) hHeld ?_ ?_
          rotate_left
          · rintro w' ⟨s0, s1, s2, s3, s4, s5, s6⟩
            go_simp
            with_reducible rfl
          rotate_left
          · simp only [Act.put, List.setIfInBounds_toArray, List.set_cons_zero, List.set_cons_succ, i64_w, i32_w]
            rfl
          refine take_ (i := 8) (N := some 16) (v := ?_) (a' := ?_) #[true, true, true, true, true, true, true, true, true, false, false, false, false, false, false, false, false] rfl rfl (take_ofW HT_.out HW_.out (by kernel_rfl)) (fun _ _ _ h => h) (Or.inl ⟨by rfl, ?_⟩) hHeld ?_ ?_
          rotate_left
          · rintro w' ⟨s0, s1, s2, s3, s4, s5, s6⟩
            go_simp
            with_reducible rfl
          rotate_left
          · simp only [Act.put, List.setIfInBounds_toArray, List.set_cons_zero, List.set_cons_succ, i64_w, i32_w]
            rfl
          refine pure_ (i := 9) (N := some 17) (v := ?_) (a' := ?_) #[true, true, true, true, true, true, true, true, true, true, false, false, false, false, false, false, false] rfl rfl (any_of HT_.out (by kernel_rfl)) (fun _ _ _ h => h) (Or.inl ⟨by rfl, ?_⟩) ?_ ?_
          rotate_left
          · intro w'
            go_simp
            with_reducible rfl
          rotate_left
          · simp only [Act.put, List.setIfInBounds_toArray, List.set_cons_zero, List.set_cons_succ, i64_w, i32_w]
            rfl
          refine pure_ (i := 10) (N := some 18) (v := ?_) (a' := ?_) #[true, true, true, true, true, true, true, true, true, true, true, false, false, false, false, false, false] rfl rfl (any_of HT_.out (by kernel_rfl)) (fun _ _ _ h => h) (Or.inl ⟨by rfl, ?_⟩) ?_ ?_
          rotate_left
          · intro w'
            go_simp
            with_reducible rfl
          rotate_left
          · simp only [Act.put, List.setIfInBounds_toArray, List.set_cons_zero, List.set_cons_succ, i64_w, i32_w]
            rfl
          refine pure_ (i := 11) (N := some 19) (v := ?_) (a' := ?_) #[true, true, true, true, true, true, true, true, true, true, true, true, false, false, false, false, false] rfl rfl (any_of HT_.out (by kernel_rfl)) (fun _ _ _ h => h) (Or.inl ⟨by rfl, ?_⟩) ?_ ?_
          rotate_left
          · intro w'
            go_simp
            with_reducible rfl
          rotate_left
          · simp only [Act.put, List.setIfInBounds_toArray, List.set_cons_zero, List.set_cons_succ, i64_w, i32_w]
            rfl
          refine pure_ (i := 12) (N := some 20) (v := ?_) (a' := ?_) #[true, true, true, true, true, true, true, true, true, true, true, true, true, false, false, false, false] rfl rfl (any_of HT_.out (by kernel_rfl)) (fun _ _ _ h => h) (Or.inl ⟨by rfl, ?_⟩) ?_ ?_
          rotate_left
          · intro w'
            go_simp
            with_reducible rfl
          rotate_left
          · simp only [Act.put, List.setIfInBounds_toArray, List.set_cons_zero, List.set_cons_succ, i64_w, i32_w]
            rfl
          refine take_ (i := 13) (N := some 21) (v := ?_) (a' := ?_) #[true, true, true, true, true, true, true, true, true, true, true, true, true, true, false, false, false] rfl rfl (take_ofW HT_.out HW_.out (by kernel_rfl)) (fun _ _ _ h => h) (Or.inl ⟨by rfl, ?_⟩) hHeld ?_ ?_
          rotate_left
          · rintro w' ⟨s0, s1, s2, s3, s4, s5, s6⟩
            go_simp
            with_reducible rfl
          rotate_left
          · simp only [Act.put, List.setIfInBounds_toArray, List.set_cons_zero, List.set_cons_succ, i64_w, i32_w]
            rfl
          refine one_ (i := 14) (N := some 22) #[true, true, true, true, true, true, true, true, true, true, true, true, true, true, true, false, false] rfl rfl (one_of HT_.out (by kernel_rfl)) (by decide) (fun K hK => ?_)
          refine goes_ Try.func11 (by kernel_rfl) rfl #[.agg #[.slice Ao13 t360.length co13, .slice Ao15 t363.length co15, .int .i64 t366, .int .i64 t367, .slice (some ad373) t368.length co16], .slice A373_1 ((rd_T34 t368 (ji7)).f1).length c373_1] (by rfl) rfl rfl (by (try simp only [List.map_toArray, List.map_cons, List.map_nil]); first | done | (simp only [hji7]; rfl) | rfl | (simp only [List.length_drop, List.length_take]; rfl)) ?_
          with_reducible refine (regletlaw13_same.calls k _ _ t360 _ _ t363 t366 t367 _ _ t368 _ _ ((rd_T34 t368 (ji7)).f1) t374 _ ?side1 ?side2 ?side3 ?side4 ?side5 ?side6 ?side7 ?side8 A10.out).mono ?_
          (case side1 => repeat (first | exact (Kd.R_reads' HO362.out).2.2 | (with_reducible refine Kd.C_alloc ?_ _) | (with_reducible refine Kd.C_drewN ?_ _) | (with_reducible refine Kd.C_drew ?_)))
          (case side2 => exact (Kd.R_reads' HO362.out).2.1)
          (case side3 => repeat (first | exact (Kd.R_reads' HO365.out).2.2 | (with_reducible refine Kd.C_alloc ?_ _) | (with_reducible refine Kd.C_drewN ?_ _) | (with_reducible refine Kd.C_drew ?_)))
          (case side4 => exact (Kd.R_reads' HO365.out).2.1)
          (case side5 => repeat (first | exact (Kd.S_reads' HO370.out).2.2 | (with_reducible refine Kd.C_alloc ?_ _) | (with_reducible refine Kd.C_drewN ?_ _) | (with_reducible refine Kd.C_drew ?_)))
          (case side6 => exact (Kd.S_reads' HO370.out).2.1)
          (case side7 => repeat (first | exact (by repeat (first | (with_reducible exact HR373_1.out) | (with_reducible refine Kd.C_alloc ?_ _) | (with_reducible refine Kd.C_drewN ?_ _) | (with_reducible refine Kd.C_drew ?_) | exact HR373_1.out)) | (with_reducible refine Kd.C_alloc ?_ _) | (with_reducible refine Kd.C_drewN ?_ _) | (with_reducible refine Kd.C_drew ?_)))
          (case side8 => exact HC373_1.out)
          rintro e w20 ⟨rfl, hb⟩
          have HS5_ := (hb.cell (World.block_lt_of_cell? _ _ (hHeld.2.2.2.2.2.1))).trans (hHeld.2.2.2.2.2.1)
          have HS6_ := (hb.cell (World.block_lt_of_cell? _ _ (hHeld.2.2.2.2.2.2))).trans (hHeld.2.2.2.2.2.2)
          refine ⟨_, rfl, ?_⟩
          have n0_ := Aside0.mk (Kd.R_below (by (with_reducible repeat (first | apply Kd.R_alloc | apply Kd.R_drewN | apply Kd.R_drew)); exact HO362.out) hb)
          have n1_ := Aside0.mk (Kd.R_below (by (with_reducible repeat (first | apply Kd.R_alloc | apply Kd.R_drewN | apply Kd.R_drew)); exact HO365.out) hb)
          have n2_ := Aside0.mk (Kd.S_below (by (with_reducible repeat (first | apply Kd.S_alloc | apply Kd.S_drewN | apply Kd.S_drew)); exact HO370.out) hb)
          have n3_ := Aside0.mk (Kd.R_below (by (with_reducible repeat (first | apply Kd.R_alloc | apply Kd.R_drewN | apply Kd.R_drew)); exact HL373_1.out) hb)
          have n4_ := Aside0.mk (blk_below (g := gb371) (o := .cells #[.slice Ao13 t360.length co13, .slice Ao15 t363.length co15, .int .i64 t366, .int .i64 t367, .slice (some ad373) t368.length co16] 26 (0, 0)) (by (with_reducible repeat (first | refine blk_drewN ?_ _ | refine blk_drew ?_ | refine blk_alloc ?_ _)); exact BK371.out) hb)
          have n5_ := Aside0.mk (Kd.C_below (by repeat (first | (with_reducible exact HR373_1.out) | (with_reducible refine Kd.C_alloc ?_ _) | (with_reducible refine Kd.C_drewN ?_ _) | (with_reducible refine Kd.C_drew ?_) | exact HR373_1.out)) hb)
          have n6_ := Aside0.mk (below_step (by repeat (first | (with_reducible first | exact HB.out | apply below_alloc | apply pw_below_drewN | apply below_drew1 | refine below_set ?_ GE371.out) | exact HB.out)) hb)
          clear HO362
          clear HO365
          clear HO370
          clear HL373_1
          clear BK371
          clear HR373_1
          clear HB
          have HO362 := n0_
          have HO365 := n1_
          have HO370 := n2_
          have HL373_1 := n3_
          have BK371 := n4_
          have HR373_1 := n5_
          have HB := n6_
          clear n0_ n1_ n2_ n3_ n4_ n5_ n6_
          (try clear hb)
          (try clear hb2)
          (try clear hk)
          (try clear hi)
          refine hK.out _ _ ⟨(blk_cell BK371.out 0).trans rfl, (blk_cell BK371.out 1).trans rfl, (blk_cell BK371.out 2).trans rfl, (blk_cell BK371.out 3).trans rfl, (blk_cell BK371.out 4).trans rfl, HS5_, HS6_⟩ (fun hHeld => ?_)
          clear hK K
          refine norm_ (a' := ?_) ?_ ?_
          rotate_left
          · show Act.put _ (some 22) _ = _
            simp only [Act.put, List.setIfInBounds_toArray, List.set_cons_zero, List.set_cons_succ, i64_w, i32_w]
            rfl
          refine pure_ (i := 15) (N := some 23) (v := ?_) (a' := ?_) #[true, true, true, true, true, true, true, true, true, true, true, true, true, true, true, true, false] rfl rfl (any_of HT_.out (by kernel_rfl)) (fun _ _ _ h => h) (Or.inl ⟨by rfl, ?_⟩) ?_ ?_
          rotate_left
          · intro w'
            go_simp
            with_reducible rfl
          rotate_left
          · simp only [Act.put, List.setIfInBounds_toArray, List.set_cons_zero, List.set_cons_succ, i64_w, i32_w]
            rfl
          refine pure_ (i := 16) (N := some 4) (v := ?_) (a' := ?_) #[true, true, true, true, true, true, true, true, true, true, true, true, true, true, true, true, true] rfl rfl (any_of HT_.out (by kernel_rfl)) (fun _ _ _ h => h) (Or.inl ⟨by rfl, ?_⟩) ?_ ?_
          rotate_left
          · intro w'
            go_simp
            with_reducible rfl
          rotate_left
          · simp only [Act.put, List.setIfInBounds_toArray, List.set_cons_zero, List.set_cons_succ, i64_w, i32_w]
            rfl
          refine done_ (done_of HT_.out (by kernel_rfl)) ?_
          try go_wp2
          go_ret
          exact ⟨by first | rfl | (simp [errW_none, errW_some] <;> rfl) | (simp only [← hji7]; first | rfl | (simp [errW_none, errW_some] <;> rfl)) | (simp [*, errW_none, errW_some] <;> rfl), by repeat (first | (with_reducible first | exact HB.out | apply below_alloc | apply pw_below_drewN | apply below_drew1 | refine below_set ?_ GE371.out) | exact HB.out)⟩
        · rw [if_neg c9] at H
          exact absurd H (by simp)
      · rw [if_neg c8] at H
        exact absurd H (by simp)
  · replace c5 := Bool.eq_false_iff.mpr c5
    subst c5
    have H1 : (some false) = some r := by rw [if_neg (show ¬ (false = true) by decide)] at H; exact H
    clear H
    have H := H1
    clear H1
    obtain rfl := Option.some.inj H
    go_enter Try.func4, Try.ntmps4
    try go_wp2_with (first | ((with_reducible refine gate_callee (f := 12) rfl ?_); refine goesL_ (some 7) rfl rfl Try.func12 (by kernel_rfl) rfl #[.slice A0 l0.length c0] rfl (by (try simp only [List.map_toArray, List.map_cons, List.map_nil]); first | done | rfl | (simp only [List.length_drop, List.length_take]; rfl)) ?_; (with_reducible refine (regletlaw13_Made.calls k _ _ l0 t360 t363 t366 t367 t368 _ ?side1 ?side2 A3.out).mono ?_); (case side1 => repeat (first | exact HR0.out | (with_reducible refine Kd.C_alloc ?_ _) | (with_reducible refine Kd.C_drewN ?_ _) | (with_reducible refine Kd.C_drew ?_))); (case side2 => exact HC0.out); rintro e w21 ⟨v361, v364, v369, rfl, ho0, ho1, ho2, hb⟩; refine ⟨_, rfl, ?_⟩; have n0_ := Aside0.mk (Kd.R_lower ho0 (below_size (by repeat (first | (with_reducible first | exact HB.out | apply below_alloc | apply pw_below_drewN | apply below_drew1) | exact HB.out)))); have n1_ := Aside0.mk (Kd.R_lower ho1 (below_size (by repeat (first | (with_reducible first | exact HB.out | apply below_alloc | apply pw_below_drewN | apply below_drew1) | exact HB.out)))); have n2_ := Aside0.mk (Kd.S_lower ho2 (below_size (by repeat (first | (with_reducible first | exact HB.out | apply below_alloc | apply pw_below_drewN | apply below_drew1) | exact HB.out)))); have n3_ := Aside0.mk (below_step (by repeat (first | (with_reducible first | exact HB.out | apply below_alloc | apply pw_below_drewN | apply below_drew1) | exact HB.out)) hb); clear HB; have HO362 := n0_; have HO365 := n1_; have HO370 := n2_; have HB := n3_; clear n0_ n1_ n2_ n3_; (try clear hb); (try clear hb2); (try clear hk); (try clear hi); (try clear ho0); (try clear ho1); (try clear ho2)) | ((with_reducible refine gate_dst (N := 5) rfl ?_); (try (refine gate_guard (by rfl) ?_; dsimp only)); refine box_event ?hg (N := 5) ?hd (cs := #[.slice none 0 0, .slice none 0 0, .int .i64 0, .int .i64 0, .slice none 0 0]) (t := 26) ?hr ?_; (case hd => rfl); (case hg => rfl); (case hr => first | (go_simp; done) | (go_simp; rfl)); intro gb371 hg w22 hbox hb; have n0_ := Aside0.mk (Kd.R_below (by (with_reducible repeat (first | apply Kd.R_alloc | apply Kd.R_drewN | apply Kd.R_drew)); exact HO362.out) hb); have n1_ := Aside0.mk (Kd.R_below (by (with_reducible repeat (first | apply Kd.R_alloc | apply Kd.R_drewN | apply Kd.R_drew)); exact HO365.out) hb); have n2_ := Aside0.mk (Kd.S_below (by (with_reducible repeat (first | apply Kd.S_alloc | apply Kd.S_drewN | apply Kd.S_drew)); exact HO370.out) hb); have n3_ := Aside0.mk (below_step (by repeat (first | (with_reducible first | exact HB.out | apply below_alloc | apply pw_below_drewN | apply below_drew1) | exact HB.out)) hb); have n4_ := Aside0.mk (hbox); have n5_ := Aside0.mk ((by rw [hg]; exact (below_size (by repeat (first | (with_reducible first | exact HB.out | apply below_alloc | apply pw_below_drewN | apply below_drew1) | exact HB.out))) : w.heap.size ≤ gb371)); have n6_ := Aside0.mk ((by rw [hg]; exact (below_size (by repeat (first | (with_reducible first | exact HB.out | apply below_alloc | apply pw_below_drewN | apply below_drew1) | exact HB.out))) : w.heap.size ≤ gb371)); clear HO362; clear HO365; clear HO370; clear HB; have HO362 := n0_; have HO365 := n1_; have HO370 := n2_; have HB := n3_; have BK371 := n4_; have GW371 := n5_; have GE371 := n6_; clear n0_ n1_ n2_ n3_ n4_ n5_ n6_; clear hb hbox hg; obtain ⟨Ao23, co23, eo23⟩ := Kd.R_slice HO362.out; subst eo23; have hcz24_0 : w22.cell? ⟨gb371, 0, none⟩ = some (.slice none 0 0) := (blk_cell BK371.out 0).trans rfl; have hcz24_1 : w22.cell? ⟨gb371, 1, none⟩ = some (.slice none 0 0) := (blk_cell BK371.out 1).trans rfl; have hcz24_2 : w22.cell? ⟨gb371, 2, none⟩ = some (.int .i64 0) := (blk_cell BK371.out 2).trans rfl; have hcz24_3 : w22.cell? ⟨gb371, 3, none⟩ = some (.int .i64 0) := (blk_cell BK371.out 3).trans rfl; have hcz24_4 : w22.cell? ⟨gb371, 4, none⟩ = some (.slice none 0 0) := (blk_cell BK371.out 4).trans rfl; have hfz24_0 := blk_frozen BK371.out 0; have hfz24_1 := blk_frozen BK371.out 1; have hfz24_2 := blk_frozen BK371.out 2; have hfz24_3 := blk_frozen BK371.out 3; have hfz24_4 := blk_frozen BK371.out 4; obtain ⟨Ao25, co25, eo25⟩ := Kd.R_slice HO365.out; subst eo25; obtain ⟨Ao26, co26, eo26⟩ := Kd.S_slice HO370.out; subst eo26))
    have n0_ : Aside0 (Kd.R Kd.string 9 (((((w22.setCell ⟨gb371, 0, none⟩ (.slice Ao23 t360.length co23)).setCell ⟨gb371, 1, none⟩ (.slice Ao25 t363.length co25)).setCell ⟨gb371, 2, none⟩ (.int .i64 t366)).setCell ⟨gb371, 3, none⟩ (.int .i64 t367)).setCell ⟨gb371, 4, none⟩ (.slice Ao26 t368.length co26)) w.heap.size (fun _ => True) (.slice Ao23 t360.length co23) t360) := ⟨by (with_reducible repeat (first | apply Kd.R_alloc | apply Kd.R_drewN | apply Kd.R_drew)); exact Kd.R_mono (Kd.R_far (p := ⟨gb371, 4, none⟩) (Kd.R_far (p := ⟨gb371, 3, none⟩) (Kd.R_far (p := ⟨gb371, 2, none⟩) (Kd.R_far (p := ⟨gb371, 1, none⟩) (Kd.R_far (p := ⟨gb371, 0, none⟩) (Kd.R_types HO362.out BK371.out (by decide)) (fun _ hk => hk.2) (.slice Ao23 t360.length co23)) (fun _ hk => hk.2) (.slice Ao25 t363.length co25)) (fun _ hk => hk.2) (.int .i64 t366)) (fun _ hk => hk.2) (.int .i64 t367)) (fun _ hk => hk.2) (.slice Ao26 t368.length co26)) (fun _ hk => trivial)⟩
    have n1_ : Aside0 (Kd.R k62 62 (((((w22.setCell ⟨gb371, 0, none⟩ (.slice Ao23 t360.length co23)).setCell ⟨gb371, 1, none⟩ (.slice Ao25 t363.length co25)).setCell ⟨gb371, 2, none⟩ (.int .i64 t366)).setCell ⟨gb371, 3, none⟩ (.int .i64 t367)).setCell ⟨gb371, 4, none⟩ (.slice Ao26 t368.length co26)) w.heap.size (fun _ => True) (.slice Ao25 t363.length co25) t363) := ⟨by (with_reducible repeat (first | apply Kd.R_alloc | apply Kd.R_drewN | apply Kd.R_drew)); exact Kd.R_mono (Kd.R_far (p := ⟨gb371, 4, none⟩) (Kd.R_far (p := ⟨gb371, 3, none⟩) (Kd.R_far (p := ⟨gb371, 2, none⟩) (Kd.R_far (p := ⟨gb371, 1, none⟩) (Kd.R_far (p := ⟨gb371, 0, none⟩) (Kd.R_types HO365.out BK371.out (by decide)) (fun _ hk => hk.2) (.slice Ao23 t360.length co23)) (fun _ hk => hk.2) (.slice Ao25 t363.length co25)) (fun _ hk => hk.2) (.int .i64 t366)) (fun _ hk => hk.2) (.int .i64 t367)) (fun _ hk => hk.2) (.slice Ao26 t368.length co26)) (fun _ hk => trivial)⟩
    have n2_ : Aside0 (Kd.S k34 34 (((((w22.setCell ⟨gb371, 0, none⟩ (.slice Ao23 t360.length co23)).setCell ⟨gb371, 1, none⟩ (.slice Ao25 t363.length co25)).setCell ⟨gb371, 2, none⟩ (.int .i64 t366)).setCell ⟨gb371, 3, none⟩ (.int .i64 t367)).setCell ⟨gb371, 4, none⟩ (.slice Ao26 t368.length co26)) w.heap.size (fun _ => True) (.slice Ao26 t368.length co26) t368) := ⟨by (with_reducible repeat (first | apply Kd.S_alloc | apply Kd.S_drewN | apply Kd.S_drew)); exact Kd.S_mono (Kd.S_far (p := ⟨gb371, 4, none⟩) (Kd.S_far (p := ⟨gb371, 3, none⟩) (Kd.S_far (p := ⟨gb371, 2, none⟩) (Kd.S_far (p := ⟨gb371, 1, none⟩) (Kd.S_far (p := ⟨gb371, 0, none⟩) (Kd.S_types HO370.out BK371.out (by decide)) (fun _ hk => hk.2) (.slice Ao23 t360.length co23)) (fun _ hk => hk.2) (.slice Ao25 t363.length co25)) (fun _ hk => hk.2) (.int .i64 t366)) (fun _ hk => hk.2) (.int .i64 t367)) (fun _ hk => hk.2) (.slice Ao26 t368.length co26)) (fun _ hk => trivial)⟩
    have n3_ : Aside0 ((((((w22.setCell ⟨gb371, 0, none⟩ (.slice Ao23 t360.length co23)).setCell ⟨gb371, 1, none⟩ (.slice Ao25 t363.length co25)).setCell ⟨gb371, 2, none⟩ (.int .i64 t366)).setCell ⟨gb371, 3, none⟩ (.int .i64 t367)).setCell ⟨gb371, 4, none⟩ (.slice Ao26 t368.length co26)).heap[gb371]? = some (.cells #[.slice Ao23 t360.length co23, .slice Ao25 t363.length co25, .int .i64 t366, .int .i64 t367, .slice Ao26 t368.length co26] 26 (0, 0))) := ⟨by (with_reducible repeat (first | refine blk_drewN ?_ _ | refine blk_drew ?_ | refine blk_alloc ?_ _)); refine blk_put (cs := #[.slice Ao23 t360.length co23, .slice Ao25 t363.length co25, .int .i64 t366, .int .i64 t367, .slice none 0 0]) ?_ 4 _ rfl; (with_reducible repeat (first | refine blk_drewN ?_ _ | refine blk_drew ?_ | refine blk_alloc ?_ _)); refine blk_put (cs := #[.slice Ao23 t360.length co23, .slice Ao25 t363.length co25, .int .i64 t366, .int .i64 0, .slice none 0 0]) ?_ 3 _ rfl; (with_reducible repeat (first | refine blk_drewN ?_ _ | refine blk_drew ?_ | refine blk_alloc ?_ _)); refine blk_put (cs := #[.slice Ao23 t360.length co23, .slice Ao25 t363.length co25, .int .i64 0, .int .i64 0, .slice none 0 0]) ?_ 2 _ rfl; (with_reducible repeat (first | refine blk_drewN ?_ _ | refine blk_drew ?_ | refine blk_alloc ?_ _)); refine blk_put (cs := #[.slice Ao23 t360.length co23, .slice none 0 0, .int .i64 0, .int .i64 0, .slice none 0 0]) ?_ 1 _ rfl; (with_reducible repeat (first | refine blk_drewN ?_ _ | refine blk_drew ?_ | refine blk_alloc ?_ _)); refine blk_put (cs := #[.slice none 0 0, .slice none 0 0, .int .i64 0, .int .i64 0, .slice none 0 0]) ?_ 0 _ rfl; (with_reducible repeat (first | refine blk_drewN ?_ _ | refine blk_drew ?_ | refine blk_alloc ?_ _)); exact BK371.out⟩
    have n4_ : Aside0 (Below w.heap.size w (((((w22.setCell ⟨gb371, 0, none⟩ (.slice Ao23 t360.length co23)).setCell ⟨gb371, 1, none⟩ (.slice Ao25 t363.length co25)).setCell ⟨gb371, 2, none⟩ (.int .i64 t366)).setCell ⟨gb371, 3, none⟩ (.int .i64 t367)).setCell ⟨gb371, 4, none⟩ (.slice Ao26 t368.length co26))) := ⟨by repeat (first | (with_reducible first | exact HB.out | apply below_alloc | apply pw_below_drewN | apply below_drew1 | refine below_set ?_ GE371.out) | exact HB.out)⟩
    (try clear HO362)
    (try clear HO365)
    (try clear HO370)
    (try clear BK371)
    (try clear HB)
    generalize (((((w22.setCell ⟨gb371, 0, none⟩ (.slice Ao23 t360.length co23)).setCell ⟨gb371, 1, none⟩ (.slice Ao25 t363.length co25)).setCell ⟨gb371, 2, none⟩ (.int .i64 t366)).setCell ⟨gb371, 3, none⟩ (.int .i64 t367)).setCell ⟨gb371, 4, none⟩ (.slice Ao26 t368.length co26)) = w27 at n0_ n1_ n2_ n3_ n4_ ⊢
    have HO362 := n0_
    have HO365 := n1_
    have HO370 := n2_
    have BK371 := n3_
    have HB := n4_
    clear n0_ n1_ n2_ n3_ n4_
    have n0_ := Aside0.mk (Kd.R_drew HO362.out)
    have n1_ := Aside0.mk (Kd.R_drew HO365.out)
    have n2_ := Aside0.mk (Kd.S_drew HO370.out)
    have n3_ := Aside0.mk (blk_drew BK371.out)
    have n4_ := Aside0.mk (below_drew1 HB.out)
    clear HO362
    clear HO365
    clear HO370
    clear BK371
    clear HB
    have HO362 := n0_
    have HO365 := n1_
    have HO370 := n2_
    have BK371 := n3_
    have HB := n4_
    clear n0_ n1_ n2_ n3_ n4_
    refine start_ (n := 17) (S := fun w' => True) (ds := []) #[false, false, false, false, false, false, false, false, false, false, false, false, false, false, false, false, false] (by kernel_rfl) rfl rfl trivial (fun hHeld => ?_); refine with_tabW regletlaw13_FirstsMade.tab2 regletlaw13_FirstsMade.bits2 (fun HT_ HW_ => ?_)
    generalize w27.drew = w28 at HO362 HO365 HO370 BK371 HB hHeld ⊢
    refine one_ (i := 0) (N := some 8) #[true, false, false, false, false, false, false, false, false, false, false, false, false, false, false, false, false] rfl rfl (one_of HT_.out (by kernel_rfl)) (by decide) (fun K hK => ?_)
    refine goes_ Try.func9 (by kernel_rfl) rfl #[] (by rfl) rfl rfl (by (try simp only [List.map_toArray, List.map_cons, List.map_nil]); first | done | rfl | (simp only [List.length_drop, List.length_take]; rfl)) ?_
    with_reducible refine (regletlaw13_awake.calls k  false _ A4.out).mono ?_
    rintro e w29 ⟨rfl, hb⟩
    refine ⟨_, rfl, ?_⟩
    have n0_ := Aside0.mk (Kd.R_below (by (with_reducible repeat (first | apply Kd.R_alloc | apply Kd.R_drewN | apply Kd.R_drew)); exact HO362.out) hb)
    have n1_ := Aside0.mk (Kd.R_below (by (with_reducible repeat (first | apply Kd.R_alloc | apply Kd.R_drewN | apply Kd.R_drew)); exact HO365.out) hb)
    have n2_ := Aside0.mk (Kd.S_below (by (with_reducible repeat (first | apply Kd.S_alloc | apply Kd.S_drewN | apply Kd.S_drew)); exact HO370.out) hb)
    have n3_ := Aside0.mk (blk_below (g := gb371) (o := .cells #[.slice Ao23 t360.length co23, .slice Ao25 t363.length co25, .int .i64 t366, .int .i64 t367, .slice Ao26 t368.length co26] 26 (0, 0)) (by (with_reducible repeat (first | refine blk_drewN ?_ _ | refine blk_drew ?_ | refine blk_alloc ?_ _)); exact BK371.out) hb)
    have n4_ := Aside0.mk (below_step (by repeat (first | (with_reducible first | exact HB.out | apply below_alloc | apply pw_below_drewN | apply below_drew1 | refine below_set ?_ GE371.out) | exact HB.out)) hb)
    clear HO362
    clear HO365
    clear HO370
    clear BK371
    clear HB
    have HO362 := n0_
    have HO365 := n1_
    have HO370 := n2_
    have BK371 := n3_
    have HB := n4_
    clear n0_ n1_ n2_ n3_ n4_
    (try clear hb)
    (try clear hb2)
    (try clear hk)
    (try clear hi)
    refine hK.out _ _ trivial (fun hHeld => ?_)
    clear hK K
    refine norm_ (a' := ?_) ?_ ?_
    rotate_left
    · show Act.put _ (some 8) _ = _
      simp only [Act.put, List.setIfInBounds_toArray, List.set_cons_zero, List.set_cons_succ, i64_w, i32_w]
      rfl
    refine pure_ (i := 1) (N := some 9) (v := ?_) (a' := ?_) #[true, true, false, false, false, false, false, false, false, false, false, false, false, false, false, false, false] rfl rfl (any_of HT_.out (by kernel_rfl)) (fun _ _ _ h => h) (Or.inl ⟨by rfl, ?_⟩) ?_ ?_
    rotate_left
    · intro w'
      go_simp
      with_reducible rfl
    rotate_left
    · simp only [Act.put, List.setIfInBounds_toArray, List.set_cons_zero, List.set_cons_succ, i64_w, i32_w]
      rfl
    refine pure_ (i := 2) (N := some 10) (v := undef) (a' := ?_) #[true, true, true, false, false, false, false, false, false, false, false, false, false, false, false, false, false] rfl rfl (any_of HT_.out (by kernel_rfl)) (fun _ _ _ h => h) (Or.inr ⟨by rfl, rfl⟩) ?_ ?_
    rotate_left
    · simp only [Act.put, List.setIfInBounds_toArray, List.set_cons_zero, List.set_cons_succ, i64_w, i32_w]
      rfl
    refine pure_ (i := 3) (N := some 11) (v := undef) (a' := ?_) #[true, true, true, true, false, false, false, false, false, false, false, false, false, false, false, false, false] rfl rfl (any_of HT_.out (by kernel_rfl)) (fun _ _ _ h => h) (Or.inr ⟨by rfl, rfl⟩) ?_ ?_
    rotate_left
    · simp only [Act.put, List.setIfInBounds_toArray, List.set_cons_zero, List.set_cons_succ, i64_w, i32_w]
      rfl
    refine pure_ (i := 4) (N := some 12) (v := undef) (a' := ?_) #[true, true, true, true, true, false, false, false, false, false, false, false, false, false, false, false, false] rfl rfl (any_of HT_.out (by kernel_rfl)) (fun _ _ _ h => h) (Or.inr ⟨by rfl, rfl⟩) ?_ ?_
    rotate_left
    · simp only [Act.put, List.setIfInBounds_toArray, List.set_cons_zero, List.set_cons_succ, i64_w, i32_w]
      rfl
    refine pure_ (i := 5) (N := some 13) (v := undef) (a' := ?_) #[true, true, true, true, true, true, false, false, false, false, false, false, false, false, false, false, false] rfl rfl (any_of HT_.out (by kernel_rfl)) (fun _ _ _ h => h) (Or.inr ⟨by rfl, rfl⟩) ?_ ?_
    rotate_left
    · simp only [Act.put, List.setIfInBounds_toArray, List.set_cons_zero, List.set_cons_succ, i64_w, i32_w]
      rfl
    refine pure_ (i := 6) (N := some 14) (v := undef) (a' := ?_) #[true, true, true, true, true, true, true, false, false, false, false, false, false, false, false, false, false] rfl rfl (any_of HT_.out (by kernel_rfl)) (fun _ _ _ h => h) (Or.inr ⟨by rfl, rfl⟩) ?_ ?_
    rotate_left
    · simp only [Act.put, List.setIfInBounds_toArray, List.set_cons_zero, List.set_cons_succ, i64_w, i32_w]
      rfl
    refine pure_ (i := 7) (N := some 15) (v := undef) (a' := ?_) #[true, true, true, true, true, true, true, true, false, false, false, false, false, false, false, false, false] rfl rfl (any_of HT_.out (by kernel_rfl)) (fun _ _ _ h => h) (Or.inr ⟨by rfl, rfl⟩) ?_ ?_
    rotate_left
    · simp only [Act.put, List.setIfInBounds_toArray, List.set_cons_zero, List.set_cons_succ, i64_w, i32_w]
      rfl
    refine pure_ (i := 8) (N := some 16) (v := undef) (a' := ?_) #[true, true, true, true, true, true, true, true, true, false, false, false, false, false, false, false, false] rfl rfl (any_of HT_.out (by kernel_rfl)) (fun _ _ _ h => h) (Or.inr ⟨by rfl, rfl⟩) ?_ ?_
    rotate_left
    · simp only [Act.put, List.setIfInBounds_toArray, List.set_cons_zero, List.set_cons_succ, i64_w, i32_w]
      rfl
    refine pure_ (i := 9) (N := some 17) (v := undef) (a' := ?_) #[true, true, true, true, true, true, true, true, true, true, false, false, false, false, false, false, false] rfl rfl (any_of HT_.out (by kernel_rfl)) (fun _ _ _ h => h) (Or.inr ⟨by rfl, rfl⟩) ?_ ?_
    rotate_left
    · simp only [Act.put, List.setIfInBounds_toArray, List.set_cons_zero, List.set_cons_succ, i64_w, i32_w]
      rfl
    refine pure_ (i := 10) (N := some 18) (v := undef) (a' := ?_) #[true, true, true, true, true, true, true, true, true, true, true, false, false, false, false, false, false] rfl rfl (any_of HT_.out (by kernel_rfl)) (fun _ _ _ h => h) (Or.inr ⟨by rfl, rfl⟩) ?_ ?_
    rotate_left
    · simp only [Act.put, List.setIfInBounds_toArray, List.set_cons_zero, List.set_cons_succ, i64_w, i32_w]
      rfl
    refine pure_ (i := 11) (N := some 19) (v := undef) (a' := ?_) #[true, true, true, true, true, true, true, true, true, true, true, true, false, false, false, false, false] rfl rfl (any_of HT_.out (by kernel_rfl)) (fun _ _ _ h => h) (Or.inr ⟨by rfl, rfl⟩) ?_ ?_
    rotate_left
    · simp only [Act.put, List.setIfInBounds_toArray, List.set_cons_zero, List.set_cons_succ, i64_w, i32_w]
      rfl
    refine pure_ (i := 12) (N := some 20) (v := undef) (a' := ?_) #[true, true, true, true, true, true, true, true, true, true, true, true, true, false, false, false, false] rfl rfl (any_of HT_.out (by kernel_rfl)) (fun _ _ _ h => h) (Or.inr ⟨by rfl, rfl⟩) ?_ ?_
    rotate_left
    · simp only [Act.put, List.setIfInBounds_toArray, List.set_cons_zero, List.set_cons_succ, i64_w, i32_w]
      rfl
    refine pure_ (i := 13) (N := some 21) (v := undef) (a' := ?_) #[true, true, true, true, true, true, true, true, true, true, true, true, true, true, false, false, false] rfl rfl (any_of HT_.out (by kernel_rfl)) (fun _ _ _ h => h) (Or.inr ⟨by rfl, rfl⟩) ?_ ?_
    rotate_left
    · simp only [Act.put, List.setIfInBounds_toArray, List.set_cons_zero, List.set_cons_succ, i64_w, i32_w]
      rfl
    refine pure_ (i := 14) (N := some 22) (v := undef) (a' := ?_) #[true, true, true, true, true, true, true, true, true, true, true, true, true, true, true, false, false] rfl rfl (any_of HT_.out (by kernel_rfl)) (fun _ _ _ h => h) (Or.inr ⟨by rfl, rfl⟩) ?_ ?_
    rotate_left
    · simp only [Act.put, List.setIfInBounds_toArray, List.set_cons_zero, List.set_cons_succ, i64_w, i32_w]
      rfl
    refine pure_ (i := 15) (N := some 23) (v := ?_) (a' := ?_) #[true, true, true, true, true, true, true, true, true, true, true, true, true, true, true, true, false] rfl rfl (any_of HT_.out (by kernel_rfl)) (fun _ _ _ h => h) (Or.inl ⟨by rfl, ?_⟩) ?_ ?_
    rotate_left
    · intro w'
      go_simp
      with_reducible rfl
    rotate_left
    · simp only [Act.put, List.setIfInBounds_toArray, List.set_cons_zero, List.set_cons_succ, i64_w, i32_w]
      rfl
    refine pure_ (i := 16) (N := some 4) (v := ?_) (a' := ?_) #[true, true, true, true, true, true, true, true, true, true, true, true, true, true, true, true, true] rfl rfl (any_of HT_.out (by kernel_rfl)) (fun _ _ _ h => h) (Or.inl ⟨by rfl, ?_⟩) ?_ ?_
    rotate_left
    · intro w'
      go_simp
      with_reducible rfl
    rotate_left
    · simp only [Act.put, List.setIfInBounds_toArray, List.set_cons_zero, List.set_cons_succ, i64_w, i32_w]
      rfl
    refine done_ (done_of HT_.out (by kernel_rfl)) ?_
    try go_wp2
    go_ret
    exact ⟨by first | rfl | (simp [errW_none, errW_some] <;> rfl) | (simp [*, errW_none, errW_some] <;> rfl), by repeat (first | (with_reducible first | exact HB.out | apply below_alloc | apply pw_below_drewN | apply below_drew1 | refine below_set ?_ GE371.out) | exact HB.out)⟩
def regletlaw13_FirstsMade.Pure : Prop := ∀ (l0 : List Int) (a1 : Int), l0.length ≤ maxLen → l0.length * 1 ≤ 140737488351232 → (∀ x ∈ l0, (Lit.int .u8 x).wf = true) → (Lit.int .u8 a1).wf = true → ∃ k, regletlaw13_FirstsMade.f k l0 a1 = some true
theorem regletlaw13_FirstsMade.walk (P : regletlaw13_FirstsMade.Pure) (a0 : Option Addr) (len0 cap0 : Nat) (z0 : List Int) (a1 : Int) (w : World) (w0 : (a0 = none ∧ len0 = 0 ∧ cap0 = 0 ∧ z0 = []) ∨ ∃ x, a0 = some x ∧ len0 ≤ cap0 ∧ cap0 ≤ maxLen ∧ z0.length = cap0 ∧ (∀ i, i < z0.length → w.cell? (x.add i) = some (.int .u8 (z0.getD i 0))) ∧ ∀ n ∈ z0, (Lit.int .u8 n).wf = true) (y0 : len0 * 1 ≤ 140737488351232) (w1 : (Lit.int .u8 a1).wf = true) :
    Calls Try.prog 4 #[.slice a0 len0 cap0, .int .u8 a1] w fun e w' => e = .returned (.bool true) ∧ Below w.heap.size w w' := by
  obtain ⟨l0, rfl, hr0, hm0, hw0, hc0⟩ := ReadsInt.ofRowC w0
  obtain ⟨k, h⟩ := P l0 a1 hm0 y0 hw0 w1
  refine (regletlaw13_FirstsMade.calls k _ _ l0 a1 true w (Kd.C_of_reads (d := (0 : Int)) (h1 := fun _ => rfl) hr0) hc0 h).mono ?_
  rintro e w' ⟨rfl, hd⟩
  exact ⟨rfl, hd⟩
end Go.Proofs.Ytojdjjbkpbapfaa.P
end

section
namespace Go.Proofs.Ytojdjjbkpbapfaa.M
open Go.RowKit Go.Proofs.YtojdjjbkpbapfaaW.PrintWords Go.Proofs.YtojdjjbkpbapfaaW.PrintLast Go.Proofs.YtojdjjbkpbapfaaW.PrintMore Go.Proofs.Ytojdjjbkpbapfaa.P Go.Proofs.Ytojdjjbkpbapfaa.H
set_option linter.unusedVariables false
set_option linter.unusedSimpArgs false
abbrev Sym := S49
abbrev Prod := S34
abbrev Tok := S62
theorem rdOf_mid {α : Type} (d : α) (p : List α) (x : α) (a : List α) (n : Int) (h : n = p.length) : rdOf d (p ++ x :: a) n = x := by
  subst h; simp [rdOf]
theorem getD_mid {α : Type} (d : α) (p : List α) (x : α) (a : List α) (n : Int) (h : n = p.length) : (p ++ x :: a).getD n.toNat d = x := by
  subst h; simp
theorem set_mid {α : Type} (p : List α) (x v : α) (a : List α) (n : Int) (h : n = p.length) : (p ++ x :: a).set n.toNat v = p ++ v :: a := by
  subst h; simp
theorem wrap_next {α : Type} (p : List α) (v : α) (h : p.length ≤ 1000000) : wrap64 ((p.length : Int) + 1) = ((p ++ [v]).length : Int) := by
  rw [wrap64_id (by omega) (by omega)]; simp
def orL (a b : List Bool) : List Bool := List.zipWith (· || ·) a b
def moreL : List Bool → List Bool → Bool
  | x :: a, y :: b => (y && !x) || moreL a b
  | _, _ => false
theorem orL_length {a b : List Bool} (h : a.length = b.length) : (orL a b).length = a.length := by simp [orL, h]
theorem add_l0_ev : ∀ (a b pre preb : List Bool) (g : Bool), a.length = b.length → pre.length = preb.length → pre.length + a.length ≤ 1000000 → Ev (fun k => firsts_set_add.l0 k (pre ++ a) g (preb ++ b) ((preb ++ b).length : Int) (pre.length : Int)) (g || moreL a b, pre ++ orL a b)
  | [], [], pre, preb, g, _, h2, _ => by
    refine Ev.step (fun k => by rw [firsts_set_add.l0]) (Ev.neg (by simp [h2]) (Ev.some (by simp [moreL, orL])))
  | x :: a, y :: b, pre, preb, g, h1, h2, h3 => by
    have h1' : a.length = b.length := by simpa using h1
    simp only [List.length_cons] at h3
    have ih := fun g v => add_l0_ev a b (pre ++ [v]) (preb ++ [y]) g h1' (by simp [h2]) (by simp; omega)
    simp only [← wrap_next pre _ (show pre.length ≤ 1000000 by omega), List.append_assoc, List.singleton_append] at ih
    refine Ev.step (fun k => by rw [firsts_set_add.l0]) ?_
    refine Ev.pos (by simp; omega) (Ev.pos (by omega) (Ev.pos (by simp; omega) ?_))
    rw [rdOf_mid _ preb y b _ (by rw [h2]), rdOf_mid _ pre x a _ rfl]
    cases y
    · refine Ev.neg (by simp) (Ev.val (ih g x) ?_)
      simp [moreL, orL]
    · refine Ev.pos rfl (Ev.pos (by simp; omega) ?_)
      cases x
      · refine Ev.neg (by simp) ?_
        rw [set_mid _ _ _ _ _ rfl]
        refine Ev.val (ih true true) ?_
        simp [moreL, orL]
      · refine Ev.pos rfl (Ev.val (ih g true) ?_)
        simp [moreL, orL]
theorem add_ev (a b : List Bool) (h1 : a.length = b.length) (h2 : a.length ≤ 1000000) : Ev (fun k => firsts_set_add.f k a b) (moreL a b, orL a b) := by
  exact Ev.congr (fun k => by rw [firsts_set_add.f]) (by simpa using add_l0_ev a b [] [] false h1 rfl (by simpa using h2) : Ev (fun k => firsts_set_add.l0 k a false b (b.length : Int) 0) _)
theorem join_l0_ev : ∀ (a b pre preb : List Bool) (g : Bool), a.length = b.length → pre.length = preb.length → pre.length + a.length ≤ 1000000 → Ev (fun k => regletref13_join.l0 k (pre ++ a) (preb ++ b) g (pre.length : Int)) (g || moreL a b, pre ++ orL a b)
  | [], [], pre, preb, g, _, h2, _ => by
    refine Ev.step (fun k => by rw [regletref13_join.l0]) (Ev.neg (by simp) (Ev.some (by simp [moreL, orL])))
  | x :: a, y :: b, pre, preb, g, h1, h2, h3 => by
    have h1' : a.length = b.length := by simpa using h1
    simp only [List.length_cons] at h3
    have ih := fun g v => join_l0_ev a b (pre ++ [v]) (preb ++ [y]) g h1' (by simp [h2]) (by simp; omega)
    simp only [← wrap_next pre _ (show pre.length ≤ 1000000 by omega), List.append_assoc, List.singleton_append] at ih
    refine Ev.step (fun k => by rw [regletref13_join.l0]) ?_
    refine Ev.pos (by simp; omega) ?_
    rw [rdOf_mid _ preb y b _ (by rw [h2]), rdOf_mid _ pre x a _ rfl]
    simp only [set_mid _ _ _ _ _ rfl]
    cases g
    · refine Ev.neg (by simp) (Ev.pos (by omega) (Ev.pos (by simp; omega) ?_))
      cases y <;> cases x
      · exact Ev.neg (by simp) (Ev.neg (by simp) (Ev.val (ih _ _) (by simp [moreL, orL])))
      · exact Ev.neg (by simp) (Ev.pos rfl (Ev.val (ih _ _) (by simp [moreL, orL])))
      · exact Ev.pos rfl (Ev.neg (by simp) (Ev.val (ih _ _) (by simp [moreL, orL])))
      · exact Ev.pos rfl (Ev.pos rfl (Ev.val (ih _ _) (by simp [moreL, orL])))
    · refine Ev.pos rfl (Ev.pos (by omega) ?_)
      cases x
      · exact Ev.neg (by simp) (Ev.pos (by simp; omega) (Ev.val (ih _ _) (by simp [moreL, orL])))
      · exact Ev.pos rfl (Ev.val (ih _ _) (by simp [moreL, orL]))
theorem join_ev (a b : List Bool) (h1 : a.length = b.length) (h2 : a.length ≤ 1000000) : Ev (fun k => regletref13_join.f k a b) (moreL a b, orL a b) := by
  exact Ev.congr (fun k => by rw [regletref13_join.f]) (by simpa using join_l0_ev a b [] [] false h1 rfl (by simpa using h2) : Ev (fun k => regletref13_join.l0 k a b false 0) _)
def idx : Nat → List Bool → List Int
  | _, [] => []
  | n, x :: a => if x = true then (n : Int) :: idx (n + 1) a else idx (n + 1) a
theorem idx_length : ∀ (n : Nat) (a : List Bool), (idx n a).length ≤ a.length
  | _, [] => by simp [idx]
  | n, x :: a => by have := idx_length (n + 1) a; unfold idx; split <;> simp <;> omega
theorem rising_l0_ev : ∀ (a pre : List Bool) (out : List Int), out.length ≤ pre.length → pre.length + a.length ≤ 1000000 → Ev (fun k => firsts_set_rising.l0 k out (pre ++ a) ((pre ++ a).length : Int) (pre.length : Int)) (out ++ idx pre.length a)
  | [], pre, out, _, _ => by
    refine Ev.step (fun k => by rw [firsts_set_rising.l0]) (Ev.neg (by simp) (Ev.some (by simp [idx])))
  | x :: a, pre, out, h2, h3 => by
    simp only [List.length_cons] at h3
    have ih := fun out h => rising_l0_ev a (pre ++ [x]) out h (by simp; omega)
    simp only [← wrap_next pre _ (show pre.length ≤ 1000000 by omega), List.append_assoc, List.singleton_append] at ih
    refine Ev.step (fun k => by rw [firsts_set_rising.l0]) ?_
    refine Ev.pos (by simp; omega) (Ev.pos (by omega) (Ev.pos (by simp; omega) ?_))
    rw [rdOf_mid _ pre x a _ rfl]
    cases x
    · exact Ev.neg (by simp) (Ev.val (ih out (by simp; omega)) (by simp [idx]))
    · exact Ev.pos rfl (Ev.pos (by omega) (Ev.val (ih _ (by simp; omega)) (by simp [idx])))
theorem rising_ev (a : List Bool) (h2 : a.length ≤ 1000000) : Ev (fun k => firsts_set_rising.f k a) (idx 0 a) := by
  exact Ev.congr (fun k => by rw [firsts_set_rising.f]) (by simpa using rising_l0_ev a [] [] (by simp) (by simpa using h2) : Ev (fun k => firsts_set_rising.l0 k [] a (a.length : Int) 0) _)
theorem list_l0_ev : ∀ (a pre : List Bool) (out : List Int), out.length ≤ pre.length → pre.length + a.length ≤ 1000000 → Ev (fun k => regletref13_list.l0 k (pre ++ a) out (pre.length : Int)) (out ++ idx pre.length a)
  | [], pre, out, _, _ => by
    refine Ev.step (fun k => by rw [regletref13_list.l0]) (Ev.neg (by simp) (Ev.some (by simp [idx])))
  | x :: a, pre, out, h2, h3 => by
    simp only [List.length_cons] at h3
    have ih := fun out h => list_l0_ev a (pre ++ [x]) out h (by simp; omega)
    simp only [← wrap_next pre _ (show pre.length ≤ 1000000 by omega), List.append_assoc, List.singleton_append] at ih
    refine Ev.step (fun k => by rw [regletref13_list.l0]) ?_
    refine Ev.pos (by simp; omega) (Ev.pos (by omega) ?_)
    rw [rdOf_mid _ pre x a _ rfl]
    cases x
    · exact Ev.neg (by simp) (Ev.val (ih out (by simp; omega)) (by simp [idx]))
    · exact Ev.pos rfl (Ev.pos (by omega) (Ev.val (ih _ (by simp; omega)) (by simp [idx])))
theorem list_ev (a : List Bool) (h2 : a.length ≤ 1000000) : Ev (fun k => regletref13_list.f k a) (idx 0 a) := by
  exact Ev.congr (fun k => by rw [regletref13_list.f]) (by simpa using list_l0_ev a [] [] (by simp) (by simpa using h2) : Ev (fun k => regletref13_list.l0 k a [] 0) _)
def idxs (m : List (List Bool)) : List (List Int) := m.map (idx 0)
theorem all_l0_ev : ∀ (m pre : List (List Bool)) (out : List (List Int)), out.length = pre.length → pre.length + m.length ≤ 1000000 → (∀ r ∈ m, r.length ≤ 1000000) → Ev (fun k => firsts_all.l0 k (out ++ List.replicate m.length []) (pre ++ m) ((pre ++ m).length : Int) (pre.length : Int)) (out ++ idxs m)
  | [], pre, out, _, _, _ => by
    refine Ev.step (fun k => by rw [firsts_all.l0]) (Ev.neg (by simp) (Ev.some (by simp [idxs])))
  | r :: m, pre, out, h2, h3, h4 => by
    simp only [List.length_cons] at h3
    have ih := all_l0_ev m (pre ++ [r]) (out ++ [idx 0 r]) (by simp [h2]) (by simp; omega) (fun r hr => h4 r (List.mem_cons_of_mem _ hr))
    simp only [← wrap_next pre _ (show pre.length ≤ 1000000 by omega), List.append_assoc, List.singleton_append] at ih
    refine Ev.step (fun k => by rw [firsts_all.l0]) ?_
    refine Ev.pos (by simp; omega) (Ev.pos (by omega) (Ev.pos (by simp; omega) ?_))
    refine Ev.bind (a := idx 0 r) (Ev.congr (fun k => congrArg (firsts_set_rising.f k) (getD_mid _ pre r m _ rfl)) (rising_ev r (h4 r List.mem_cons_self))) (Ev.pos (by simp; omega) ?_)
    simp only [List.length_cons, List.replicate_succ]
    rw [set_mid _ _ _ _ _ (by rw [h2])]
    exact Ev.val ih (by simp [idxs])
theorem all_ev (m : List (List Bool)) (h2 : m.length ≤ 1000000) (h4 : ∀ r ∈ m, r.length ≤ 1000000) : Ev (fun k => firsts_all.f k m) (idxs m) := by
  refine Ev.congr (fun k => by rw [firsts_all.f]) (Ev.pos (by omega) (Ev.pos (by omega) ?_))
  rw [Int.toNat_natCast]
  simpa using all_l0_ev m [] [] rfl (by simpa using h2) h4
theorem lists_l0_ev : ∀ (m pre : List (List Bool)) (out : List (List Int)), out.length = pre.length → pre.length + m.length ≤ 1000000 → (∀ r ∈ m, r.length ≤ 1000000) → Ev (fun k => regletref13_lists.l0 k (pre ++ m) out (pre.length : Int)) (out ++ idxs m)
  | [], pre, out, _, _, _ => by
    refine Ev.step (fun k => by rw [regletref13_lists.l0]) (Ev.neg (by simp) (Ev.some (by simp [idxs])))
  | r :: m, pre, out, h2, h3, h4 => by
    simp only [List.length_cons] at h3
    have ih := lists_l0_ev m (pre ++ [r]) (out ++ [idx 0 r]) (by simp [h2]) (by simp; omega) (fun r hr => h4 r (List.mem_cons_of_mem _ hr))
    simp only [← wrap_next pre _ (show pre.length ≤ 1000000 by omega), List.append_assoc, List.singleton_append] at ih
    refine Ev.step (fun k => by rw [regletref13_lists.l0]) ?_
    refine Ev.pos (by simp; omega) (Ev.pos (by omega) ?_)
    refine Ev.bind (a := idx 0 r) (Ev.congr (fun k => congrArg (regletref13_list.f k) (getD_mid _ pre r m _ rfl)) (list_ev r (h4 r List.mem_cons_self))) (Ev.pos (by omega) ?_)
    exact Ev.val ih (by simp [idxs])
theorem lists_ev (m : List (List Bool)) (h2 : m.length ≤ 1000000) (h4 : ∀ r ∈ m, r.length ≤ 1000000) : Ev (fun k => regletref13_lists.f k m) (idxs m) := by
  exact Ev.congr (fun k => by rw [regletref13_lists.f]) (by simpa using lists_l0_ev m [] [] rfl (by simpa using h2) h4 : Ev (fun k => regletref13_lists.l0 k m [] 0) _)
theorem sameInts_l0_ev : ∀ (a pre : List Int), pre.length + a.length ≤ 1000000 → Ev (fun k => regletref13_SameInts.l0 k (pre ++ a) (pre ++ a) (pre.length : Int)) true
  | [], pre, _ => Ev.step (fun k => by rw [regletref13_SameInts.l0]) (Ev.neg (by simp) (Ev.some rfl))
  | x :: a, pre, h3 => by
    simp only [List.length_cons] at h3
    have ih := sameInts_l0_ev a (pre ++ [x]) (by simp; omega)
    simp only [← wrap_next pre _ (show pre.length ≤ 1000000 by omega), List.append_assoc, List.singleton_append] at ih
    exact Ev.step (fun k => by rw [regletref13_SameInts.l0]) (Ev.pos (by simp; omega) (Ev.pos (by omega) (Ev.pos (by simp; omega) (Ev.pos rfl ih))))
theorem sameInts_ev (a : List Int) (h : a.length ≤ 1000000) : Ev (fun k => regletref13_SameInts.f k a a) true :=
  Ev.congr (fun k => by rw [regletref13_SameInts.f, if_pos rfl]) (by simpa using sameInts_l0_ev a [] (by simpa using h) : Ev (fun k => regletref13_SameInts.l0 k a a 0) _)
theorem sameBools_l0_ev : ∀ (a pre : List Bool), pre.length + a.length ≤ 1000000 → Ev (fun k => regletref13_SameBools.l0 k (pre ++ a) (pre ++ a) (pre.length : Int)) true
  | [], pre, _ => Ev.step (fun k => by rw [regletref13_SameBools.l0]) (Ev.neg (by simp) (Ev.some rfl))
  | x :: a, pre, h3 => by
    simp only [List.length_cons] at h3
    have ih := sameBools_l0_ev a (pre ++ [x]) (by simp; omega)
    simp only [← wrap_next pre _ (show pre.length ≤ 1000000 by omega), List.append_assoc, List.singleton_append] at ih
    exact Ev.step (fun k => by rw [regletref13_SameBools.l0]) (Ev.pos (by simp; omega) (Ev.pos (by omega) (Ev.pos (by simp; omega) (Ev.neg (by simp) ih))))
theorem sameBools_ev (a : List Bool) (h : a.length ≤ 1000000) : Ev (fun k => regletref13_SameBools.f k a a) true :=
  Ev.congr (fun k => by rw [regletref13_SameBools.f, if_pos rfl]) (by simpa using sameBools_l0_ev a [] (by simpa using h) : Ev (fun k => regletref13_SameBools.l0 k a a 0) _)
theorem sameLists_l0_ev : ∀ (a pre : List (List Int)), pre.length + a.length ≤ 1000000 → (∀ r ∈ a, r.length ≤ 1000000) → Ev (fun k => regletref13_SameLists.l0 k (pre ++ a) (pre ++ a) (pre.length : Int)) true
  | [], pre, _, _ => Ev.step (fun k => by rw [regletref13_SameLists.l0]) (Ev.neg (by simp) (Ev.some rfl))
  | x :: a, pre, h3, h4 => by
    simp only [List.length_cons] at h3
    have ih := sameLists_l0_ev a (pre ++ [x]) (by simp; omega) (fun r hr => h4 r (List.mem_cons_of_mem _ hr))
    simp only [← wrap_next pre _ (show pre.length ≤ 1000000 by omega), List.append_assoc, List.singleton_append] at ih
    refine Ev.step (fun k => by rw [regletref13_SameLists.l0]) (Ev.pos (by simp; omega) (Ev.pos (by omega) (Ev.pos (by simp; omega) ?_)))
    exact Ev.bind (a := true) (Ev.congr (fun k => congr (congrArg (regletref13_SameInts.f k) (getD_mid _ pre x a _ rfl)) (getD_mid _ pre x a _ rfl)) (sameInts_ev x (h4 x List.mem_cons_self))) (Ev.pos rfl ih)
theorem sameLists_ev (a : List (List Int)) (h : a.length ≤ 1000000) (h4 : ∀ r ∈ a, r.length ≤ 1000000) : Ev (fun k => regletref13_SameLists.f k a a) true :=
  Ev.congr (fun k => by rw [regletref13_SameLists.f, if_pos rfl]) (by simpa using sameLists_l0_ev a [] (by simpa using h) h4 : Ev (fun k => regletref13_SameLists.l0 k a a 0) _)
end Go.Proofs.Ytojdjjbkpbapfaa.M
end

section
namespace Go.Proofs.Ytojdjjbkpbapfaa.M
open Go.RowKit Go.Proofs.YtojdjjbkpbapfaaW.PrintWords Go.Proofs.YtojdjjbkpbapfaaW.PrintLast Go.Proofs.YtojdjjbkpbapfaaW.PrintMore Go.Proofs.Ytojdjjbkpbapfaa.P Go.Proofs.Ytojdjjbkpbapfaa.H
set_option linter.unusedVariables false
set_option linter.unusedSimpArgs false
def Sh (nn nt : Nat) (m : List (List Bool)) : Prop := m.length = nn ∧ ∀ r ∈ m, r.length = nt + 1
theorem Sh.get {nn nt : Nat} {m : List (List Bool)} (h : Sh nn nt m) {i : Nat} (hi : i < nn) : (m.getD i []).length = nt + 1 := by
  have hi' : i < m.length := by rw [h.1]; exact hi
  rw [List.getD_eq_getElem?_getD, List.getElem?_eq_getElem hi']
  exact h.2 _ (List.getElem_mem hi')
theorem Sh.set {nn nt : Nat} {m : List (List Bool)} (h : Sh nn nt m) (i : Nat) {r : List Bool} (hr : r.length = nt + 1) : Sh nn nt (m.set i r) :=
  ⟨by rw [List.length_set]; exact h.1, fun r' hr' => by
    rcases List.mem_or_eq_of_mem_set hr' with h1 | rfl
    · exact h.2 _ h1
    · exact hr⟩
def bg (em : List Bool) (first : List (List Bool)) : List Sym → List Bool → List Bool × Bool
  | [], out => (out, true)
  | x :: l, out => if x.f0 = true then (out.set x.f1.toNat true, false) else
      if em.getD x.f1.toNat false = true then bg em first l (orL out (first.getD x.f1.toNat [])) else (orL out (first.getD x.f1.toNat []), false)
theorem bg_length (em : List Bool) {first : List (List Bool)} {nn nt : Nat} (hs : Sh nn nt first) : ∀ (l : List Sym) (out : List Bool), l.all (okSym nn nt) = true → out.length = nt + 1 → (bg em first l out).1.length = nt + 1
  | [], out, _, h => h
  | x :: l, out, hl, h => by
    simp only [List.all_cons, Bool.and_eq_true] at hl
    unfold bg
    split
    · simpa using h
    · rename_i hx
      have hn : x.f1.toNat < nn := by
        have := hl.1
        simp only [okSym, hx, if_neg, Bool.and_eq_true, decide_eq_true_eq] at this
        simp at this
        omega
      have ho : (orL out (first.getD x.f1.toNat [])).length = nt + 1 := by rw [orL_length (by rw [h, hs.get hn]), h]
      split
      · exact bg_length em hs l _ hl.2 ho
      · exact ho
theorem okSym_tok {nn nt : Nat} {x : Sym} (h : okSym nn nt x = true) (hx : x.f0 = true) : 0 ≤ x.f1 ∧ x.f1 < (nt : Int) := by
  simp only [okSym, hx, if_pos, Bool.and_eq_true, decide_eq_true_eq] at h; exact h
theorem okSym_rule {nn nt : Nat} {x : Sym} (h : okSym nn nt x = true) (hx : x.f0 = false) : 0 ≤ x.f1 ∧ x.f1 < (nn : Int) := by
  simp [okSym, hx] at h; exact h
theorem begins_l0_ev {nn nt : Nat} {em : List Bool} {first : List (List Bool)} (hs : Sh nn nt first) (he : em.length = nn) (hnt : nt ≤ 1000) : ∀ (l pre : List Sym) (out : List Bool), l.all (okSym nn nt) = true → out.length = nt + 1 → pre.length + l.length ≤ 1000000 → Ev (fun k => begins_l0 em first (pre ++ l) k out (pre.length : Int)) (bg em first l out)
  | [], pre, out, _, _, _ => Ev.step (fun k => by rw [begins_l0]) (Ev.neg (by simp) (Ev.some (by simp [bg])))
  | x :: l, pre, out, hl, ho, h3 => by
    simp only [List.all_cons, Bool.and_eq_true] at hl
    simp only [List.length_cons] at h3
    have ih := fun out ho => begins_l0_ev hs he hnt l (pre ++ [x]) out hl.2 ho (by simp; omega)
    simp only [← wrap_next pre _ (show pre.length ≤ 1000000 by omega), List.append_assoc, List.singleton_append] at ih
    have e : rd_T49 (pre ++ x :: l) (pre.length : Int) = x := getD_mid _ pre x l _ rfl
    refine Ev.step (fun k => by rw [begins_l0]) ?_
    rw [e]
    refine Ev.pos (by simp; omega) (Ev.pos (by omega) ?_)
    cases hx : x.f0 with
    | true =>
      have hb := okSym_tok hl.1 hx
      exact Ev.pos rfl (Ev.pos hb.1 (Ev.pos (by omega) (Ev.some (by simp [bg, hx]))))
    | false =>
      have hb := okSym_rule hl.1 hx
      have hr := hs.get (i := x.f1.toNat) (by omega)
      have hs1 := hs.1
      refine Ev.neg (by simp) (Ev.pos hb.1 (Ev.pos (by omega) (Ev.bind (add_ev out _ (by rw [ho, hr]) (by omega)) (Ev.pos (by omega) ?_))))
      have e2 : rdOf false em x.f1 = em.getD x.f1.toNat false := rfl
      rw [e2]
      cases hem : em.getD x.f1.toNat false with
      | true => exact Ev.pos rfl (Ev.val (ih _ (by rw [orL_length (by rw [ho, hr]), ho])) (by rw [bg, hx, if_neg (by simp), hem, if_pos rfl]))
      | false => exact Ev.neg (by simp) (Ev.some (by rw [bg, hx, if_neg (by simp), hem, if_neg (by simp)]))
def none0 (nt : Nat) : List Bool := List.replicate (nt + 1) false
theorem begins_ev {nn nt : Nat} {em : List Bool} {first : List (List Bool)} (hs : Sh nn nt first) (he : em.length = nn) (hnt : nt ≤ 1000) (l : List Sym) (hl : l.all (okSym nn nt) = true) (h3 : l.length ≤ 1000000) : Ev (fun k => begins_f k nt em first l) (bg em first l (none0 nt)) := by
  have h := begins_l0_ev hs he hnt l [] (List.replicate (nt + 1) false) hl (by simp) (by simpa using h3)
  exact Ev.congr (fun k => by rw [begins_f, if_pos (by omega)]) (by simpa [none0] using h)
theorem refBegins_l0_ev {nn nt : Nat} {em : List Bool} {first : List (List Bool)} (hs : Sh nn nt first) (he : em.length = nn) (hnt : nt ≤ 1000) : ∀ (l pre : List Sym) (out : List Bool), l.all (okSym nn nt) = true → out.length = nt + 1 → pre.length + l.length ≤ 1000000 → Ev (fun k => regletref13_begins.l0 k (pre ++ l) first em out (pre.length : Int)) (bg em first l out)
  | [], pre, out, _, _, _ => Ev.step (fun k => by rw [regletref13_begins.l0]) (Ev.neg (by simp) (Ev.some (by simp [bg])))
  | x :: l, pre, out, hl, ho, h3 => by
    simp only [List.all_cons, Bool.and_eq_true] at hl
    simp only [List.length_cons] at h3
    have ih := fun out ho => refBegins_l0_ev hs he hnt l (pre ++ [x]) out hl.2 ho (by simp; omega)
    simp only [← wrap_next pre _ (show pre.length ≤ 1000000 by omega), List.append_assoc, List.singleton_append] at ih
    have e : rd_T49 (pre ++ x :: l) (pre.length : Int) = x := getD_mid _ pre x l _ rfl
    refine Ev.step (fun k => by rw [regletref13_begins.l0]) ?_
    rw [e]
    refine Ev.pos (by simp; omega) (Ev.pos (by omega) ?_)
    cases hx : x.f0 with
    | true =>
      have hb := okSym_tok hl.1 hx
      exact Ev.pos rfl (Ev.pos hb.1 (Ev.pos (by omega) (Ev.some (by simp [bg, hx]))))
    | false =>
      have hb := okSym_rule hl.1 hx
      have hr := hs.get (i := x.f1.toNat) (by omega)
      have hs1 := hs.1
      refine Ev.neg (by simp) (Ev.pos hb.1 (Ev.pos (by omega) (Ev.bind (join_ev out (first.getD x.f1.toNat []) (by rw [ho, hr]) (by omega)) (Ev.pos (by omega) ?_))))
      have e2 : rdOf false em x.f1 = em.getD x.f1.toNat false := rfl
      rw [e2]
      cases hem : em.getD x.f1.toNat false with
      | true => exact Ev.pos rfl (Ev.val (ih _ (by rw [orL_length (by rw [ho, hr]), ho])) (by rw [bg, hx, if_neg (by simp), hem, if_pos rfl]))
      | false => exact Ev.neg (by simp) (Ev.some (by rw [bg, hx, if_neg (by simp), hem, if_neg (by simp)]))
theorem refBegins_ev {nn : Nat} (l0 : List ByteArray) (l1 : List Tok) (a2 a3 : Int) (l4 : List Prod) {em : List Bool} {first : List (List Bool)} (hs : Sh nn l1.length first) (he : em.length = nn) (hnt : l1.length ≤ 1000) (l : List Sym) (hl : l.all (okSym nn l1.length) = true) (h3 : l.length ≤ 1000000) : Ev (fun k => regletref13_begins.f k l0 l1 a2 a3 l4 l first em) (bg em first l (none0 l1.length)) := by
  have h := refBegins_l0_ev hs he hnt l [] (List.replicate (l1.length + 1) false) hl (by simp) (by simpa using h3)
  have e : wrap64 ((l1.length : Int) + 1) = ((l1.length + 1 : Nat) : Int) := by rw [wrap64_id (by omega) (by omega)]; simp
  refine Ev.congr (fun k => by rw [regletref13_begins.f, e, if_pos (by omega), if_pos (by omega), Int.toNat_natCast]) (by simpa [none0] using h)
def gIn {σ : Type} (stp : σ → Prod → Bool × σ) : List Prod → Bool → σ → Bool × σ
  | [], ag, st => (ag, st)
  | p :: ps, ag, st => gIn stp ps ((stp st p).1 || ag) (stp st p).2
def gOut {σ : Type} (stp : σ → Prod → Bool × σ) (ps : List Prod) : Nat → σ → σ
  | 0, st => (gIn stp ps false st).2
  | n + 1, st => if (gIn stp ps false st).1 = true then gOut stp ps n (gIn stp ps false st).2 else (gIn stp ps false st).2
def Good {σ : Type} (I : σ → Prop) (μ : σ → Nat) (stp : σ → Prod → Bool × σ) (ps : List Prod) : Prop :=
  ∀ st p, I st → p ∈ ps → I (stp st p).2 ∧ μ (stp st p).2 ≤ μ st ∧ ((stp st p).1 = true → μ (stp st p).2 < μ st)
theorem gIn_good {σ : Type} {I : σ → Prop} {μ : σ → Nat} {stp : σ → Prod → Bool × σ} : ∀ {ps : List Prod}, Good I μ stp ps → ∀ (ag : Bool) (st : σ), I st → I (gIn stp ps ag st).2 ∧ μ (gIn stp ps ag st).2 ≤ μ st ∧ ((gIn stp ps ag st).1 = true → ag = true ∨ μ (gIn stp ps ag st).2 < μ st)
  | [], _, ag, st, h => ⟨h, Nat.le_refl _, fun h => .inl h⟩
  | p :: ps, hg, ag, st, h => by
    obtain ⟨h1, h2, h3⟩ := hg st p h List.mem_cons_self
    obtain ⟨h4, h5, h6⟩ := gIn_good (fun st p hI hp => hg st p hI (List.mem_cons_of_mem _ hp)) ((stp st p).1 || ag) _ h1
    refine ⟨h4, Nat.le_trans h5 h2, fun h => ?_⟩
    rcases h6 h with h7 | h7
    · rcases (Bool.or_eq_true _ _).mp h7 with h8 | h8
      · exact .inr (Nat.lt_of_le_of_lt h5 (h3 h8))
      · exact .inl h8
    · exact .inr (Nat.lt_of_lt_of_le h7 h2)
theorem gOut_I {σ : Type} {I : σ → Prop} {μ : σ → Nat} {stp : σ → Prod → Bool × σ} {ps : List Prod} (hg : Good I μ stp ps) : ∀ (n : Nat) (st : σ), I st → I (gOut stp ps n st)
  | 0, st, h => (gIn_good hg false st h).1
  | n + 1, st, h => by
    unfold gOut
    split
    · exact gOut_I hg n _ (gIn_good hg false st h).1
    · exact (gIn_good hg false st h).1
theorem growIn_ev {σ : Type} {I : σ → Prop} {μ : σ → Nat} {stp : σ → Prod → Bool × σ} {f : Nat → σ → Prod → Option (Bool × σ)} : ∀ {ps : List Prod}, Good I μ stp ps → (∀ st p, I st → p ∈ ps → Ev (fun k => f k st p) (stp st p)) → ∀ (ag : Bool) (st : σ), I st → Ev (fun k => growIn (f k) ps ag st) (gIn stp ps ag st)
  | [], _, _, ag, st, _ => Ev.congr (fun k => by rw [growIn]) (Ev.some (by rw [gIn]))
  | p :: ps, hg, hf, ag, st, h => by
    refine Ev.congr (fun k => by rw [growIn]) (Ev.bind (hf st p h List.mem_cons_self) ?_)
    exact Ev.val (growIn_ev (fun st p hI hp => hg st p hI (List.mem_cons_of_mem _ hp)) (fun st p hI hp => hf st p hI (List.mem_cons_of_mem _ hp)) _ _ (hg st p h List.mem_cons_self).1) (by rw [gIn])
theorem out_ev {σ : Type} {I : σ → Prop} {μ : σ → Nat} {stp : σ → Prod → Bool × σ} {ps : List Prod} (hg : Good I μ stp ps) (g : Nat → Nat → σ → Option σ) (b : Nat → σ → Option (Bool × σ)) (hb : ∀ st, I st → Ev (fun k => b k st) (gIn stp ps false st))
    (hgs : ∀ kk k st, g kk (k + 1) st = (b kk st).bind fun r => if r.1 = true then g kk k r.2 else some r.2) : ∀ (n : Nat) (st : σ), I st → μ st ≤ n → ∃ K, ∀ kk, K ≤ kk → ∀ k, K ≤ k → g kk k st = some (gOut stp ps n st)
  | n, st, h, hn => by
    obtain ⟨K1, hK1⟩ := hb st h
    obtain ⟨h1, h2, h3⟩ := gIn_good hg false st h
    cases hr : (gIn stp ps false st).1 with
    | false =>
      refine ⟨K1 + 1, fun kk hkk k hk => ?_⟩
      obtain ⟨k', rfl⟩ : ∃ k', k = k' + 1 := ⟨k - 1, by omega⟩
      rw [hgs, show b kk st = _ from hK1 kk (by omega)]
      simp only [Option.bind_some, hr]
      cases n <;> simp [gOut, hr]
    | true =>
      have hlt : μ (gIn stp ps false st).2 < μ st := (h3 hr).resolve_left (by simp)
      cases n with
      | zero => omega
      | succ n =>
        obtain ⟨K2, hK2⟩ := out_ev hg g b hb hgs n _ h1 (by omega)
        refine ⟨max K1 K2 + 1, fun kk hkk k hk => ?_⟩
        obtain ⟨k', rfl⟩ : ∃ k', k = k' + 1 := ⟨k - 1, by omega⟩
        rw [hgs, show b kk st = _ from hK1 kk (by omega)]
        simp only [Option.bind_some, hr, if_true]
        rw [hK2 kk (by omega) k' (by omega), gOut, if_pos hr]
theorem growOut_ev {σ : Type} {I : σ → Prop} {μ : σ → Nat} {stp : σ → Prod → Bool × σ} {ps : List Prod} (hg : Good I μ stp ps) (f : Nat → σ → Prod → Option (Bool × σ)) (hf : ∀ st p, I st → p ∈ ps → Ev (fun k => f k st p) (stp st p)) (n : Nat) (st : σ) (h : I st) (hn : μ st ≤ n) : Ev (fun k => growOut (f k) ps k st) (gOut stp ps n st) := by
  obtain ⟨K, hK⟩ := out_ev hg (fun kk k st => growOut (f kk) ps k st) (fun kk st => growIn (f kk) ps false st) (fun st h => growIn_ev hg hf false st h) (fun kk k st => by rw [growOut]) n st h hn
  exact ⟨K, fun k hk => hK k hk k hk⟩
def cf : List Bool → Nat
  | [] => 0
  | x :: a => (if x = true then 0 else 1) + cf a
theorem cf_orL : ∀ (a b : List Bool), a.length = b.length → cf (orL a b) ≤ cf a ∧ (moreL a b = true → cf (orL a b) < cf a)
  | [], [], _ => by simp [orL, cf, moreL]
  | x :: a, y :: b, h => by
    obtain ⟨h1, h2⟩ := cf_orL a b (by simpa using h)
    have e : orL (x :: a) (y :: b) = (x || y) :: orL a b := rfl
    rw [e]
    cases x <;> cases y <;> simp [cf, moreL] <;> first | exact ⟨h1, h2⟩ | (refine ⟨by omega, fun h => ?_⟩; have := h2 h; omega) | omega
theorem cf_set : ∀ (a : List Bool) (i : Nat), i < a.length → a.getD i false = false → cf (a.set i true) < cf a
  | x :: a, 0, _, h => by
    have : x = false := by simpa using h
    subst this; simp [cf]
  | x :: a, i + 1, hi, h => by
    have := cf_set a i (by simpa using hi) (by simpa using h)
    simp only [List.set_cons_succ, cf]; omega
def cfs : List (List Bool) → Nat
  | [] => 0
  | r :: m => cf r + cfs m
theorem cfs_set : ∀ (m : List (List Bool)) (i : Nat) (r : List Bool), i < m.length → cf r ≤ cf (m.getD i []) → cfs (m.set i r) ≤ cfs m ∧ (cf r < cf (m.getD i []) → cfs (m.set i r) < cfs m)
  | x :: m, 0, r, _, h => by
    simp only [List.getD_cons_zero, List.set_cons_zero, cfs] at h ⊢
    omega
  | x :: m, i + 1, r, hi, h => by
    have := cfs_set m i r (by simpa using hi) (by simpa using h)
    simp only [List.getD_cons_succ, List.set_cons_succ, cfs] at h ⊢
    omega
end Go.Proofs.Ytojdjjbkpbapfaa.M
end
