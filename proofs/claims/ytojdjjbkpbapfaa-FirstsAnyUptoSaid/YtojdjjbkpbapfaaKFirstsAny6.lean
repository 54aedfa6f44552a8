/- Packed texts of this claim: the walks of the functions, and their plain laws; see the claim's last text. -/
import Derived.Laws.BitsLemmas
import Derived.Test.YtojdjjbkpbapfaaKFirstsAny5
section
namespace Go.Proofs.Ytojdjjbkpbapfaa.P
open Go.RowKit Go.Proofs.YtojdjjbkpbapfaaW.PrintWords Go.Proofs.YtojdjjbkpbapfaaW.PrintLast Go.Proofs.YtojdjjbkpbapfaaW.PrintMore
attribute [local go_sem] max2_int min2_int max_two min_two max_three min_three max_four min_four   -- for this text's walks alone
set_option linter.unusedVariables false
set_option linter.unusedSimpArgs false
def regletlaw13_same.f (k : Nat) (l0_0 : List ByteArray) (l0_1 : List (S62)) (a0_2 : Int) (a0_3 : Int) (l0_4 : List (S34)) (l1 : List (S49)) : Option (Bool) := (firsts_Of.f k l0_0 l0_1 a0_2 a0_3 l0_4 l1).bind fun bt317 => ((regletref13_Of.f k l0_0 l0_1 a0_2 a0_3 l0_4 l1).bind fun bt321 => ((firsts_Right.f l0_0 l0_1 a0_2 a0_3 l0_4).bind fun t325 => ((regletref13_Right.f k l0_0 l0_1 a0_2 a0_3 l0_4).bind fun t326 => (if (t325 == t326) = true then ((firsts_Empty.f k l0_0 l0_1 a0_2 a0_3 l0_4).bind fun t327 => ((regletref13_Empty.f k l0_0 l0_1 a0_2 a0_3 l0_4).bind fun t330 => ((regletref13_SameBools.f k t327 t330).bind fun t333 => (if t333 = true then ((firsts_Useful.f k l0_0 l0_1 a0_2 a0_3 l0_4).bind fun t334 => ((regletref13_Useful.f k l0_0 l0_1 a0_2 a0_3 l0_4).bind fun t337 => ((regletref13_SameBools.f k t334 t337).bind fun t340 => (if t340 = true then ((firsts_First.f k l0_0 l0_1 a0_2 a0_3 l0_4).bind fun t341 => ((regletref13_First.f k l0_0 l0_1 a0_2 a0_3 l0_4).bind fun t344 => ((regletref13_SameLists.f k t341 t344).bind fun t347 => (if t347 = true then ((firsts_Follow.f k l0_0 l0_1 a0_2 a0_3 l0_4).bind fun t348 => ((regletref13_Follow.f k l0_0 l0_1 a0_2 a0_3 l0_4).bind fun t351 => ((regletref13_SameLists.f k t348 t351).bind fun t354 => (if t354 = true then ((regletref13_SameInts.f k bt317.1 bt321.1).bind fun t355 => (if t355 = true then (some (bt317.2 == bt321.2)) else (none))) else (none))))) else (none))))) else (none))))) else (none))))) else (none)))))
theorem regletlaw13_same.mono : ∀ a0 a1 a2 a3 a4 a5 k, LeO (regletlaw13_same.f k a0 a1 a2 a3 a4 a5) (regletlaw13_same.f (k + 1) a0 a1 a2 a3 a4 a5) := by
  intro a0 a1 a2 a3 a4 a5 k
  unfold regletlaw13_same.f
  repeat' first
      | (with_reducible exact firsts_Empty.mono _ _ _ _ _ _)
      | (with_reducible exact firsts_First.mono _ _ _ _ _ _)
      | (with_reducible exact firsts_Follow.mono _ _ _ _ _ _)
      | (with_reducible exact firsts_Of.mono _ _ _ _ _ _ _)
      | (with_reducible exact firsts_Useful.mono _ _ _ _ _ _)
      | (with_reducible exact regletref13_Empty.mono _ _ _ _ _ _)
      | (with_reducible exact regletref13_First.mono _ _ _ _ _ _)
      | (with_reducible exact regletref13_Follow.mono _ _ _ _ _ _)
      | (with_reducible exact regletref13_Of.mono _ _ _ _ _ _ _)
      | (with_reducible exact regletref13_Right.mono _ _ _ _ _ _)
      | (with_reducible exact regletref13_SameBools.mono _ _ _)
      | (with_reducible exact regletref13_SameInts.mono _ _ _)
      | (with_reducible exact regletref13_SameLists.mono _ _ _)
      | (with_reducible exact regletref13_Useful.mono _ _ _ _ _ _)
      | (with_reducible exact LeO.refl _)
      | (with_reducible exact LeO.none _)
      | (with_reducible refine LeO.ite ?_ ?_)
      | (with_reducible refine LeO.bind ?_ (fun _ => ?_))
      | exact firsts_Empty.mono _ _ _ _ _ _
      | exact firsts_First.mono _ _ _ _ _ _
      | exact firsts_Follow.mono _ _ _ _ _ _
      | exact firsts_Of.mono _ _ _ _ _ _ _
      | exact firsts_Useful.mono _ _ _ _ _ _
      | exact regletref13_Empty.mono _ _ _ _ _ _
      | exact regletref13_First.mono _ _ _ _ _ _
      | exact regletref13_Follow.mono _ _ _ _ _ _
      | exact regletref13_Of.mono _ _ _ _ _ _ _
      | exact regletref13_Right.mono _ _ _ _ _ _
      | exact regletref13_SameBools.mono _ _ _
      | exact regletref13_SameInts.mono _ _ _
      | exact regletref13_SameLists.mono _ _ _
      | exact regletref13_Useful.mono _ _ _ _ _ _
      | exact LeO.none _
      | refine LeO.ite ?_ ?_
      | refine LeO.bind ?_ (fun _ => ?_)
def regletlaw13_same.T3 : Bool × List (List Nat × List Nat) := (true, [([], []), ([0], [0]), ([], []), ([2, 1], [2]), ([1, 3], [1, 3]), ([4, 3], [4]), ([5], [5]), ([6, 5, 5], [5, 6]), ([5], [5]), ([8, 7, 5], [5, 8]), ([7, 9, 9, 5], [5, 7, 9]), ([5, 10], [5, 10]), ([11, 10], [11]), ([12], [12]), ([13, 12, 12], [12, 13]), ([12], [12]), ([15, 14, 12], [12, 15]), ([14, 16, 16, 12], [12, 14, 16]), ([12, 17], [12, 17]), ([18, 17], [18]), ([19], [19]), ([20, 19, 19], [19, 20]), ([19], [19]), ([22, 21, 19], [19, 22]), ([21, 23, 23, 19], [19, 21, 23]), ([19, 24], [19, 24]), ([25, 24], [25]), ([26], [26]), ([27, 26, 26], [26, 27]), ([26], [26]), ([29, 28, 26], [26, 29]), ([28, 30, 30, 26], [26, 28, 30]), ([26, 31], [26, 31]), ([32, 31], [32]), ([33], [33]), ([33], [33]), ([34, 35, 33, 33], [33, 34, 35]), ([33, 36], [33, 36]), ([37, 36], [37]), ([38], [38]), ([38], [38]), ([39, 40, 38], [38, 39, 40]), ([38, 41], [38, 41]), ([42, 38, 0, 1, 2, 3, 4, 5, 6, 7, 8, 9, 10, 11, 12, 13, 14, 15, 16, 17, 18, 19, 20, 21, 22, 23, 24, 25, 26, 27, 28, 29, 30, 31, 32, 33, 34, 35, 36, 37, 38, 39, 40, 41, 42], [42])])
def regletlaw13_same.B3 : List Nat := [0, 1, 0, 7, 15, 31, 63, 127, 63, 511, 1023, 2047, 4095, 8191, 16383, 8191, 65535, 131071, 262143, 524287, 1048575, 2097151, 1048575, 8388607, 16777215, 33554431, 67108863, 134217727, 268435455, 134217727, 1073741823, 2147483647, 4294967295, 8589934591, 17179869183, 17179869183, 68719476735, 137438953471, 274877906943, 549755813887, 549755813887, 2199023255551, 4398046511103, 8796093022207]
theorem regletlaw13_same.tab3 : rtab .any (opsOf Try.f11 3) = regletlaw13_same.T3 := by kernel_rfl
theorem regletlaw13_same.bits3 : waitsOk regletlaw13_same.T3.2 regletlaw13_same.B3 = true := by kernel_rfl
set_option maxHeartbeats 8000000 in
set_option maxRecDepth 100000 in
theorem regletlaw13_same.calls (k : Nat) (A0_0 : Option Addr) (c0_0 : Nat) (l0_0 : List ByteArray) (A0_1 : Option Addr) (c0_1 : Nat) (l0_1 : List (S62)) (a0_2 : Int) (a0_3 : Int) (A0_4 : Option Addr) (c0_4 : Nat) (l0_4 : List (S34)) (A1 : Option Addr) (c1 : Nat) (l1 : List (S49)) (r : Bool) (w : World) (hr0_0 : Kd.C Kd.string w A0_0 l0_0.length l0_0) (hc0_0 : l0_0.length ≤ c0_0) (hr0_1 : Kd.C k62 w A0_1 l0_1.length l0_1) (hc0_1 : l0_1.length ≤ c0_1) (hr0_4 : Kd.C k34 w A0_4 l0_4.length l0_4) (hc0_4 : l0_4.length ≤ c0_4) (hr1 : Kd.C k49 w A1 l1.length l1) (hc1 : l1.length ≤ c1) (h : regletlaw13_same.f k l0_0 l0_1 a0_2 a0_3 l0_4 l1 = some r) :
    Calls Try.prog 11 #[.agg #[.slice A0_0 l0_0.length c0_0, .slice A0_1 l0_1.length c0_1, .int .i64 a0_2, .int .i64 a0_3, .slice A0_4 l0_4.length c0_4], .slice A1 l1.length c1] w fun e w' => e = .returned (.bool r) ∧ Below w.heap.size w w' := by
  have hu26 := Try.underlying26
  have HR0_0 := Aside0.mk hr0_0
  have HC0_0 := Aside0.mk hc0_0
  clear hr0_0 hc0_0
  have HR0_1 := Aside0.mk hr0_1
  have HC0_1 := Aside0.mk hc0_1
  clear hr0_1 hc0_1
  have HR0_4 := Aside0.mk hr0_4
  have HC0_4 := Aside0.mk hc0_4
  clear hr0_4 hc0_4
  have HR1 := Aside0.mk hr1
  have HC1 := Aside0.mk hc1
  clear hr1 hc1
  have HB := Aside0.mk (Below.refl w.heap.size w)
  have H : ((firsts_Of.f k l0_0 l0_1 a0_2 a0_3 l0_4 l1).bind fun bt317 => ((regletref13_Of.f k l0_0 l0_1 a0_2 a0_3 l0_4 l1).bind fun bt321 => ((firsts_Right.f l0_0 l0_1 a0_2 a0_3 l0_4).bind fun t325 => ((regletref13_Right.f k l0_0 l0_1 a0_2 a0_3 l0_4).bind fun t326 => (if (t325 == t326) = true then ((firsts_Empty.f k l0_0 l0_1 a0_2 a0_3 l0_4).bind fun t327 => ((regletref13_Empty.f k l0_0 l0_1 a0_2 a0_3 l0_4).bind fun t330 => ((regletref13_SameBools.f k t327 t330).bind fun t333 => (if t333 = true then ((firsts_Useful.f k l0_0 l0_1 a0_2 a0_3 l0_4).bind fun t334 => ((regletref13_Useful.f k l0_0 l0_1 a0_2 a0_3 l0_4).bind fun t337 => ((regletref13_SameBools.f k t334 t337).bind fun t340 => (if t340 = true then ((firsts_First.f k l0_0 l0_1 a0_2 a0_3 l0_4).bind fun t341 => ((regletref13_First.f k l0_0 l0_1 a0_2 a0_3 l0_4).bind fun t344 => ((regletref13_SameLists.f k t341 t344).bind fun t347 => (if t347 = true then ((firsts_Follow.f k l0_0 l0_1 a0_2 a0_3 l0_4).bind fun t348 => ((regletref13_Follow.f k l0_0 l0_1 a0_2 a0_3 l0_4).bind fun t351 => ((regletref13_SameLists.f k t348 t351).bind fun t354 => (if t354 = true then ((regletref13_SameInts.f k bt317.1 bt321.1).bind fun t355 => (if t355 = true then (some (bt317.2 == bt321.2)) else (none))) else (none))))) else (none))))) else (none))))) else (none))))) else (none)))))) = some r := h
  clear h
  replace H := Option.bind_eq_some_iff.mp H
  obtain ⟨⟨t317, t320⟩, A30, H⟩ := H
  replace H : ((regletref13_Of.f k l0_0 l0_1 a0_2 a0_3 l0_4 l1).bind fun bt321 => ((firsts_Right.f l0_0 l0_1 a0_2 a0_3 l0_4).bind fun t325 => ((regletref13_Right.f k l0_0 l0_1 a0_2 a0_3 l0_4).bind fun t326 => (if (t325 == t326) = true then ((firsts_Empty.f k l0_0 l0_1 a0_2 a0_3 l0_4).bind fun t327 => ((regletref13_Empty.f k l0_0 l0_1 a0_2 a0_3 l0_4).bind fun t330 => ((regletref13_SameBools.f k t327 t330).bind fun t333 => (if t333 = true then ((firsts_Useful.f k l0_0 l0_1 a0_2 a0_3 l0_4).bind fun t334 => ((regletref13_Useful.f k l0_0 l0_1 a0_2 a0_3 l0_4).bind fun t337 => ((regletref13_SameBools.f k t334 t337).bind fun t340 => (if t340 = true then ((firsts_First.f k l0_0 l0_1 a0_2 a0_3 l0_4).bind fun t341 => ((regletref13_First.f k l0_0 l0_1 a0_2 a0_3 l0_4).bind fun t344 => ((regletref13_SameLists.f k t341 t344).bind fun t347 => (if t347 = true then ((firsts_Follow.f k l0_0 l0_1 a0_2 a0_3 l0_4).bind fun t348 => ((regletref13_Follow.f k l0_0 l0_1 a0_2 a0_3 l0_4).bind fun t351 => ((regletref13_SameLists.f k t348 t351).bind fun t354 => (if t354 = true then ((regletref13_SameInts.f k t317 bt321.1).bind fun t355 => (if t355 = true then (some (t320 == bt321.2)) else (none))) else (none))))) else (none))))) else (none))))) else (none))))) else (none))))) = some r := H
  have A3 := Aside0.mk A30
  clear A30
  replace H := Option.bind_eq_some_iff.mp H
  obtain ⟨⟨t321, t324⟩, A40, H⟩ := H
  replace H : ((firsts_Right.f l0_0 l0_1 a0_2 a0_3 l0_4).bind fun t325 => ((regletref13_Right.f k l0_0 l0_1 a0_2 a0_3 l0_4).bind fun t326 => (if (t325 == t326) = true then ((firsts_Empty.f k l0_0 l0_1 a0_2 a0_3 l0_4).bind fun t327 => ((regletref13_Empty.f k l0_0 l0_1 a0_2 a0_3 l0_4).bind fun t330 => ((regletref13_SameBools.f k t327 t330).bind fun t333 => (if t333 = true then ((firsts_Useful.f k l0_0 l0_1 a0_2 a0_3 l0_4).bind fun t334 => ((regletref13_Useful.f k l0_0 l0_1 a0_2 a0_3 l0_4).bind fun t337 => ((regletref13_SameBools.f k t334 t337).bind fun t340 => (if t340 = true then ((firsts_First.f k l0_0 l0_1 a0_2 a0_3 l0_4).bind fun t341 => ((regletref13_First.f k l0_0 l0_1 a0_2 a0_3 l0_4).bind fun t344 => ((regletref13_SameLists.f k t341 t344).bind fun t347 => (if t347 = true then ((firsts_Follow.f k l0_0 l0_1 a0_2 a0_3 l0_4).bind fun t348 => ((regletref13_Follow.f k l0_0 l0_1 a0_2 a0_3 l0_4).bind fun t351 => ((regletref13_SameLists.f k t348 t351).bind fun t354 => (if t354 = true then ((regletref13_SameInts.f k t317 t321).bind fun t355 => (if t355 = true then (some (t320 == t324)) else (none))) else (none))))) else (none))))) else (none))))) else (none))))) else (none)))) = some r := H
  have A4 := Aside0.mk A40
  clear A40
  replace H := Option.bind_eq_some_iff.mp H
  obtain ⟨t325, A50, H⟩ := H
  replace H : ((regletref13_Right.f k l0_0 l0_1 a0_2 a0_3 l0_4).bind fun t326 => (if (t325 == t326) = true then ((firsts_Empty.f k l0_0 l0_1 a0_2 a0_3 l0_4).bind fun t327 => ((regletref13_Empty.f k l0_0 l0_1 a0_2 a0_3 l0_4).bind fun t330 => ((regletref13_SameBools.f k t327 t330).bind fun t333 => (if t333 = true then ((firsts_Useful.f k l0_0 l0_1 a0_2 a0_3 l0_4).bind fun t334 => ((regletref13_Useful.f k l0_0 l0_1 a0_2 a0_3 l0_4).bind fun t337 => ((regletref13_SameBools.f k t334 t337).bind fun t340 => (if t340 = true then ((firsts_First.f k l0_0 l0_1 a0_2 a0_3 l0_4).bind fun t341 => ((regletref13_First.f k l0_0 l0_1 a0_2 a0_3 l0_4).bind fun t344 => ((regletref13_SameLists.f k t341 t344).bind fun t347 => (if t347 = true then ((firsts_Follow.f k l0_0 l0_1 a0_2 a0_3 l0_4).bind fun t348 => ((regletref13_Follow.f k l0_0 l0_1 a0_2 a0_3 l0_4).bind fun t351 => ((regletref13_SameLists.f k t348 t351).bind fun t354 => (if t354 = true then ((regletref13_SameInts.f k t317 t321).bind fun t355 => (if t355 = true then (some (t320 == t324)) else (none))) else (none))))) else (none))))) else (none))))) else (none))))) else (none))) = some r := H
  have A5 := Aside0.mk A50
  clear A50
  replace H := Option.bind_eq_some_iff.mp H
  obtain ⟨t326, A60, H⟩ := H
  replace H : (if (t325 == t326) = true then ((firsts_Empty.f k l0_0 l0_1 a0_2 a0_3 l0_4).bind fun t327 => ((regletref13_Empty.f k l0_0 l0_1 a0_2 a0_3 l0_4).bind fun t330 => ((regletref13_SameBools.f k t327 t330).bind fun t333 => (if t333 = true then ((firsts_Useful.f k l0_0 l0_1 a0_2 a0_3 l0_4).bind fun t334 => ((regletref13_Useful.f k l0_0 l0_1 a0_2 a0_3 l0_4).bind fun t337 => ((regletref13_SameBools.f k t334 t337).bind fun t340 => (if t340 = true then ((firsts_First.f k l0_0 l0_1 a0_2 a0_3 l0_4).bind fun t341 => ((regletref13_First.f k l0_0 l0_1 a0_2 a0_3 l0_4).bind fun t344 => ((regletref13_SameLists.f k t341 t344).bind fun t347 => (if t347 = true then ((firsts_Follow.f k l0_0 l0_1 a0_2 a0_3 l0_4).bind fun t348 => ((regletref13_Follow.f k l0_0 l0_1 a0_2 a0_3 l0_4).bind fun t351 => ((regletref13_SameLists.f k t348 t351).bind fun t354 => (if t354 = true then ((regletref13_SameInts.f k t317 t321).bind fun t355 => (if t355 = true then (some (t320 == t324)) else (none))) else (none))))) else (none))))) else (none))))) else (none))))) else (none)) = some r := H
  have A6 := Aside0.mk A60
  clear A60
  by_cases c7 : (t325 == t326) = true
  · rw [if_pos c7] at H
    have c7b0 : (t325 == t326) = true := c7
    (try (have c7b1 : decide (t325 = t326) = true := by simpa using c7))
    (try (have c7b2 : (t325 == t326) = true := by simpa using c7))
    clear c7
    replace H := Option.bind_eq_some_iff.mp H
    obtain ⟨t327, A80, H⟩ := H
    replace H : ((regletref13_Empty.f k l0_0 l0_1 a0_2 a0_3 l0_4).bind fun t330 => ((regletref13_SameBools.f k t327 t330).bind fun t333 => (if t333 = true then ((firsts_Useful.f k l0_0 l0_1 a0_2 a0_3 l0_4).bind fun t334 => ((regletref13_Useful.f k l0_0 l0_1 a0_2 a0_3 l0_4).bind fun t337 => ((regletref13_SameBools.f k t334 t337).bind fun t340 => (if t340 = true then ((firsts_First.f k l0_0 l0_1 a0_2 a0_3 l0_4).bind fun t341 => ((regletref13_First.f k l0_0 l0_1 a0_2 a0_3 l0_4).bind fun t344 => ((regletref13_SameLists.f k t341 t344).bind fun t347 => (if t347 = true then ((firsts_Follow.f k l0_0 l0_1 a0_2 a0_3 l0_4).bind fun t348 => ((regletref13_Follow.f k l0_0 l0_1 a0_2 a0_3 l0_4).bind fun t351 => ((regletref13_SameLists.f k t348 t351).bind fun t354 => (if t354 = true then ((regletref13_SameInts.f k t317 t321).bind fun t355 => (if t355 = true then (some (t320 == t324)) else (none))) else (none))))) else (none))))) else (none))))) else (none)))) = some r := H
    have A8 := Aside0.mk A80
    clear A80
    replace H := Option.bind_eq_some_iff.mp H
    obtain ⟨t330, A90, H⟩ := H
    replace H : ((regletref13_SameBools.f k t327 t330).bind fun t333 => (if t333 = true then ((firsts_Useful.f k l0_0 l0_1 a0_2 a0_3 l0_4).bind fun t334 => ((regletref13_Useful.f k l0_0 l0_1 a0_2 a0_3 l0_4).bind fun t337 => ((regletref13_SameBools.f k t334 t337).bind fun t340 => (if t340 = true then ((firsts_First.f k l0_0 l0_1 a0_2 a0_3 l0_4).bind fun t341 => ((regletref13_First.f k l0_0 l0_1 a0_2 a0_3 l0_4).bind fun t344 => ((regletref13_SameLists.f k t341 t344).bind fun t347 => (if t347 = true then ((firsts_Follow.f k l0_0 l0_1 a0_2 a0_3 l0_4).bind fun t348 => ((regletref13_Follow.f k l0_0 l0_1 a0_2 a0_3 l0_4).bind fun t351 => ((regletref13_SameLists.f k t348 t351).bind fun t354 => (if t354 = true then ((regletref13_SameInts.f k t317 t321).bind fun t355 => (if t355 = true then (some (t320 == t324)) else (none))) else (none))))) else (none))))) else (none))))) else (none))) = some r := H
    have A9 := Aside0.mk A90
    clear A90
    replace H := Option.bind_eq_some_iff.mp H
    obtain ⟨t333, A100, H⟩ := H
    replace H : (if t333 = true then ((firsts_Useful.f k l0_0 l0_1 a0_2 a0_3 l0_4).bind fun t334 => ((regletref13_Useful.f k l0_0 l0_1 a0_2 a0_3 l0_4).bind fun t337 => ((regletref13_SameBools.f k t334 t337).bind fun t340 => (if t340 = true then ((firsts_First.f k l0_0 l0_1 a0_2 a0_3 l0_4).bind fun t341 => ((regletref13_First.f k l0_0 l0_1 a0_2 a0_3 l0_4).bind fun t344 => ((regletref13_SameLists.f k t341 t344).bind fun t347 => (if t347 = true then ((firsts_Follow.f k l0_0 l0_1 a0_2 a0_3 l0_4).bind fun t348 => ((regletref13_Follow.f k l0_0 l0_1 a0_2 a0_3 l0_4).bind fun t351 => ((regletref13_SameLists.f k t348 t351).bind fun t354 => (if t354 = true then ((regletref13_SameInts.f k t317 t321).bind fun t355 => (if t355 = true then (some (t320 == t324)) else (none))) else (none))))) else (none))))) else (none))))) else (none)) = some r := H
    have A10 := Aside0.mk A100
    clear A100
    by_cases c11 : t333 = true
    · subst c11
      have H1 : ((firsts_Useful.f k l0_0 l0_1 a0_2 a0_3 l0_4).bind fun t334 => ((regletref13_Useful.f k l0_0 l0_1 a0_2 a0_3 l0_4).bind fun t337 => ((regletref13_SameBools.f k t334 t337).bind fun t340 => (if t340 = true then ((firsts_First.f k l0_0 l0_1 a0_2 a0_3 l0_4).bind fun t341 => ((regletref13_First.f k l0_0 l0_1 a0_2 a0_3 l0_4).bind fun t344 => ((regletref13_SameLists.f k t341 t344).bind fun t347 => (if t347 = true then ((firsts_Follow.f k l0_0 l0_1 a0_2 a0_3 l0_4).bind fun t348 => ((regletref13_Follow.f k l0_0 l0_1 a0_2 a0_3 l0_4).bind fun t351 => ((regletref13_SameLists.f k t348 t351).bind fun t354 => (if t354 = true then ((regletref13_SameInts.f k t317 t321).bind fun t355 => (if t355 = true then (some (t320 == t324)) else (none))) else (none))))) else (none))))) else (none))))) = some r := by rw [if_pos rfl] at H; exact H
      clear H
      have H := H1
      clear H1
      replace H := Option.bind_eq_some_iff.mp H
      obtain ⟨t334, A120, H⟩ := H
      replace H : ((regletref13_Useful.f k l0_0 l0_1 a0_2 a0_3 l0_4).bind fun t337 => ((regletref13_SameBools.f k t334 t337).bind fun t340 => (if t340 = true then ((firsts_First.f k l0_0 l0_1 a0_2 a0_3 l0_4).bind fun t341 => ((regletref13_First.f k l0_0 l0_1 a0_2 a0_3 l0_4).bind fun t344 => ((regletref13_SameLists.f k t341 t344).bind fun t347 => (if t347 = true then ((firsts_Follow.f k l0_0 l0_1 a0_2 a0_3 l0_4).bind fun t348 => ((regletref13_Follow.f k l0_0 l0_1 a0_2 a0_3 l0_4).bind fun t351 => ((regletref13_SameLists.f k t348 t351).bind fun t354 => (if t354 = true then ((regletref13_SameInts.f k t317 t321).bind fun t355 => (if t355 = true then (some (t320 == t324)) else (none))) else (none))))) else (none))))) else (none)))) = some r := H
      have A12 := Aside0.mk A120
      clear A120
      replace H := Option.bind_eq_some_iff.mp H
      obtain ⟨t337, A130, H⟩ := H
      replace H : ((regletref13_SameBools.f k t334 t337).bind fun t340 => (if t340 = true then ((firsts_First.f k l0_0 l0_1 a0_2 a0_3 l0_4).bind fun t341 => ((regletref13_First.f k l0_0 l0_1 a0_2 a0_3 l0_4).bind fun t344 => ((regletref13_SameLists.f k t341 t344).bind fun t347 => (if t347 = true then ((firsts_Follow.f k l0_0 l0_1 a0_2 a0_3 l0_4).bind fun t348 => ((regletref13_Follow.f k l0_0 l0_1 a0_2 a0_3 l0_4).bind fun t351 => ((regletref13_SameLists.f k t348 t351).bind fun t354 => (if t354 = true then ((regletref13_SameInts.f k t317 t321).bind fun t355 => (if t355 = true then (some (t320 == t324)) else (none))) else (none))))) else (none))))) else (none))) = some r := H
      have A13 := Aside0.mk A130
      clear A130
      replace H := Option.bind_eq_some_iff.mp H
      obtain ⟨t340, A140, H⟩ := H
      replace H : (if t340 = true then ((firsts_First.f k l0_0 l0_1 a0_2 a0_3 l0_4).bind fun t341 => ((regletref13_First.f k l0_0 l0_1 a0_2 a0_3 l0_4).bind fun t344 => ((regletref13_SameLists.f k t341 t344).bind fun t347 => (if t347 = true then ((firsts_Follow.f k l0_0 l0_1 a0_2 a0_3 l0_4).bind fun t348 => ((regletref13_Follow.f k l0_0 l0_1 a0_2 a0_3 l0_4).bind fun t351 => ((regletref13_SameLists.f k t348 t351).bind fun t354 => (if t354 = true then ((regletref13_SameInts.f k t317 t321).bind fun t355 => (if t355 = true then (some (t320 == t324)) else (none))) else (none))))) else (none))))) else (none)) = some r := H
      have A14 := Aside0.mk A140
      clear A140
      by_cases c15 : t340 = true
      · subst c15
        have H1 : ((firsts_First.f k l0_0 l0_1 a0_2 a0_3 l0_4).bind fun t341 => ((regletref13_First.f k l0_0 l0_1 a0_2 a0_3 l0_4).bind fun t344 => ((regletref13_SameLists.f k t341 t344).bind fun t347 => (if t347 = true then ((firsts_Follow.f k l0_0 l0_1 a0_2 a0_3 l0_4).bind fun t348 => ((regletref13_Follow.f k l0_0 l0_1 a0_2 a0_3 l0_4).bind fun t351 => ((regletref13_SameLists.f k t348 t351).bind fun t354 => (if t354 = true then ((regletref13_SameInts.f k t317 t321).bind fun t355 => (if t355 = true then (some (t320 == t324)) else (none))) else (none))))) else (none))))) = some r := by rw [if_pos rfl] at H; exact H
        clear H
        have H := H1
        clear H1
        replace H := Option.bind_eq_some_iff.mp H
        obtain ⟨t341, A160, H⟩ := H
        replace H : ((regletref13_First.f k l0_0 l0_1 a0_2 a0_3 l0_4).bind fun t344 => ((regletref13_SameLists.f k t341 t344).bind fun t347 => (if t347 = true then ((firsts_Follow.f k l0_0 l0_1 a0_2 a0_3 l0_4).bind fun t348 => ((regletref13_Follow.f k l0_0 l0_1 a0_2 a0_3 l0_4).bind fun t351 => ((regletref13_SameLists.f k t348 t351).bind fun t354 => (if t354 = true then ((regletref13_SameInts.f k t317 t321).bind fun t355 => (if t355 = true then (some (t320 == t324)) else (none))) else (none))))) else (none)))) = some r := H
        have A16 := Aside0.mk A160
        clear A160
        replace H := Option.bind_eq_some_iff.mp H
        obtain ⟨t344, A170, H⟩ := H
        replace H : ((regletref13_SameLists.f k t341 t344).bind fun t347 => (if t347 = true then ((firsts_Follow.f k l0_0 l0_1 a0_2 a0_3 l0_4).bind fun t348 => ((regletref13_Follow.f k l0_0 l0_1 a0_2 a0_3 l0_4).bind fun t351 => ((regletref13_SameLists.f k t348 t351).bind fun t354 => (if t354 = true then ((regletref13_SameInts.f k t317 t321).bind fun t355 => (if t355 = true then (some (t320 == t324)) else (none))) else (none))))) else (none))) = some r := H
        have A17 := Aside0.mk A170
        clear A170
        replace H := Option.bind_eq_some_iff.mp H
        obtain ⟨t347, A180, H⟩ := H
        replace H : (if t347 = true then ((firsts_Follow.f k l0_0 l0_1 a0_2 a0_3 l0_4).bind fun t348 => ((regletref13_Follow.f k l0_0 l0_1 a0_2 a0_3 l0_4).bind fun t351 => ((regletref13_SameLists.f k t348 t351).bind fun t354 => (if t354 = true then ((regletref13_SameInts.f k t317 t321).bind fun t355 => (if t355 = true then (some (t320 == t324)) else (none))) else (none))))) else (none)) = some r := H
        have A18 := Aside0.mk A180
        clear A180
        by_cases c19 : t347 = true
        · subst c19
          have H1 : ((firsts_Follow.f k l0_0 l0_1 a0_2 a0_3 l0_4).bind fun t348 => ((regletref13_Follow.f k l0_0 l0_1 a0_2 a0_3 l0_4).bind fun t351 => ((regletref13_SameLists.f k t348 t351).bind fun t354 => (if t354 = true then ((regletref13_SameInts.f k t317 t321).bind fun t355 => (if t355 = true then (some (t320 == t324)) else (none))) else (none))))) = some r := by rw [if_pos rfl] at H; exact H
          clear H
          have H := H1
          clear H1
          replace H := Option.bind_eq_some_iff.mp H
          obtain ⟨t348, A200, H⟩ := H
          replace H : ((regletref13_Follow.f k l0_0 l0_1 a0_2 a0_3 l0_4).bind fun t351 => ((regletref13_SameLists.f k t348 t351).bind fun t354 => (if t354 = true then ((regletref13_SameInts.f k t317 t321).bind fun t355 => (if t355 = true then (some (t320 == t324)) else (none))) else (none)))) = some r := H
          have A20 := Aside0.mk A200
          clear A200
          replace H := Option.bind_eq_some_iff.mp H
          obtain ⟨t351, A210, H⟩ := H
          replace H : ((regletref13_SameLists.f k t348 t351).bind fun t354 => (if t354 = true then ((regletref13_SameInts.f k t317 t321).bind fun t355 => (if t355 = true then (some (t320 == t324)) else (none))) else (none))) = some r := H
          have A21 := Aside0.mk A210
          clear A210
          replace H := Option.bind_eq_some_iff.mp H
          obtain ⟨t354, A220, H⟩ := H
          replace H : (if t354 = true then ((regletref13_SameInts.f k t317 t321).bind fun t355 => (if t355 = true then (some (t320 == t324)) else (none))) else (none)) = some r := H
          have A22 := Aside0.mk A220
          clear A220
          by_cases c23 : t354 = true
          · subst c23
            have H1 : ((regletref13_SameInts.f k t317 t321).bind fun t355 => (if t355 = true then (some (t320 == t324)) else (none))) = some r := by rw [if_pos rfl] at H; exact H
            clear H
            have H := H1
            clear H1
            replace H := Option.bind_eq_some_iff.mp H
            obtain ⟨t355, A240, H⟩ := H
            replace H : (if t355 = true then (some (t320 == t324)) else (none)) = some r := H
            have A24 := Aside0.mk A240
            clear A240
            by_cases c25 : t355 = true
            · subst c25
              have H1 : (some (t320 == t324)) = some r := by rw [if_pos rfl] at H; exact H
              clear H
              have H := H1
              clear H1
              obtain rfl := Option.some.inj H
              go_enter Try.func11, Try.ntmps11
              try go_wp2_with (first | ((with_reducible refine gate_dst (N := 2) rfl ?_); refine box_event ?hg (N := 2) ?hd (cs := #[.slice A0_0 l0_0.length c0_0, .slice A0_1 l0_1.length c0_1, .int .i64 a0_2, .int .i64 a0_3, .slice A0_4 l0_4.length c0_4]) (t := 26) ?hr ?_; (case hd => rfl); (case hg => rfl); (case hr => first | (go_simp; done) | (go_simp; rfl)); intro gb316 hg w26 hbox hb; have n0_ := Aside0.mk (below_step (by repeat (first | (with_reducible first | exact HB.out | apply below_alloc | apply pw_below_drewN | apply below_drew1) | exact HB.out)) hb); have n1_ := Aside0.mk (hbox); have n2_ := Aside0.mk ((by rw [hg]; exact (below_size (by repeat (first | (with_reducible first | exact HB.out | apply below_alloc | apply pw_below_drewN | apply below_drew1) | exact HB.out))) : w.heap.size ≤ gb316)); have n3_ := Aside0.mk ((by rw [hg]; exact (below_size (by repeat (first | (with_reducible first | exact HB.out | apply below_alloc | apply pw_below_drewN | apply below_drew1) | exact HB.out))) : w.heap.size ≤ gb316)); clear HB; have HB := n0_; have BK316 := n1_; have GW316 := n2_; have GE316 := n3_; clear n0_ n1_ n2_ n3_; clear hb hbox hg; have hcz27_0 : w26.cell? ⟨gb316, 0, none⟩ = some (.slice A0_0 l0_0.length c0_0) := (blk_cell BK316.out 0).trans rfl; have hcz27_1 : w26.cell? ⟨gb316, 1, none⟩ = some (.slice A0_1 l0_1.length c0_1) := (blk_cell BK316.out 1).trans rfl; have hcz27_2 : w26.cell? ⟨gb316, 2, none⟩ = some (.int .i64 a0_2) := (blk_cell BK316.out 2).trans rfl; have hcz27_3 : w26.cell? ⟨gb316, 3, none⟩ = some (.int .i64 a0_3) := (blk_cell BK316.out 3).trans rfl; have hcz27_4 : w26.cell? ⟨gb316, 4, none⟩ = some (.slice A0_4 l0_4.length c0_4) := (blk_cell BK316.out 4).trans rfl; have hfz27_0 := blk_frozen BK316.out 0; have hfz27_1 := blk_frozen BK316.out 1; have hfz27_2 := blk_frozen BK316.out 2; have hfz27_3 := blk_frozen BK316.out 3; have hfz27_4 := blk_frozen BK316.out 4) | ((with_reducible refine gate_callee (f := 21) rfl ?_); refine goesL_ (some 12) rfl rfl Try.func21 (by kernel_rfl) rfl #[.agg #[.slice A0_0 l0_0.length c0_0, .slice A0_1 l0_1.length c0_1, .int .i64 a0_2, .int .i64 a0_3, .slice A0_4 l0_4.length c0_4], .slice A1 l1.length c1] rfl (by (try simp only [List.map_toArray, List.map_cons, List.map_nil]); first | done | rfl | (simp only [List.length_drop, List.length_take]; rfl)) ?_; (with_reducible refine (firsts_Of.calls k _ _ l0_0 _ _ l0_1 a0_2 a0_3 _ _ l0_4 _ _ l1 t317 t320 _ ?side1 ?side2 ?side3 ?side4 ?side5 ?side6 ?side7 ?side8 A3.out).mono ?_); (case side1 => repeat (first | exact (Kd.C_below HR0_0.out HB.out) | (with_reducible refine Kd.C_alloc ?_ _) | (with_reducible refine Kd.C_drewN ?_ _) | (with_reducible refine Kd.C_drew ?_))); (case side2 => exact HC0_0.out); (case side3 => repeat (first | exact (Kd.C_below HR0_1.out HB.out) | (with_reducible refine Kd.C_alloc ?_ _) | (with_reducible refine Kd.C_drewN ?_ _) | (with_reducible refine Kd.C_drew ?_))); (case side4 => exact HC0_1.out); (case side5 => repeat (first | exact (Kd.C_below HR0_4.out HB.out) | (with_reducible refine Kd.C_alloc ?_ _) | (with_reducible refine Kd.C_drewN ?_ _) | (with_reducible refine Kd.C_drew ?_))); (case side6 => exact HC0_4.out); (case side7 => repeat (first | exact (Kd.C_below HR1.out HB.out) | (with_reducible refine Kd.C_alloc ?_ _) | (with_reducible refine Kd.C_drewN ?_ _) | (with_reducible refine Kd.C_drew ?_))); (case side8 => exact HC1.out); rintro e w28 ⟨v318, rfl, ho0, hb⟩; refine ⟨_, rfl, ?_⟩; have n0_ := Aside0.mk (Kd.R_lower ho0 (below_size (by repeat (first | (with_reducible first | exact HB.out | apply below_alloc | apply pw_below_drewN | apply below_drew1 | refine below_set ?_ GE316.out) | exact HB.out)))); have n1_ := Aside0.mk (blk_below (g := gb316) (o := .cells #[.slice A0_0 l0_0.length c0_0, .slice A0_1 l0_1.length c0_1, .int .i64 a0_2, .int .i64 a0_3, .slice A0_4 l0_4.length c0_4] 26 (0, 0)) (by (with_reducible repeat (first | refine blk_drewN ?_ _ | refine blk_drew ?_ | refine blk_alloc ?_ _)); exact BK316.out) hb); have n2_ := Aside0.mk (below_step (by repeat (first | (with_reducible first | exact HB.out | apply below_alloc | apply pw_below_drewN | apply below_drew1 | refine below_set ?_ GE316.out) | exact HB.out)) hb); clear BK316; clear HB; have HO319 := n0_; have BK316 := n1_; have HB := n2_; clear n0_ n1_ n2_; (try clear hb); (try clear hb2); (try clear hk); (try clear hi); (try clear ho0); have hcz29_0 : w28.cell? ⟨gb316, 0, none⟩ = some (.slice A0_0 l0_0.length c0_0) := (blk_cell BK316.out 0).trans rfl; have hcz29_1 : w28.cell? ⟨gb316, 1, none⟩ = some (.slice A0_1 l0_1.length c0_1) := (blk_cell BK316.out 1).trans rfl; have hcz29_2 : w28.cell? ⟨gb316, 2, none⟩ = some (.int .i64 a0_2) := (blk_cell BK316.out 2).trans rfl; have hcz29_3 : w28.cell? ⟨gb316, 3, none⟩ = some (.int .i64 a0_3) := (blk_cell BK316.out 3).trans rfl; have hcz29_4 : w28.cell? ⟨gb316, 4, none⟩ = some (.slice A0_4 l0_4.length c0_4) := (blk_cell BK316.out 4).trans rfl; have hfz29_0 := blk_frozen BK316.out 0; have hfz29_1 := blk_frozen BK316.out 1; have hfz29_2 := blk_frozen BK316.out 2; have hfz29_3 := blk_frozen BK316.out 3; have hfz29_4 := blk_frozen BK316.out 4) | ((with_reducible refine gate_callee (f := 26) rfl ?_); refine goesL_ (some 18) rfl rfl Try.func26 (by kernel_rfl) rfl #[.agg #[.slice A0_0 l0_0.length c0_0, .slice A0_1 l0_1.length c0_1, .int .i64 a0_2, .int .i64 a0_3, .slice A0_4 l0_4.length c0_4], .slice A1 l1.length c1] rfl (by (try simp only [List.map_toArray, List.map_cons, List.map_nil]); first | done | rfl | (simp only [List.length_drop, List.length_take]; rfl)) ?_; (with_reducible refine (regletref13_Of.calls k _ _ l0_0 _ _ l0_1 a0_2 a0_3 _ _ l0_4 _ _ l1 t321 t324 _ ?side1 ?side2 ?side3 ?side4 ?side5 ?side6 ?side7 ?side8 A4.out).mono ?_); (case side1 => repeat (first | exact (Kd.C_below HR0_0.out HB.out) | (with_reducible refine Kd.C_alloc ?_ _) | (with_reducible refine Kd.C_drewN ?_ _) | (with_reducible refine Kd.C_drew ?_))); (case side2 => exact HC0_0.out); (case side3 => repeat (first | exact (Kd.C_below HR0_1.out HB.out) | (with_reducible refine Kd.C_alloc ?_ _) | (with_reducible refine Kd.C_drewN ?_ _) | (with_reducible refine Kd.C_drew ?_))); (case side4 => exact HC0_1.out); (case side5 => repeat (first | exact (Kd.C_below HR0_4.out HB.out) | (with_reducible refine Kd.C_alloc ?_ _) | (with_reducible refine Kd.C_drewN ?_ _) | (with_reducible refine Kd.C_drew ?_))); (case side6 => exact HC0_4.out); (case side7 => repeat (first | exact (Kd.C_below HR1.out HB.out) | (with_reducible refine Kd.C_alloc ?_ _) | (with_reducible refine Kd.C_drewN ?_ _) | (with_reducible refine Kd.C_drew ?_))); (case side8 => exact HC1.out); rintro e w30 ⟨v322, rfl, ho0, hb⟩; refine ⟨_, rfl, ?_⟩; have n0_ := Aside0.mk (Kd.R_elder' (by (with_reducible repeat (first | apply Kd.R_alloc | apply Kd.R_drewN | apply Kd.R_drew)); exact HO319.out) (Kd.R_base ho0) hb); have n1_ := Aside0.mk (Kd.R_lower (Kd.R_new' ho0 (Kd.R_lt (by (with_reducible repeat (first | apply Kd.R_alloc | apply Kd.R_drewN | apply Kd.R_drew)); exact HO319.out))) (below_size (by repeat (first | (with_reducible first | exact HB.out | apply below_alloc | apply pw_below_drewN | apply below_drew1 | refine below_set ?_ GE316.out) | exact HB.out)))); have n2_ := Aside0.mk (blk_below (g := gb316) (o := .cells #[.slice A0_0 l0_0.length c0_0, .slice A0_1 l0_1.length c0_1, .int .i64 a0_2, .int .i64 a0_3, .slice A0_4 l0_4.length c0_4] 26 (0, 0)) (by (with_reducible repeat (first | refine blk_drewN ?_ _ | refine blk_drew ?_ | refine blk_alloc ?_ _)); exact BK316.out) hb); have n3_ := Aside0.mk (below_step (by repeat (first | (with_reducible first | exact HB.out | apply below_alloc | apply pw_below_drewN | apply below_drew1 | refine below_set ?_ GE316.out) | exact HB.out)) hb); clear HO319; clear BK316; clear HB; have HO319 := n0_; have HO323 := n1_; have BK316 := n2_; have HB := n3_; clear n0_ n1_ n2_ n3_; (try clear hb); (try clear hb2); (try clear hk); (try clear hi); (try clear ho0)))
              have n0_ := Aside0.mk (Kd.R_drew HO319.out)
              have n1_ := Aside0.mk (Kd.R_drew HO323.out)
              have n2_ := Aside0.mk (blk_drew BK316.out)
              have n3_ := Aside0.mk (below_drew1 HB.out)
              clear HO319
              clear HO323
              clear BK316
              clear HB
              have HO319 := n0_
              have HO323 := n1_
              have BK316 := n2_
              have HB := n3_
              clear n0_ n1_ n2_ n3_
              refine start_ (n := 44) (S := fun w' => w'.cell? ⟨gb316, 0, none⟩ = some (.slice A0_0 l0_0.length c0_0) ∧ w'.cell? ⟨gb316, 1, none⟩ = some (.slice A0_1 l0_1.length c0_1) ∧ w'.cell? ⟨gb316, 2, none⟩ = some (.int .i64 a0_2) ∧ w'.cell? ⟨gb316, 3, none⟩ = some (.int .i64 a0_3) ∧ w'.cell? ⟨gb316, 4, none⟩ = some (.slice A0_4 l0_4.length c0_4)) (ds := []) #[false, false, false, false, false, false, false, false, false, false, false, false, false, false, false, false, false, false, false, false, false, false, false, false, false, false, false, false, false, false, false, false, false, false, false, false, false, false, false, false, false, false, false, false] (by kernel_rfl) rfl rfl ⟨(blk_cell BK316.out 0).trans rfl, (blk_cell BK316.out 1).trans rfl, (blk_cell BK316.out 2).trans rfl, (blk_cell BK316.out 3).trans rfl, (blk_cell BK316.out 4).trans rfl⟩ (fun hHeld => ?_); refine with_tabW regletlaw13_same.tab3 regletlaw13_same.bits3 (fun HT_ HW_ => ?_)
              generalize w30.drew = w31 at HO319 HO323 BK316 HB hHeld ⊢
              refine take_ (i := 0) (N := some 21) (v := ?_) (a' := ?_) #[true, false, false, false, false, false, false, false, false, false, false, false, false, false, false, false, false, false, false, false, false, false, false, false, false, false, false, false, false, false, false, false, false, false, false, false, false, false, false, false, false, false, false, false] rfl rfl (take_ofW HT_.out HW_.out (by kernel_rfl)) (fun _ _ _ h => h) (Or.inl ⟨by rfl, ?_⟩) hHeld ?_ ?_
              rotate_left
              · rintro w' ⟨s0, s1, s2, s3, s4⟩
                go_simp
                with_reducible rfl
              rotate_left
              · simp only [Act.put, List.setIfInBounds_toArray, List.set_cons_zero, List.set_cons_succ, i64_w, i32_w]
                rfl
              refine take_ (i := 2) (N := some 23) (v := ?_) (a' := ?_) #[true, false, true, false, false, false, false, false, false, false, false, false, false, false, false, false, false, false, false, false, false, false, false, false, false, false, false, false, false, false, false, false, false, false, false, false, false, false, false, false, false, false, false, false] rfl rfl (take_ofW HT_.out HW_.out (by kernel_rfl)) (fun _ _ _ h => h) (Or.inl ⟨by rfl, ?_⟩) hHeld ?_ ?_
              rotate_left
              · rintro w' ⟨s0, s1, s2, s3, s4⟩
                go_simp
                with_reducible rfl
              rotate_left
              · simp only [Act.put, List.setIfInBounds_toArray, List.set_cons_zero, List.set_cons_succ, i64_w, i32_w]
                rfl
              refine one_ (i := 1) (N := some 22) #[true, true, true, false, false, false, false, false, false, false, false, false, false, false, false, false, false, false, false, false, false, false, false, false, false, false, false, false, false, false, false, false, false, false, false, false, false, false, false, false, false, false, false, false] rfl rfl (one_of HT_.out (by kernel_rfl)) (by decide) (fun K hK => ?_)
              refine goes_ Try.func23 (by kernel_rfl) rfl #[.agg #[.slice A0_0 l0_0.length c0_0, .slice A0_1 l0_1.length c0_1, .int .i64 a0_2, .int .i64 a0_3, .slice A0_4 l0_4.length c0_4]] (by rfl) rfl rfl (by (try simp only [List.map_toArray, List.map_cons, List.map_nil]); first | done | rfl | (simp only [List.length_drop, List.length_take]; rfl)) ?_
              with_reducible refine (firsts_Right.calls _ _ l0_0 _ _ l0_1 a0_2 a0_3 _ _ l0_4 t325 _ ?side1 ?side2 ?side3 ?side4 ?side5 ?side6 A5.out).mono ?_
              (case side1 => repeat (first | exact (Kd.C_below HR0_0.out HB.out) | (with_reducible refine Kd.C_alloc ?_ _) | (with_reducible refine Kd.C_drewN ?_ _) | (with_reducible refine Kd.C_drew ?_)))
              (case side2 => exact HC0_0.out)
              (case side3 => repeat (first | exact (Kd.C_below HR0_1.out HB.out) | (with_reducible refine Kd.C_alloc ?_ _) | (with_reducible refine Kd.C_drewN ?_ _) | (with_reducible refine Kd.C_drew ?_)))
              (case side4 => exact HC0_1.out)
              (case side5 => repeat (first | exact (Kd.C_below HR0_4.out HB.out) | (with_reducible refine Kd.C_alloc ?_ _) | (with_reducible refine Kd.C_drewN ?_ _) | (with_reducible refine Kd.C_drew ?_)))
              (case side6 => exact HC0_4.out)
              rintro e w32 ⟨rfl, hb⟩
              refine ⟨_, rfl, ?_⟩
              have n0_ := Aside0.mk (Kd.R_below (by (with_reducible repeat (first | apply Kd.R_alloc | apply Kd.R_drewN | apply Kd.R_drew)); exact HO319.out) hb)
              have n1_ := Aside0.mk (Kd.R_below (by (with_reducible repeat (first | apply Kd.R_alloc | apply Kd.R_drewN | apply Kd.R_drew)); exact HO323.out) hb)
              have n2_ := Aside0.mk (blk_below (g := gb316) (o := .cells #[.slice A0_0 l0_0.length c0_0, .slice A0_1 l0_1.length c0_1, .int .i64 a0_2, .int .i64 a0_3, .slice A0_4 l0_4.length c0_4] 26 (0, 0)) (by (with_reducible repeat (first | refine blk_drewN ?_ _ | refine blk_drew ?_ | refine blk_alloc ?_ _)); exact BK316.out) hb)
              have n3_ := Aside0.mk (below_step (by repeat (first | (with_reducible first | exact HB.out | apply below_alloc | apply pw_below_drewN | apply below_drew1 | refine below_set ?_ GE316.out) | exact HB.out)) hb)
              clear HO319
              clear HO323
              clear BK316
              clear HB
              have HO319 := n0_
              have HO323 := n1_
              have BK316 := n2_
              have HB := n3_
              clear n0_ n1_ n2_ n3_
              (try clear hb)
              (try clear hb2)
              (try clear hk)
              (try clear hi)
              refine hK.out _ _ ⟨(blk_cell BK316.out 0).trans rfl, (blk_cell BK316.out 1).trans rfl, (blk_cell BK316.out 2).trans rfl, (blk_cell BK316.out 3).trans rfl, (blk_cell BK316.out 4).trans rfl⟩ (fun hHeld => ?_)
              clear hK K
              refine norm_ (a' := ?_) ?_ ?_
              rotate_left
              · show Act.put _ (some 22) _ = _
                simp only [Act.put, List.setIfInBounds_toArray, List.set_cons_zero, List.set_cons_succ, i64_w, i32_w]
                rfl
              refine one_ (i := 3) (N := some 24) #[true, true, true, true, false, false, false, false, false, false, false, false, false, false, false, false, false, false, false, false, false, false, false, false, false, false, false, false, false, false, false, false, false, false, false, false, false, false, false, false, false, false, false, false] rfl rfl (one_of HT_.out (by kernel_rfl)) (by decide) (fun K hK => ?_)
              refine goes_ Try.func19 (by kernel_rfl) rfl #[.agg #[.slice A0_0 l0_0.length c0_0, .slice A0_1 l0_1.length c0_1, .int .i64 a0_2, .int .i64 a0_3, .slice A0_4 l0_4.length c0_4]] (by rfl) rfl rfl (by (try simp only [List.map_toArray, List.map_cons, List.map_nil]); first | done | rfl | (simp only [List.length_drop, List.length_take]; rfl)) ?_
              with_reducible refine (regletref13_Right.calls k _ _ l0_0 _ _ l0_1 a0_2 a0_3 _ _ l0_4 t326 _ ?side1 ?side2 ?side3 ?side4 ?side5 ?side6 A6.out).mono ?_
              (case side1 => repeat (first | exact (Kd.C_below HR0_0.out HB.out) | (with_reducible refine Kd.C_alloc ?_ _) | (with_reducible refine Kd.C_drewN ?_ _) | (with_reducible refine Kd.C_drew ?_)))
              (case side2 => exact HC0_0.out)
              (case side3 => repeat (first | exact (Kd.C_below HR0_1.out HB.out) | (with_reducible refine Kd.C_alloc ?_ _) | (with_reducible refine Kd.C_drewN ?_ _) | (with_reducible refine Kd.C_drew ?_)))
              (case side4 => exact HC0_1.out)
              (case side5 => repeat (first | exact (Kd.C_below HR0_4.out HB.out) | (with_reducible refine Kd.C_alloc ?_ _) | (with_reducible refine Kd.C_drewN ?_ _) | (with_reducible refine Kd.C_drew ?_)))
              (case side6 => exact HC0_4.out)
              rintro e w33 ⟨rfl, hb⟩
              refine ⟨_, rfl, ?_⟩
              have n0_ := Aside0.mk (Kd.R_below (by (with_reducible repeat (first | apply Kd.R_alloc | apply Kd.R_drewN | apply Kd.R_drew)); exact HO319.out) hb)
              have n1_ := Aside0.mk (Kd.R_below (by (with_reducible repeat (first | apply Kd.R_alloc | apply Kd.R_drewN | apply Kd.R_drew)); exact HO323.out) hb)
              have n2_ := Aside0.mk (blk_below (g := gb316) (o := .cells #[.slice A0_0 l0_0.length c0_0, .slice A0_1 l0_1.length c0_1, .int .i64 a0_2, .int .i64 a0_3, .slice A0_4 l0_4.length c0_4] 26 (0, 0)) (by (with_reducible repeat (first | refine blk_drewN ?_ _ | refine blk_drew ?_ | refine blk_alloc ?_ _)); exact BK316.out) hb)
              have n3_ := Aside0.mk (below_step (by repeat (first | (with_reducible first | exact HB.out | apply below_alloc | apply pw_below_drewN | apply below_drew1 | refine below_set ?_ GE316.out) | exact HB.out)) hb)
              clear HO319
              clear HO323
              clear BK316
              clear HB
              have HO319 := n0_
              have HO323 := n1_
              have BK316 := n2_
              have HB := n3_
              clear n0_ n1_ n2_ n3_
              (try clear hb)
              (try clear hb2)
              (try clear hk)
              (try clear hi)
              refine hK.out _ _ ⟨(blk_cell BK316.out 0).trans rfl, (blk_cell BK316.out 1).trans rfl, (blk_cell BK316.out 2).trans rfl, (blk_cell BK316.out 3).trans rfl, (blk_cell BK316.out 4).trans rfl⟩ (fun hHeld => ?_)
              clear hK K
              refine norm_ (a' := ?_) ?_ ?_
              rotate_left
              · show Act.put _ (some 24) _ = _
                simp only [Act.put, List.setIfInBounds_toArray, List.set_cons_zero, List.set_cons_succ, i64_w, i32_w]
                rfl
              refine pure_ (i := 4) (N := some 25) (v := ?_) (a' := ?_) #[true, true, true, true, true, false, false, false, false, false, false, false, false, false, false, false, false, false, false, false, false, false, false, false, false, false, false, false, false, false, false, false, false, false, false, false, false, false, false, false, false, false, false, false] rfl rfl (any_of HT_.out (by kernel_rfl)) (fun _ _ _ h => h) (Or.inl ⟨by rfl, ?_⟩) ?_ ?_
              rotate_left
              · intro w'
                go_simp
                with_reducible rfl
              rotate_left
              · simp only [Act.put, List.setIfInBounds_toArray, List.set_cons_zero, List.set_cons_succ, i64_w, i32_w]
                rfl
              refine pure_ (i := 5) (N := some 26) (v := ?_) (a' := ?_) #[true, true, true, true, true, true, false, false, false, false, false, false, false, false, false, false, false, false, false, false, false, false, false, false, false, false, false, false, false, false, false, false, false, false, false, false, false, false, false, false, false, false, false, false] rfl rfl (any_of HT_.out (by kernel_rfl)) (fun _ _ _ h => h) (Or.inl ⟨by rfl, ?_⟩) ?_ ?_
              rotate_left
              · intro w'
                go_simp
                with_reducible rfl
              rotate_left
              · simp only [Act.put, List.setIfInBounds_toArray, List.set_cons_zero, List.set_cons_succ, i64_w, i32_w]
                rfl
              refine take_ (i := 6) (N := some 27) (v := ?_) (a' := ?_) #[true, true, true, true, true, true, true, false, false, false, false, false, false, false, false, false, false, false, false, false, false, false, false, false, false, false, false, false, false, false, false, false, false, false, false, false, false, false, false, false, false, false, false, false] rfl rfl (take_ofW HT_.out HW_.out (by kernel_rfl)) (fun _ _ _ h => h) (Or.inl ⟨by rfl, ?_⟩) hHeld ?_ ?_
              rotate_left
              · rintro w' ⟨s0, s1, s2, s3, s4⟩
                go_simp
                with_reducible rfl
              rotate_left
              · simp only [Act.put, List.setIfInBounds_toArray, List.set_cons_zero, List.set_cons_succ, i64_w, i32_w]
                rfl
              refine take_ (i := 8) (N := some 29) (v := ?_) (a' := ?_) #[true, true, true, true, true, true, true, false, true, false, false, false, false, false, false, false, false, false, false, false, false, false, false, false, false, false, false, false, false, false, false, false, false, false, false, false, false, false, false, false, false, false, false, false] rfl rfl (take_ofW HT_.out HW_.out (by kernel_rfl)) (fun _ _ _ h => h) (Or.inl ⟨by rfl, ?_⟩) hHeld ?_ ?_
              rotate_left
              · rintro w' ⟨s0, s1, s2, s3, s4⟩
                go_simp
                with_reducible rfl
              rotate_left
              · simp only [Act.put, List.setIfInBounds_toArray, List.set_cons_zero, List.set_cons_succ, i64_w, i32_w]
                rfl
              refine one_ (i := 7) (N := some 28) #[true, true, true, true, true, true, true, true, true, false, false, false, false, false, false, false, false, false, false, false, false, false, false, false, false, false, false, false, false, false, false, false, false, false, false, false, false, false, false, false, false, false, false, false] rfl rfl (one_of HT_.out (by kernel_rfl)) (by decide) (fun K hK => ?_)
              refine goes_ Try.func15 (by kernel_rfl) rfl #[.agg #[.slice A0_0 l0_0.length c0_0, .slice A0_1 l0_1.length c0_1, .int .i64 a0_2, .int .i64 a0_3, .slice A0_4 l0_4.length c0_4]] (by rfl) rfl rfl (by (try simp only [List.map_toArray, List.map_cons, List.map_nil]); first | done | rfl | (simp only [List.length_drop, List.length_take]; rfl)) ?_
              with_reducible refine (firsts_Empty.calls k _ _ l0_0 _ _ l0_1 a0_2 a0_3 _ _ l0_4 t327 _ ?side1 ?side2 ?side3 ?side4 ?side5 ?side6 A8.out).mono ?_
              (case side1 => repeat (first | exact (Kd.C_below HR0_0.out HB.out) | (with_reducible refine Kd.C_alloc ?_ _) | (with_reducible refine Kd.C_drewN ?_ _) | (with_reducible refine Kd.C_drew ?_)))
              (case side2 => exact HC0_0.out)
              (case side3 => repeat (first | exact (Kd.C_below HR0_1.out HB.out) | (with_reducible refine Kd.C_alloc ?_ _) | (with_reducible refine Kd.C_drewN ?_ _) | (with_reducible refine Kd.C_drew ?_)))
              (case side4 => exact HC0_1.out)
              (case side5 => repeat (first | exact (Kd.C_below HR0_4.out HB.out) | (with_reducible refine Kd.C_alloc ?_ _) | (with_reducible refine Kd.C_drewN ?_ _) | (with_reducible refine Kd.C_drew ?_)))
              (case side6 => exact HC0_4.out)
              rintro e w34 ⟨v328, rfl, ho0, hb⟩
              refine ⟨_, rfl, ?_⟩
              have n0_ := Aside0.mk (Kd.R_below (by (with_reducible repeat (first | apply Kd.R_alloc | apply Kd.R_drewN | apply Kd.R_drew)); exact HO319.out) hb)
              have n1_ := Aside0.mk (Kd.R_below (by (with_reducible repeat (first | apply Kd.R_alloc | apply Kd.R_drewN | apply Kd.R_drew)); exact HO323.out) hb)
              have n2_ := Aside0.mk (Kd.R_lower ho0 (below_size (by repeat (first | (with_reducible first | exact HB.out | apply below_alloc | apply pw_below_drewN | apply below_drew1 | refine below_set ?_ GE316.out) | exact HB.out))))
              have n3_ := Aside0.mk (blk_below (g := gb316) (o := .cells #[.slice A0_0 l0_0.length c0_0, .slice A0_1 l0_1.length c0_1, .int .i64 a0_2, .int .i64 a0_3, .slice A0_4 l0_4.length c0_4] 26 (0, 0)) (by (with_reducible repeat (first | refine blk_drewN ?_ _ | refine blk_drew ?_ | refine blk_alloc ?_ _)); exact BK316.out) hb)
              have n4_ := Aside0.mk (below_step (by repeat (first | (with_reducible first | exact HB.out | apply below_alloc | apply pw_below_drewN | apply below_drew1 | refine below_set ?_ GE316.out) | exact HB.out)) hb)
              clear HO319
              clear HO323
              clear BK316
              clear HB
              have HO319 := n0_
              have HO323 := n1_
              have HO329 := n2_
              have BK316 := n3_
              have HB := n4_
              clear n0_ n1_ n2_ n3_ n4_
              (try clear hb)
              (try clear hb2)
              (try clear hk)
              (try clear hi)
              (try clear ho0)
              refine hK.out _ _ ⟨(blk_cell BK316.out 0).trans rfl, (blk_cell BK316.out 1).trans rfl, (blk_cell BK316.out 2).trans rfl, (blk_cell BK316.out 3).trans rfl, (blk_cell BK316.out 4).trans rfl⟩ (fun hHeld => ?_)
              clear hK K
              refine norm_ (a' := ?_) ?_ ?_
              rotate_left
              · show Act.put _ (some 28) _ = _
                simp only [Act.put, List.setIfInBounds_toArray, List.set_cons_zero, List.set_cons_succ, i64_w, i32_w]
                rfl
              refine one_ (i := 9) (N := some 30) #[true, true, true, true, true, true, true, true, true, true, false, false, false, false, false, false, false, false, false, false, false, false, false, false, false, false, false, false, false, false, false, false, false, false, false, false, false, false, false, false, false, false, false, false] rfl rfl (one_of HT_.out (by kernel_rfl)) (by decide) (fun K hK => ?_)
              refine goes_ Try.func27 (by kernel_rfl) rfl #[.agg #[.slice A0_0 l0_0.length c0_0, .slice A0_1 l0_1.length c0_1, .int .i64 a0_2, .int .i64 a0_3, .slice A0_4 l0_4.length c0_4]] (by rfl) rfl rfl (by (try simp only [List.map_toArray, List.map_cons, List.map_nil]); first | done | rfl | (simp only [List.length_drop, List.length_take]; rfl)) ?_
              with_reducible refine (regletref13_Empty.calls k _ _ l0_0 _ _ l0_1 a0_2 a0_3 _ _ l0_4 t330 _ ?side1 ?side2 ?side3 ?side4 ?side5 ?side6 A9.out).mono ?_
              (case side1 => repeat (first | exact (Kd.C_below HR0_0.out HB.out) | (with_reducible refine Kd.C_alloc ?_ _) | (with_reducible refine Kd.C_drewN ?_ _) | (with_reducible refine Kd.C_drew ?_)))
              (case side2 => exact HC0_0.out)
              (case side3 => repeat (first | exact (Kd.C_below HR0_1.out HB.out) | (with_reducible refine Kd.C_alloc ?_ _) | (with_reducible refine Kd.C_drewN ?_ _) | (with_reducible refine Kd.C_drew ?_)))
              (case side4 => exact HC0_1.out)
              (case side5 => repeat (first | exact (Kd.C_below HR0_4.out HB.out) | (with_reducible refine Kd.C_alloc ?_ _) | (with_reducible refine Kd.C_drewN ?_ _) | (with_reducible refine Kd.C_drew ?_)))
              (case side6 => exact HC0_4.out)
              rintro e w35 ⟨v331, rfl, ho0, hb⟩
              refine ⟨_, rfl, ?_⟩
              have n0_ := Aside0.mk (Kd.R_below (by (with_reducible repeat (first | apply Kd.R_alloc | apply Kd.R_drewN | apply Kd.R_drew)); exact HO319.out) hb)
              have n1_ := Aside0.mk (Kd.R_below (by (with_reducible repeat (first | apply Kd.R_alloc | apply Kd.R_drewN | apply Kd.R_drew)); exact HO323.out) hb)
              have n2_ := Aside0.mk (Kd.R_elder' (by (with_reducible repeat (first | apply Kd.R_alloc | apply Kd.R_drewN | apply Kd.R_drew)); exact HO329.out) (Kd.R_base ho0) hb)
              have n3_ := Aside0.mk (Kd.R_lower (Kd.R_new' ho0 (Kd.R_lt (by (with_reducible repeat (first | apply Kd.R_alloc | apply Kd.R_drewN | apply Kd.R_drew)); exact HO329.out))) (below_size (by repeat (first | (with_reducible first | exact HB.out | apply below_alloc | apply pw_below_drewN | apply below_drew1 | refine below_set ?_ GE316.out) | exact HB.out))))
              have n4_ := Aside0.mk (blk_below (g := gb316) (o := .cells #[.slice A0_0 l0_0.length c0_0, .slice A0_1 l0_1.length c0_1, .int .i64 a0_2, .int .i64 a0_3, .slice A0_4 l0_4.length c0_4] 26 (0, 0)) (by (with_reducible repeat (first | refine blk_drewN ?_ _ | refine blk_drew ?_ | refine blk_alloc ?_ _)); exact BK316.out) hb)
              have n5_ := Aside0.mk (below_step (by repeat (first | (with_reducible first | exact HB.out | apply below_alloc | apply pw_below_drewN | apply below_drew1 | refine below_set ?_ GE316.out) | exact HB.out)) hb)
              clear HO319
              clear HO323
              clear HO329
              clear BK316
              clear HB
              have HO319 := n0_
              have HO323 := n1_
              have HO329 := n2_
              have HO332 := n3_
              have BK316 := n4_
              have HB := n5_
              clear n0_ n1_ n2_ n3_ n4_ n5_
              (try clear hb)
              (try clear hb2)
              (try clear hk)
              (try clear hi)
              (try clear ho0)
              obtain ⟨Ao36, co36, eo36⟩ := Kd.R_slice HO329.out
              (first | subst eo36 | (injection eo36 with f1_ f2_ f3_; have f4_ := f1_.symm; have f5_ := f3_.symm; clear f1_ f2_ f3_; subst f4_; subst f5_))
              obtain ⟨Ao37, co37, eo37⟩ := Kd.R_slice HO332.out
              (first | subst eo37 | (injection eo37 with f1_ f2_ f3_; have f4_ := f1_.symm; have f5_ := f3_.symm; clear f1_ f2_ f3_; subst f4_; subst f5_))
              refine hK.out _ _ ⟨(blk_cell BK316.out 0).trans rfl, (blk_cell BK316.out 1).trans rfl, (blk_cell BK316.out 2).trans rfl, (blk_cell BK316.out 3).trans rfl, (blk_cell BK316.out 4).trans rfl⟩ (fun hHeld => ?_)
              clear hK K
              refine norm_ (a' := ?_) ?_ ?_
              rotate_left
              · show Act.put _ (some 30) _ = _
                simp only [Act.put, List.setIfInBounds_toArray, List.set_cons_zero, List.set_cons_succ, i64_w, i32_w]
                rfl
              refine one_ (i := 10) (N := some 31) #[true, true, true, true, true, true, true, true, true, true, true, false, false, false, false, false, false, false, false, false, false, false, false, false, false, false, false, false, false, false, false, false, false, false, false, false, false, false, false, false, false, false, false, false] rfl rfl (one_of HT_.out (by kernel_rfl)) (by decide) (fun K hK => ?_)
              refine goes_ Try.func25 (by kernel_rfl) rfl #[.slice Ao36 t327.length co36, .slice Ao37 t330.length co37] (by rfl) rfl rfl (by (try simp only [List.map_toArray, List.map_cons, List.map_nil]); first | done | rfl | (simp only [List.length_drop, List.length_take]; rfl)) ?_
              with_reducible refine (regletref13_SameBools.calls k _ _ t327 _ _ t330 true _ ?side1 ?side2 ?side3 ?side4 A10.out).mono ?_
              (case side1 => repeat (first | exact (Kd.R_reads' HO329.out).2.2 | (with_reducible refine Kd.C_alloc ?_ _) | (with_reducible refine Kd.C_drewN ?_ _) | (with_reducible refine Kd.C_drew ?_)))
              (case side2 => exact (Kd.R_reads' HO329.out).2.1)
              (case side3 => repeat (first | exact (Kd.R_reads' HO332.out).2.2 | (with_reducible refine Kd.C_alloc ?_ _) | (with_reducible refine Kd.C_drewN ?_ _) | (with_reducible refine Kd.C_drew ?_)))
              (case side4 => exact (Kd.R_reads' HO332.out).2.1)
              rintro e w' ⟨rfl, ⟨nd, rfl⟩⟩
              refine ⟨_, rfl, ?_⟩
              refine hK.out _ _ ⟨(blk_cell BK316.out 0).trans rfl, (blk_cell BK316.out 1).trans rfl, (blk_cell BK316.out 2).trans rfl, (blk_cell BK316.out 3).trans rfl, (blk_cell BK316.out 4).trans rfl⟩ (fun hHeld => ?_)
              clear hK K
              refine norm_ (a' := ?_) ?_ ?_
              rotate_left
              · show Act.put _ (some 31) _ = _
                simp only [Act.put, List.setIfInBounds_toArray, List.set_cons_zero, List.set_cons_succ, i64_w, i32_w]
                rfl
              refine pure_ (i := 11) (N := some 32) (v := ?_) (a' := ?_) #[true, true, true, true, true, true, true, true, true, true, true, true, false, false, false, false, false, false, false, false, false, false, false, false, false, false, false, false, false, false, false, false, false, false, false, false, false, false, false, false, false, false, false, false] rfl rfl (any_of HT_.out (by kernel_rfl)) (fun _ _ _ h => h) (Or.inl ⟨by rfl, ?_⟩) ?_ ?_
              rotate_left
              · intro w'
                go_simp
                with_reducible rfl
              rotate_left
              · simp only [Act.put, List.setIfInBounds_toArray, List.set_cons_zero, List.set_cons_succ, i64_w, i32_w]
                rfl
              refine pure_ (i := 12) (N := some 33) (v := ?_) (a' := ?_) #[true, true, true, true, true, true, true, true, true, true, true, true, true, false, false, false, false, false, false, false, false, false, false, false, false, false, false, false, false, false, false, false, false, false, false, false, false, false, false, false, false, false, false, false] rfl rfl (any_of HT_.out (by kernel_rfl)) (fun _ _ _ h => h) (Or.inl ⟨by rfl, ?_⟩) ?_ ?_
              rotate_left
              · intro w'
                go_simp
                with_reducible rfl
              rotate_left
              · simp only [Act.put, List.setIfInBounds_toArray, List.set_cons_zero, List.set_cons_succ, i64_w, i32_w]
                rfl
              refine take_ (i := 13) (N := some 34) (v := ?_) (a' := ?_) #[true, true, true, true, true, true, true, true, true, true, true, true, true, true, false, false, false, false, false, false, false, false, false, false, false, false, false, false, false, false, false, false, false, false, false, false, false, false, false, false, false, false, false, false] rfl rfl (take_ofW HT_.out HW_.out (by kernel_rfl)) (fun _ _ _ h => h) (Or.inl ⟨by rfl, ?_⟩) hHeld ?_ ?_
              rotate_left
              · rintro w' ⟨s0, s1, s2, s3, s4⟩
                go_simp
                with_reducible rfl
              rotate_left
              · simp only [Act.put, List.setIfInBounds_toArray, List.set_cons_zero, List.set_cons_succ, i64_w, i32_w]
                rfl
              refine take_ (i := 15) (N := some 36) (v := ?_) (a' := ?_) #[true, true, true, true, true, true, true, true, true, true, true, true, true, true, false, true, false, false, false, false, false, false, false, false, false, false, false, false, false, false, false, false, false, false, false, false, false, false, false, false, false, false, false, false] rfl rfl (take_ofW HT_.out HW_.out (by kernel_rfl)) (fun _ _ _ h => h) (Or.inl ⟨by rfl, ?_⟩) hHeld ?_ ?_
              rotate_left
              · rintro w' ⟨s0, s1, s2, s3, s4⟩
                go_simp
                with_reducible rfl
              rotate_left
              · simp only [Act.put, List.setIfInBounds_toArray, List.set_cons_zero, List.set_cons_succ, i64_w, i32_w]
                rfl
              refine one_ (i := 14) (N := some 35) #[true, true, true, true, true, true, true, true, true, true, true, true, true, true, true, true, false, false, false, false, false, false, false, false, false, false, false, false, false, false, false, false, false, false, false, false, false, false, false, false, false, false, false, false] rfl rfl (one_of HT_.out (by kernel_rfl)) (by decide) (fun K hK => ?_)
              refine goes_ Try.func16 (by kernel_rfl) rfl #[.agg #[.slice A0_0 l0_0.length c0_0, .slice A0_1 l0_1.length c0_1, .int .i64 a0_2, .int .i64 a0_3, .slice A0_4 l0_4.length c0_4]] (by rfl) rfl rfl (by (try simp only [List.map_toArray, List.map_cons, List.map_nil]); first | done | rfl | (simp only [List.length_drop, List.length_take]; rfl)) ?_
              with_reducible refine (firsts_Useful.calls k _ _ l0_0 _ _ l0_1 a0_2 a0_3 _ _ l0_4 t334 _ ?side1 ?side2 ?side3 ?side4 ?side5 ?side6 A12.out).mono ?_
              (case side1 => repeat (first | exact (Kd.C_below HR0_0.out (by repeat (first | (with_reducible first | exact HB.out | apply below_alloc | apply pw_below_drewN | apply below_drew1 | refine below_set ?_ GE316.out) | exact HB.out))) | (with_reducible refine Kd.C_alloc ?_ _) | (with_reducible refine Kd.C_drewN ?_ _) | (with_reducible refine Kd.C_drew ?_)))
              (case side2 => exact HC0_0.out)
              (case side3 => repeat (first | exact (Kd.C_below HR0_1.out (by repeat (first | (with_reducible first | exact HB.out | apply below_alloc | apply pw_below_drewN | apply below_drew1 | refine below_set ?_ GE316.out) | exact HB.out))) | (with_reducible refine Kd.C_alloc ?_ _) | (with_reducible refine Kd.C_drewN ?_ _) | (with_reducible refine Kd.C_drew ?_)))
              (case side4 => exact HC0_1.out)
              (case side5 => repeat (first | exact (Kd.C_below HR0_4.out (by repeat (first | (with_reducible first | exact HB.out | apply below_alloc | apply pw_below_drewN | apply below_drew1 | refine below_set ?_ GE316.out) | exact HB.out))) | (with_reducible refine Kd.C_alloc ?_ _) | (with_reducible refine Kd.C_drewN ?_ _) | (with_reducible refine Kd.C_drew ?_)))
              (case side6 => exact HC0_4.out)
              rintro e w38 ⟨v335, rfl, ho0, hb⟩
              refine ⟨_, rfl, ?_⟩
              have n0_ := Aside0.mk (Kd.R_below (by (with_reducible repeat (first | apply Kd.R_alloc | apply Kd.R_drewN | apply Kd.R_drew)); exact HO319.out) hb)
              have n1_ := Aside0.mk (Kd.R_below (by (with_reducible repeat (first | apply Kd.R_alloc | apply Kd.R_drewN | apply Kd.R_drew)); exact HO323.out) hb)
              have n2_ := Aside0.mk (Kd.R_elder' (by (with_reducible repeat (first | apply Kd.R_alloc | apply Kd.R_drewN | apply Kd.R_drew)); exact HO329.out) (Kd.R_base ho0) hb)
              have n3_ := Aside0.mk (Kd.R_elder' (by (with_reducible repeat (first | apply Kd.R_alloc | apply Kd.R_drewN | apply Kd.R_drew)); exact HO332.out) (Kd.R_base ho0) hb)
              have n4_ := Aside0.mk (Kd.R_lower (Kd.R_new' (Kd.R_new' ho0 (Kd.R_lt (by (with_reducible repeat (first | apply Kd.R_alloc | apply Kd.R_drewN | apply Kd.R_drew)); exact HO329.out))) (Kd.R_lt (by (with_reducible repeat (first | apply Kd.R_alloc | apply Kd.R_drewN | apply Kd.R_drew)); exact HO332.out))) (below_size (by repeat (first | (with_reducible first | exact HB.out | apply below_alloc | apply pw_below_drewN | apply below_drew1 | refine below_set ?_ GE316.out) | exact HB.out))))
              have n5_ := Aside0.mk (blk_below (g := gb316) (o := .cells #[.slice A0_0 l0_0.length c0_0, .slice A0_1 l0_1.length c0_1, .int .i64 a0_2, .int .i64 a0_3, .slice A0_4 l0_4.length c0_4] 26 (0, 0)) (by (with_reducible repeat (first | refine blk_drewN ?_ _ | refine blk_drew ?_ | refine blk_alloc ?_ _)); exact BK316.out) hb)
              have n6_ := Aside0.mk (below_step (by repeat (first | (with_reducible first | exact HB.out | apply below_alloc | apply pw_below_drewN | apply below_drew1 | refine below_set ?_ GE316.out) | exact HB.out)) hb)
              clear HO319
              clear HO323
              clear HO329
              clear HO332
              clear BK316
              clear HB
              have HO319 := n0_
              have HO323 := n1_
              have HO329 := n2_
              have HO332 := n3_
              have HO336 := n4_
              have BK316 := n5_
              have HB := n6_
              clear n0_ n1_ n2_ n3_ n4_ n5_ n6_
              (try clear hb)
              (try clear hb2)
              (try clear hk)
              (try clear hi)
              (try clear ho0)
              refine hK.out _ _ ⟨(blk_cell BK316.out 0).trans rfl, (blk_cell BK316.out 1).trans rfl, (blk_cell BK316.out 2).trans rfl, (blk_cell BK316.out 3).trans rfl, (blk_cell BK316.out 4).trans rfl⟩ (fun hHeld => ?_)
              clear hK K
              refine norm_ (a' := ?_) ?_ ?_
              rotate_left
              · show Act.put _ (some 35) _ = _
                simp only [Act.put, List.setIfInBounds_toArray, List.set_cons_zero, List.set_cons_succ, i64_w, i32_w]
                rfl
              refine one_ (i := 16) (N := some 37) #[true, true, true, true, true, true, true, true, true, true, true, true, true, true, true, true, true, false, false, false, false, false, false, false, false, false, false, false, false, false, false, false, false, false, false, false, false, false, false, false, false, false, false, false] rfl rfl (one_of HT_.out (by kernel_rfl)) (by decide) (fun K hK => ?_)
              refine goes_ Try.func28 (by kernel_rfl) rfl #[.agg #[.slice A0_0 l0_0.length c0_0, .slice A0_1 l0_1.length c0_1, .int .i64 a0_2, .int .i64 a0_3, .slice A0_4 l0_4.length c0_4]] (by rfl) rfl rfl (by (try simp only [List.map_toArray, List.map_cons, List.map_nil]); first | done | rfl | (simp only [List.length_drop, List.length_take]; rfl)) ?_
              with_reducible refine (regletref13_Useful.calls k _ _ l0_0 _ _ l0_1 a0_2 a0_3 _ _ l0_4 t337 _ ?side1 ?side2 ?side3 ?side4 ?side5 ?side6 A13.out).mono ?_
              (case side1 => repeat (first | exact (Kd.C_below HR0_0.out HB.out) | (with_reducible refine Kd.C_alloc ?_ _) | (with_reducible refine Kd.C_drewN ?_ _) | (with_reducible refine Kd.C_drew ?_)))
              (case side2 => exact HC0_0.out)
              (case side3 => repeat (first | exact (Kd.C_below HR0_1.out HB.out) | (with_reducible refine Kd.C_alloc ?_ _) | (with_reducible refine Kd.C_drewN ?_ _) | (with_reducible refine Kd.C_drew ?_)))
              (case side4 => exact HC0_1.out)
              (case side5 => repeat (first | exact (Kd.C_below HR0_4.out HB.out) | (with_reducible refine Kd.C_alloc ?_ _) | (with_reducible refine Kd.C_drewN ?_ _) | (with_reducible refine Kd.C_drew ?_)))
              (case side6 => exact HC0_4.out)
              rintro e w39 ⟨v338, rfl, ho0, hb⟩
              refine ⟨_, rfl, ?_⟩
              have n0_ := Aside0.mk (Kd.R_below (by (with_reducible repeat (first | apply Kd.R_alloc | apply Kd.R_drewN | apply Kd.R_drew)); exact HO319.out) hb)
              have n1_ := Aside0.mk (Kd.R_below (by (with_reducible repeat (first | apply Kd.R_alloc | apply Kd.R_drewN | apply Kd.R_drew)); exact HO323.out) hb)
              have n2_ := Aside0.mk (Kd.R_elder' (by (with_reducible repeat (first | apply Kd.R_alloc | apply Kd.R_drewN | apply Kd.R_drew)); exact HO329.out) (Kd.R_base ho0) hb)
              have n3_ := Aside0.mk (Kd.R_elder' (by (with_reducible repeat (first | apply Kd.R_alloc | apply Kd.R_drewN | apply Kd.R_drew)); exact HO332.out) (Kd.R_base ho0) hb)
              have n4_ := Aside0.mk (Kd.R_elder' (by (with_reducible repeat (first | apply Kd.R_alloc | apply Kd.R_drewN | apply Kd.R_drew)); exact HO336.out) (Kd.R_base ho0) hb)
              have n5_ := Aside0.mk (Kd.R_lower (Kd.R_new' (Kd.R_new' (Kd.R_new' ho0 (Kd.R_lt (by (with_reducible repeat (first | apply Kd.R_alloc | apply Kd.R_drewN | apply Kd.R_drew)); exact HO329.out))) (Kd.R_lt (by (with_reducible repeat (first | apply Kd.R_alloc | apply Kd.R_drewN | apply Kd.R_drew)); exact HO332.out))) (Kd.R_lt (by (with_reducible repeat (first | apply Kd.R_alloc | apply Kd.R_drewN | apply Kd.R_drew)); exact HO336.out))) (below_size (by repeat (first | (with_reducible first | exact HB.out | apply below_alloc | apply pw_below_drewN | apply below_drew1 | refine below_set ?_ GE316.out) | exact HB.out))))
              have n6_ := Aside0.mk (blk_below (g := gb316) (o := .cells #[.slice A0_0 l0_0.length c0_0, .slice A0_1 l0_1.length c0_1, .int .i64 a0_2, .int .i64 a0_3, .slice A0_4 l0_4.length c0_4] 26 (0, 0)) (by (with_reducible repeat (first | refine blk_drewN ?_ _ | refine blk_drew ?_ | refine blk_alloc ?_ _)); exact BK316.out) hb)
              have n7_ := Aside0.mk (below_step (by repeat (first | (with_reducible first | exact HB.out | apply below_alloc | apply pw_below_drewN | apply below_drew1 | refine below_set ?_ GE316.out) | exact HB.out)) hb)
              clear HO319
              clear HO323
              clear HO329
              clear HO332
              clear HO336
              clear BK316
              clear HB
              have HO319 := n0_
              have HO323 := n1_
              have HO329 := n2_
              have HO332 := n3_
              have HO336 := n4_
              have HO339 := n5_
              have BK316 := n6_
              have HB := n7_
              clear n0_ n1_ n2_ n3_ n4_ n5_ n6_ n7_
              (try clear hb)
              (try clear hb2)
              (try clear hk)
              (try clear hi)
              (try clear ho0)
              obtain ⟨Ao40, co40, eo40⟩ := Kd.R_slice HO336.out
              (first | subst eo40 | (injection eo40 with f1_ f2_ f3_; have f4_ := f1_.symm; have f5_ := f3_.symm; clear f1_ f2_ f3_; subst f4_; subst f5_))
              obtain ⟨Ao41, co41, eo41⟩ := Kd.R_slice HO339.out
              (first | subst eo41 | (injection eo41 with f1_ f2_ f3_; have f4_ := f1_.symm; have f5_ := f3_.symm; clear f1_ f2_ f3_; subst f4_; subst f5_))
              refine hK.out _ _ ⟨(blk_cell BK316.out 0).trans rfl, (blk_cell BK316.out 1).trans rfl, (blk_cell BK316.out 2).trans rfl, (blk_cell BK316.out 3).trans rfl, (blk_cell BK316.out 4).trans rfl⟩ (fun hHeld => ?_)
              clear hK K
              refine norm_ (a' := ?_) ?_ ?_
              rotate_left
              · show Act.put _ (some 37) _ = _
                simp only [Act.put, List.setIfInBounds_toArray, List.set_cons_zero, List.set_cons_succ, i64_w, i32_w]
                rfl
              refine one_ (i := 17) (N := some 38) #[true, true, true, true, true, true, true, true, true, true, true, true, true, true, true, true, true, true, false, false, false, false, false, false, false, false, false, false, false, false, false, false, false, false, false, false, false, false, false, false, false, false, false, false] rfl rfl (one_of HT_.out (by kernel_rfl)) (by decide) (fun K hK => ?_)
              refine goes_ Try.func25 (by kernel_rfl) rfl #[.slice Ao40 t334.length co40, .slice Ao41 t337.length co41] (by rfl) rfl rfl (by (try simp only [List.map_toArray, List.map_cons, List.map_nil]); first | done | rfl | (simp only [List.length_drop, List.length_take]; rfl)) ?_
              with_reducible refine (regletref13_SameBools.calls k _ _ t334 _ _ t337 true _ ?side1 ?side2 ?side3 ?side4 A14.out).mono ?_
              (case side1 => repeat (first | exact (Kd.R_reads' HO336.out).2.2 | (with_reducible refine Kd.C_alloc ?_ _) | (with_reducible refine Kd.C_drewN ?_ _) | (with_reducible refine Kd.C_drew ?_)))
              (case side2 => exact (Kd.R_reads' HO336.out).2.1)
              (case side3 => repeat (first | exact (Kd.R_reads' HO339.out).2.2 | (with_reducible refine Kd.C_alloc ?_ _) | (with_reducible refine Kd.C_drewN ?_ _) | (with_reducible refine Kd.C_drew ?_)))
              (case side4 => exact (Kd.R_reads' HO339.out).2.1)
              rintro e w' ⟨rfl, ⟨nd, rfl⟩⟩
              refine ⟨_, rfl, ?_⟩
              refine hK.out _ _ ⟨(blk_cell BK316.out 0).trans rfl, (blk_cell BK316.out 1).trans rfl, (blk_cell BK316.out 2).trans rfl, (blk_cell BK316.out 3).trans rfl, (blk_cell BK316.out 4).trans rfl⟩ (fun hHeld => ?_)
              clear hK K
              refine norm_ (a' := ?_) ?_ ?_
              rotate_left
              · show Act.put _ (some 38) _ = _
                simp only [Act.put, List.setIfInBounds_toArray, List.set_cons_zero, List.set_cons_succ, i64_w, i32_w]
                rfl
              refine pure_ (i := 18) (N := some 39) (v := ?_) (a' := ?_) #[true, true, true, true, true, true, true, true, true, true, true, true, true, true, true, true, true, true, true, false, false, false, false, false, false, false, false, false, false, false, false, false, false, false, false, false, false, false, false, false, false, false, false, false] rfl rfl (any_of HT_.out (by kernel_rfl)) (fun _ _ _ h => h) (Or.inl ⟨by rfl, ?_⟩) ?_ ?_
              rotate_left
              · intro w'
                go_simp
                with_reducible rfl
              rotate_left
              · simp only [Act.put, List.setIfInBounds_toArray, List.set_cons_zero, List.set_cons_succ, i64_w, i32_w]
                rfl
              refine pure_ (i := 19) (N := some 40) (v := ?_) (a' := ?_) #[true, true, true, true, true, true, true, true, true, true, true, true, true, true, true, true, true, true, true, true, false, false, false, false, false, false, false, false, false, false, false, false, false, false, false, false, false, false, false, false, false, false, false, false] rfl rfl (any_of HT_.out (by kernel_rfl)) (fun _ _ _ h => h) (Or.inl ⟨by rfl, ?_⟩) ?_ ?_
              rotate_left
              · intro w'
                go_simp
                with_reducible rfl
              rotate_left
              · simp only [Act.put, List.setIfInBounds_toArray, List.set_cons_zero, List.set_cons_succ, i64_w, i32_w]
                rfl
              refine take_ (i := 20) (N := some 41) (v := ?_) (a' := ?_) #[true, true, true, true, true, true, true, true, true, true, true, true, true, true, true, true, true, true, true, true, true, false, false, false, false, false, false, false, false, false, false, false, false, false, false, false, false, false, false, false, false, false, false, false] rfl rfl (take_ofW HT_.out HW_.out (by kernel_rfl)) (fun _ _ _ h => h) (Or.inl ⟨by rfl, ?_⟩) hHeld ?_ ?_
              rotate_left
              · rintro w' ⟨s0, s1, s2, s3, s4⟩
                go_simp
                with_reducible rfl
              rotate_left
              · simp only [Act.put, List.setIfInBounds_toArray, List.set_cons_zero, List.set_cons_succ, i64_w, i32_w]
                rfl
              refine take_ (i := 22) (N := some 43) (v := ?_) (a' := ?_) #[true, true, true, true, true, true, true, true, true, true, true, true, true, true, true, true, true, true, true, true, true, false, true, false, false, false, false, false, false, false, false, false, false, false, false, false, false, false, false, false, false, false, false, false] rfl rfl (take_ofW HT_.out HW_.out (by kernel_rfl)) (fun _ _ _ h => h) (Or.inl ⟨by rfl, ?_⟩) hHeld ?_ ?_
              rotate_left
              · rintro w' ⟨s0, s1, s2, s3, s4⟩
                go_simp
                with_reducible rfl
              rotate_left
              · simp only [Act.put, List.setIfInBounds_toArray, List.set_cons_zero, List.set_cons_succ, i64_w, i32_w]
                rfl
              refine one_ (i := 21) (N := some 42) #[true, true, true, true, true, true, true, true, true, true, true, true, true, true, true, true, true, true, true, true, true, true, true, false, false, false, false, false, false, false, false, false, false, false, false, false, false, false, false, false, false, false, false, false] rfl rfl (one_of HT_.out (by kernel_rfl)) (by decide) (fun K hK => ?_)
              refine goes_ Try.func14 (by kernel_rfl) rfl #[.agg #[.slice A0_0 l0_0.length c0_0, .slice A0_1 l0_1.length c0_1, .int .i64 a0_2, .int .i64 a0_3, .slice A0_4 l0_4.length c0_4]] (by rfl) rfl rfl (by (try simp only [List.map_toArray, List.map_cons, List.map_nil]); first | done | rfl | (simp only [List.length_drop, List.length_take]; rfl)) ?_
              with_reducible refine (firsts_First.calls k _ _ l0_0 _ _ l0_1 a0_2 a0_3 _ _ l0_4 t341 _ ?side1 ?side2 ?side3 ?side4 ?side5 ?side6 A16.out).mono ?_
              (case side1 => repeat (first | exact (Kd.C_below HR0_0.out (by repeat (first | (with_reducible first | exact HB.out | apply below_alloc | apply pw_below_drewN | apply below_drew1 | refine below_set ?_ GE316.out) | exact HB.out))) | (with_reducible refine Kd.C_alloc ?_ _) | (with_reducible refine Kd.C_drewN ?_ _) | (with_reducible refine Kd.C_drew ?_)))
              (case side2 => exact HC0_0.out)
              (case side3 => repeat (first | exact (Kd.C_below HR0_1.out (by repeat (first | (with_reducible first | exact HB.out | apply below_alloc | apply pw_below_drewN | apply below_drew1 | refine below_set ?_ GE316.out) | exact HB.out))) | (with_reducible refine Kd.C_alloc ?_ _) | (with_reducible refine Kd.C_drewN ?_ _) | (with_reducible refine Kd.C_drew ?_)))
              (case side4 => exact HC0_1.out)
              (case side5 => repeat (first | exact (Kd.C_below HR0_4.out (by repeat (first | (with_reducible first | exact HB.out | apply below_alloc | apply pw_below_drewN | apply below_drew1 | refine below_set ?_ GE316.out) | exact HB.out))) | (with_reducible refine Kd.C_alloc ?_ _) | (with_reducible refine Kd.C_drewN ?_ _) | (with_reducible refine Kd.C_drew ?_)))
              (case side6 => exact HC0_4.out)
              rintro e w42 ⟨v342, rfl, ho0, hb⟩
              refine ⟨_, rfl, ?_⟩
              have n0_ := Aside0.mk (Kd.R_below (by (with_reducible repeat (first | apply Kd.R_alloc | apply Kd.R_drewN | apply Kd.R_drew)); exact HO319.out) hb)
              have n1_ := Aside0.mk (Kd.R_below (by (with_reducible repeat (first | apply Kd.R_alloc | apply Kd.R_drewN | apply Kd.R_drew)); exact HO323.out) hb)
              have n2_ := Aside0.mk (Kd.R_below (by (with_reducible repeat (first | apply Kd.R_alloc | apply Kd.R_drewN | apply Kd.R_drew)); exact HO329.out) hb)
              have n3_ := Aside0.mk (Kd.R_below (by (with_reducible repeat (first | apply Kd.R_alloc | apply Kd.R_drewN | apply Kd.R_drew)); exact HO332.out) hb)
              have n4_ := Aside0.mk (Kd.R_below (by (with_reducible repeat (first | apply Kd.R_alloc | apply Kd.R_drewN | apply Kd.R_drew)); exact HO336.out) hb)
              have n5_ := Aside0.mk (Kd.R_below (by (with_reducible repeat (first | apply Kd.R_alloc | apply Kd.R_drewN | apply Kd.R_drew)); exact HO339.out) hb)
              have n6_ := Aside0.mk (Kd.S_lower (Kd.S_new' (Kd.S_new' ho0 (Kd.R_lt (by (with_reducible repeat (first | apply Kd.R_alloc | apply Kd.R_drewN | apply Kd.R_drew)); exact HO319.out))) (Kd.R_lt (by (with_reducible repeat (first | apply Kd.R_alloc | apply Kd.R_drewN | apply Kd.R_drew)); exact HO323.out))) (below_size (by repeat (first | (with_reducible first | exact HB.out | apply below_alloc | apply pw_below_drewN | apply below_drew1 | refine below_set ?_ GE316.out) | exact HB.out))))
              have n7_ := Aside0.mk (blk_below (g := gb316) (o := .cells #[.slice A0_0 l0_0.length c0_0, .slice A0_1 l0_1.length c0_1, .int .i64 a0_2, .int .i64 a0_3, .slice A0_4 l0_4.length c0_4] 26 (0, 0)) (by (with_reducible repeat (first | refine blk_drewN ?_ _ | refine blk_drew ?_ | refine blk_alloc ?_ _)); exact BK316.out) hb)
              have n8_ := Aside0.mk (below_step (by repeat (first | (with_reducible first | exact HB.out | apply below_alloc | apply pw_below_drewN | apply below_drew1 | refine below_set ?_ GE316.out) | exact HB.out)) hb)
              clear HO319
              clear HO323
              clear HO329
              clear HO332
              clear HO336
              clear HO339
              clear BK316
              clear HB
              have HO319 := n0_
              have HO323 := n1_
              have HO329 := n2_
              have HO332 := n3_
              have HO336 := n4_
              have HO339 := n5_
              have HO343 := n6_
              have BK316 := n7_
              have HB := n8_
              clear n0_ n1_ n2_ n3_ n4_ n5_ n6_ n7_ n8_
              (try clear hb)
              (try clear hb2)
              (try clear hk)
              (try clear hi)
              (try clear ho0)
              refine hK.out _ _ ⟨(blk_cell BK316.out 0).trans rfl, (blk_cell BK316.out 1).trans rfl, (blk_cell BK316.out 2).trans rfl, (blk_cell BK316.out 3).trans rfl, (blk_cell BK316.out 4).trans rfl⟩ (fun hHeld => ?_)
              clear hK K
              refine norm_ (a' := ?_) ?_ ?_
              rotate_left
              · show Act.put _ (some 42) _ = _
                simp only [Act.put, List.setIfInBounds_toArray, List.set_cons_zero, List.set_cons_succ, i64_w, i32_w]
                rfl
              refine one_ (i := 23) (N := some 44) #[true, true, true, true, true, true, true, true, true, true, true, true, true, true, true, true, true, true, true, true, true, true, true, true, false, false, false, false, false, false, false, false, false, false, false, false, false, false, false, false, false, false, false, false] rfl rfl (one_of HT_.out (by kernel_rfl)) (by decide) (fun K hK => ?_)
              refine goes_ Try.func29 (by kernel_rfl) rfl #[.agg #[.slice A0_0 l0_0.length c0_0, .slice A0_1 l0_1.length c0_1, .int .i64 a0_2, .int .i64 a0_3, .slice A0_4 l0_4.length c0_4]] (by rfl) rfl rfl (by (try simp only [List.map_toArray, List.map_cons, List.map_nil]); first | done | rfl | (simp only [List.length_drop, List.length_take]; rfl)) ?_
              with_reducible refine (regletref13_First.calls k _ _ l0_0 _ _ l0_1 a0_2 a0_3 _ _ l0_4 t344 _ ?side1 ?side2 ?side3 ?side4 ?side5 ?side6 A17.out).mono ?_
              (case side1 => repeat (first | exact (Kd.C_below HR0_0.out HB.out) | (with_reducible refine Kd.C_alloc ?_ _) | (with_reducible refine Kd.C_drewN ?_ _) | (with_reducible refine Kd.C_drew ?_)))
              (case side2 => exact HC0_0.out)
              (case side3 => repeat (first | exact (Kd.C_below HR0_1.out HB.out) | (with_reducible refine Kd.C_alloc ?_ _) | (with_reducible refine Kd.C_drewN ?_ _) | (with_reducible refine Kd.C_drew ?_)))
              (case side4 => exact HC0_1.out)
              (case side5 => repeat (first | exact (Kd.C_below HR0_4.out HB.out) | (with_reducible refine Kd.C_alloc ?_ _) | (with_reducible refine Kd.C_drewN ?_ _) | (with_reducible refine Kd.C_drew ?_)))
              (case side6 => exact HC0_4.out)
              rintro e w43 ⟨v345, rfl, ho0, hb⟩
              refine ⟨_, rfl, ?_⟩
              have n0_ := Aside0.mk (Kd.R_below (by (with_reducible repeat (first | apply Kd.R_alloc | apply Kd.R_drewN | apply Kd.R_drew)); exact HO319.out) hb)
              have n1_ := Aside0.mk (Kd.R_below (by (with_reducible repeat (first | apply Kd.R_alloc | apply Kd.R_drewN | apply Kd.R_drew)); exact HO323.out) hb)
              have n2_ := Aside0.mk (Kd.R_below (by (with_reducible repeat (first | apply Kd.R_alloc | apply Kd.R_drewN | apply Kd.R_drew)); exact HO329.out) hb)
              have n3_ := Aside0.mk (Kd.R_below (by (with_reducible repeat (first | apply Kd.R_alloc | apply Kd.R_drewN | apply Kd.R_drew)); exact HO332.out) hb)
              have n4_ := Aside0.mk (Kd.R_below (by (with_reducible repeat (first | apply Kd.R_alloc | apply Kd.R_drewN | apply Kd.R_drew)); exact HO336.out) hb)
              have n5_ := Aside0.mk (Kd.R_below (by (with_reducible repeat (first | apply Kd.R_alloc | apply Kd.R_drewN | apply Kd.R_drew)); exact HO339.out) hb)
              have n6_ := Aside0.mk (Kd.S_elder' (by (with_reducible repeat (first | apply Kd.S_alloc | apply Kd.S_drewN | apply Kd.S_drew)); exact HO343.out) (Kd.S_base ho0) hb)
              have n7_ := Aside0.mk (Kd.S_lower (Kd.S_new' (Kd.S_new' (Kd.S_new' ho0 (Kd.R_lt (by (with_reducible repeat (first | apply Kd.R_alloc | apply Kd.R_drewN | apply Kd.R_drew)); exact HO319.out))) (Kd.R_lt (by (with_reducible repeat (first | apply Kd.R_alloc | apply Kd.R_drewN | apply Kd.R_drew)); exact HO323.out))) (Kd.S_lt (by (with_reducible repeat (first | apply Kd.S_alloc | apply Kd.S_drewN | apply Kd.S_drew)); exact HO343.out))) (below_size (by repeat (first | (with_reducible first | exact HB.out | apply below_alloc | apply pw_below_drewN | apply below_drew1 | refine below_set ?_ GE316.out) | exact HB.out))))
              have n8_ := Aside0.mk (blk_below (g := gb316) (o := .cells #[.slice A0_0 l0_0.length c0_0, .slice A0_1 l0_1.length c0_1, .int .i64 a0_2, .int .i64 a0_3, .slice A0_4 l0_4.length c0_4] 26 (0, 0)) (by (with_reducible repeat (first | refine blk_drewN ?_ _ | refine blk_drew ?_ | refine blk_alloc ?_ _)); exact BK316.out) hb)
              have n9_ := Aside0.mk (below_step (by repeat (first | (with_reducible first | exact HB.out | apply below_alloc | apply pw_below_drewN | apply below_drew1 | refine below_set ?_ GE316.out) | exact HB.out)) hb)
              clear HO319
              clear HO323
              clear HO329
              clear HO332
              clear HO336
              clear HO339
              clear HO343
              clear BK316
              clear HB
              have HO319 := n0_
              have HO323 := n1_
              have HO329 := n2_
              have HO332 := n3_
              have HO336 := n4_
              have HO339 := n5_
              have HO343 := n6_
              have HO346 := n7_
              have BK316 := n8_
              have HB := n9_
              clear n0_ n1_ n2_ n3_ n4_ n5_ n6_ n7_ n8_ n9_
              (try clear hb)
              (try clear hb2)
              (try clear hk)
              (try clear hi)
              (try clear ho0)
              obtain ⟨Ao44, co44, eo44⟩ := Kd.S_slice HO343.out
              (first | subst eo44 | (injection eo44 with f1_ f2_ f3_; have f4_ := f1_.symm; have f5_ := f3_.symm; clear f1_ f2_ f3_; subst f4_; subst f5_))
              obtain ⟨Ao45, co45, eo45⟩ := Kd.S_slice HO346.out
              (first | subst eo45 | (injection eo45 with f1_ f2_ f3_; have f4_ := f1_.symm; have f5_ := f3_.symm; clear f1_ f2_ f3_; subst f4_; subst f5_))
              refine hK.out _ _ ⟨(blk_cell BK316.out 0).trans rfl, (blk_cell BK316.out 1).trans rfl, (blk_cell BK316.out 2).trans rfl, (blk_cell BK316.out 3).trans rfl, (blk_cell BK316.out 4).trans rfl⟩ (fun hHeld => ?_)
              clear hK K
              refine norm_ (a' := ?_) ?_ ?_
              rotate_left
              · show Act.put _ (some 44) _ = _
                simp only [Act.put, List.setIfInBounds_toArray, List.set_cons_zero, List.set_cons_succ, i64_w, i32_w]
                rfl
              refine one_ (i := 24) (N := some 45) #[true, true, true, true, true, true, true, true, true, true, true, true, true, true, true, true, true, true, true, true, true, true, true, true, true, false, false, false, false, false, false, false, false, false, false, false, false, false, false, false, false, false, false, false] rfl rfl (one_of HT_.out (by kernel_rfl)) (by decide) (fun K hK => ?_)
              refine goes_ Try.func24 (by kernel_rfl) rfl #[.slice Ao44 t341.length co44, .slice Ao45 t344.length co45] (by rfl) rfl rfl (by (try simp only [List.map_toArray, List.map_cons, List.map_nil]); first | done | rfl | (simp only [List.length_drop, List.length_take]; rfl)) ?_
              with_reducible refine (regletref13_SameLists.calls k _ _ t341 _ _ t344 true _ ?side1 ?side2 ?side3 ?side4 A18.out).mono ?_
              (case side1 => repeat (first | exact (Kd.S_reads' HO343.out).2.2 | (with_reducible refine Kd.C_alloc ?_ _) | (with_reducible refine Kd.C_drewN ?_ _) | (with_reducible refine Kd.C_drew ?_)))
              (case side2 => exact (Kd.S_reads' HO343.out).2.1)
              (case side3 => repeat (first | exact (Kd.S_reads' HO346.out).2.2 | (with_reducible refine Kd.C_alloc ?_ _) | (with_reducible refine Kd.C_drewN ?_ _) | (with_reducible refine Kd.C_drew ?_)))
              (case side4 => exact (Kd.S_reads' HO346.out).2.1)
              rintro e w' ⟨rfl, ⟨nd, rfl⟩⟩
              refine ⟨_, rfl, ?_⟩
              refine hK.out _ _ ⟨(blk_cell BK316.out 0).trans rfl, (blk_cell BK316.out 1).trans rfl, (blk_cell BK316.out 2).trans rfl, (blk_cell BK316.out 3).trans rfl, (blk_cell BK316.out 4).trans rfl⟩ (fun hHeld => ?_)
              clear hK K
              refine norm_ (a' := ?_) ?_ ?_
              rotate_left
              · show Act.put _ (some 45) _ = _
                simp only [Act.put, List.setIfInBounds_toArray, List.set_cons_zero, List.set_cons_succ, i64_w, i32_w]
                rfl
              refine pure_ (i := 25) (N := some 46) (v := ?_) (a' := ?_) #[true, true, true, true, true, true, true, true, true, true, true, true, true, true, true, true, true, true, true, true, true, true, true, true, true, true, false, false, false, false, false, false, false, false, false, false, false, false, false, false, false, false, false, false] rfl rfl (any_of HT_.out (by kernel_rfl)) (fun _ _ _ h => h) (Or.inl ⟨by rfl, ?_⟩) ?_ ?_
              rotate_left
              · intro w'
                go_simp
                with_reducible rfl
              rotate_left
              · simp only [Act.put, List.setIfInBounds_toArray, List.set_cons_zero, List.set_cons_succ, i64_w, i32_w]
                rfl
              refine pure_ (i := 26) (N := some 47) (v := ?_) (a' := ?_) #[true, true, true, true, true, true, true, true, true, true, true, true, true, true, true, true, true, true, true, true, true, true, true, true, true, true, true, false, false, false, false, false, false, false, false, false, false, false, false, false, false, false, false, false] rfl rfl (any_of HT_.out (by kernel_rfl)) (fun _ _ _ h => h) (Or.inl ⟨by rfl, ?_⟩) ?_ ?_
              rotate_left
              · intro w'
                go_simp
                with_reducible rfl
              rotate_left
              · simp only [Act.put, List.setIfInBounds_toArray, List.set_cons_zero, List.set_cons_succ, i64_w, i32_w]
                rfl
              refine take_ (i := 27) (N := some 48) (v := ?_) (a' := ?_) #[true, true, true, true, true, true, true, true, true, true, true, true, true, true, true, true, true, true, true, true, true, true, true, true, true, true, true, true, false, false, false, false, false, false, false, false, false, false, false, false, false, false, false, false] rfl rfl (take_ofW HT_.out HW_.out (by kernel_rfl)) (fun _ _ _ h => h) (Or.inl ⟨by rfl, ?_⟩) hHeld ?_ ?_
              rotate_left
              · rintro w' ⟨s0, s1, s2, s3, s4⟩
                go_simp
                with_reducible rfl
              rotate_left
              · simp only [Act.put, List.setIfInBounds_toArray, List.set_cons_zero, List.set_cons_succ, i64_w, i32_w]
                rfl
              refine take_ (i := 29) (N := some 50) (v := ?_) (a' := ?_) #[true, true, true, true, true, true, true, true, true, true, true, true, true, true, true, true, true, true, true, true, true, true, true, true, true, true, true, true, false, true, false, false, false, false, false, false, false, false, false, false, false, false, false, false] rfl rfl (take_ofW HT_.out HW_.out (by kernel_rfl)) (fun _ _ _ h => h) (Or.inl ⟨by rfl, ?_⟩) hHeld ?_ ?_
              rotate_left
              · rintro w' ⟨s0, s1, s2, s3, s4⟩
                go_simp
                with_reducible rfl
              rotate_left
              · simp only [Act.put, List.setIfInBounds_toArray, List.set_cons_zero, List.set_cons_succ, i64_w, i32_w]
                rfl
              refine one_ (i := 28) (N := some 49) #[true, true, true, true, true, true, true, true, true, true, true, true, true, true, true, true, true, true, true, true, true, true, true, true, true, true, true, true, true, true, false, false, false, false, false, false, false, false, false, false, false, false, false, false] rfl rfl (one_of HT_.out (by kernel_rfl)) (by decide) (fun K hK => ?_)
              refine goes_ Try.func18 (by kernel_rfl) rfl #[.agg #[.slice A0_0 l0_0.length c0_0, .slice A0_1 l0_1.length c0_1, .int .i64 a0_2, .int .i64 a0_3, .slice A0_4 l0_4.length c0_4]] (by rfl) rfl rfl (by (try simp only [List.map_toArray, List.map_cons, List.map_nil]); first | done | rfl | (simp only [List.length_drop, List.length_take]; rfl)) ?_
              with_reducible refine (firsts_Follow.calls k _ _ l0_0 _ _ l0_1 a0_2 a0_3 _ _ l0_4 t348 _ ?side1 ?side2 ?side3 ?side4 ?side5 ?side6 A20.out).mono ?_
              (case side1 => repeat (first | exact (Kd.C_below HR0_0.out (by repeat (first | (with_reducible first | exact HB.out | apply below_alloc | apply pw_below_drewN | apply below_drew1 | refine below_set ?_ GE316.out) | exact HB.out))) | (with_reducible refine Kd.C_alloc ?_ _) | (with_reducible refine Kd.C_drewN ?_ _) | (with_reducible refine Kd.C_drew ?_)))
              (case side2 => exact HC0_0.out)
              (case side3 => repeat (first | exact (Kd.C_below HR0_1.out (by repeat (first | (with_reducible first | exact HB.out | apply below_alloc | apply pw_below_drewN | apply below_drew1 | refine below_set ?_ GE316.out) | exact HB.out))) | (with_reducible refine Kd.C_alloc ?_ _) | (with_reducible refine Kd.C_drewN ?_ _) | (with_reducible refine Kd.C_drew ?_)))
              (case side4 => exact HC0_1.out)
              (case side5 => repeat (first | exact (Kd.C_below HR0_4.out (by repeat (first | (with_reducible first | exact HB.out | apply below_alloc | apply pw_below_drewN | apply below_drew1 | refine below_set ?_ GE316.out) | exact HB.out))) | (with_reducible refine Kd.C_alloc ?_ _) | (with_reducible refine Kd.C_drewN ?_ _) | (with_reducible refine Kd.C_drew ?_)))
              (case side6 => exact HC0_4.out)
              rintro e w46 ⟨v349, rfl, ho0, hb⟩
              refine ⟨_, rfl, ?_⟩
              have n0_ := Aside0.mk (Kd.R_below (by (with_reducible repeat (first | apply Kd.R_alloc | apply Kd.R_drewN | apply Kd.R_drew)); exact HO319.out) hb)
              have n1_ := Aside0.mk (Kd.R_below (by (with_reducible repeat (first | apply Kd.R_alloc | apply Kd.R_drewN | apply Kd.R_drew)); exact HO323.out) hb)
              have n2_ := Aside0.mk (Kd.R_below (by (with_reducible repeat (first | apply Kd.R_alloc | apply Kd.R_drewN | apply Kd.R_drew)); exact HO329.out) hb)
              have n3_ := Aside0.mk (Kd.R_below (by (with_reducible repeat (first | apply Kd.R_alloc | apply Kd.R_drewN | apply Kd.R_drew)); exact HO332.out) hb)
              have n4_ := Aside0.mk (Kd.R_below (by (with_reducible repeat (first | apply Kd.R_alloc | apply Kd.R_drewN | apply Kd.R_drew)); exact HO336.out) hb)
              have n5_ := Aside0.mk (Kd.R_below (by (with_reducible repeat (first | apply Kd.R_alloc | apply Kd.R_drewN | apply Kd.R_drew)); exact HO339.out) hb)
              have n6_ := Aside0.mk (Kd.S_elder' (by (with_reducible repeat (first | apply Kd.S_alloc | apply Kd.S_drewN | apply Kd.S_drew)); exact HO343.out) (Kd.S_base ho0) hb)
              have n7_ := Aside0.mk (Kd.S_elder' (by (with_reducible repeat (first | apply Kd.S_alloc | apply Kd.S_drewN | apply Kd.S_drew)); exact HO346.out) (Kd.S_base ho0) hb)
              have n8_ := Aside0.mk (Kd.S_lower (Kd.S_new' (Kd.S_new' (Kd.S_new' (Kd.S_new' ho0 (Kd.R_lt (by (with_reducible repeat (first | apply Kd.R_alloc | apply Kd.R_drewN | apply Kd.R_drew)); exact HO319.out))) (Kd.R_lt (by (with_reducible repeat (first | apply Kd.R_alloc | apply Kd.R_drewN | apply Kd.R_drew)); exact HO323.out))) (Kd.S_lt (by (with_reducible repeat (first | apply Kd.S_alloc | apply Kd.S_drewN | apply Kd.S_drew)); exact HO343.out))) (Kd.S_lt (by (with_reducible repeat (first | apply Kd.S_alloc | apply Kd.S_drewN | apply Kd.S_drew)); exact HO346.out))) (below_size (by repeat (first | (with_reducible first | exact HB.out | apply below_alloc | apply pw_below_drewN | apply below_drew1 | refine below_set ?_ GE316.out) | exact HB.out))))
              have n9_ := Aside0.mk (blk_below (g := gb316) (o := .cells #[.slice A0_0 l0_0.length c0_0, .slice A0_1 l0_1.length c0_1, .int .i64 a0_2, .int .i64 a0_3, .slice A0_4 l0_4.length c0_4] 26 (0, 0)) (by (with_reducible repeat (first | refine blk_drewN ?_ _ | refine blk_drew ?_ | refine blk_alloc ?_ _)); exact BK316.out) hb)
              have n10_ := Aside0.mk (below_step (by repeat (first | (with_reducible first | exact HB.out | apply below_alloc | apply pw_below_drewN | apply below_drew1 | refine below_set ?_ GE316.out) | exact HB.out)) hb)
              clear HO319
              clear HO323
              clear HO329
              clear HO332
              clear HO336
              clear HO339
              clear HO343
              clear HO346
              clear BK316
              clear HB
              have HO319 := n0_
              have HO323 := n1_
              have HO329 := n2_
              have HO332 := n3_
              have HO336 := n4_
              have HO339 := n5_
              have HO343 := n6_
              have HO346 := n7_
              have HO350 := n8_
              have BK316 := n9_
              have HB := n10_
              clear n0_ n1_ n2_ n3_ n4_ n5_ n6_ n7_ n8_ n9_ n10_
              (try clear hb)
              (try clear hb2)
              (try clear hk)
              (try clear hi)
              (try clear ho0)
              refine hK.out _ _ ⟨(blk_cell BK316.out 0).trans rfl, (blk_cell BK316.out 1).trans rfl, (blk_cell BK316.out 2).trans rfl, (blk_cell BK316.out 3).trans rfl, (blk_cell BK316.out 4).trans rfl⟩ (fun hHeld => ?_)
              clear hK K
              refine norm_ (a' := ?_) ?_ ?_
              rotate_left
              · show Act.put _ (some 49) _ = _
                simp only [Act.put, List.setIfInBounds_toArray, List.set_cons_zero, List.set_cons_succ, i64_w, i32_w]
                rfl
              refine one_ (i := 30) (N := some 51) #[true, true, true, true, true, true, true, true, true, true, true, true, true, true, true, true, true, true, true, true, true, true, true, true, true, true, true, true, true, true, true, false, false, false, false, false, false, false, false, false, false, false, false, false] rfl rfl (one_of HT_.out (by kernel_rfl)) (by decide) (fun K hK => ?_)
              refine goes_ Try.func30 (by kernel_rfl) rfl #[.agg #[.slice A0_0 l0_0.length c0_0, .slice A0_1 l0_1.length c0_1, .int .i64 a0_2, .int .i64 a0_3, .slice A0_4 l0_4.length c0_4]] (by rfl) rfl rfl (by (try simp only [List.map_toArray, List.map_cons, List.map_nil]); first | done | rfl | (simp only [List.length_drop, List.length_take]; rfl)) ?_
              with_reducible refine (regletref13_Follow.calls k _ _ l0_0 _ _ l0_1 a0_2 a0_3 _ _ l0_4 t351 _ ?side1 ?side2 ?side3 ?side4 ?side5 ?side6 A21.out).mono ?_
              (case side1 => repeat (first | exact (Kd.C_below HR0_0.out HB.out) | (with_reducible refine Kd.C_alloc ?_ _) | (with_reducible refine Kd.C_drewN ?_ _) | (with_reducible refine Kd.C_drew ?_)))
              (case side2 => exact HC0_0.out)
              (case side3 => repeat (first | exact (Kd.C_below HR0_1.out HB.out) | (with_reducible refine Kd.C_alloc ?_ _) | (with_reducible refine Kd.C_drewN ?_ _) | (with_reducible refine Kd.C_drew ?_)))
              (case side4 => exact HC0_1.out)
              (case side5 => repeat (first | exact (Kd.C_below HR0_4.out HB.out) | (with_reducible refine Kd.C_alloc ?_ _) | (with_reducible refine Kd.C_drewN ?_ _) | (with_reducible refine Kd.C_drew ?_)))
              (case side6 => exact HC0_4.out)
              rintro e w47 ⟨v352, rfl, ho0, hb⟩
              refine ⟨_, rfl, ?_⟩
              have n0_ := Aside0.mk (Kd.R_below (by (with_reducible repeat (first | apply Kd.R_alloc | apply Kd.R_drewN | apply Kd.R_drew)); exact HO319.out) hb)
              have n1_ := Aside0.mk (Kd.R_below (by (with_reducible repeat (first | apply Kd.R_alloc | apply Kd.R_drewN | apply Kd.R_drew)); exact HO323.out) hb)
              have n2_ := Aside0.mk (Kd.R_below (by (with_reducible repeat (first | apply Kd.R_alloc | apply Kd.R_drewN | apply Kd.R_drew)); exact HO329.out) hb)
              have n3_ := Aside0.mk (Kd.R_below (by (with_reducible repeat (first | apply Kd.R_alloc | apply Kd.R_drewN | apply Kd.R_drew)); exact HO332.out) hb)
              have n4_ := Aside0.mk (Kd.R_below (by (with_reducible repeat (first | apply Kd.R_alloc | apply Kd.R_drewN | apply Kd.R_drew)); exact HO336.out) hb)
              have n5_ := Aside0.mk (Kd.R_below (by (with_reducible repeat (first | apply Kd.R_alloc | apply Kd.R_drewN | apply Kd.R_drew)); exact HO339.out) hb)
              have n6_ := Aside0.mk (Kd.S_elder' (by (with_reducible repeat (first | apply Kd.S_alloc | apply Kd.S_drewN | apply Kd.S_drew)); exact HO343.out) (Kd.S_base ho0) hb)
              have n7_ := Aside0.mk (Kd.S_elder' (by (with_reducible repeat (first | apply Kd.S_alloc | apply Kd.S_drewN | apply Kd.S_drew)); exact HO346.out) (Kd.S_base ho0) hb)
              have n8_ := Aside0.mk (Kd.S_elder' (by (with_reducible repeat (first | apply Kd.S_alloc | apply Kd.S_drewN | apply Kd.S_drew)); exact HO350.out) (Kd.S_base ho0) hb)
              have n9_ := Aside0.mk (Kd.S_lower (Kd.S_new' (Kd.S_new' (Kd.S_new' (Kd.S_new' (Kd.S_new' ho0 (Kd.R_lt (by (with_reducible repeat (first | apply Kd.R_alloc | apply Kd.R_drewN | apply Kd.R_drew)); exact HO319.out))) (Kd.R_lt (by (with_reducible repeat (first | apply Kd.R_alloc | apply Kd.R_drewN | apply Kd.R_drew)); exact HO323.out))) (Kd.S_lt (by (with_reducible repeat (first | apply Kd.S_alloc | apply Kd.S_drewN | apply Kd.S_drew)); exact HO343.out))) (Kd.S_lt (by (with_reducible repeat (first | apply Kd.S_alloc | apply Kd.S_drewN | apply Kd.S_drew)); exact HO346.out))) (Kd.S_lt (by (with_reducible repeat (first | apply Kd.S_alloc | apply Kd.S_drewN | apply Kd.S_drew)); exact HO350.out))) (below_size (by repeat (first | (with_reducible first | exact HB.out | apply below_alloc | apply pw_below_drewN | apply below_drew1 | refine below_set ?_ GE316.out) | exact HB.out))))
              have n10_ := Aside0.mk (blk_below (g := gb316) (o := .cells #[.slice A0_0 l0_0.length c0_0, .slice A0_1 l0_1.length c0_1, .int .i64 a0_2, .int .i64 a0_3, .slice A0_4 l0_4.length c0_4] 26 (0, 0)) (by (with_reducible repeat (first | refine blk_drewN ?_ _ | refine blk_drew ?_ | refine blk_alloc ?_ _)); exact BK316.out) hb)
              have n11_ := Aside0.mk (below_step (by repeat (first | (with_reducible first | exact HB.out | apply below_alloc | apply pw_below_drewN | apply below_drew1 | refine below_set ?_ GE316.out) | exact HB.out)) hb)
              clear HO319
              clear HO323
              clear HO329
              clear HO332
              clear HO336
              clear HO339
              clear HO343
              clear HO346
              clear HO350
              clear BK316
              clear HB
              have HO319 := n0_
              have HO323 := n1_
              have HO329 := n2_
              have HO332 := n3_
              have HO336 := n4_
              have HO339 := n5_
              have HO343 := n6_
              have HO346 := n7_
              have HO350 := n8_
              have HO353 := n9_
              have BK316 := n10_
              have HB := n11_
              clear n0_ n1_ n2_ n3_ n4_ n5_ n6_ n7_ n8_ n9_ n10_ n11_
              (try clear hb)
              (try clear hb2)
              (try clear hk)
              (try clear hi)
              (try clear ho0)
              obtain ⟨Ao48, co48, eo48⟩ := Kd.S_slice HO350.out
              (first | subst eo48 | (injection eo48 with f1_ f2_ f3_; have f4_ := f1_.symm; have f5_ := f3_.symm; clear f1_ f2_ f3_; subst f4_; subst f5_))
              obtain ⟨Ao49, co49, eo49⟩ := Kd.S_slice HO353.out
              (first | subst eo49 | (injection eo49 with f1_ f2_ f3_; have f4_ := f1_.symm; have f5_ := f3_.symm; clear f1_ f2_ f3_; subst f4_; subst f5_))
              refine hK.out _ _ ⟨(blk_cell BK316.out 0).trans rfl, (blk_cell BK316.out 1).trans rfl, (blk_cell BK316.out 2).trans rfl, (blk_cell BK316.out 3).trans rfl, (blk_cell BK316.out 4).trans rfl⟩ (fun hHeld => ?_)
              clear hK K
              refine norm_ (a' := ?_) ?_ ?_
              rotate_left
              · show Act.put _ (some 51) _ = _
                simp only [Act.put, List.setIfInBounds_toArray, List.set_cons_zero, List.set_cons_succ, i64_w, i32_w]
                rfl
              refine one_ (i := 31) (N := some 52) #[true, true, true, true, true, true, true, true, true, true, true, true, true, true, true, true, true, true, true, true, true, true, true, true, true, true, true, true, true, true, true, true, false, false, false, false, false, false, false, false, false, false, false, false] rfl rfl (one_of HT_.out (by kernel_rfl)) (by decide) (fun K hK => ?_)
              refine goes_ Try.func24 (by kernel_rfl) rfl #[.slice Ao48 t348.length co48, .slice Ao49 t351.length co49] (by rfl) rfl rfl (by (try simp only [List.map_toArray, List.map_cons, List.map_nil]); first | done | rfl | (simp only [List.length_drop, List.length_take]; rfl)) ?_
              with_reducible refine (regletref13_SameLists.calls k _ _ t348 _ _ t351 true _ ?side1 ?side2 ?side3 ?side4 A22.out).mono ?_
              (case side1 => repeat (first | exact (Kd.S_reads' HO350.out).2.2 | (with_reducible refine Kd.C_alloc ?_ _) | (with_reducible refine Kd.C_drewN ?_ _) | (with_reducible refine Kd.C_drew ?_)))
              (case side2 => exact (Kd.S_reads' HO350.out).2.1)
              (case side3 => repeat (first | exact (Kd.S_reads' HO353.out).2.2 | (with_reducible refine Kd.C_alloc ?_ _) | (with_reducible refine Kd.C_drewN ?_ _) | (with_reducible refine Kd.C_drew ?_)))
              (case side4 => exact (Kd.S_reads' HO353.out).2.1)
              rintro e w' ⟨rfl, ⟨nd, rfl⟩⟩
              refine ⟨_, rfl, ?_⟩
              obtain ⟨Ao50, co50, eo50⟩ := Kd.R_slice HO319.out
              (first | subst eo50 | (injection eo50 with f1_ f2_ f3_; have f4_ := f1_.symm; have f5_ := f3_.symm; clear f1_ f2_ f3_; subst f4_; subst f5_))
              obtain ⟨Ao51, co51, eo51⟩ := Kd.R_slice HO323.out
              (first | subst eo51 | (injection eo51 with f1_ f2_ f3_; have f4_ := f1_.symm; have f5_ := f3_.symm; clear f1_ f2_ f3_; subst f4_; subst f5_))
              refine hK.out _ _ ⟨(blk_cell BK316.out 0).trans rfl, (blk_cell BK316.out 1).trans rfl, (blk_cell BK316.out 2).trans rfl, (blk_cell BK316.out 3).trans rfl, (blk_cell BK316.out 4).trans rfl⟩ (fun hHeld => ?_)
              clear hK K
              refine norm_ (a' := ?_) ?_ ?_
              rotate_left
              · show Act.put _ (some 52) _ = _
                simp only [Act.put, List.setIfInBounds_toArray, List.set_cons_zero, List.set_cons_succ, i64_w, i32_w]
                rfl
              refine pure_ (i := 32) (N := some 53) (v := ?_) (a' := ?_) #[true, true, true, true, true, true, true, true, true, true, true, true, true, true, true, true, true, true, true, true, true, true, true, true, true, true, true, true, true, true, true, true, true, false, false, false, false, false, false, false, false, false, false, false] rfl rfl (any_of HT_.out (by kernel_rfl)) (fun _ _ _ h => h) (Or.inl ⟨by rfl, ?_⟩) ?_ ?_
              rotate_left
              · intro w'
                go_simp
                with_reducible rfl
              rotate_left
              · simp only [Act.put, List.setIfInBounds_toArray, List.set_cons_zero, List.set_cons_succ, i64_w, i32_w]
                rfl
              refine pure_ (i := 33) (N := some 54) (v := ?_) (a' := ?_) #[true, true, true, true, true, true, true, true, true, true, true, true, true, true, true, true, true, true, true, true, true, true, true, true, true, true, true, true, true, true, true, true, true, true, false, false, false, false, false, false, false, false, false, false] rfl rfl (any_of HT_.out (by kernel_rfl)) (fun _ _ _ h => h) (Or.inl ⟨by rfl, ?_⟩) ?_ ?_
              rotate_left
              · intro w'
                go_simp
                with_reducible rfl
              rotate_left
              · simp only [Act.put, List.setIfInBounds_toArray, List.set_cons_zero, List.set_cons_succ, i64_w, i32_w]
                rfl
              refine pure_ (i := 34) (N := some 55) (v := ?_) (a' := ?_) #[true, true, true, true, true, true, true, true, true, true, true, true, true, true, true, true, true, true, true, true, true, true, true, true, true, true, true, true, true, true, true, true, true, true, true, false, false, false, false, false, false, false, false, false] rfl rfl (any_of HT_.out (by kernel_rfl)) (fun _ _ _ h => h) (Or.inl ⟨by rfl, ?_⟩) ?_ ?_
              rotate_left
              · intro w'
                go_simp
                with_reducible rfl
              rotate_left
              · simp only [Act.put, List.setIfInBounds_toArray, List.set_cons_zero, List.set_cons_succ, i64_w, i32_w]
                rfl
              refine pure_ (i := 35) (N := some 56) (v := ?_) (a' := ?_) #[true, true, true, true, true, true, true, true, true, true, true, true, true, true, true, true, true, true, true, true, true, true, true, true, true, true, true, true, true, true, true, true, true, true, true, true, false, false, false, false, false, false, false, false] rfl rfl (any_of HT_.out (by kernel_rfl)) (fun _ _ _ h => h) (Or.inl ⟨by rfl, ?_⟩) ?_ ?_
              rotate_left
              · intro w'
                go_simp
                with_reducible rfl
              rotate_left
              · simp only [Act.put, List.setIfInBounds_toArray, List.set_cons_zero, List.set_cons_succ, i64_w, i32_w]
                rfl
              refine one_ (i := 36) (N := some 57) #[true, true, true, true, true, true, true, true, true, true, true, true, true, true, true, true, true, true, true, true, true, true, true, true, true, true, true, true, true, true, true, true, true, true, true, true, true, false, false, false, false, false, false, false] rfl rfl (one_of HT_.out (by kernel_rfl)) (by decide) (fun K hK => ?_)
              refine goes_ Try.func22 (by kernel_rfl) rfl #[.slice Ao50 t317.length co50, .slice Ao51 t321.length co51] (by rfl) rfl rfl (by (try simp only [List.map_toArray, List.map_cons, List.map_nil]); first | done | rfl | (simp only [List.length_drop, List.length_take]; rfl)) ?_
              with_reducible refine (regletref13_SameInts.calls k _ _ t317 _ _ t321 true _ ?side1 ?side2 ?side3 ?side4 A24.out).mono ?_
              (case side1 => repeat (first | exact (Kd.R_reads' HO319.out).2.2 | (with_reducible refine Kd.C_alloc ?_ _) | (with_reducible refine Kd.C_drewN ?_ _) | (with_reducible refine Kd.C_drew ?_)))
              (case side2 => exact (Kd.R_reads' HO319.out).2.1)
              (case side3 => repeat (first | exact (Kd.R_reads' HO323.out).2.2 | (with_reducible refine Kd.C_alloc ?_ _) | (with_reducible refine Kd.C_drewN ?_ _) | (with_reducible refine Kd.C_drew ?_)))
              (case side4 => exact (Kd.R_reads' HO323.out).2.1)
              rintro e w' ⟨rfl, ⟨nd, rfl⟩⟩
              refine ⟨_, rfl, ?_⟩
              refine hK.out _ _ ⟨(blk_cell BK316.out 0).trans rfl, (blk_cell BK316.out 1).trans rfl, (blk_cell BK316.out 2).trans rfl, (blk_cell BK316.out 3).trans rfl, (blk_cell BK316.out 4).trans rfl⟩ (fun hHeld => ?_)
              clear hK K
              refine norm_ (a' := ?_) ?_ ?_
              rotate_left
              · show Act.put _ (some 57) _ = _
                simp only [Act.put, List.setIfInBounds_toArray, List.set_cons_zero, List.set_cons_succ, i64_w, i32_w]
                rfl
              refine pure_ (i := 37) (N := some 58) (v := ?_) (a' := ?_) #[true, true, true, true, true, true, true, true, true, true, true, true, true, true, true, true, true, true, true, true, true, true, true, true, true, true, true, true, true, true, true, true, true, true, true, true, true, true, false, false, false, false, false, false] rfl rfl (any_of HT_.out (by kernel_rfl)) (fun _ _ _ h => h) (Or.inl ⟨by rfl, ?_⟩) ?_ ?_
              rotate_left
              · intro w'
                go_simp
                with_reducible rfl
              rotate_left
              · simp only [Act.put, List.setIfInBounds_toArray, List.set_cons_zero, List.set_cons_succ, i64_w, i32_w]
                rfl
              refine pure_ (i := 38) (N := some 59) (v := ?_) (a' := ?_) #[true, true, true, true, true, true, true, true, true, true, true, true, true, true, true, true, true, true, true, true, true, true, true, true, true, true, true, true, true, true, true, true, true, true, true, true, true, true, true, false, false, false, false, false] rfl rfl (any_of HT_.out (by kernel_rfl)) (fun _ _ _ h => h) (Or.inl ⟨by rfl, ?_⟩) ?_ ?_
              rotate_left
              · intro w'
                go_simp
                with_reducible rfl
              rotate_left
              · simp only [Act.put, List.setIfInBounds_toArray, List.set_cons_zero, List.set_cons_succ, i64_w, i32_w]
                rfl
              refine pure_ (i := 39) (N := some 60) (v := ?_) (a' := ?_) #[true, true, true, true, true, true, true, true, true, true, true, true, true, true, true, true, true, true, true, true, true, true, true, true, true, true, true, true, true, true, true, true, true, true, true, true, true, true, true, true, false, false, false, false] rfl rfl (any_of HT_.out (by kernel_rfl)) (fun _ _ _ h => h) (Or.inl ⟨by rfl, ?_⟩) ?_ ?_
              rotate_left
              · intro w'
                go_simp
                with_reducible rfl
              rotate_left
              · simp only [Act.put, List.setIfInBounds_toArray, List.set_cons_zero, List.set_cons_succ, i64_w, i32_w]
                rfl
              refine pure_ (i := 40) (N := some 61) (v := ?_) (a' := ?_) #[true, true, true, true, true, true, true, true, true, true, true, true, true, true, true, true, true, true, true, true, true, true, true, true, true, true, true, true, true, true, true, true, true, true, true, true, true, true, true, true, true, false, false, false] rfl rfl (any_of HT_.out (by kernel_rfl)) (fun _ _ _ h => h) (Or.inl ⟨by rfl, ?_⟩) ?_ ?_
              rotate_left
              · intro w'
                go_simp
                with_reducible rfl
              rotate_left
              · simp only [Act.put, List.setIfInBounds_toArray, List.set_cons_zero, List.set_cons_succ, i64_w, i32_w]
                rfl
              refine pure_ (i := 41) (N := some 62) (v := ?_) (a' := ?_) #[true, true, true, true, true, true, true, true, true, true, true, true, true, true, true, true, true, true, true, true, true, true, true, true, true, true, true, true, true, true, true, true, true, true, true, true, true, true, true, true, true, true, false, false] rfl rfl (any_of HT_.out (by kernel_rfl)) (fun _ _ _ h => h) (Or.inl ⟨by rfl, ?_⟩) ?_ ?_
              rotate_left
              · intro w'
                go_simp
                with_reducible rfl
              rotate_left
              · simp only [Act.put, List.setIfInBounds_toArray, List.set_cons_zero, List.set_cons_succ, i64_w, i32_w]
                rfl
              refine pure_ (i := 42) (N := some 63) (v := ?_) (a' := ?_) #[true, true, true, true, true, true, true, true, true, true, true, true, true, true, true, true, true, true, true, true, true, true, true, true, true, true, true, true, true, true, true, true, true, true, true, true, true, true, true, true, true, true, true, false] rfl rfl (any_of HT_.out (by kernel_rfl)) (fun _ _ _ h => h) (Or.inl ⟨by rfl, ?_⟩) ?_ ?_
              rotate_left
              · intro w'
                go_simp
                with_reducible rfl
              rotate_left
              · simp only [Act.put, List.setIfInBounds_toArray, List.set_cons_zero, List.set_cons_succ, i64_w, i32_w]
                rfl
              refine pure_ (i := 43) (N := some 4) (v := ?_) (a' := ?_) #[true, true, true, true, true, true, true, true, true, true, true, true, true, true, true, true, true, true, true, true, true, true, true, true, true, true, true, true, true, true, true, true, true, true, true, true, true, true, true, true, true, true, true, true] rfl rfl (any_of HT_.out (by kernel_rfl)) (fun _ _ _ h => h) (Or.inl ⟨by rfl, ?_⟩) ?_ ?_
              rotate_left
              · intro w'
                go_simp
                with_reducible rfl
              rotate_left
              · simp only [Act.put, List.setIfInBounds_toArray, List.set_cons_zero, List.set_cons_succ, i64_w, i32_w]
                rfl
              refine done_ (done_of HT_.out (by kernel_rfl)) ?_
              try go_wp2
              go_ret
              exact ⟨by first | rfl | (simp [errW_none, errW_some] <;> rfl) | (simp [*, errW_none, errW_some] <;> rfl), by repeat (first | (with_reducible first | exact HB.out | apply below_alloc | apply pw_below_drewN | apply below_drew1 | refine below_set ?_ GE316.out) | exact HB.out)⟩
            · replace c25 := Bool.eq_false_iff.mpr c25
              subst c25
              have H1 : (none) = some r := by rw [if_neg (show ¬ (false = true) by decide)] at H; exact H
              clear H
              have H := H1
              clear H1
              exact absurd H (by simp)
          · replace c23 := Bool.eq_false_iff.mpr c23
            subst c23
            have H1 : (none) = some r := by rw [if_neg (show ¬ (false = true) by decide)] at H; exact H
            clear H
            have H := H1
            clear H1
            exact absurd H (by simp)
        · replace c19 := Bool.eq_false_iff.mpr c19
          subst c19
          have H1 : (none) = some r := by rw [if_neg (show ¬ (false = true) by decide)] at H; exact H
          clear H
          have H := H1
          clear H1
          exact absurd H (by simp)
      · replace c15 := Bool.eq_false_iff.mpr c15
        subst c15
        have H1 : (none) = some r := by rw [if_neg (show ¬ (false = true) by decide)] at H; exact H
        clear H
        have H := H1
        clear H1
        exact absurd H (by simp)
    · replace c11 := Bool.eq_false_iff.mpr c11
      subst c11
      have H1 : (none) = some r := by rw [if_neg (show ¬ (false = true) by decide)] at H; exact H
      clear H
      have H := H1
      clear H1
      exact absurd H (by simp)
  · rw [if_neg c7] at H
    exact absurd H (by simp)
end Go.Proofs.Ytojdjjbkpbapfaa.P
end

section
namespace Go.Proofs.Ytojdjjbkpbapfaa.P
open Go.RowKit Go.Proofs.YtojdjjbkpbapfaaW.PrintWords Go.Proofs.YtojdjjbkpbapfaaW.PrintLast Go.Proofs.YtojdjjbkpbapfaaW.PrintMore
attribute [local go_sem] max2_int min2_int max_two min_two max_three min_three max_four min_four   -- for this text's walks alone
set_option linter.unusedVariables false
set_option linter.unusedSimpArgs false
def regletlaw13_FirstsAny.f (k : Nat) (l0_0 : List ByteArray) (l0_1 : List (S62)) (a0_2 : Int) (a0_3 : Int) (l0_4 : List (S34)) (l1 : List (S49)) : Option (Bool) := (regletlaw13_awake.f k).bind fun t357 => (if t357 = true then ((regletlaw13_big.f k l0_0 l0_1 a0_2 a0_3 l0_4 l1 60).bind fun t358 => (if t358 = true then (some true) else ((regletlaw13_same.f k l0_0 l0_1 a0_2 a0_3 l0_4 l1).bind fun t359 => (some t359)))) else (some false))
theorem regletlaw13_FirstsAny.mono : ∀ a0 a1 a2 a3 a4 a5 k, LeO (regletlaw13_FirstsAny.f k a0 a1 a2 a3 a4 a5) (regletlaw13_FirstsAny.f (k + 1) a0 a1 a2 a3 a4 a5) := by
  intro a0 a1 a2 a3 a4 a5 k
  unfold regletlaw13_FirstsAny.f
  repeat' first
      | (with_reducible exact regletlaw13_awake.mono _)
      | (with_reducible exact regletlaw13_big.mono _ _ _ _ _ _ _ _)
      | (with_reducible exact regletlaw13_same.mono _ _ _ _ _ _ _)
      | (with_reducible exact LeO.refl _)
      | (with_reducible exact LeO.none _)
      | (with_reducible refine LeO.ite ?_ ?_)
      | (with_reducible refine LeO.bind ?_ (fun _ => ?_))
      | exact regletlaw13_awake.mono _
      | exact regletlaw13_big.mono _ _ _ _ _ _ _ _
      | exact regletlaw13_same.mono _ _ _ _ _ _ _
      | exact LeO.none _
      | refine LeO.ite ?_ ?_
      | refine LeO.bind ?_ (fun _ => ?_)
set_option maxHeartbeats 8000000 in
set_option maxRecDepth 100000 in
theorem regletlaw13_FirstsAny.calls (k : Nat) (A0_0 : Option Addr) (c0_0 : Nat) (l0_0 : List ByteArray) (A0_1 : Option Addr) (c0_1 : Nat) (l0_1 : List (S62)) (a0_2 : Int) (a0_3 : Int) (A0_4 : Option Addr) (c0_4 : Nat) (l0_4 : List (S34)) (A1 : Option Addr) (c1 : Nat) (l1 : List (S49)) (r : Bool) (w : World) (hr0_0 : Kd.C Kd.string w A0_0 l0_0.length l0_0) (hc0_0 : l0_0.length ≤ c0_0) (hr0_1 : Kd.C k62 w A0_1 l0_1.length l0_1) (hc0_1 : l0_1.length ≤ c0_1) (hr0_4 : Kd.C k34 w A0_4 l0_4.length l0_4) (hc0_4 : l0_4.length ≤ c0_4) (hr1 : Kd.C k49 w A1 l1.length l1) (hc1 : l1.length ≤ c1) (h : regletlaw13_FirstsAny.f k l0_0 l0_1 a0_2 a0_3 l0_4 l1 = some r) :
    Calls Try.prog 3 #[.agg #[.slice A0_0 l0_0.length c0_0, .slice A0_1 l0_1.length c0_1, .int .i64 a0_2, .int .i64 a0_3, .slice A0_4 l0_4.length c0_4], .slice A1 l1.length c1] w fun e w' => e = .returned (.bool r) ∧ Below w.heap.size w w' := by
  have hu26 := Try.underlying26
  have HR0_0 := Aside0.mk hr0_0
  have HC0_0 := Aside0.mk hc0_0
  clear hr0_0 hc0_0
  have HR0_1 := Aside0.mk hr0_1
  have HC0_1 := Aside0.mk hc0_1
  clear hr0_1 hc0_1
  have HR0_4 := Aside0.mk hr0_4
  have HC0_4 := Aside0.mk hc0_4
  clear hr0_4 hc0_4
  have HR1 := Aside0.mk hr1
  have HC1 := Aside0.mk hc1
  clear hr1 hc1
  have HB := Aside0.mk (Below.refl w.heap.size w)
  have H : ((regletlaw13_awake.f k).bind fun t357 => (if t357 = true then ((regletlaw13_big.f k l0_0 l0_1 a0_2 a0_3 l0_4 l1 60).bind fun t358 => (if t358 = true then (some true) else ((regletlaw13_same.f k l0_0 l0_1 a0_2 a0_3 l0_4 l1).bind fun t359 => (some t359)))) else (some false))) = some r := h
  clear h
  replace H := Option.bind_eq_some_iff.mp H
  obtain ⟨t357, A30, H⟩ := H
  replace H : (if t357 = true then ((regletlaw13_big.f k l0_0 l0_1 a0_2 a0_3 l0_4 l1 60).bind fun t358 => (if t358 = true then (some true) else ((regletlaw13_same.f k l0_0 l0_1 a0_2 a0_3 l0_4 l1).bind fun t359 => (some t359)))) else (some false)) = some r := H
  have A3 := Aside0.mk A30
  clear A30
  by_cases c4 : t357 = true
  · subst c4
    have H1 : ((regletlaw13_big.f k l0_0 l0_1 a0_2 a0_3 l0_4 l1 60).bind fun t358 => (if t358 = true then (some true) else ((regletlaw13_same.f k l0_0 l0_1 a0_2 a0_3 l0_4 l1).bind fun t359 => (some t359)))) = some r := by rw [if_pos rfl] at H; exact H
    clear H
    have H := H1
    clear H1
    replace H := Option.bind_eq_some_iff.mp H
    obtain ⟨t358, A50, H⟩ := H
    replace H : (if t358 = true then (some true) else ((regletlaw13_same.f k l0_0 l0_1 a0_2 a0_3 l0_4 l1).bind fun t359 => (some t359))) = some r := H
    have A5 := Aside0.mk A50
    clear A50
    by_cases c6 : t358 = true
    · subst c6
      have H1 : (some true) = some r := by rw [if_pos rfl] at H; exact H
      clear H
      have H := H1
      clear H1
      obtain rfl := Option.some.inj H
      go_enter Try.func3, Try.ntmps3
      go_wp2_with (first | ((with_reducible refine gate_dst (N := 2) rfl ?_); refine box_event ?hg (N := 2) ?hd (cs := #[.slice A0_0 l0_0.length c0_0, .slice A0_1 l0_1.length c0_1, .int .i64 a0_2, .int .i64 a0_3, .slice A0_4 l0_4.length c0_4]) (t := 26) ?hr ?_; (case hd => rfl); (case hg => rfl); (case hr => first | (go_simp; done) | (go_simp; rfl)); intro gb356 hg w7 hbox hb; have n0_ := Aside0.mk (below_step (by repeat (first | (with_reducible first | exact HB.out | apply below_alloc | apply pw_below_drewN | apply below_drew1) | exact HB.out)) hb); have n1_ := Aside0.mk (hbox); have n2_ := Aside0.mk ((by rw [hg]; exact (below_size (by repeat (first | (with_reducible first | exact HB.out | apply below_alloc | apply pw_below_drewN | apply below_drew1) | exact HB.out))) : w.heap.size ≤ gb356)); have n3_ := Aside0.mk ((by rw [hg]; exact (below_size (by repeat (first | (with_reducible first | exact HB.out | apply below_alloc | apply pw_below_drewN | apply below_drew1) | exact HB.out))) : w.heap.size ≤ gb356)); clear HB; have HB := n0_; have BK356 := n1_; have GW356 := n2_; have GE356 := n3_; clear n0_ n1_ n2_ n3_; clear hb hbox hg) | ((with_reducible refine gate_callee (f := 9) rfl ?_); refine goesL_ (some 5) rfl rfl Try.func9 (by kernel_rfl) rfl #[] rfl (by (try simp only [List.map_toArray, List.map_cons, List.map_nil]); first | done | rfl | (simp only [List.length_drop, List.length_take]; rfl)) ?_; (with_reducible refine (regletlaw13_awake.calls k  true _ A3.out).mono ?_); rintro e w8 ⟨rfl, hb⟩; refine ⟨_, rfl, ?_⟩; have n0_ := Aside0.mk (blk_below (g := gb356) (o := .cells #[.slice A0_0 l0_0.length c0_0, .slice A0_1 l0_1.length c0_1, .int .i64 a0_2, .int .i64 a0_3, .slice A0_4 l0_4.length c0_4] 26 (0, 0)) (by (with_reducible repeat (first | refine blk_drewN ?_ _ | refine blk_drew ?_ | refine blk_alloc ?_ _)); exact BK356.out) hb); have n1_ := Aside0.mk (below_step (by repeat (first | (with_reducible first | exact HB.out | apply below_alloc | apply pw_below_drewN | apply below_drew1 | refine below_set ?_ GE356.out) | exact HB.out)) hb); clear BK356; clear HB; have BK356 := n0_; have HB := n1_; clear n0_ n1_; (try clear hb); (try clear hb2); (try clear hk); (try clear hi); have hcz9_0 : w8.cell? ⟨gb356, 0, none⟩ = some (.slice A0_0 l0_0.length c0_0) := (blk_cell BK356.out 0).trans rfl; have hcz9_1 : w8.cell? ⟨gb356, 1, none⟩ = some (.slice A0_1 l0_1.length c0_1) := (blk_cell BK356.out 1).trans rfl; have hcz9_2 : w8.cell? ⟨gb356, 2, none⟩ = some (.int .i64 a0_2) := (blk_cell BK356.out 2).trans rfl; have hcz9_3 : w8.cell? ⟨gb356, 3, none⟩ = some (.int .i64 a0_3) := (blk_cell BK356.out 3).trans rfl; have hcz9_4 : w8.cell? ⟨gb356, 4, none⟩ = some (.slice A0_4 l0_4.length c0_4) := (blk_cell BK356.out 4).trans rfl; have hfz9_0 := blk_frozen BK356.out 0; have hfz9_1 := blk_frozen BK356.out 1; have hfz9_2 := blk_frozen BK356.out 2; have hfz9_3 := blk_frozen BK356.out 3; have hfz9_4 := blk_frozen BK356.out 4) | (go_at_call 10; (with_reducible refine (regletlaw13_big.calls k _ _ l0_0 _ _ l0_1 a0_2 a0_3 _ _ l0_4 _ _ l1 60 true _ ?side1 ?side2 ?side3 ?side4 ?side5 ?side6 ?side7 ?side8 A5.out).mono ?_); (case side1 => repeat (first | exact (Kd.C_below HR0_0.out HB.out) | (with_reducible refine Kd.C_alloc ?_ _) | (with_reducible refine Kd.C_drewN ?_ _) | (with_reducible refine Kd.C_drew ?_))); (case side2 => exact HC0_0.out); (case side3 => repeat (first | exact (Kd.C_below HR0_1.out HB.out) | (with_reducible refine Kd.C_alloc ?_ _) | (with_reducible refine Kd.C_drewN ?_ _) | (with_reducible refine Kd.C_drew ?_))); (case side4 => exact HC0_1.out); (case side5 => repeat (first | exact (Kd.C_below HR0_4.out HB.out) | (with_reducible refine Kd.C_alloc ?_ _) | (with_reducible refine Kd.C_drewN ?_ _) | (with_reducible refine Kd.C_drew ?_))); (case side6 => exact HC0_4.out); (case side7 => repeat (first | exact (Kd.C_below HR1.out HB.out) | (with_reducible refine Kd.C_alloc ?_ _) | (with_reducible refine Kd.C_drewN ?_ _) | (with_reducible refine Kd.C_drew ?_))); (case side8 => exact HC1.out); rintro e w10 ⟨rfl, hb⟩; have n0_ := Aside0.mk (blk_below (g := gb356) (o := .cells #[.slice A0_0 l0_0.length c0_0, .slice A0_1 l0_1.length c0_1, .int .i64 a0_2, .int .i64 a0_3, .slice A0_4 l0_4.length c0_4] 26 (0, 0)) (by (with_reducible repeat (first | refine blk_drewN ?_ _ | refine blk_drew ?_ | refine blk_alloc ?_ _)); exact BK356.out) hb); have n1_ := Aside0.mk (below_step (by repeat (first | (with_reducible first | exact HB.out | apply below_alloc | apply pw_below_drewN | apply below_drew1 | refine below_set ?_ GE356.out) | exact HB.out)) hb); clear BK356; clear HB; have BK356 := n0_; have HB := n1_; clear n0_ n1_; (try clear hb); (try clear hb2); (try clear hk); (try clear hi)))
      go_ret
      exact ⟨by first | rfl | (simp [errW_none, errW_some] <;> rfl) | (simp [*, errW_none, errW_some] <;> rfl), by repeat (first | (with_reducible first | exact HB.out | apply below_alloc | apply pw_below_drewN | apply below_drew1 | refine below_set ?_ GE356.out) | exact HB.out)⟩
    · replace c6 := Bool.eq_false_iff.mpr c6
      subst c6
      have H1 : ((regletlaw13_same.f k l0_0 l0_1 a0_2 a0_3 l0_4 l1).bind fun t359 => (some t359)) = some r := by rw [if_neg (show ¬ (false = true) by decide)] at H; exact H
      clear H
      have H := H1
      clear H1
      replace H := Option.bind_eq_some_iff.mp H
      obtain ⟨t359, A110, H⟩ := H
      replace H : (some t359) = some r := H
      have A11 := Aside0.mk A110
      clear A110
      obtain rfl := Option.some.inj H
      go_enter Try.func3, Try.ntmps3
      go_wp2_with (first | ((with_reducible refine gate_dst (N := 2) rfl ?_); refine box_event ?hg (N := 2) ?hd (cs := #[.slice A0_0 l0_0.length c0_0, .slice A0_1 l0_1.length c0_1, .int .i64 a0_2, .int .i64 a0_3, .slice A0_4 l0_4.length c0_4]) (t := 26) ?hr ?_; (case hd => rfl); (case hg => rfl); (case hr => first | (go_simp; done) | (go_simp; rfl)); intro gb356 hg w12 hbox hb; have n0_ := Aside0.mk (below_step (by repeat (first | (with_reducible first | exact HB.out | apply below_alloc | apply pw_below_drewN | apply below_drew1) | exact HB.out)) hb); have n1_ := Aside0.mk (hbox); have n2_ := Aside0.mk ((by rw [hg]; exact (below_size (by repeat (first | (with_reducible first | exact HB.out | apply below_alloc | apply pw_below_drewN | apply below_drew1) | exact HB.out))) : w.heap.size ≤ gb356)); have n3_ := Aside0.mk ((by rw [hg]; exact (below_size (by repeat (first | (with_reducible first | exact HB.out | apply below_alloc | apply pw_below_drewN | apply below_drew1) | exact HB.out))) : w.heap.size ≤ gb356)); clear HB; have HB := n0_; have BK356 := n1_; have GW356 := n2_; have GE356 := n3_; clear n0_ n1_ n2_ n3_; clear hb hbox hg) | ((with_reducible refine gate_callee (f := 9) rfl ?_); refine goesL_ (some 5) rfl rfl Try.func9 (by kernel_rfl) rfl #[] rfl (by (try simp only [List.map_toArray, List.map_cons, List.map_nil]); first | done | rfl | (simp only [List.length_drop, List.length_take]; rfl)) ?_; (with_reducible refine (regletlaw13_awake.calls k  true _ A3.out).mono ?_); rintro e w13 ⟨rfl, hb⟩; refine ⟨_, rfl, ?_⟩; have n0_ := Aside0.mk (blk_below (g := gb356) (o := .cells #[.slice A0_0 l0_0.length c0_0, .slice A0_1 l0_1.length c0_1, .int .i64 a0_2, .int .i64 a0_3, .slice A0_4 l0_4.length c0_4] 26 (0, 0)) (by (with_reducible repeat (first | refine blk_drewN ?_ _ | refine blk_drew ?_ | refine blk_alloc ?_ _)); exact BK356.out) hb); have n1_ := Aside0.mk (below_step (by repeat (first | (with_reducible first | exact HB.out | apply below_alloc | apply pw_below_drewN | apply below_drew1 | refine below_set ?_ GE356.out) | exact HB.out)) hb); clear BK356; clear HB; have BK356 := n0_; have HB := n1_; clear n0_ n1_; (try clear hb); (try clear hb2); (try clear hk); (try clear hi); have hcz14_0 : w13.cell? ⟨gb356, 0, none⟩ = some (.slice A0_0 l0_0.length c0_0) := (blk_cell BK356.out 0).trans rfl; have hcz14_1 : w13.cell? ⟨gb356, 1, none⟩ = some (.slice A0_1 l0_1.length c0_1) := (blk_cell BK356.out 1).trans rfl; have hcz14_2 : w13.cell? ⟨gb356, 2, none⟩ = some (.int .i64 a0_2) := (blk_cell BK356.out 2).trans rfl; have hcz14_3 : w13.cell? ⟨gb356, 3, none⟩ = some (.int .i64 a0_3) := (blk_cell BK356.out 3).trans rfl; have hcz14_4 : w13.cell? ⟨gb356, 4, none⟩ = some (.slice A0_4 l0_4.length c0_4) := (blk_cell BK356.out 4).trans rfl; have hfz14_0 := blk_frozen BK356.out 0; have hfz14_1 := blk_frozen BK356.out 1; have hfz14_2 := blk_frozen BK356.out 2; have hfz14_3 := blk_frozen BK356.out 3; have hfz14_4 := blk_frozen BK356.out 4) | (go_at_call 10; (with_reducible refine (regletlaw13_big.calls k _ _ l0_0 _ _ l0_1 a0_2 a0_3 _ _ l0_4 _ _ l1 60 false _ ?side1 ?side2 ?side3 ?side4 ?side5 ?side6 ?side7 ?side8 A5.out).mono ?_); (case side1 => repeat (first | exact (Kd.C_below HR0_0.out HB.out) | (with_reducible refine Kd.C_alloc ?_ _) | (with_reducible refine Kd.C_drewN ?_ _) | (with_reducible refine Kd.C_drew ?_))); (case side2 => exact HC0_0.out); (case side3 => repeat (first | exact (Kd.C_below HR0_1.out HB.out) | (with_reducible refine Kd.C_alloc ?_ _) | (with_reducible refine Kd.C_drewN ?_ _) | (with_reducible refine Kd.C_drew ?_))); (case side4 => exact HC0_1.out); (case side5 => repeat (first | exact (Kd.C_below HR0_4.out HB.out) | (with_reducible refine Kd.C_alloc ?_ _) | (with_reducible refine Kd.C_drewN ?_ _) | (with_reducible refine Kd.C_drew ?_))); (case side6 => exact HC0_4.out); (case side7 => repeat (first | exact (Kd.C_below HR1.out HB.out) | (with_reducible refine Kd.C_alloc ?_ _) | (with_reducible refine Kd.C_drewN ?_ _) | (with_reducible refine Kd.C_drew ?_))); (case side8 => exact HC1.out); rintro e w15 ⟨rfl, hb⟩; have n0_ := Aside0.mk (blk_below (g := gb356) (o := .cells #[.slice A0_0 l0_0.length c0_0, .slice A0_1 l0_1.length c0_1, .int .i64 a0_2, .int .i64 a0_3, .slice A0_4 l0_4.length c0_4] 26 (0, 0)) (by (with_reducible repeat (first | refine blk_drewN ?_ _ | refine blk_drew ?_ | refine blk_alloc ?_ _)); exact BK356.out) hb); have n1_ := Aside0.mk (below_step (by repeat (first | (with_reducible first | exact HB.out | apply below_alloc | apply pw_below_drewN | apply below_drew1 | refine below_set ?_ GE356.out) | exact HB.out)) hb); clear BK356; clear HB; have BK356 := n0_; have HB := n1_; clear n0_ n1_; (try clear hb); (try clear hb2); (try clear hk); (try clear hi); have hcz16_0 : w15.cell? ⟨gb356, 0, none⟩ = some (.slice A0_0 l0_0.length c0_0) := (blk_cell BK356.out 0).trans rfl; have hcz16_1 : w15.cell? ⟨gb356, 1, none⟩ = some (.slice A0_1 l0_1.length c0_1) := (blk_cell BK356.out 1).trans rfl; have hcz16_2 : w15.cell? ⟨gb356, 2, none⟩ = some (.int .i64 a0_2) := (blk_cell BK356.out 2).trans rfl; have hcz16_3 : w15.cell? ⟨gb356, 3, none⟩ = some (.int .i64 a0_3) := (blk_cell BK356.out 3).trans rfl; have hcz16_4 : w15.cell? ⟨gb356, 4, none⟩ = some (.slice A0_4 l0_4.length c0_4) := (blk_cell BK356.out 4).trans rfl; have hfz16_0 := blk_frozen BK356.out 0; have hfz16_1 := blk_frozen BK356.out 1; have hfz16_2 := blk_frozen BK356.out 2; have hfz16_3 := blk_frozen BK356.out 3; have hfz16_4 := blk_frozen BK356.out 4) | (go_at_call 11; (with_reducible refine (regletlaw13_same.calls k _ _ l0_0 _ _ l0_1 a0_2 a0_3 _ _ l0_4 _ _ l1 t359 _ ?side1 ?side2 ?side3 ?side4 ?side5 ?side6 ?side7 ?side8 A11.out).mono ?_); (case side1 => repeat (first | exact (Kd.C_below HR0_0.out HB.out) | (with_reducible refine Kd.C_alloc ?_ _) | (with_reducible refine Kd.C_drewN ?_ _) | (with_reducible refine Kd.C_drew ?_))); (case side2 => exact HC0_0.out); (case side3 => repeat (first | exact (Kd.C_below HR0_1.out HB.out) | (with_reducible refine Kd.C_alloc ?_ _) | (with_reducible refine Kd.C_drewN ?_ _) | (with_reducible refine Kd.C_drew ?_))); (case side4 => exact HC0_1.out); (case side5 => repeat (first | exact (Kd.C_below HR0_4.out HB.out) | (with_reducible refine Kd.C_alloc ?_ _) | (with_reducible refine Kd.C_drewN ?_ _) | (with_reducible refine Kd.C_drew ?_))); (case side6 => exact HC0_4.out); (case side7 => repeat (first | exact (Kd.C_below HR1.out HB.out) | (with_reducible refine Kd.C_alloc ?_ _) | (with_reducible refine Kd.C_drewN ?_ _) | (with_reducible refine Kd.C_drew ?_))); (case side8 => exact HC1.out); rintro e w17 ⟨rfl, hb⟩; have n0_ := Aside0.mk (blk_below (g := gb356) (o := .cells #[.slice A0_0 l0_0.length c0_0, .slice A0_1 l0_1.length c0_1, .int .i64 a0_2, .int .i64 a0_3, .slice A0_4 l0_4.length c0_4] 26 (0, 0)) (by (with_reducible repeat (first | refine blk_drewN ?_ _ | refine blk_drew ?_ | refine blk_alloc ?_ _)); exact BK356.out) hb); have n1_ := Aside0.mk (below_step (by repeat (first | (with_reducible first | exact HB.out | apply below_alloc | apply pw_below_drewN | apply below_drew1 | refine below_set ?_ GE356.out) | exact HB.out)) hb); clear BK356; clear HB; have BK356 := n0_; have HB := n1_; clear n0_ n1_; (try clear hb); (try clear hb2); (try clear hk); (try clear hi)))
      go_ret
      exact ⟨by first | rfl | (simp [errW_none, errW_some] <;> rfl) | (simp [*, errW_none, errW_some] <;> rfl), by repeat (first | (with_reducible first | exact HB.out | apply below_alloc | apply pw_below_drewN | apply below_drew1 | refine below_set ?_ GE356.out) | exact HB.out)⟩
  · replace c4 := Bool.eq_false_iff.mpr c4
    subst c4
    have H1 : (some false) = some r := by rw [if_neg (show ¬ (false = true) by decide)] at H; exact H
    clear H
    have H := H1
    clear H1
    obtain rfl := Option.some.inj H
    go_enter Try.func3, Try.ntmps3
    go_wp2_with (first | ((with_reducible refine gate_dst (N := 2) rfl ?_); refine box_event ?hg (N := 2) ?hd (cs := #[.slice A0_0 l0_0.length c0_0, .slice A0_1 l0_1.length c0_1, .int .i64 a0_2, .int .i64 a0_3, .slice A0_4 l0_4.length c0_4]) (t := 26) ?hr ?_; (case hd => rfl); (case hg => rfl); (case hr => first | (go_simp; done) | (go_simp; rfl)); intro gb356 hg w18 hbox hb; have n0_ := Aside0.mk (below_step (by repeat (first | (with_reducible first | exact HB.out | apply below_alloc | apply pw_below_drewN | apply below_drew1) | exact HB.out)) hb); have n1_ := Aside0.mk (hbox); have n2_ := Aside0.mk ((by rw [hg]; exact (below_size (by repeat (first | (with_reducible first | exact HB.out | apply below_alloc | apply pw_below_drewN | apply below_drew1) | exact HB.out))) : w.heap.size ≤ gb356)); have n3_ := Aside0.mk ((by rw [hg]; exact (below_size (by repeat (first | (with_reducible first | exact HB.out | apply below_alloc | apply pw_below_drewN | apply below_drew1) | exact HB.out))) : w.heap.size ≤ gb356)); clear HB; have HB := n0_; have BK356 := n1_; have GW356 := n2_; have GE356 := n3_; clear n0_ n1_ n2_ n3_; clear hb hbox hg) | ((with_reducible refine gate_callee (f := 9) rfl ?_); refine goesL_ (some 5) rfl rfl Try.func9 (by kernel_rfl) rfl #[] rfl (by (try simp only [List.map_toArray, List.map_cons, List.map_nil]); first | done | rfl | (simp only [List.length_drop, List.length_take]; rfl)) ?_; (with_reducible refine (regletlaw13_awake.calls k  false _ A3.out).mono ?_); rintro e w19 ⟨rfl, hb⟩; refine ⟨_, rfl, ?_⟩; have n0_ := Aside0.mk (blk_below (g := gb356) (o := .cells #[.slice A0_0 l0_0.length c0_0, .slice A0_1 l0_1.length c0_1, .int .i64 a0_2, .int .i64 a0_3, .slice A0_4 l0_4.length c0_4] 26 (0, 0)) (by (with_reducible repeat (first | refine blk_drewN ?_ _ | refine blk_drew ?_ | refine blk_alloc ?_ _)); exact BK356.out) hb); have n1_ := Aside0.mk (below_step (by repeat (first | (with_reducible first | exact HB.out | apply below_alloc | apply pw_below_drewN | apply below_drew1 | refine below_set ?_ GE356.out) | exact HB.out)) hb); clear BK356; clear HB; have BK356 := n0_; have HB := n1_; clear n0_ n1_; (try clear hb); (try clear hb2); (try clear hk); (try clear hi)))
    go_ret
    exact ⟨by first | rfl | (simp [errW_none, errW_some] <;> rfl) | (simp [*, errW_none, errW_some] <;> rfl), by repeat (first | (with_reducible first | exact HB.out | apply below_alloc | apply pw_below_drewN | apply below_drew1 | refine below_set ?_ GE356.out) | exact HB.out)⟩
end Go.Proofs.Ytojdjjbkpbapfaa.P
end

section
namespace Go.Proofs.Ytojdjjbkpbapfaa.H
open Go.RowKit Go.Proofs.YtojdjjbkpbapfaaW.PrintWords Go.Proofs.YtojdjjbkpbapfaaW.PrintLast Go.Proofs.YtojdjjbkpbapfaaW.PrintMore
theorem Ev.pos {α : Type} {c : Prop} [Decidable c] {f g : Nat → Option α} {r : α} (h : c) (k : Ev f r) : Ev (fun n => if c then f n else g n) r :=
  Ev.congr (fun _ => if_pos h) k
theorem Ev.neg {α : Type} {c : Prop} [Decidable c] {f g : Nat → Option α} {r : α} (h : ¬ c) (k : Ev g r) : Ev (fun n => if c then f n else g n) r :=
  Ev.congr (fun _ => if_neg h) k
theorem Ev.some {α : Type} {r s : α} (h : r = s) : Ev (fun _ => Option.some r) s := h ▸ Ev.now r
theorem Ev.some' {α : Type} {g : Option α} {r : α} (h : g = Option.some r) : Ev (fun _ => g) r := ⟨0, fun _ _ => h⟩
theorem Ev.bind0 {α β : Type} {g : Option α} {f : Nat → α → Option β} {a : α} {r : β} (h : g = Option.some a) (k : Ev (fun n => f n a) r) : Ev (fun n => g.bind (f n)) r :=
  Ev.congr (fun _ => by rw [h]; rfl) k
theorem Ev.val {α : Type} {g : Nat → Option α} {r s : α} (h : Ev g r) (e : r = s) : Ev g s := e ▸ h
theorem wrap64_id {x : Int} (h0 : -9223372036854775808 ≤ x) (h1 : x ≤ 9223372036854775807) : wrap64 x = x := by
  unfold wrap64; omega
end Go.Proofs.Ytojdjjbkpbapfaa.H
end

section
namespace Go.Proofs.Ytojdjjbkpbapfaa.M
open Go.RowKit Go.Proofs.YtojdjjbkpbapfaaW.PrintWords Go.Proofs.YtojdjjbkpbapfaaW.PrintLast Go.Proofs.YtojdjjbkpbapfaaW.PrintMore Go.Proofs.Ytojdjjbkpbapfaa.P Go.Proofs.Ytojdjjbkpbapfaa.H
set_option linter.unusedVariables false
set_option linter.unusedSimpArgs false
abbrev Sym := S49
abbrev Prod := S34
abbrev Tok := S62
theorem rdOf_mid {α : Type} (d : α) (p : List α) (x : α) (a : List α) (n : Int) (h : n = p.length) : rdOf d (p ++ x :: a) n = x := by
  subst h; simp [rdOf]
theorem getD_mid {α : Type} (d : α) (p : List α) (x : α) (a : List α) (n : Int) (h : n = p.length) : (p ++ x :: a).getD n.toNat d = x := by
  subst h; simp
theorem set_mid {α : Type} (p : List α) (x v : α) (a : List α) (n : Int) (h : n = p.length) : (p ++ x :: a).set n.toNat v = p ++ v :: a := by
  subst h; simp
theorem wrap_next {α : Type} (p : List α) (v : α) (h : p.length ≤ 1000000) : wrap64 ((p.length : Int) + 1) = ((p ++ [v]).length : Int) := by
  rw [wrap64_id (by omega) (by omega)]; simp
def orL (a b : List Bool) : List Bool := List.zipWith (· || ·) a b
def moreL : List Bool → List Bool → Bool
  | x :: a, y :: b => (y && !x) || moreL a b
  | _, _ => false
theorem orL_length {a b : List Bool} (h : a.length = b.length) : (orL a b).length = a.length := by simp [orL, h]
theorem add_l0_ev : ∀ (a b pre preb : List Bool) (g : Bool), a.length = b.length → pre.length = preb.length → pre.length + a.length ≤ 1000000 → Ev (fun k => firsts_set_add.l0 k (pre ++ a) g (preb ++ b) ((preb ++ b).length : Int) (pre.length : Int)) (g || moreL a b, pre ++ orL a b)
  | [], [], pre, preb, g, _, h2, _ => by
    refine Ev.step (fun k => by rw [firsts_set_add.l0]) (Ev.neg (by simp [h2]) (Ev.some (by simp [moreL, orL])))
  | x :: a, y :: b, pre, preb, g, h1, h2, h3 => by
    have h1' : a.length = b.length := by simpa using h1
    simp only [List.length_cons] at h3
    have ih := fun g v => add_l0_ev a b (pre ++ [v]) (preb ++ [y]) g h1' (by simp [h2]) (by simp; omega)
    simp only [← wrap_next pre _ (show pre.length ≤ 1000000 by omega), List.append_assoc, List.singleton_append] at ih
    refine Ev.step (fun k => by rw [firsts_set_add.l0]) ?_
    refine Ev.pos (by simp; omega) (Ev.pos (by omega) (Ev.pos (by simp; omega) ?_))
    rw [rdOf_mid _ preb y b _ (by rw [h2]), rdOf_mid _ pre x a _ rfl]
    cases y
    · refine Ev.neg (by simp) (Ev.val (ih g x) ?_)
      simp [moreL, orL]
    · refine Ev.pos rfl (Ev.pos (by simp; omega) ?_)
      cases x
      · refine Ev.neg (by simp) ?_
        rw [set_mid _ _ _ _ _ rfl]
        refine Ev.val (ih true true) ?_
        simp [moreL, orL]
      · refine Ev.pos rfl (Ev.val (ih g true) ?_)
        simp [moreL, orL]
theorem add_ev (a b : List Bool) (h1 : a.length = b.length) (h2 : a.length ≤ 1000000) : Ev (fun k => firsts_set_add.f k a b) (moreL a b, orL a b) := by
  exact Ev.congr (fun k => by rw [firsts_set_add.f]) (by simpa using add_l0_ev a b [] [] false h1 rfl (by simpa using h2) : Ev (fun k => firsts_set_add.l0 k a false b (b.length : Int) 0) _)
theorem join_l0_ev : ∀ (a b pre preb : List Bool) (g : Bool), a.length = b.length → pre.length = preb.length → pre.length + a.length ≤ 1000000 → Ev (fun k => regletref13_join.l0 k (pre ++ a) (preb ++ b) g (pre.length : Int)) (g || moreL a b, pre ++ orL a b)
  | [], [], pre, preb, g, _, h2, _ => by
    refine Ev.step (fun k => by rw [regletref13_join.l0]) (Ev.neg (by simp) (Ev.some (by simp [moreL, orL])))
  | x :: a, y :: b, pre, preb, g, h1, h2, h3 => by
    have h1' : a.length = b.length := by simpa using h1
    simp only [List.length_cons] at h3
    have ih := fun g v => join_l0_ev a b (pre ++ [v]) (preb ++ [y]) g h1' (by simp [h2]) (by simp; omega)
    simp only [← wrap_next pre _ (show pre.length ≤ 1000000 by omega), List.append_assoc, List.singleton_append] at ih
    refine Ev.step (fun k => by rw [regletref13_join.l0]) ?_
    refine Ev.pos (by simp; omega) ?_
    rw [rdOf_mid _ preb y b _ (by rw [h2]), rdOf_mid _ pre x a _ rfl]
    simp only [set_mid _ _ _ _ _ rfl]
    cases g
    · refine Ev.neg (by simp) (Ev.pos (by omega) (Ev.pos (by simp; omega) ?_))
      cases y <;> cases x
      · exact Ev.neg (by simp) (Ev.neg (by simp) (Ev.val (ih _ _) (by simp [moreL, orL])))
      · exact Ev.neg (by simp) (Ev.pos rfl (Ev.val (ih _ _) (by simp [moreL, orL])))
      · exact Ev.pos rfl (Ev.neg (by simp) (Ev.val (ih _ _) (by simp [moreL, orL])))
      · exact Ev.pos rfl (Ev.pos rfl (Ev.val (ih _ _) (by simp [moreL, orL])))
    · refine Ev.pos rfl (Ev.pos (by omega) ?_)
      cases x
      · exact Ev.neg (by simp) (Ev.pos (by simp; omega) (Ev.val (ih _ _) (by simp [moreL, orL])))
      · exact Ev.pos rfl (Ev.val (ih _ _) (by simp [moreL, orL]))
theorem join_ev (a b : List Bool) (h1 : a.length = b.length) (h2 : a.length ≤ 1000000) : Ev (fun k => regletref13_join.f k a b) (moreL a b, orL a b) := by
  exact Ev.congr (fun k => by rw [regletref13_join.f]) (by simpa using join_l0_ev a b [] [] false h1 rfl (by simpa using h2) : Ev (fun k => regletref13_join.l0 k a b false 0) _)
def idx : Nat → List Bool → List Int
  | _, [] => []
  | n, x :: a => if x = true then (n : Int) :: idx (n + 1) a else idx (n + 1) a
theorem idx_length : ∀ (n : Nat) (a : List Bool), (idx n a).length ≤ a.length
  | _, [] => by simp [idx]
  | n, x :: a => by have := idx_length (n + 1) a; unfold idx; split <;> simp <;> omega
theorem rising_l0_ev : ∀ (a pre : List Bool) (out : List Int), out.length ≤ pre.length → pre.length + a.length ≤ 1000000 → Ev (fun k => firsts_set_rising.l0 k out (pre ++ a) ((pre ++ a).length : Int) (pre.length : Int)) (out ++ idx pre.length a)
  | [], pre, out, _, _ => by
    refine Ev.step (fun k => by rw [firsts_set_rising.l0]) (Ev.neg (by simp) (Ev.some (by simp [idx])))
  | x :: a, pre, out, h2, h3 => by
    simp only [List.length_cons] at h3
    have ih := fun out h => rising_l0_ev a (pre ++ [x]) out h (by simp; omega)
    simp only [← wrap_next pre _ (show pre.length ≤ 1000000 by omega), List.append_assoc, List.singleton_append] at ih
    refine Ev.step (fun k => by rw [firsts_set_rising.l0]) ?_
    refine Ev.pos (by simp; omega) (Ev.pos (by omega) (Ev.pos (by simp; omega) ?_))
    rw [rdOf_mid _ pre x a _ rfl]
    cases x
    · exact Ev.neg (by simp) (Ev.val (ih out (by simp; omega)) (by simp [idx]))
    · exact Ev.pos rfl (Ev.pos (by omega) (Ev.val (ih _ (by simp; omega)) (by simp [idx])))
theorem rising_ev (a : List Bool) (h2 : a.length ≤ 1000000) : Ev (fun k => firsts_set_rising.f k a) (idx 0 a) := by
  exact Ev.congr (fun k => by rw [firsts_set_rising.f]) (by simpa using rising_l0_ev a [] [] (by simp) (by simpa using h2) : Ev (fun k => firsts_set_rising.l0 k [] a (a.length : Int) 0) _)
theorem list_l0_ev : ∀ (a pre : List Bool) (out : List Int), out.length ≤ pre.length → pre.length + a.length ≤ 1000000 → Ev (fun k => regletref13_list.l0 k (pre ++ a) out (pre.length : Int)) (out ++ idx pre.length a)
  | [], pre, out, _, _ => by
    refine Ev.step (fun k => by rw [regletref13_list.l0]) (Ev.neg (by simp) (Ev.some (by simp [idx])))
  | x :: a, pre, out, h2, h3 => by
    simp only [List.length_cons] at h3
    have ih := fun out h => list_l0_ev a (pre ++ [x]) out h (by simp; omega)
    simp only [← wrap_next pre _ (show pre.length ≤ 1000000 by omega), List.append_assoc, List.singleton_append] at ih
    refine Ev.step (fun k => by rw [regletref13_list.l0]) ?_
    refine Ev.pos (by simp; omega) (Ev.pos (by omega) ?_)
    rw [rdOf_mid _ pre x a _ rfl]
    cases x
    · exact Ev.neg (by simp) (Ev.val (ih out (by simp; omega)) (by simp [idx]))
    · exact Ev.pos rfl (Ev.pos (by omega) (Ev.val (ih _ (by simp; omega)) (by simp [idx])))
theorem list_ev (a : List Bool) (h2 : a.length ≤ 1000000) : Ev (fun k => regletref13_list.f k a) (idx 0 a) := by
  exact Ev.congr (fun k => by rw [regletref13_list.f]) (by simpa using list_l0_ev a [] [] (by simp) (by simpa using h2) : Ev (fun k => regletref13_list.l0 k a [] 0) _)
def idxs (m : List (List Bool)) : List (List Int) := m.map (idx 0)
theorem all_l0_ev : ∀ (m pre : List (List Bool)) (out : List (List Int)), out.length = pre.length → pre.length + m.length ≤ 1000000 → (∀ r ∈ m, r.length ≤ 1000000) → Ev (fun k => firsts_all.l0 k (out ++ List.replicate m.length []) (pre ++ m) ((pre ++ m).length : Int) (pre.length : Int)) (out ++ idxs m)
  | [], pre, out, _, _, _ => by
    refine Ev.step (fun k => by rw [firsts_all.l0]) (Ev.neg (by simp) (Ev.some (by simp [idxs])))
  | r :: m, pre, out, h2, h3, h4 => by
    simp only [List.length_cons] at h3
    have ih := all_l0_ev m (pre ++ [r]) (out ++ [idx 0 r]) (by simp [h2]) (by simp; omega) (fun r hr => h4 r (List.mem_cons_of_mem _ hr))
    simp only [← wrap_next pre _ (show pre.length ≤ 1000000 by omega), List.append_assoc, List.singleton_append] at ih
    refine Ev.step (fun k => by rw [firsts_all.l0]) ?_
    refine Ev.pos (by simp; omega) (Ev.pos (by omega) (Ev.pos (by simp; omega) ?_))
    refine Ev.bind (a := idx 0 r) (Ev.congr (fun k => congrArg (firsts_set_rising.f k) (getD_mid _ pre r m _ rfl)) (rising_ev r (h4 r List.mem_cons_self))) (Ev.pos (by simp; omega) ?_)
    simp only [List.length_cons, List.replicate_succ]
    rw [set_mid _ _ _ _ _ (by rw [h2])]
    exact Ev.val ih (by simp [idxs])
theorem all_ev (m : List (List Bool)) (h2 : m.length ≤ 1000000) (h4 : ∀ r ∈ m, r.length ≤ 1000000) : Ev (fun k => firsts_all.f k m) (idxs m) := by
  refine Ev.congr (fun k => by rw [firsts_all.f]) (Ev.pos (by omega) (Ev.pos (by omega) ?_))
  rw [Int.toNat_natCast]
  simpa using all_l0_ev m [] [] rfl (by simpa using h2) h4
theorem lists_l0_ev : ∀ (m pre : List (List Bool)) (out : List (List Int)), out.length = pre.length → pre.length + m.length ≤ 1000000 → (∀ r ∈ m, r.length ≤ 1000000) → Ev (fun k => regletref13_lists.l0 k (pre ++ m) out (pre.length : Int)) (out ++ idxs m)
  | [], pre, out, _, _, _ => by
    refine Ev.step (fun k => by rw [regletref13_lists.l0]) (Ev.neg (by simp) (Ev.some (by simp [idxs])))
  | r :: m, pre, out, h2, h3, h4 => by
    simp only [List.length_cons] at h3
    have ih := lists_l0_ev m (pre ++ [r]) (out ++ [idx 0 r]) (by simp [h2]) (by simp; omega) (fun r hr => h4 r (List.mem_cons_of_mem _ hr))
    simp only [← wrap_next pre _ (show pre.length ≤ 1000000 by omega), List.append_assoc, List.singleton_append] at ih
    refine Ev.step (fun k => by rw [regletref13_lists.l0]) ?_
    refine Ev.pos (by simp; omega) (Ev.pos (by omega) ?_)
    refine Ev.bind (a := idx 0 r) (Ev.congr (fun k => congrArg (regletref13_list.f k) (getD_mid _ pre r m _ rfl)) (list_ev r (h4 r List.mem_cons_self))) (Ev.pos (by omega) ?_)
    exact Ev.val ih (by simp [idxs])
theorem lists_ev (m : List (List Bool)) (h2 : m.length ≤ 1000000) (h4 : ∀ r ∈ m, r.length ≤ 1000000) : Ev (fun k => regletref13_lists.f k m) (idxs m) := by
  exact Ev.congr (fun k => by rw [regletref13_lists.f]) (by simpa using lists_l0_ev m [] [] rfl (by simpa using h2) h4 : Ev (fun k => regletref13_lists.l0 k m [] 0) _)
theorem sameInts_l0_ev : ∀ (a pre : List Int), pre.length + a.length ≤ 1000000 → Ev (fun k => regletref13_SameInts.l0 k (pre ++ a) (pre ++ a) (pre.length : Int)) true
  | [], pre, _ => Ev.step (fun k => by rw [regletref13_SameInts.l0]) (Ev.neg (by simp) (Ev.some rfl))
  | x :: a, pre, h3 => by
    simp only [List.length_cons] at h3
    have ih := sameInts_l0_ev a (pre ++ [x]) (by simp; omega)
    simp only [← wrap_next pre _ (show pre.length ≤ 1000000 by omega), List.append_assoc, List.singleton_append] at ih
    exact Ev.step (fun k => by rw [regletref13_SameInts.l0]) (Ev.pos (by simp; omega) (Ev.pos (by omega) (Ev.pos (by simp; omega) (Ev.pos rfl ih))))
theorem sameInts_ev (a : List Int) (h : a.length ≤ 1000000) : Ev (fun k => regletref13_SameInts.f k a a) true :=
  Ev.congr (fun k => by rw [regletref13_SameInts.f, if_pos rfl]) (by simpa using sameInts_l0_ev a [] (by simpa using h) : Ev (fun k => regletref13_SameInts.l0 k a a 0) _)
theorem sameBools_l0_ev : ∀ (a pre : List Bool), pre.length + a.length ≤ 1000000 → Ev (fun k => regletref13_SameBools.l0 k (pre ++ a) (pre ++ a) (pre.length : Int)) true
  | [], pre, _ => Ev.step (fun k => by rw [regletref13_SameBools.l0]) (Ev.neg (by simp) (Ev.some rfl))
  | x :: a, pre, h3 => by
    simp only [List.length_cons] at h3
    have ih := sameBools_l0_ev a (pre ++ [x]) (by simp; omega)
    simp only [← wrap_next pre _ (show pre.length ≤ 1000000 by omega), List.append_assoc, List.singleton_append] at ih
    exact Ev.step (fun k => by rw [regletref13_SameBools.l0]) (Ev.pos (by simp; omega) (Ev.pos (by omega) (Ev.pos (by simp; omega) (Ev.neg (by simp) ih))))
theorem sameBools_ev (a : List Bool) (h : a.length ≤ 1000000) : Ev (fun k => regletref13_SameBools.f k a a) true :=
  Ev.congr (fun k => by rw [regletref13_SameBools.f, if_pos rfl]) (by simpa using sameBools_l0_ev a [] (by simpa using h) : Ev (fun k => regletref13_SameBools.l0 k a a 0) _)
theorem sameLists_l0_ev : ∀ (a pre : List (List Int)), pre.length + a.length ≤ 1000000 → (∀ r ∈ a, r.length ≤ 1000000) → Ev (fun k => regletref13_SameLists.l0 k (pre ++ a) (pre ++ a) (pre.length : Int)) true
  | [], pre, _, _ => Ev.step (fun k => by rw [regletref13_SameLists.l0]) (Ev.neg (by simp) (Ev.some rfl))
  | x :: a, pre, h3, h4 => by
    simp only [List.length_cons] at h3
    have ih := sameLists_l0_ev a (pre ++ [x]) (by simp; omega) (fun r hr => h4 r (List.mem_cons_of_mem _ hr))
    simp only [← wrap_next pre _ (show pre.length ≤ 1000000 by omega), List.append_assoc, List.singleton_append] at ih
    refine Ev.step (fun k => by rw [regletref13_SameLists.l0]) (Ev.pos (by simp; omega) (Ev.pos (by omega) (Ev.pos (by simp; omega) ?_)))
    exact Ev.bind (a := true) (Ev.congr (fun k => congr (congrArg (regletref13_SameInts.f k) (getD_mid _ pre x a _ rfl)) (getD_mid _ pre x a _ rfl)) (sameInts_ev x (h4 x List.mem_cons_self))) (Ev.pos rfl ih)
theorem sameLists_ev (a : List (List Int)) (h : a.length ≤ 1000000) (h4 : ∀ r ∈ a, r.length ≤ 1000000) : Ev (fun k => regletref13_SameLists.f k a a) true :=
  Ev.congr (fun k => by rw [regletref13_SameLists.f, if_pos rfl]) (by simpa using sameLists_l0_ev a [] (by simpa using h) h4 : Ev (fun k => regletref13_SameLists.l0 k a a 0) _)
end Go.Proofs.Ytojdjjbkpbapfaa.M
end

section
namespace Go.Proofs.Ytojdjjbkpbapfaa.M
open Go.RowKit Go.Proofs.YtojdjjbkpbapfaaW.PrintWords Go.Proofs.YtojdjjbkpbapfaaW.PrintLast Go.Proofs.YtojdjjbkpbapfaaW.PrintMore Go.Proofs.Ytojdjjbkpbapfaa.P Go.Proofs.Ytojdjjbkpbapfaa.H
set_option linter.unusedVariables false
set_option linter.unusedSimpArgs false
def Sh (nn nt : Nat) (m : List (List Bool)) : Prop := m.length = nn ∧ ∀ r ∈ m, r.length = nt + 1
theorem Sh.get {nn nt : Nat} {m : List (List Bool)} (h : Sh nn nt m) {i : Nat} (hi : i < nn) : (m.getD i []).length = nt + 1 := by
  have hi' : i < m.length := by rw [h.1]; exact hi
  rw [List.getD_eq_getElem?_getD, List.getElem?_eq_getElem hi']
  exact h.2 _ (List.getElem_mem hi')
theorem Sh.set {nn nt : Nat} {m : List (List Bool)} (h : Sh nn nt m) (i : Nat) {r : List Bool} (hr : r.length = nt + 1) : Sh nn nt (m.set i r) :=
  ⟨by rw [List.length_set]; exact h.1, fun r' hr' => by
    rcases List.mem_or_eq_of_mem_set hr' with h1 | rfl
    · exact h.2 _ h1
    · exact hr⟩
def bg (em : List Bool) (first : List (List Bool)) : List Sym → List Bool → List Bool × Bool
  | [], out => (out, true)
  | x :: l, out => if x.f0 = true then (out.set x.f1.toNat true, false) else
      if em.getD x.f1.toNat false = true then bg em first l (orL out (first.getD x.f1.toNat [])) else (orL out (first.getD x.f1.toNat []), false)
theorem bg_length (em : List Bool) {first : List (List Bool)} {nn nt : Nat} (hs : Sh nn nt first) : ∀ (l : List Sym) (out : List Bool), l.all (okSym nn nt) = true → out.length = nt + 1 → (bg em first l out).1.length = nt + 1
  | [], out, _, h => h
  | x :: l, out, hl, h => by
    simp only [List.all_cons, Bool.and_eq_true] at hl
    unfold bg
    split
    · simpa using h
    · rename_i hx
      have hn : x.f1.toNat < nn := by
        have := hl.1
        simp only [okSym, hx, if_neg, Bool.and_eq_true, decide_eq_true_eq] at this
        simp at this
        omega
      have ho : (orL out (first.getD x.f1.toNat [])).length = nt + 1 := by rw [orL_length (by rw [h, hs.get hn]), h]
      split
      · exact bg_length em hs l _ hl.2 ho
      · exact ho
theorem okSym_tok {nn nt : Nat} {x : Sym} (h : okSym nn nt x = true) (hx : x.f0 = true) : 0 ≤ x.f1 ∧ x.f1 < (nt : Int) := by
  simp only [okSym, hx, if_pos, Bool.and_eq_true, decide_eq_true_eq] at h; exact h
theorem okSym_rule {nn nt : Nat} {x : Sym} (h : okSym nn nt x = true) (hx : x.f0 = false) : 0 ≤ x.f1 ∧ x.f1 < (nn : Int) := by
  simp [okSym, hx] at h; exact h
theorem begins_l0_ev {nn nt : Nat} {em : List Bool} {first : List (List Bool)} (hs : Sh nn nt first) (he : em.length = nn) (hnt : nt ≤ 1000) : ∀ (l pre : List Sym) (out : List Bool), l.all (okSym nn nt) = true → out.length = nt + 1 → pre.length + l.length ≤ 1000000 → Ev (fun k => begins_l0 em first (pre ++ l) k out (pre.length : Int)) (bg em first l out)
  | [], pre, out, _, _, _ => Ev.step (fun k => by rw [begins_l0]) (Ev.neg (by simp) (Ev.some (by simp [bg])))
  | x :: l, pre, out, hl, ho, h3 => by
    simp only [List.all_cons, Bool.and_eq_true] at hl
    simp only [List.length_cons] at h3
    have ih := fun out ho => begins_l0_ev hs he hnt l (pre ++ [x]) out hl.2 ho (by simp; omega)
    simp only [← wrap_next pre _ (show pre.length ≤ 1000000 by omega), List.append_assoc, List.singleton_append] at ih
    have e : rd_T49 (pre ++ x :: l) (pre.length : Int) = x := getD_mid _ pre x l _ rfl
    refine Ev.step (fun k => by rw [begins_l0]) ?_
    rw [e]
    refine Ev.pos (by simp; omega) (Ev.pos (by omega) ?_)
    cases hx : x.f0 with
    | true =>
      have hb := okSym_tok hl.1 hx
      exact Ev.pos rfl (Ev.pos hb.1 (Ev.pos (by omega) (Ev.some (by simp [bg, hx]))))
    | false =>
      have hb := okSym_rule hl.1 hx
      have hr := hs.get (i := x.f1.toNat) (by omega)
      have hs1 := hs.1
      refine Ev.neg (by simp) (Ev.pos hb.1 (Ev.pos (by omega) (Ev.bind (add_ev out _ (by rw [ho, hr]) (by omega)) (Ev.pos (by omega) ?_))))
      have e2 : rdOf false em x.f1 = em.getD x.f1.toNat false := rfl
      rw [e2]
      cases hem : em.getD x.f1.toNat false with
      | true => exact Ev.pos rfl (Ev.val (ih _ (by rw [orL_length (by rw [ho, hr]), ho])) (by rw [bg, hx, if_neg (by simp), hem, if_pos rfl]))
      | false => exact Ev.neg (by simp) (Ev.some (by rw [bg, hx, if_neg (by simp), hem, if_neg (by simp)]))
def none0 (nt : Nat) : List Bool := List.replicate (nt + 1) false
theorem begins_ev {nn nt : Nat} {em : List Bool} {first : List (List Bool)} (hs : Sh nn nt first) (he : em.length = nn) (hnt : nt ≤ 1000) (l : List Sym) (hl : l.all (okSym nn nt) = true) (h3 : l.length ≤ 1000000) : Ev (fun k => begins_f k nt em first l) (bg em first l (none0 nt)) := by
  have h := begins_l0_ev hs he hnt l [] (List.replicate (nt + 1) false) hl (by simp) (by simpa using h3)
  exact Ev.congr (fun k => by rw [begins_f, if_pos (by omega)]) (by simpa [none0] using h)
theorem refBegins_l0_ev {nn nt : Nat} {em : List Bool} {first : List (List Bool)} (hs : Sh nn nt first) (he : em.length = nn) (hnt : nt ≤ 1000) : ∀ (l pre : List Sym) (out : List Bool), l.all (okSym nn nt) = true → out.length = nt + 1 → pre.length + l.length ≤ 1000000 → Ev (fun k => regletref13_begins.l0 k (pre ++ l) first em out (pre.length : Int)) (bg em first l out)
  | [], pre, out, _, _, _ => Ev.step (fun k => by rw [regletref13_begins.l0]) (Ev.neg (by simp) (Ev.some (by simp [bg])))
  | x :: l, pre, out, hl, ho, h3 => by
    simp only [List.all_cons, Bool.and_eq_true] at hl
    simp only [List.length_cons] at h3
    have ih := fun out ho => refBegins_l0_ev hs he hnt l (pre ++ [x]) out hl.2 ho (by simp; omega)
    simp only [← wrap_next pre _ (show pre.length ≤ 1000000 by omega), List.append_assoc, List.singleton_append] at ih
    have e : rd_T49 (pre ++ x :: l) (pre.length : Int) = x := getD_mid _ pre x l _ rfl
    refine Ev.step (fun k => by rw [regletref13_begins.l0]) ?_
    rw [e]
    refine Ev.pos (by simp; omega) (Ev.pos (by omega) ?_)
    cases hx : x.f0 with
    | true =>
      have hb := okSym_tok hl.1 hx
      exact Ev.pos rfl (Ev.pos hb.1 (Ev.pos (by omega) (Ev.some (by simp [bg, hx]))))
    | false =>
      have hb := okSym_rule hl.1 hx
      have hr := hs.get (i := x.f1.toNat) (by omega)
      have hs1 := hs.1
      refine Ev.neg (by simp) (Ev.pos hb.1 (Ev.pos (by omega) (Ev.bind (join_ev out (first.getD x.f1.toNat []) (by rw [ho, hr]) (by omega)) (Ev.pos (by omega) ?_))))
      have e2 : rdOf false em x.f1 = em.getD x.f1.toNat false := rfl
      rw [e2]
      cases hem : em.getD x.f1.toNat false with
      | true => exact Ev.pos rfl (Ev.val (ih _ (by rw [orL_length (by rw [ho, hr]), ho])) (by rw [bg, hx, if_neg (by simp), hem, if_pos rfl]))
      | false => exact Ev.neg (by simp) (Ev.some (by rw [bg, hx, if_neg (by simp), hem, if_neg (by simp)]))
theorem refBegins_ev {nn : Nat} (l0 : List ByteArray) (l1 : List Tok) (a2 a3 : Int) (l4 : List Prod) {em : List Bool} {first : List (List Bool)} (hs : Sh nn l1.length first) (he : em.length = nn) (hnt : l1.length ≤ 1000) (l : List Sym) (hl : l.all (okSym nn l1.length) = true) (h3 : l.length ≤ 1000000) : Ev (fun k => regletref13_begins.f k l0 l1 a2 a3 l4 l first em) (bg em first l (none0 l1.length)) := by
  have h := refBegins_l0_ev hs he hnt l [] (List.replicate (l1.length + 1) false) hl (by simp) (by simpa using h3)
  have e : wrap64 ((l1.length : Int) + 1) = ((l1.length + 1 : Nat) : Int) := by rw [wrap64_id (by omega) (by omega)]; simp
  refine Ev.congr (fun k => by rw [regletref13_begins.f, e, if_pos (by omega), if_pos (by omega), Int.toNat_natCast]) (by simpa [none0] using h)
def gIn {σ : Type} (stp : σ → Prod → Bool × σ) : List Prod → Bool → σ → Bool × σ
  | [], ag, st => (ag, st)
  | p :: ps, ag, st => gIn stp ps ((stp st p).1 || ag) (stp st p).2
def gOut {σ : Type} (stp : σ → Prod → Bool × σ) (ps : List Prod) : Nat → σ → σ
  | 0, st => (gIn stp ps false st).2
  | n + 1, st => if (gIn stp ps false st).1 = true then gOut stp ps n (gIn stp ps false st).2 else (gIn stp ps false st).2
def Good {σ : Type} (I : σ → Prop) (μ : σ → Nat) (stp : σ → Prod → Bool × σ) (ps : List Prod) : Prop :=
  ∀ st p, I st → p ∈ ps → I (stp st p).2 ∧ μ (stp st p).2 ≤ μ st ∧ ((stp st p).1 = true → μ (stp st p).2 < μ st)
theorem gIn_good {σ : Type} {I : σ → Prop} {μ : σ → Nat} {stp : σ → Prod → Bool × σ} : ∀ {ps : List Prod}, Good I μ stp ps → ∀ (ag : Bool) (st : σ), I st → I (gIn stp ps ag st).2 ∧ μ (gIn stp ps ag st).2 ≤ μ st ∧ ((gIn stp ps ag st).1 = true → ag = true ∨ μ (gIn stp ps ag st).2 < μ st)
  | [], _, ag, st, h => ⟨h, Nat.le_refl _, fun h => .inl h⟩
  | p :: ps, hg, ag, st, h => by
    obtain ⟨h1, h2, h3⟩ := hg st p h List.mem_cons_self
    obtain ⟨h4, h5, h6⟩ := gIn_good (fun st p hI hp => hg st p hI (List.mem_cons_of_mem _ hp)) ((stp st p).1 || ag) _ h1
    refine ⟨h4, Nat.le_trans h5 h2, fun h => ?_⟩
    rcases h6 h with h7 | h7
    · rcases (Bool.or_eq_true _ _).mp h7 with h8 | h8
      · exact .inr (Nat.lt_of_le_of_lt h5 (h3 h8))
      · exact .inl h8
    · exact .inr (Nat.lt_of_lt_of_le h7 h2)
theorem gOut_I {σ : Type} {I : σ → Prop} {μ : σ → Nat} {stp : σ → Prod → Bool × σ} {ps : List Prod} (hg : Good I μ stp ps) : ∀ (n : Nat) (st : σ), I st → I (gOut stp ps n st)
  | 0, st, h => (gIn_good hg false st h).1
  | n + 1, st, h => by
    unfold gOut
    split
    · exact gOut_I hg n _ (gIn_good hg false st h).1
    · exact (gIn_good hg false st h).1
theorem growIn_ev {σ : Type} {I : σ → Prop} {μ : σ → Nat} {stp : σ → Prod → Bool × σ} {f : Nat → σ → Prod → Option (Bool × σ)} : ∀ {ps : List Prod}, Good I μ stp ps → (∀ st p, I st → p ∈ ps → Ev (fun k => f k st p) (stp st p)) → ∀ (ag : Bool) (st : σ), I st → Ev (fun k => growIn (f k) ps ag st) (gIn stp ps ag st)
  | [], _, _, ag, st, _ => Ev.congr (fun k => by rw [growIn]) (Ev.some (by rw [gIn]))
  | p :: ps, hg, hf, ag, st, h => by
    refine Ev.congr (fun k => by rw [growIn]) (Ev.bind (hf st p h List.mem_cons_self) ?_)
    exact Ev.val (growIn_ev (fun st p hI hp => hg st p hI (List.mem_cons_of_mem _ hp)) (fun st p hI hp => hf st p hI (List.mem_cons_of_mem _ hp)) _ _ (hg st p h List.mem_cons_self).1) (by rw [gIn])
theorem out_ev {σ : Type} {I : σ → Prop} {μ : σ → Nat} {stp : σ → Prod → Bool × σ} {ps : List Prod} (hg : Good I μ stp ps) (g : Nat → Nat → σ → Option σ) (b : Nat → σ → Option (Bool × σ)) (hb : ∀ st, I st → Ev (fun k => b k st) (gIn stp ps false st))
    (hgs : ∀ kk k st, g kk (k + 1) st = (b kk st).bind fun r => if r.1 = true then g kk k r.2 else some r.2) : ∀ (n : Nat) (st : σ), I st → μ st ≤ n → ∃ K, ∀ kk, K ≤ kk → ∀ k, K ≤ k → g kk k st = some (gOut stp ps n st)
  | n, st, h, hn => by
    obtain ⟨K1, hK1⟩ := hb st h
    obtain ⟨h1, h2, h3⟩ := gIn_good hg false st h
    cases hr : (gIn stp ps false st).1 with
    | false =>
      refine ⟨K1 + 1, fun kk hkk k hk => ?_⟩
      obtain ⟨k', rfl⟩ : ∃ k', k = k' + 1 := ⟨k - 1, by omega⟩
      rw [hgs, show b kk st = _ from hK1 kk (by omega)]
      simp only [Option.bind_some, hr]
      cases n <;> simp [gOut, hr]
    | true =>
      have hlt : μ (gIn stp ps false st).2 < μ st := (h3 hr).resolve_left (by simp)
      cases n with
      | zero => omega
      | succ n =>
        obtain ⟨K2, hK2⟩ := out_ev hg g b hb hgs n _ h1 (by omega)
        refine ⟨max K1 K2 + 1, fun kk hkk k hk => ?_⟩
        obtain ⟨k', rfl⟩ : ∃ k', k = k' + 1 := ⟨k - 1, by omega⟩
        rw [hgs, show b kk st = _ from hK1 kk (by omega)]
        simp only [Option.bind_some, hr, if_true]
        rw [hK2 kk (by omega) k' (by omega), gOut, if_pos hr]
theorem growOut_ev {σ : Type} {I : σ → Prop} {μ : σ → Nat} {stp : σ → Prod → Bool × σ} {ps : List Prod} (hg : Good I μ stp ps) (f : Nat → σ → Prod → Option (Bool × σ)) (hf : ∀ st p, I st → p ∈ ps → Ev (fun k => f k st p) (stp st p)) (n : Nat) (st : σ) (h : I st) (hn : μ st ≤ n) : Ev (fun k => growOut (f k) ps k st) (gOut stp ps n st) := by
  obtain ⟨K, hK⟩ := out_ev hg (fun kk k st => growOut (f kk) ps k st) (fun kk st => growIn (f kk) ps false st) (fun st h => growIn_ev hg hf false st h) (fun kk k st => by rw [growOut]) n st h hn
  exact ⟨K, fun k hk => hK k hk k hk⟩
def cf : List Bool → Nat
  | [] => 0
  | x :: a => (if x = true then 0 else 1) + cf a
theorem cf_orL : ∀ (a b : List Bool), a.length = b.length → cf (orL a b) ≤ cf a ∧ (moreL a b = true → cf (orL a b) < cf a)
  | [], [], _ => by simp [orL, cf, moreL]
  | x :: a, y :: b, h => by
    obtain ⟨h1, h2⟩ := cf_orL a b (by simpa using h)
    have e : orL (x :: a) (y :: b) = (x || y) :: orL a b := rfl
    rw [e]
    cases x <;> cases y <;> simp [cf, moreL] <;> first | exact ⟨h1, h2⟩ | (refine ⟨by omega, fun h => ?_⟩; have := h2 h; omega) | omega
theorem cf_set : ∀ (a : List Bool) (i : Nat), i < a.length → a.getD i false = false → cf (a.set i true) < cf a
  | x :: a, 0, _, h => by
    have : x = false := by simpa using h
    subst this; simp [cf]
  | x :: a, i + 1, hi, h => by
    have := cf_set a i (by simpa using hi) (by simpa using h)
    simp only [List.set_cons_succ, cf]; omega
def cfs : List (List Bool) → Nat
  | [] => 0
  | r :: m => cf r + cfs m
theorem cfs_set : ∀ (m : List (List Bool)) (i : Nat) (r : List Bool), i < m.length → cf r ≤ cf (m.getD i []) → cfs (m.set i r) ≤ cfs m ∧ (cf r < cf (m.getD i []) → cfs (m.set i r) < cfs m)
  | x :: m, 0, r, _, h => by
    simp only [List.getD_cons_zero, List.set_cons_zero, cfs] at h ⊢
    omega
  | x :: m, i + 1, r, hi, h => by
    have := cfs_set m i r (by simpa using hi) (by simpa using h)
    simp only [List.getD_cons_succ, List.set_cons_succ, cfs] at h ⊢
    omega
end Go.Proofs.Ytojdjjbkpbapfaa.M
end

section
namespace Go.Proofs.Ytojdjjbkpbapfaa.M
open Go.RowKit Go.Proofs.YtojdjjbkpbapfaaW.PrintWords Go.Proofs.YtojdjjbkpbapfaaW.PrintLast Go.Proofs.YtojdjjbkpbapfaaW.PrintMore Go.Proofs.Ytojdjjbkpbapfaa.P Go.Proofs.Ytojdjjbkpbapfaa.H
set_option linter.unusedVariables false
set_option linter.unusedSimpArgs false
def Small (ps : List Prod) : Prop := ps.length ≤ 1000000 ∧ ∀ p ∈ ps, p.f1.length ≤ 1000000
theorem firstsRight_val (l0 : List ByteArray) (l1 : List Tok) (a2 a3 : Int) (l4 : List Prod) (h : Small l4) : firsts_Right.f l0 l1 a2 a3 l4 = some (l4.all (okProd l0.length l1.length)) := by
  unfold firsts_Right.f
  rw [if_pos ⟨by have := h.1; omega, by rw [List.all_eq_true]; intro p hp; have := h.2 p hp; exact decide_eq_true (by omega)⟩]
theorem refRight_l1_ev (l0 : List ByteArray) (l1 : List Tok) (a2 a3 : Int) (l4 : List Prod) (x3 left : Int) (r : Bool) : ∀ (l pre : List Sym), pre.length + l.length ≤ 1000000 → (l.all (okSym l0.length l1.length) = true → Ev (fun k => regletref13_Right.l0 k (wrap64 (x3 + 1)) l0 l1 a2 a3 l4) r) → (l.all (okSym l0.length l1.length) = false → r = false) → Ev (fun k => regletref13_Right.l1 k x3 (pre.length : Int) l0 l1 a2 a3 l4 left (pre ++ l)) r
  | [], pre, _, h1, _ => Ev.step (fun k => by rw [regletref13_Right.l1]) (Ev.neg (by simp) (h1 rfl))
  | x :: l, pre, h3, h1, h2 => by
    simp only [List.length_cons] at h3
    have ih := refRight_l1_ev l0 l1 a2 a3 l4 x3 left r l (pre ++ [x]) (by simp; omega)
    simp only [← wrap_next pre _ (show pre.length ≤ 1000000 by omega), List.append_assoc, List.singleton_append] at ih
    have e : rd_T49 (pre ++ x :: l) (pre.length : Int) = x := getD_mid _ pre x l _ rfl
    refine Ev.step (fun k => by rw [regletref13_Right.l1]) ?_
    rw [e]
    refine Ev.pos (by simp; omega) (Ev.pos (by omega) ?_)
    cases hx : x.f0 with
    | true =>
      refine Ev.pos rfl ?_
      by_cases h0 : x.f1 < 0
      · exact Ev.pos h0 (Ev.some (h2 (by simp [okSym, hx]; omega)).symm)
      · refine Ev.neg h0 ?_
        by_cases h5 : x.f1 ≥ (l1.length : Int)
        · exact Ev.pos h5 (Ev.some (h2 (by simp [okSym, hx]; omega)).symm)
        · refine Ev.neg h5 (ih (fun h => h1 ?_) (fun h => h2 ?_))
          · simp [okSym, hx, -List.all_eq_true] ; exact ⟨by omega, h⟩
          · rw [List.all_cons, h, Bool.and_false]
    | false =>
      refine Ev.neg (by simp) ?_
      by_cases h0 : x.f1 < 0
      · exact Ev.pos h0 (Ev.some (h2 (by simp [okSym, hx]; omega)).symm)
      · refine Ev.neg h0 ?_
        by_cases h5 : x.f1 ≥ (l0.length : Int)
        · exact Ev.pos h5 (Ev.some (h2 (by simp [okSym, hx]; omega)).symm)
        · refine Ev.neg h5 (ih (fun h => h1 ?_) (fun h => h2 ?_))
          · simp [okSym, hx, -List.all_eq_true] ; exact ⟨by omega, h⟩
          · rw [List.all_cons, h, Bool.and_false]
theorem refRight_l0_ev (l0 : List ByteArray) (l1 : List Tok) (a2 a3 : Int) : ∀ (qs pre : List Prod), pre.length + qs.length ≤ 1000000 → (∀ p ∈ qs, p.f1.length ≤ 1000000) → Ev (fun k => regletref13_Right.l0 k (pre.length : Int) l0 l1 a2 a3 (pre ++ qs)) (qs.all (okProd l0.length l1.length))
  | [], pre, _, _ => Ev.step (fun k => by rw [regletref13_Right.l0]) (Ev.neg (by simp) (Ev.some (by simp)))
  | p :: qs, pre, h3, h4 => by
    simp only [List.length_cons] at h3
    have ih := refRight_l0_ev l0 l1 a2 a3 qs (pre ++ [p]) (by simp; omega) (fun p hp => h4 p (List.mem_cons_of_mem _ hp))
    simp only [← wrap_next pre _ (show pre.length ≤ 1000000 by omega), List.append_assoc, List.singleton_append] at ih
    have e : rd_T34 (pre ++ p :: qs) (pre.length : Int) = p := getD_mid _ pre p qs _ rfl
    refine Ev.step (fun k => by rw [regletref13_Right.l0]) ?_
    rw [e]
    refine Ev.pos (by simp; omega) (Ev.pos (by omega) ?_)
    by_cases h0 : p.f0 < 0
    · refine Ev.pos h0 (Ev.step (fun k => by rw [regletref13_Right.j1]) (Ev.pos rfl (Ev.some ?_)))
      simp [okProd]; omega
    · refine Ev.neg h0 (Ev.step (fun k => by rw [regletref13_Right.j1]) ?_)
      by_cases h5 : p.f0 ≥ (l0.length : Int)
      · refine Ev.pos (decide_eq_true h5) (Ev.some ?_)
        simp [okProd]; omega
      · refine Ev.neg (by simpa using h5) ?_
        have h := refRight_l1_ev l0 l1 a2 a3 (pre ++ p :: qs) (pre.length : Int) p.f0 ((p :: qs).all (okProd l0.length l1.length)) p.f1 [] (by have := h4 p List.mem_cons_self; simpa using this) (fun h => Ev.val ih (by
            have : okProd l0.length l1.length p = true := by simp only [okProd, h, Bool.and_true, Bool.and_eq_true, decide_eq_true_eq]; omega
            rw [List.all_cons, this, Bool.true_and])) (fun h => by
            have : okProd l0.length l1.length p = false := by simp only [okProd, h, Bool.and_false]
            rw [List.all_cons, this, Bool.false_and])
        simpa only [List.nil_append, List.length_nil, Int.natCast_zero] using h
theorem refRight_ev (l0 : List ByteArray) (l1 : List Tok) (a2 a3 : Int) (l4 : List Prod) (h : Small l4) : Ev (fun k => regletref13_Right.f k l0 l1 a2 a3 l4) (l4.all (okProd l0.length l1.length)) :=
  Ev.congr (fun k => by rw [regletref13_Right.f]) (by simpa only [List.nil_append, List.length_nil, Int.natCast_zero] using refRight_l0_ev l0 l1 a2 a3 l4 [] (by have := h.1; simpa using this) h.2)
def cNew (token : Bool) (out : List Bool) (p : Prod) : Bool := !(p.f1.any (oddP token out)) && !(out.getD p.f0.toNat false)
def cStep (token : Bool) (out : List Bool) (p : Prod) : Bool × List Bool := (cNew token out p, if cNew token out p = true then out.set p.f0.toNat true else out)
theorem closedStep_val (token : Bool) (out : List Bool) (p : Prod) : closedStep token out p = some (cStep token out p) := by
  have e : rdOf false out p.f0 = out.getD p.f0.toNat false := rfl
  unfold closedStep cStep cNew
  rw [e]
  cases out.getD p.f0.toNat false <;> cases p.f1.any (oddP token out) <;> rfl
theorem okProd_left {nn nt : Nat} {p : Prod} (h : okProd nn nt p = true) : 0 ≤ p.f0 ∧ p.f0 < (nn : Int) := by
  simp only [okProd, Bool.and_eq_true, decide_eq_true_eq] at h; exact h.1
theorem okProd_right {nn nt : Nat} {p : Prod} (h : okProd nn nt p = true) : p.f1.all (okSym nn nt) = true := by
  simp only [okProd, Bool.and_eq_true, decide_eq_true_eq] at h; exact h.2
theorem cStep_good (nn nt : Nat) (token : Bool) {ps : List Prod} (hps : ps.all (okProd nn nt) = true) : Good (fun out : List Bool => out.length = nn) cf (cStep token) ps := by
  intro st p hI hp
  have hl := okProd_left (List.all_eq_true.1 hps p hp)
  unfold cStep
  simp only
  cases hc : cNew token st p with
  | false => simp [hI]
  | true =>
    have h0 : st.getD p.f0.toNat false = false := by
      simp only [cNew, Bool.and_eq_true, Bool.not_eq_true'] at hc; exact hc.2
    have h := cf_set st p.f0.toNat (by omega) h0
    simp only [if_true]
    exact ⟨by simpa using hI, Nat.le_of_lt h, fun _ => h⟩
def clo (token : Bool) (nn : Nat) (ps : List Prod) : List Bool := gOut (cStep token) ps (cf (List.replicate nn false)) (List.replicate nn false)
theorem clo_length (nn nt : Nat) (token : Bool) {ps : List Prod} (hps : ps.all (okProd nn nt) = true) : (clo token nn ps).length = nn :=
  gOut_I (cStep_good nn nt token hps) _ _ (by simp)
theorem closed_ev (l0 : List ByteArray) (l1 : List Tok) (a2 a3 : Int) (l4 : List Prod) (h : Small l4) (hn : l0.length ≤ 1000000) (token : Bool) : Ev (fun k => firsts_closed.f k l0 l1 a2 a3 l4 token) (if l4.all (okProd l0.length l1.length) = true then clo token l0.length l4 else []) := by
  refine Ev.congr (fun k => by rw [firsts_closed.f]) (Ev.bind0 (firstsRight_val l0 l1 a2 a3 l4 h) ?_)
  cases hr : l4.all (okProd l0.length l1.length) with
  | false => exact Ev.neg (by simp) (Ev.some (by simp))
  | true =>
    rw [if_pos rfl]
    refine Ev.pos rfl (Ev.pos (by omega) ?_)
    exact growOut_ev (cStep_good l0.length l1.length token hr) (fun _ => closedStep token) (fun st p _ _ => Ev.some' (closedStep_val token st p)) _ _ (by simp) (Nat.le_refl _)
theorem any_step (token : Bool) (out : List Bool) (x : Sym) (l : List Sym) (is : Bool) : (is && !((x :: l).any (oddP token out))) = ((is && !(oddP token out x)) && !(l.any (oddP token out))) := by
  cases is <;> simp
theorem empty_ev (l0 : List ByteArray) (l1 : List Tok) (a2 a3 : Int) (l4 : List Prod) (h : Small l4) (hn : l0.length ≤ 1000000) : Ev (fun k => firsts_Empty.f k l0 l1 a2 a3 l4) (if l4.all (okProd l0.length l1.length) = true then clo false l0.length l4 else []) :=
  Ev.congr (fun k => by rw [firsts_Empty.f]) (Ev.bind (closed_ev l0 l1 a2 a3 l4 h hn false) (Ev.some rfl))
theorem useful_ev (l0 : List ByteArray) (l1 : List Tok) (a2 a3 : Int) (l4 : List Prod) (h : Small l4) (hn : l0.length ≤ 1000000) : Ev (fun k => firsts_Useful.f k l0 l1 a2 a3 l4) (if l4.all (okProd l0.length l1.length) = true then clo true l0.length l4 else []) :=
  Ev.congr (fun k => by rw [firsts_Useful.f]) (Ev.bind (closed_ev l0 l1 a2 a3 l4 h hn true) (Ev.some rfl))
theorem refEmpty_l2_ev (l0 : List ByteArray) (l1 : List Tok) (a2 a3 : Int) (l4 : List Prod) (out : List Bool) (more : Bool) (x5 left : Int) (hl0 : 0 ≤ left) (hl1 : left < (out.length : Int)) (h50 : 0 ≤ x5) (h51 : x5 < (l4.length : Int)) (r : List Bool) : ∀ (l pre : List Sym) (is : Bool), rd_T34 l4 x5 = ⟨left, pre ++ l⟩ → l.all (okSym out.length l1.length) = true → pre.length + l.length ≤ 1000000 →
    Ev (fun k => regletref13_Empty.l1 k (if ((is && !(l.any (oddP false out))) && !(out.getD left.toNat false)) = true then out.set left.toNat true else out) (((is && !(l.any (oddP false out))) && !(out.getD left.toNat false)) || more) (wrap64 (x5 + 1)) l0 l1 a2 a3 l4) r → Ev (fun k => regletref13_Empty.l2 k out more x5 is (pre.length : Int) l0 l1 a2 a3 l4) r
  | [], pre, is, e, _, _, hk => by
    refine Ev.step (fun k => by rw [regletref13_Empty.l2]) ?_
    rw [e]
    have e2 : rdOf false out left = out.getD left.toNat false := rfl
    refine Ev.pos h50 (Ev.pos h51 (Ev.neg (by simp) ?_))
    rw [e2]
    cases is with
    | false => exact Ev.neg (by simp) (by simpa using hk)
    | true =>
      refine Ev.pos rfl (Ev.pos hl0 (Ev.pos hl1 ?_))
      cases ho : out.getD left.toNat false with
      | true => exact Ev.pos rfl (by rw [ho] at hk; simpa using hk)
      | false => exact Ev.neg (by simp) (by rw [ho] at hk; simpa using hk)
  | x :: l, pre, is, e, hok, h3, hk => by
    simp only [List.length_cons] at h3
    simp only [List.all_cons, Bool.and_eq_true] at hok
    have ih := fun is => refEmpty_l2_ev l0 l1 a2 a3 l4 out more x5 left hl0 hl1 h50 h51 r l (pre ++ [x]) is (by rw [List.append_assoc]; exact e) hok.2 (by simp; omega)
    simp only [← wrap_next pre _ (show pre.length ≤ 1000000 by omega)] at ih
    rw [any_step] at hk
    have e1 : rd_T49 (pre ++ x :: l) (pre.length : Int) = x := getD_mid _ pre x l _ rfl
    refine Ev.step (fun k => by rw [regletref13_Empty.l2]) ?_
    rw [e]
    simp only [e1]
    refine Ev.pos h50 (Ev.pos h51 (Ev.pos (by simp; omega) (Ev.pos (by omega) ?_)))
    cases is with
    | false => exact Ev.neg (by simp) (ih false (by rw [Bool.false_and] at hk; exact hk))
    | true =>
      refine Ev.pos rfl ?_
      have hb := hok.1
      cases hx : x.f0 with
      | true =>
        have ho : oddP false out x = true := by simp [oddP, hx]
        rw [ho] at hk
        exact Ev.pos rfl (ih false hk)
      | false =>
        have hb := okSym_rule hok.1 hx
        have ho : (true && !oddP false out x) = rdOf false out x.f1 := by simp [oddP, hx]
        rw [ho] at hk
        exact Ev.neg (by simp) (Ev.pos hb.1 (Ev.pos hb.2 (ih _ hk)))
theorem refEmpty_l1_ev (l0 : List ByteArray) (l1 : List Tok) (a2 a3 : Int) (r : List Bool) : ∀ (qs pre : List Prod) (out : List Bool) (more : Bool), out.length = l0.length → qs.all (okProd l0.length l1.length) = true → pre.length + qs.length ≤ 1000000 → (∀ p ∈ qs, p.f1.length ≤ 1000000) → Ev (fun k => regletref13_Empty.l0 k (gIn (cStep false) qs more out).2 (gIn (cStep false) qs more out).1 l0 l1 a2 a3 (pre ++ qs)) r → Ev (fun k => regletref13_Empty.l1 k out more (pre.length : Int) l0 l1 a2 a3 (pre ++ qs)) r
  | [], pre, out, more, _, _, _, _, hk => Ev.step (fun k => by rw [regletref13_Empty.l1]) (Ev.neg (by simp) (by simpa [gIn] using hk))
  | p :: qs, pre, out, more, ho, hok, h3, h4, hk => by
    simp only [List.length_cons] at h3
    simp only [List.all_cons, Bool.and_eq_true] at hok
    have ih := fun out more ho => refEmpty_l1_ev l0 l1 a2 a3 r qs (pre ++ [p]) out more ho hok.2 (by simp; omega) (fun p hp => h4 p (List.mem_cons_of_mem _ hp))
    simp only [← wrap_next pre _ (show pre.length ≤ 1000000 by omega), List.append_assoc, List.singleton_append] at ih
    refine Ev.step (fun k => by rw [regletref13_Empty.l1]) (Ev.pos (by simp; omega) ?_)
    have hl := okProd_left hok.1
    have e : rd_T34 (pre ++ p :: qs) (pre.length : Int) = ⟨p.f0, [] ++ p.f1⟩ := getD_mid _ pre p qs _ rfl
    have h := refEmpty_l2_ev l0 l1 a2 a3 (pre ++ p :: qs) out more (pre.length : Int) p.f0 hl.1 (by omega) (by omega) (by simp; omega) r p.f1 [] true e (by rw [ho]; exact okProd_right hok.1) (by have := h4 p List.mem_cons_self; simpa using this)
    refine h ?_
    rw [gIn] at hk
    have hlen : (cStep false out p).2.length = l0.length := by unfold cStep; simp only; split <;> simp [ho]
    have h2 := ih _ _ hlen hk
    have e2 : ((true && !(p.f1.any (oddP false out))) && !(out.getD p.f0.toNat false)) = cNew false out p := by simp [cNew]
    rw [e2]
    exact h2
theorem refEmpty_l0_ev (l0 : List ByteArray) (l1 : List Tok) (a2 a3 : Int) (l4 : List Prod) (hs : Small l4) (hok : l4.all (okProd l0.length l1.length) = true) : ∀ (n : Nat) (out : List Bool), out.length = l0.length → cf out ≤ n → Ev (fun k => regletref13_Empty.l0 k out true l0 l1 a2 a3 l4) (gOut (cStep false) l4 n out)
  | n, out, ho, hn => by
    obtain ⟨h1, h2, h3⟩ := gIn_good (cStep_good l0.length l1.length false hok) false out ho
    refine Ev.step (fun k => by rw [regletref13_Empty.l0]) (Ev.pos rfl ?_)
    have h := refEmpty_l1_ev l0 l1 a2 a3 (gOut (cStep false) l4 n out) l4 [] out false ho hok (by have := hs.1; simpa using this) hs.2
    simp only [List.nil_append, List.length_nil, Int.natCast_zero] at h
    refine h ?_
    cases hr : (gIn (cStep false) l4 false out).1 with
    | false =>
      refine Ev.step (fun k => by rw [regletref13_Empty.l0]) (Ev.neg (by simp) (Ev.some ?_))
      cases n <;> simp [gOut, hr]
    | true =>
      have hlt := (h3 hr).resolve_left (by simp)
      cases n with
      | zero => omega
      | succ n =>
        refine Ev.val (refEmpty_l0_ev l0 l1 a2 a3 l4 hs hok n _ h1 (by omega)) ?_
        rw [gOut, if_pos hr]
theorem refEmpty_ev (l0 : List ByteArray) (l1 : List Tok) (a2 a3 : Int) (l4 : List Prod) (h : Small l4) (hn : l0.length ≤ 1000000) : Ev (fun k => regletref13_Empty.f k l0 l1 a2 a3 l4) (if l4.all (okProd l0.length l1.length) = true then clo false l0.length l4 else []) := by
  refine Ev.congr (fun k => by rw [regletref13_Empty.f]) (Ev.bind (refRight_ev l0 l1 a2 a3 l4 h) ?_)
  cases hr : l4.all (okProd l0.length l1.length) with
  | false => exact Ev.neg (by simp) (Ev.some (by simp))
  | true =>
    rw [if_pos rfl]
    refine Ev.pos rfl (Ev.pos (by omega) (Ev.pos (by omega) ?_))
    rw [Int.toNat_natCast]
    exact refEmpty_l0_ev l0 l1 a2 a3 l4 h hr _ _ (by simp) (Nat.le_refl _)
theorem refUseful_l2_ev (l0 : List ByteArray) (l1 : List Tok) (a2 a3 : Int) (l4 : List Prod) (out : List Bool) (more : Bool) (x5 left : Int) (hl0 : 0 ≤ left) (hl1 : left < (out.length : Int)) (h50 : 0 ≤ x5) (h51 : x5 < (l4.length : Int)) (r : List Bool) : ∀ (l pre : List Sym) (is : Bool), rd_T34 l4 x5 = ⟨left, pre ++ l⟩ → l.all (okSym out.length l1.length) = true → pre.length + l.length ≤ 1000000 →
    Ev (fun k => regletref13_Useful.l1 k (if ((is && !(l.any (oddP true out))) && !(out.getD left.toNat false)) = true then out.set left.toNat true else out) (((is && !(l.any (oddP true out))) && !(out.getD left.toNat false)) || more) (wrap64 (x5 + 1)) l0 l1 a2 a3 l4) r → Ev (fun k => regletref13_Useful.l2 k out more x5 is (pre.length : Int) l0 l1 a2 a3 l4) r
  | [], pre, is, e, _, _, hk => by
    refine Ev.step (fun k => by rw [regletref13_Useful.l2]) ?_
    rw [e]
    have e2 : rdOf false out left = out.getD left.toNat false := rfl
    refine Ev.pos h50 (Ev.pos h51 (Ev.neg (by simp) ?_))
    rw [e2]
    cases is with
    | false => exact Ev.neg (by simp) (by simpa using hk)
    | true =>
      refine Ev.pos rfl (Ev.pos hl0 (Ev.pos hl1 ?_))
      cases ho : out.getD left.toNat false with
      | true => exact Ev.pos rfl (by rw [ho] at hk; simpa using hk)
      | false => exact Ev.neg (by simp) (by rw [ho] at hk; simpa using hk)
  | x :: l, pre, is, e, hok, h3, hk => by
    simp only [List.length_cons] at h3
    simp only [List.all_cons, Bool.and_eq_true] at hok
    have ih := fun is => refUseful_l2_ev l0 l1 a2 a3 l4 out more x5 left hl0 hl1 h50 h51 r l (pre ++ [x]) is (by rw [List.append_assoc]; exact e) hok.2 (by simp; omega)
    simp only [← wrap_next pre _ (show pre.length ≤ 1000000 by omega)] at ih
    rw [any_step] at hk
    have e1 : rd_T49 (pre ++ x :: l) (pre.length : Int) = x := getD_mid _ pre x l _ rfl
    refine Ev.step (fun k => by rw [regletref13_Useful.l2]) ?_
    rw [e]
    simp only [e1]
    refine Ev.pos h50 (Ev.pos h51 (Ev.pos (by simp; omega) (Ev.pos (by omega) ?_)))
    cases is with
    | false => exact Ev.neg (by simp) (ih false (by rw [Bool.false_and] at hk; exact hk))
    | true =>
      refine Ev.pos rfl ?_
      have hb := hok.1
      cases hx : x.f0 with
      | true =>
        have ho : oddP true out x = false := by simp [oddP, hx]
        rw [ho] at hk
        exact Ev.pos rfl (ih true hk)
      | false =>
        have hb := okSym_rule hok.1 hx
        have ho : (true && !oddP true out x) = rdOf false out x.f1 := by simp [oddP, hx]
        rw [ho] at hk
        exact Ev.neg (by simp) (Ev.pos hb.1 (Ev.pos hb.2 (ih _ hk)))
theorem refUseful_l1_ev (l0 : List ByteArray) (l1 : List Tok) (a2 a3 : Int) (r : List Bool) : ∀ (qs pre : List Prod) (out : List Bool) (more : Bool), out.length = l0.length → qs.all (okProd l0.length l1.length) = true → pre.length + qs.length ≤ 1000000 → (∀ p ∈ qs, p.f1.length ≤ 1000000) → Ev (fun k => regletref13_Useful.l0 k (gIn (cStep true) qs more out).2 (gIn (cStep true) qs more out).1 l0 l1 a2 a3 (pre ++ qs)) r → Ev (fun k => regletref13_Useful.l1 k out more (pre.length : Int) l0 l1 a2 a3 (pre ++ qs)) r
  | [], pre, out, more, _, _, _, _, hk => Ev.step (fun k => by rw [regletref13_Useful.l1]) (Ev.neg (by simp) (by simpa [gIn] using hk))
  | p :: qs, pre, out, more, ho, hok, h3, h4, hk => by
    simp only [List.length_cons] at h3
    simp only [List.all_cons, Bool.and_eq_true] at hok
    have ih := fun out more ho => refUseful_l1_ev l0 l1 a2 a3 r qs (pre ++ [p]) out more ho hok.2 (by simp; omega) (fun p hp => h4 p (List.mem_cons_of_mem _ hp))
    simp only [← wrap_next pre _ (show pre.length ≤ 1000000 by omega), List.append_assoc, List.singleton_append] at ih
    refine Ev.step (fun k => by rw [regletref13_Useful.l1]) (Ev.pos (by simp; omega) ?_)
    have hl := okProd_left hok.1
    have e : rd_T34 (pre ++ p :: qs) (pre.length : Int) = ⟨p.f0, [] ++ p.f1⟩ := getD_mid _ pre p qs _ rfl
    have h := refUseful_l2_ev l0 l1 a2 a3 (pre ++ p :: qs) out more (pre.length : Int) p.f0 hl.1 (by omega) (by omega) (by simp; omega) r p.f1 [] true e (by rw [ho]; exact okProd_right hok.1) (by have := h4 p List.mem_cons_self; simpa using this)
    refine h ?_
    rw [gIn] at hk
    have hlen : (cStep true out p).2.length = l0.length := by unfold cStep; simp only; split <;> simp [ho]
    have h2 := ih _ _ hlen hk
    have e2 : ((true && !(p.f1.any (oddP true out))) && !(out.getD p.f0.toNat false)) = cNew true out p := by simp [cNew]
    rw [e2]
    exact h2
theorem refUseful_l0_ev (l0 : List ByteArray) (l1 : List Tok) (a2 a3 : Int) (l4 : List Prod) (hs : Small l4) (hok : l4.all (okProd l0.length l1.length) = true) : ∀ (n : Nat) (out : List Bool), out.length = l0.length → cf out ≤ n → Ev (fun k => regletref13_Useful.l0 k out true l0 l1 a2 a3 l4) (gOut (cStep true) l4 n out)
  | n, out, ho, hn => by
    obtain ⟨h1, h2, h3⟩ := gIn_good (cStep_good l0.length l1.length true hok) false out ho
    refine Ev.step (fun k => by rw [regletref13_Useful.l0]) (Ev.pos rfl ?_)
    have h := refUseful_l1_ev l0 l1 a2 a3 (gOut (cStep true) l4 n out) l4 [] out false ho hok (by have := hs.1; simpa using this) hs.2
    simp only [List.nil_append, List.length_nil, Int.natCast_zero] at h
    refine h ?_
    cases hr : (gIn (cStep true) l4 false out).1 with
    | false =>
      refine Ev.step (fun k => by rw [regletref13_Useful.l0]) (Ev.neg (by simp) (Ev.some ?_))
      cases n <;> simp [gOut, hr]
    | true =>
      have hlt := (h3 hr).resolve_left (by simp)
      cases n with
      | zero => omega
      | succ n =>
        refine Ev.val (refUseful_l0_ev l0 l1 a2 a3 l4 hs hok n _ h1 (by omega)) ?_
        rw [gOut, if_pos hr]
theorem refUseful_ev (l0 : List ByteArray) (l1 : List Tok) (a2 a3 : Int) (l4 : List Prod) (h : Small l4) (hn : l0.length ≤ 1000000) : Ev (fun k => regletref13_Useful.f k l0 l1 a2 a3 l4) (if l4.all (okProd l0.length l1.length) = true then clo true l0.length l4 else []) := by
  refine Ev.congr (fun k => by rw [regletref13_Useful.f]) (Ev.bind (refRight_ev l0 l1 a2 a3 l4 h) ?_)
  cases hr : l4.all (okProd l0.length l1.length) with
  | false => exact Ev.neg (by simp) (Ev.some (by simp))
  | true =>
    rw [if_pos rfl]
    refine Ev.pos rfl (Ev.pos (by omega) (Ev.pos (by omega) ?_))
    rw [Int.toNat_natCast]
    exact refUseful_l0_ev l0 l1 a2 a3 l4 h hr _ _ (by simp) (Nat.le_refl _)
end Go.Proofs.Ytojdjjbkpbapfaa.M
end

section
namespace Go.Proofs.Ytojdjjbkpbapfaa.M
open Go.RowKit Go.Proofs.YtojdjjbkpbapfaaW.PrintWords Go.Proofs.YtojdjjbkpbapfaaW.PrintLast Go.Proofs.YtojdjjbkpbapfaaW.PrintMore Go.Proofs.Ytojdjjbkpbapfaa.P Go.Proofs.Ytojdjjbkpbapfaa.H
set_option linter.unusedVariables false
set_option linter.unusedSimpArgs false
def rows0 (nn nt : Nat) : List (List Bool) := List.replicate nn (none0 nt)
theorem rows0_sh (nn nt : Nat) : Sh nn nt (rows0 nn nt) := ⟨by simp [rows0], fun r hr => by rw [List.eq_of_mem_replicate hr]; simp [none0]⟩
theorem marks_l0_ev (l0 : List ByteArray) (l1 : List Tok) (a2 a3 : Int) (l4 : List Prod) (h0 : l0.length ≤ 1000000) (h1 : l1.length ≤ 1000000) : ∀ (n : Nat) (out : List (List Bool)), out.length + n = l0.length → Ev (fun k => regletref13_marks.l0 k out (out.length : Int) l0 l1 a2 a3 l4) (out ++ rows0 n l1.length)
  | 0, out, h => Ev.step (fun k => by rw [regletref13_marks.l0]) (Ev.neg (by omega) (Ev.some (by simp [rows0])))
  | n + 1, out, h => by
    have ih := marks_l0_ev l0 l1 a2 a3 l4 h0 h1 n (out ++ [none0 l1.length]) (by simp; omega)
    rw [← wrap_next out _ (show out.length ≤ 1000000 by omega)] at ih
    have e : wrap64 ((l1.length : Int) + 1) = ((l1.length + 1 : Nat) : Int) := by rw [wrap64_id (by omega) (by omega)]; simp
    refine Ev.step (fun k => by rw [regletref13_marks.l0, e]) (Ev.pos (by omega) (Ev.pos (by omega) (Ev.pos (by omega) (Ev.pos (by omega) ?_))))
    rw [Int.toNat_natCast]
    exact Ev.val ih (by simp [rows0, List.replicate_succ])
theorem marks_ev (l0 : List ByteArray) (l1 : List Tok) (a2 a3 : Int) (l4 : List Prod) (h0 : l0.length ≤ 1000000) (h1 : l1.length ≤ 1000000) : Ev (fun k => regletref13_marks.f k l0 l1 a2 a3 l4) (rows0 l0.length l1.length) :=
  Ev.congr (fun k => by rw [regletref13_marks.f]) (by simpa using marks_l0_ev l0 l1 a2 a3 l4 h0 h1 l0.length [] (by simp))
def sStep (nt : Nat) (em : List Bool) (m : List (List Bool)) (p : Prod) : Bool × List (List Bool) :=
  (moreL (m.getD p.f0.toNat []) (bg em m p.f1 (none0 nt)).1, m.set p.f0.toNat (orL (m.getD p.f0.toNat []) (bg em m p.f1 (none0 nt)).1))
theorem none0_length (nt : Nat) : (none0 nt).length = nt + 1 := by simp [none0]
theorem row_step {nn nt : Nat} {m : List (List Bool)} (hs : Sh nn nt m) {i : Nat} (hi : i < nn) {b : List Bool} (hb : b.length = nt + 1) : Sh nn nt (m.set i (orL (m.getD i []) b)) ∧ cfs (m.set i (orL (m.getD i []) b)) ≤ cfs m ∧ (moreL (m.getD i []) b = true → cfs (m.set i (orL (m.getD i []) b)) < cfs m) := by
  have hr := hs.get hi
  have h1 := cf_orL (m.getD i []) b (by rw [hr, hb])
  have h2 := cfs_set m i (orL (m.getD i []) b) (by rw [hs.1]; exact hi) h1.1
  exact ⟨hs.set i (by rw [orL_length (by rw [hr, hb]), hr]), h2.1, fun h => h2.2 (h1.2 h)⟩
theorem sStep_good {nn nt : Nat} (em : List Bool) {ps : List Prod} (hps : ps.all (okProd nn nt) = true) : Good (Sh nn nt) cfs (sStep nt em) ps := by
  intro st p hI hp
  have hok := List.all_eq_true.1 hps p hp
  have hl := okProd_left hok
  exact row_step hI (by omega) (bg_length em hI p.f1 _ (okProd_right hok) (none0_length nt))
def fst (nn nt : Nat) (em : List Bool) (ps : List Prod) : List (List Bool) := gOut (sStep nt em) ps (cfs (rows0 nn nt)) (rows0 nn nt)
theorem fst_sh (nn nt : Nat) (em : List Bool) {ps : List Prod} (hps : ps.all (okProd nn nt) = true) : Sh nn nt (fst nn nt em ps) :=
  gOut_I (sStep_good em hps) _ _ (rows0_sh nn nt)
theorem studiedStep_ev {nn nt : Nat} {em : List Bool} (he : em.length = nn) (hnt : nt ≤ 1000) {m : List (List Bool)} (hs : Sh nn nt m) {p : Prod} (hok : okProd nn nt p = true) (h3 : p.f1.length ≤ 1000000) : Ev (fun k => studiedStep k nt em m p) (sStep nt em m p) := by
  have hl := okProd_left hok
  have hs1 := hs.1
  have hb := bg_length em hs p.f1 _ (okProd_right hok) (none0_length nt)
  have hr := hs.get (i := p.f0.toNat) (by omega)
  refine Ev.congr (fun k => by rw [studiedStep]) (Ev.bind (begins_ev hs he hnt p.f1 (okProd_right hok) h3) ?_)
  refine Ev.pos hl.1 (Ev.pos (by omega) ?_)
  exact Ev.bind (add_ev (m.getD p.f0.toNat []) (bg em m p.f1 (none0 nt)).1 (by rw [hr, hb]) (by omega)) (Ev.some rfl)
theorem studied_ev (l0 : List ByteArray) (l1 : List Tok) (a2 a3 : Int) (l4 : List Prod) (h : Small l4) (h0 : l0.length ≤ 1000000) (h1 : l1.length ≤ 1000) (hok : l4.all (okProd l0.length l1.length) = true) : Ev (fun k => studied_f k l0 l1 a2 a3 l4) (clo false l0.length l4, fst l0.length l1.length (clo false l0.length l4) l4) := by
  refine Ev.congr (fun k => by rw [studied_f, if_pos ⟨by omega, by omega, by have := h.1; omega⟩]) (Ev.bind (Ev.val (empty_ev l0 l1 a2 a3 l4 h h0) (if_pos hok)) ?_)
  have he := clo_length l0.length l1.length false hok
  refine Ev.bind (growOut_ev (sStep_good _ hok) (fun k => studiedStep k l1.length (clo false l0.length l4)) (fun st p hI hp => studiedStep_ev he h1 hI (List.all_eq_true.1 hok p hp) (h.2 p hp)) _ _ (rows0_sh l0.length l1.length) (Nat.le_refl _)) (Ev.some rfl)
theorem refFirst_l1_ev (l0 : List ByteArray) (l1 : List Tok) (a2 a3 : Int) (em : List Bool) (he : em.length = l0.length) (h1 : l1.length ≤ 1000) : ∀ (qs pre : List Prod) (m : List (List Bool)) (more : Bool), Sh l0.length l1.length m → qs.all (okProd l0.length l1.length) = true → pre.length + qs.length ≤ 1000000 → (∀ p ∈ qs, p.f1.length ≤ 1000000) → Ev (fun k => regletref13_first.l1 l0 l1 a2 a3 (pre ++ qs) k m em more (pre.length : Int)) (gIn (sStep l1.length em) qs more m)
  | [], pre, m, more, _, _, _, _ => Ev.step (fun k => by rw [regletref13_first.l1]) (Ev.neg (by simp) (Ev.some (by simp [gIn])))
  | p :: qs, pre, m, more, hs, hok, h3, h4 => by
    simp only [List.length_cons] at h3
    simp only [List.all_cons, Bool.and_eq_true] at hok
    have ih := fun m more hs => refFirst_l1_ev l0 l1 a2 a3 em he h1 qs (pre ++ [p]) m more hs hok.2 (by simp; omega) (fun p hp => h4 p (List.mem_cons_of_mem _ hp))
    simp only [← wrap_next pre _ (show pre.length ≤ 1000000 by omega), List.append_assoc, List.singleton_append] at ih
    have hl := okProd_left hok.1
    have hs1 := hs.1
    have hb := bg_length em hs p.f1 _ (okProd_right hok.1) (none0_length l1.length)
    have hr := hs.get (i := p.f0.toNat) (by omega)
    have hg := (sStep_good em (ps := [p]) (by simp [hok.1])) m p hs (by simp)
    have e : rd_T34 (pre ++ p :: qs) (pre.length : Int) = p := getD_mid _ pre p qs _ rfl
    refine Ev.step (fun k => by rw [regletref13_first.l1]) ?_
    rw [e]
    refine Ev.pos (by simp; omega) (Ev.pos (by omega) (Ev.bind (refBegins_ev l0 l1 a2 a3 _ hs he h1 p.f1 (okProd_right hok.1) (h4 p List.mem_cons_self)) (Ev.pos hl.1 (Ev.pos (by omega) (Ev.bind (join_ev (m.getD p.f0.toNat []) (bg em m p.f1 (none0 l1.length)).1 (by rw [hr, hb]) (by omega)) ?_)))))
    refine Ev.val (ih _ _ hg.1) ?_
    rw [gIn]
    congr 1
    show (if (sStep l1.length em m p).1 = true then true else more) = _
    cases (sStep l1.length em m p).1 <;> rfl
theorem refFirst_l0_ev (l0 : List ByteArray) (l1 : List Tok) (a2 a3 : Int) (l4 : List Prod) (h : Small l4) (em : List Bool) (he : em.length = l0.length) (h1 : l1.length ≤ 1000) (hok : l4.all (okProd l0.length l1.length) = true) : ∀ (n : Nat) (m : List (List Bool)), Sh l0.length l1.length m → cfs m ≤ n → Ev (fun k => regletref13_first.l0 l0 l1 a2 a3 l4 k m em true) (gOut (sStep l1.length em) l4 n m)
  | n, m, hs, hn => by
    obtain ⟨g1, g2, g3⟩ := gIn_good (sStep_good em hok) false m hs
    have h5 := refFirst_l1_ev l0 l1 a2 a3 em he h1 l4 [] m false hs hok (by have := h.1; simpa using this) h.2
    simp only [List.nil_append, List.length_nil, Int.natCast_zero] at h5
    refine Ev.step (fun k => by rw [regletref13_first.l0]) (Ev.pos rfl (Ev.bind h5 ?_))
    cases hr : (gIn (sStep l1.length em) l4 false m).1 with
    | false =>
      refine Ev.step (fun k => by rw [regletref13_first.l0]) (Ev.neg (by simp) (Ev.some ?_))
      cases n <;> simp [gOut, hr]
    | true =>
      have hlt := (g3 hr).resolve_left (by simp)
      cases n with
      | zero => omega
      | succ n =>
        refine Ev.val (refFirst_l0_ev l0 l1 a2 a3 l4 h em he h1 hok n _ g1 (by omega)) ?_
        rw [gOut, if_pos hr]
theorem refFirst_ev (l0 : List ByteArray) (l1 : List Tok) (a2 a3 : Int) (l4 : List Prod) (h : Small l4) (h0 : l0.length ≤ 1000000) (h1 : l1.length ≤ 1000) (hok : l4.all (okProd l0.length l1.length) = true) : Ev (fun k => regletref13_first.f k l0 l1 a2 a3 l4) (fst l0.length l1.length (clo false l0.length l4) l4) := by
  refine Ev.congr (fun k => by rw [regletref13_first.f]) (Ev.bind (marks_ev l0 l1 a2 a3 l4 h0 (by omega)) (Ev.bind (Ev.val (refEmpty_ev l0 l1 a2 a3 l4 h h0) (if_pos hok)) ?_))
  exact refFirst_l0_ev l0 l1 a2 a3 l4 h _ (clo_length l0.length l1.length false hok) h1 hok _ _ (rows0_sh l0.length l1.length) (Nat.le_refl _)
theorem or_self : ∀ a : List Bool, orL a a = a
  | [] => rfl
  | x :: a => by show (x || x) :: orL a a = x :: a; rw [or_self a, Bool.or_self]
theorem more_self : ∀ a : List Bool, moreL a a = false
  | [] => rfl
  | x :: a => by show ((x && !x) || moreL a a) = false; rw [more_self a]; cases x <;> rfl
theorem or_three : ∀ (a b c : List Bool), a.length = b.length → b.length = c.length → orL a (orL b c) = orL (orL a b) c ∧ moreL a (orL b c) = (moreL (orL a b) c || moreL a b)
  | [], [], [], _, _ => ⟨rfl, rfl⟩
  | x :: a, y :: b, z :: c, h1, h2 => by
    obtain ⟨h3, h4⟩ := or_three a b c (by simpa using h1) (by simpa using h2)
    constructor
    · show (x || (y || z)) :: orL a (orL b c) = (x || y || z) :: orL (orL a b) c
      rw [h3, Bool.or_assoc]
    · show (((y || z) && !x) || moreL a (orL b c)) = (((z && !(x || y)) || moreL (orL a b) c) || ((y && !x) || moreL a b))
      rw [h4]
      cases x <;> cases y <;> cases z <;> simp
theorem or_back : ∀ (a b : List Bool), a.length = b.length → orL a (orL b a) = orL a b ∧ moreL a (orL b a) = moreL a b
  | [], [], _ => ⟨rfl, rfl⟩
  | x :: a, y :: b, h1 => by
    obtain ⟨h3, h4⟩ := or_back a b (by simpa using h1)
    constructor
    · show (x || (y || x)) :: orL a (orL b a) = (x || y) :: orL a b
      rw [h3]; cases x <;> cases y <;> rfl
    · show (((y || x) && !x) || moreL a (orL b a)) = ((y && !x) || moreL a b)
      rw [h4]; cases x <;> cases y <;> rfl
def fAdd (nt : Nat) (em : List Bool) (first : List (List Bool)) (left : Nat) (ys : List Sym) (out : List (List Bool)) : List Bool :=
  if (bg em first ys (none0 nt)).2 = true then orL (bg em first ys (none0 nt)).1 (out.getD left []) else (bg em first ys (none0 nt)).1
def fIn (nt : Nat) (em : List Bool) (first : List (List Bool)) (left : Nat) : List Sym → Bool → List (List Bool) → Bool × List (List Bool)
  | [], g, out => (g, out)
  | y :: ys, g, out => if y.f0 = true then fIn nt em first left ys g out else
    fIn nt em first left ys (moreL (out.getD y.f1.toNat []) (fAdd nt em first left ys out) || g) (out.set y.f1.toNat (orL (out.getD y.f1.toNat []) (fAdd nt em first left ys out)))
def fStep (nt : Nat) (em : List Bool) (first : List (List Bool)) (out : List (List Bool)) (p : Prod) : Bool × List (List Bool) := fIn nt em first p.f0.toNat p.f1 false out
theorem fAdd_length {nn nt : Nat} (em : List Bool) {first out : List (List Bool)} (hf : Sh nn nt first) (hs : Sh nn nt out) {left : Nat} (hl : left < nn) {ys : List Sym} (hok : ys.all (okSym nn nt) = true) : (fAdd nt em first left ys out).length = nt + 1 := by
  have hb := bg_length em hf ys _ hok (none0_length nt)
  unfold fAdd
  split
  · rw [orL_length (by rw [hb, hs.get hl]), hb]
  · exact hb
theorem fIn_good {nn nt : Nat} (em : List Bool) {first : List (List Bool)} (hf : Sh nn nt first) {left : Nat} (hl : left < nn) : ∀ (ys : List Sym) (g : Bool) (out : List (List Bool)), ys.all (okSym nn nt) = true → Sh nn nt out → Sh nn nt (fIn nt em first left ys g out).2 ∧ cfs (fIn nt em first left ys g out).2 ≤ cfs out ∧ ((fIn nt em first left ys g out).1 = true → g = true ∨ cfs (fIn nt em first left ys g out).2 < cfs out)
  | [], g, out, _, hs => ⟨hs, Nat.le_refl _, fun h => .inl h⟩
  | y :: ys, g, out, hok, hs => by
    simp only [List.all_cons, Bool.and_eq_true] at hok
    unfold fIn
    cases hy : y.f0 with
    | true => rw [if_pos rfl]; exact fIn_good em hf hl ys g out hok.2 hs
    | false =>
      rw [if_neg (by simp)]
      have hb := okSym_rule hok.1 hy
      obtain ⟨h1, h2, h3⟩ := row_step hs (i := y.f1.toNat) (by omega) (fAdd_length em hf hs hl hok.2)
      obtain ⟨h4, h5, h6⟩ := fIn_good em hf hl ys (moreL (out.getD y.f1.toNat []) (fAdd nt em first left ys out) || g) _ hok.2 h1
      refine ⟨h4, Nat.le_trans h5 h2, fun h => ?_⟩
      rcases h6 h with h7 | h7
      · rcases (Bool.or_eq_true _ _).mp h7 with h8 | h8
        · exact .inr (Nat.lt_of_le_of_lt h5 (h3 h8))
        · exact .inl h8
      · exact .inr (Nat.lt_of_lt_of_le h7 h2)
theorem fStep_good {nn nt : Nat} (em : List Bool) {first : List (List Bool)} (hf : Sh nn nt first) {ps : List Prod} (hps : ps.all (okProd nn nt) = true) : Good (Sh nn nt) cfs (fStep nt em first) ps := by
  intro st p hI hp
  have hok := List.all_eq_true.1 hps p hp
  have hl := okProd_left hok
  obtain ⟨h1, h2, h3⟩ := fIn_good em hf (left := p.f0.toNat) (by omega) p.f1 false st (okProd_right hok) hI
  exact ⟨h1, h2, fun h => (h3 h).resolve_left (by simp)⟩
theorem followAdd_ev {nn nt : Nat} (hnt : nt ≤ 1000) {out : List (List Bool)} (hs : Sh nn nt out) {n : Int} (h0 : 0 ≤ n) (h1 : n < (nn : Int)) {l : List Bool} (hl : l.length = nt + 1) : Ev (fun k => followAdd k n l out) (moreL (out.getD n.toNat []) l, out.set n.toNat (orL (out.getD n.toNat []) l)) := by
  have hr := hs.get (i := n.toNat) (by omega)
  have hs1 := hs.1
  exact Ev.congr (fun k => by rw [followAdd]) (Ev.pos h0 (Ev.pos (by omega) (Ev.bind (add_ev _ _ (by rw [hr, hl]) (by omega)) (Ev.some rfl))))
theorem followIn_ev {nn nt : Nat} {em : List Bool} (he : em.length = nn) (hnt : nt ≤ 1000) {first : List (List Bool)} (hf : Sh nn nt first) {left : Int} (hl0 : 0 ≤ left) (hl1 : left < (nn : Int)) : ∀ (ys : List Sym) (g : Bool) (out : List (List Bool)), ys.all (okSym nn nt) = true → ys.length ≤ 1000000 → Sh nn nt out → Ev (fun k => followIn k nt em first left ys g out) (fIn nt em first left.toNat ys g out)
  | [], g, out, _, _, hs => Ev.congr (fun k => by rw [followIn]) (Ev.some (by rw [fIn]))
  | y :: ys, g, out, hok, h3, hs => by
    simp only [List.all_cons, Bool.and_eq_true] at hok
    simp only [List.length_cons] at h3
    refine Ev.congr (fun k => by rw [followIn]) ?_
    unfold fIn
    cases hy : y.f0 with
    | true => rw [if_pos rfl]; exact Ev.pos rfl (followIn_ev he hnt hf hl0 hl1 ys g out hok.2 (by omega) hs)
    | false =>
      rw [if_neg (by simp)]
      have hb := okSym_rule hok.1 hy
      have hbl := bg_length em hf ys _ hok.2 (none0_length nt)
      have hn : y.f1.toNat < nn := by omega
      have hrow := hs.get hn
      obtain ⟨h1, _, _⟩ := row_step hs hn hbl
      obtain ⟨h1a, _, _⟩ := row_step hs hn (fAdd_length em hf hs (left := left.toNat) (by omega) hok.2)
      refine Ev.neg (by simp) (Ev.bind (begins_ev hf he hnt ys hok.2 (by omega)) (Ev.bind (followAdd_ev hnt hs hb.1 hb.2 hbl) ?_))
      cases hem : (bg em first ys (none0 nt)).2 with
      | false =>
        have e : fAdd nt em first left.toNat ys out = (bg em first ys (none0 nt)).1 := by rw [fAdd, hem, if_neg (by simp)]
        rw [e] at h1a ⊢
        exact Ev.neg (by simp) (followIn_ev he hnt hf hl0 hl1 ys _ _ hok.2 (by omega) h1a)
      | true =>
        have e : fAdd nt em first left.toNat ys out = orL (bg em first ys (none0 nt)).1 (out.getD left.toNat []) := by rw [fAdd, hem, if_pos rfl]
        rw [e] at h1a ⊢
        have hs1 := h1.1
        have hlr := hs.get (i := left.toNat) (by omega)
        have hlr2 := h1.get (i := left.toNat) (by omega)
        refine Ev.pos rfl (Ev.pos hl0 (Ev.pos (by simp only; rw [hs1]; exact hl1) (Ev.bind (followAdd_ev hnt h1 hb.1 hb.2 hlr2) ?_)))
        have hrow2 : (out.set y.f1.toNat (orL (out.getD y.f1.toNat []) (bg em first ys (none0 nt)).1)).getD y.f1.toNat [] = orL (out.getD y.f1.toNat []) (bg em first ys (none0 nt)).1 := by
          rw [List.getD_eq_getElem?_getD, List.getElem?_set_self (by rw [hs.1]; exact hn)]; rfl
        by_cases hyl : y.f1.toNat = left.toNat
        · rw [← hyl] at h1a ⊢
          dsimp only
          rw [hrow2, or_self, more_self, List.set_set]
          obtain ⟨e1, e2⟩ := or_back (out.getD y.f1.toNat []) (bg em first ys (none0 nt)).1 (by rw [hrow, hbl])
          rw [e1] at h1a ⊢
          rw [e2]
          have hres := followIn_ev he hnt hf hl0 hl1 ys (moreL (out.getD y.f1.toNat []) (bg em first ys (none0 nt)).1 || g) _ hok.2 (by omega) h1a
          rw [← hyl] at hres
          rw [Bool.false_or]
          exact hres
        · have hl2 : (out.set y.f1.toNat (orL (out.getD y.f1.toNat []) (bg em first ys (none0 nt)).1)).getD left.toNat [] = out.getD left.toNat [] := by
            rw [List.getD_eq_getElem?_getD, List.getElem?_set_ne hyl, List.getD_eq_getElem?_getD]
          dsimp only
          rw [hrow2, hl2, List.set_set]
          obtain ⟨e1, e2⟩ := or_three (out.getD y.f1.toNat []) (bg em first ys (none0 nt)).1 (out.getD left.toNat []) (by rw [hrow, hbl]) (by rw [hlr, hbl])
          rw [e1] at h1a ⊢
          rw [e2, Bool.or_assoc]
          exact followIn_ev he hnt hf hl0 hl1 ys _ _ hok.2 (by omega) h1a
end Go.Proofs.Ytojdjjbkpbapfaa.M
end

section
namespace Go.Proofs.Ytojdjjbkpbapfaa.M
open Go.RowKit Go.Proofs.YtojdjjbkpbapfaaW.PrintWords Go.Proofs.YtojdjjbkpbapfaaW.PrintLast Go.Proofs.YtojdjjbkpbapfaaW.PrintMore Go.Proofs.Ytojdjjbkpbapfaa.P Go.Proofs.Ytojdjjbkpbapfaa.H
set_option linter.unusedVariables false
set_option linter.unusedSimpArgs false
def fol0 (nn nt : Nat) : List (List Bool) := if 0 < nn then (rows0 nn nt).set 0 ((none0 nt).set nt true) else []
theorem fol0_sh (nn nt : Nat) : Sh nn nt (fol0 nn nt) := by
  unfold fol0
  split
  · exact (rows0_sh nn nt).set 0 (by simp [none0_length])
  · obtain rfl : nn = 0 := by omega
    exact ⟨rfl, fun r hr => by simp at hr⟩
def fol (nn nt : Nat) (em : List Bool) (first : List (List Bool)) (ps : List Prod) : List (List Bool) := gOut (fStep nt em first) ps (cfs (fol0 nn nt)) (fol0 nn nt)
theorem fol_sh {nn nt : Nat} (em : List Bool) {first : List (List Bool)} (hf : Sh nn nt first) {ps : List Prod} (hps : ps.all (okProd nn nt) = true) : Sh nn nt (fol nn nt em first ps) :=
  gOut_I (fStep_good em hf hps) _ _ (fol0_sh nn nt)
theorem refFollowIn_ev (l0 : List ByteArray) (l1 : List Tok) (a2 a3 : Int) (l4 : List Prod) {em : List Bool} (he : em.length = l0.length) (hnt : l1.length ≤ 1000) {first : List (List Bool)} (hf : Sh l0.length l1.length first) {left : Int} (hl0 : 0 ≤ left) (hl1 : left < (l0.length : Int)) : ∀ (ys : List Sym) (g : Bool) (out : List (List Bool)), ys.all (okSym l0.length l1.length) = true → ys.length ≤ 1000000 → Sh l0.length l1.length out → Ev (fun k => rFollowIn k l0 l1 a2 a3 l4 first em left ys g out) (fIn l1.length em first left.toNat ys g out)
  | [], g, out, _, _, hs => Ev.congr (fun k => by rw [rFollowIn]) (Ev.some (by rw [fIn]))
  | y :: ys, g, out, hok, h3, hs => by
    simp only [List.all_cons, Bool.and_eq_true] at hok
    simp only [List.length_cons] at h3
    refine Ev.congr (fun k => by rw [rFollowIn]) ?_
    unfold fIn
    cases hy : y.f0 with
    | true => rw [if_pos rfl]; exact Ev.pos rfl (refFollowIn_ev l0 l1 a2 a3 l4 he hnt hf hl0 hl1 ys g out hok.2 (by omega) hs)
    | false =>
      rw [if_neg (by simp)]
      have hb := okSym_rule hok.1 hy
      have hbl := bg_length em hf ys _ hok.2 (none0_length l1.length)
      have hn : y.f1.toNat < l0.length := by omega
      have hrow := hs.get hn
      have hs1 := hs.1
      have hfl := fAdd_length em hf hs (left := left.toNat) (by omega) hok.2
      obtain ⟨h1a, _, _⟩ := row_step hs hn hfl
      have hlr := hs.get (i := left.toNat) (by omega)
      refine Ev.neg (by simp) (Ev.bind (refBegins_ev l0 l1 a2 a3 l4 hf he hnt ys hok.2 (by omega)) ?_)
      refine Ev.bind (a := fAdd l1.length em first left.toNat ys out) ?_ ?_
      · refine Ev.congr (fun k => by rw [rJoinFrom]) ?_
        unfold fAdd
        cases hem : (bg em first ys (none0 l1.length)).2 with
        | false => exact Ev.neg (by simp) (Ev.some (by simp))
        | true =>
          refine Ev.pos rfl (Ev.pos hl0 (Ev.pos (by omega) ?_))
          exact Ev.bind (join_ev _ _ (by rw [hbl, hlr]) (by omega)) (Ev.some (by simp))
      · refine Ev.bind (a := (moreL (out.getD y.f1.toNat []) (fAdd l1.length em first left.toNat ys out), out.set y.f1.toNat (orL (out.getD y.f1.toNat []) (fAdd l1.length em first left.toNat ys out)))) ?_ ?_
        · refine Ev.congr (fun k => by rw [rJoinRow]) (Ev.pos hb.1 (Ev.pos (by omega) ?_))
          exact Ev.bind (join_ev _ _ (by rw [hrow, hfl]) (by omega)) (Ev.some rfl)
        · refine Ev.val (refFollowIn_ev l0 l1 a2 a3 l4 he hnt hf hl0 hl1 ys _ _ hok.2 (by omega) h1a) ?_
          congr 1
          cases moreL (out.getD y.f1.toNat []) (fAdd l1.length em first left.toNat ys out) <;> rfl
theorem fIn_more (nt : Nat) (em : List Bool) (first : List (List Bool)) (left : Nat) : ∀ (ys : List Sym) (g : Bool) (out : List (List Bool)), fIn nt em first left ys g out = ((fIn nt em first left ys false out).1 || g, (fIn nt em first left ys false out).2)
  | [], g, out => by simp [fIn]
  | y :: ys, g, out => by
    unfold fIn
    split
    · exact fIn_more nt em first left ys g out
    · rw [fIn_more nt em first left ys (_ || g), fIn_more nt em first left ys (_ || false)]
      simp [Bool.or_assoc]
theorem refFollowPs_ev (l0 : List ByteArray) (l1 : List Tok) (a2 a3 : Int) (l4 : List Prod) {em : List Bool} (he : em.length = l0.length) (hnt : l1.length ≤ 1000) {first : List (List Bool)} (hf : Sh l0.length l1.length first) : ∀ (qs : List Prod) (g : Bool) (out : List (List Bool)), qs.all (okProd l0.length l1.length) = true → (∀ p ∈ qs, p.f1.length ≤ 1000000) → Sh l0.length l1.length out → Ev (fun k => rFollowPs k l0 l1 a2 a3 l4 first em qs g out) (gIn (fStep l1.length em first) qs g out)
  | [], g, out, _, _, hs => Ev.congr (fun k => by rw [rFollowPs]) (Ev.some (by rw [gIn]))
  | p :: qs, g, out, hok, h3, hs => by
    simp only [List.all_cons, Bool.and_eq_true] at hok
    have hl := okProd_left hok.1
    have hg := fIn_good em hf (left := p.f0.toNat) (by omega) p.f1 g out (okProd_right hok.1) hs
    refine Ev.congr (fun k => by rw [rFollowPs]) (Ev.bind (refFollowIn_ev l0 l1 a2 a3 l4 he hnt hf hl.1 hl.2 p.f1 g out (okProd_right hok.1) (h3 p List.mem_cons_self) hs) ?_)
    refine Ev.val (refFollowPs_ev l0 l1 a2 a3 l4 he hnt hf qs _ _ hok.2 (fun p hp => h3 p (List.mem_cons_of_mem _ hp)) hg.1) ?_
    rw [gIn, fStep, fIn_more]
theorem refFollowOut_ev (l0 : List ByteArray) (l1 : List Tok) (a2 a3 : Int) (l4 : List Prod) (h : Small l4) {em : List Bool} (he : em.length = l0.length) (hnt : l1.length ≤ 1000) {first : List (List Bool)} (hf : Sh l0.length l1.length first) (hok : l4.all (okProd l0.length l1.length) = true) : ∀ (n : Nat) (out : List (List Bool)), Sh l0.length l1.length out → cfs out ≤ n → ∃ K, ∀ kk, K ≤ kk → ∀ k, K ≤ k → rFollowOut kk l0 l1 a2 a3 l4 first em k out true = some (gOut (fStep l1.length em first) l4 n out)
  | n, out, hs, hn => by
    obtain ⟨g1, g2, g3⟩ := gIn_good (fStep_good em hf hok) false out hs
    obtain ⟨K1, hK1⟩ := refFollowPs_ev l0 l1 a2 a3 l4 he hnt hf l4 false out hok h.2 hs
    have hK1' : ∀ k, K1 ≤ k → rFollowPs k l0 l1 a2 a3 l4 first em l4 false out = some (gIn (fStep l1.length em first) l4 false out) := hK1
    cases hr : (gIn (fStep l1.length em first) l4 false out).1 with
    | false =>
      refine ⟨K1 + 2, fun kk hkk k hk => ?_⟩
      obtain ⟨k', rfl⟩ : ∃ k', k = k' + 2 := ⟨k - 2, by omega⟩
      rw [rFollowOut, if_pos rfl, hK1' kk (by omega)]
      simp only [Option.bind_some, hr]
      rw [rFollowOut, if_neg (by simp)]
      cases n <;> simp [gOut, hr]
    | true =>
      have hlt := (g3 hr).resolve_left (by simp)
      cases n with
      | zero => omega
      | succ n =>
        obtain ⟨K2, hK2⟩ := refFollowOut_ev l0 l1 a2 a3 l4 h he hnt hf hok n _ g1 (by omega)
        refine ⟨max K1 K2 + 1, fun kk hkk k hk => ?_⟩
        obtain ⟨k', rfl⟩ : ∃ k', k = k' + 1 := ⟨k - 1, by omega⟩
        rw [rFollowOut, if_pos rfl, hK1' kk (by omega)]
        simp only [Option.bind_some, hr]
        rw [hK2 kk (by omega) k' (by omega), gOut, if_pos hr]
theorem Sh.small {nn nt : Nat} {m : List (List Bool)} (h : Sh nn nt m) (h1 : nt ≤ 1000) : ∀ r ∈ m, r.length ≤ 1000000 := fun r hr => by rw [h.2 r hr]; omega
section
variable (l0 : List ByteArray) (l1 : List Tok) (a2 a3 : Int) (l4 : List Prod)
def dEmpty (nn : Nat) (nt : Nat) (ps : List Prod) : List Bool := if ps.all (okProd nn nt) = true then clo false nn ps else []
def dUseful (nn : Nat) (nt : Nat) (ps : List Prod) : List Bool := if ps.all (okProd nn nt) = true then clo true nn ps else []
def dFirst (nn nt : Nat) (ps : List Prod) : List (List Int) := if ps.all (okProd nn nt) = true then idxs (fst nn nt (clo false nn ps) ps) else []
def dFollow (nn nt : Nat) (ps : List Prod) : List (List Int) := if ps.all (okProd nn nt) = true then idxs (fol nn nt (clo false nn ps) (fst nn nt (clo false nn ps) ps) ps) else []
def dOf (nn nt : Nat) (ps : List Prod) (l : List Sym) : List Int × Bool := if ps.all (okProd nn nt) = true ∧ nn ≠ 0 ∧ l.all (okSym nn nt) = true then
  (idx 0 (bg (clo false nn ps) (fst nn nt (clo false nn ps) ps) l (none0 nt)).1, (bg (clo false nn ps) (fst nn nt (clo false nn ps) ps) l (none0 nt)).2) else ([], false)
variable (h : Small l4) (h0 : l0.length ≤ 1000000) (h1 : l1.length ≤ 1000)
include h h0 h1
theorem first_ev : Ev (fun k => firsts_First.f k l0 l1 a2 a3 l4) (dFirst l0.length l1.length l4) := by
  refine Ev.congr (fun k => by rw [firsts_First.f]) (Ev.bind0 (firstsRight_val l0 l1 a2 a3 l4 h) ?_)
  unfold dFirst
  cases hr : l4.all (okProd l0.length l1.length) with
  | false => exact Ev.neg (by simp) (Ev.some (by simp))
  | true =>
    have hs := fst_sh l0.length l1.length (clo false l0.length l4) hr
    rw [if_pos rfl]
    exact Ev.pos rfl (Ev.bind (studied_ev l0 l1 a2 a3 l4 h h0 h1 hr) (all_ev _ (by rw [hs.1]; exact h0) (hs.small h1)))
theorem refFirst2_ev : Ev (fun k => regletref13_First.f k l0 l1 a2 a3 l4) (dFirst l0.length l1.length l4) := by
  refine Ev.congr (fun k => by rw [regletref13_First.f]) (Ev.bind (refRight_ev l0 l1 a2 a3 l4 h) ?_)
  unfold dFirst
  cases hr : l4.all (okProd l0.length l1.length) with
  | false => exact Ev.neg (by simp) (Ev.some (by simp))
  | true =>
    have hs := fst_sh l0.length l1.length (clo false l0.length l4) hr
    rw [if_pos rfl]
    exact Ev.pos rfl (Ev.bind (refFirst_ev l0 l1 a2 a3 l4 h h0 h1 hr) (Ev.bind (lists_ev _ (by rw [hs.1]; exact h0) (hs.small h1)) (Ev.some rfl)))
theorem follow_ev : Ev (fun k => firsts_Follow.f k l0 l1 a2 a3 l4) (dFollow l0.length l1.length l4) := by
  refine Ev.congr (fun k => by rw [firsts_Follow.f]) (Ev.bind0 (firstsRight_val l0 l1 a2 a3 l4 h) ?_)
  unfold dFollow
  cases hr : l4.all (okProd l0.length l1.length) with
  | false => exact Ev.neg (by simp) (Ev.some (by simp))
  | true =>
    have hs := fst_sh l0.length l1.length (clo false l0.length l4) hr
    have hs2 := fol_sh (clo false l0.length l4) hs hr
    have he := clo_length l0.length l1.length false hr
    rw [if_pos rfl]
    refine Ev.pos rfl (Ev.bind (studied_ev l0 l1 a2 a3 l4 h h0 h1 hr) ?_)
    refine Ev.bind (growOut_ev (fStep_good _ hs hr) (fun k => followStep k l1.length (clo false l0.length l4) (fst l0.length l1.length (clo false l0.length l4) l4)) (fun st p hI hp => ?_) (cfs (fol0 l0.length l1.length)) (fol0 l0.length l1.length) (fol0_sh _ _) (Nat.le_refl _)) (all_ev _ (by have := hs2.1; exact Nat.le_trans (Nat.le_of_eq this) h0) (hs2.small h1))
    have hok := List.all_eq_true.1 hr p hp
    have hl := okProd_left hok
    exact Ev.congr (fun k => by rw [followStep]) (followIn_ev he h1 hs hl.1 hl.2 p.f1 false st (okProd_right hok) (h.2 p hp) hI)
theorem refFollow_ev : Ev (fun k => regletref13_Follow.f k l0 l1 a2 a3 l4) (dFollow l0.length l1.length l4) := by
  refine Ev.congr (fun k => by rw [regletref13_Follow.f, if_pos ⟨by have := h.1; omega, by rw [List.all_eq_true]; intro p hp; have := h.2 p hp; exact decide_eq_true (by omega)⟩]) (Ev.bind (refRight_ev l0 l1 a2 a3 l4 h) ?_)
  unfold dFollow
  cases hr : l4.all (okProd l0.length l1.length) with
  | false => exact Ev.neg (by simp) (Ev.some (by simp))
  | true =>
    have hs := fst_sh l0.length l1.length (clo false l0.length l4) hr
    have hs2 := fol_sh (clo false l0.length l4) hs hr
    have he := clo_length l0.length l1.length false hr
    rw [if_pos rfl]
    refine Ev.pos rfl (Ev.bind (marks_ev l0 l1 a2 a3 l4 h0 (by omega)) (Ev.bind (refFirst_ev l0 l1 a2 a3 l4 h h0 h1 hr) (Ev.bind (Ev.val (refEmpty_ev l0 l1 a2 a3 l4 h h0) (if_pos hr)) (Ev.bind (a := fol0 l0.length l1.length) ?_ (Ev.bind (a := fol l0.length l1.length (clo false l0.length l4) (fst l0.length l1.length (clo false l0.length l4) l4) l4) ?_ (lists_ev _ (by have := hs2.1; exact Nat.le_trans (Nat.le_of_eq this) h0) (hs2.small h1)))))))
    · refine Ev.some' ?_
      unfold rFollow0 fol0
      by_cases hn : 0 < l0.length
      · have hrow : (rows0 l0.length l1.length).getD 0 [] = none0 l1.length := by
          obtain ⟨n, hn'⟩ : ∃ n, l0.length = n + 1 := ⟨l0.length - 1, by omega⟩
          rw [hn', rows0, List.replicate_succ]; rfl
        rw [if_pos (by rw [(rows0_sh _ _).1]; exact hn), hrow, if_pos (by rw [none0_length]; omega), if_pos hn]
      · rw [if_neg (by rw [(rows0_sh _ _).1]; exact hn), if_neg hn]
        have : l0.length = 0 := by omega
        rw [this]; rfl
    · obtain ⟨K, hK⟩ := refFollowOut_ev l0 l1 a2 a3 l4 h he h1 hs hr (cfs (fol0 l0.length l1.length)) (fol0 l0.length l1.length) (fol0_sh _ _) (Nat.le_refl _)
      exact ⟨K, fun k hk => hK k hk k hk⟩
theorem of_ev (l : List Sym) (hl : l.length ≤ 1000000) : Ev (fun k => firsts_Of.f k l0 l1 a2 a3 l4 l) (dOf l0.length l1.length l4 l) := by
  refine Ev.congr (fun k => by rw [firsts_Of.f]) (Ev.bind0 (firstsRight_val l0 l1 a2 a3 l4 h) ?_)
  unfold dOf
  cases hr : l4.all (okProd l0.length l1.length) with
  | false => exact Ev.neg (by simp) (Ev.some (by simp))
  | true =>
    refine Ev.pos rfl (Ev.bind0 (a := l.all (okSym l0.length l1.length)) (by rw [firsts_symbols.f, if_pos (by omega)]) ?_)
    cases hs : l.all (okSym l0.length l1.length) with
    | false => exact Ev.neg (by simp) (Ev.some (by simp))
    | true =>
      refine Ev.pos rfl ?_
      by_cases hn : (l0.length : Int) = 0
      · exact Ev.pos hn (Ev.some (if_neg (fun hc => hc.2.1 (Int.ofNat_eq_zero.1 hn))).symm)
      · refine Ev.neg hn (Ev.bind (studied_ev l0 l1 a2 a3 l4 h h0 h1 hr) ?_)
        have hsh := fst_sh l0.length l1.length (clo false l0.length l4) hr
        have hb := bg_length (clo false l0.length l4) hsh l _ hs (none0_length l1.length)
        refine Ev.bind (begins_ev hsh (clo_length l0.length l1.length false hr) h1 l hs hl) (Ev.bind (rising_ev _ (by rw [hb]; omega)) (Ev.some ?_))
        have hc : true = true ∧ l0.length ≠ 0 ∧ true = true := ⟨rfl, by omega, rfl⟩
        rw [if_pos hc]
theorem refOf_ev (l : List Sym) (hl : l.length ≤ 1000000) : Ev (fun k => regletref13_Of.f k l0 l1 a2 a3 l4 l) (dOf l0.length l1.length l4 l) := by
  refine Ev.congr (fun k => by rw [regletref13_Of.f]) (Ev.bind (refRight_ev l0 l1 a2 a3 l4 h) ?_)
  unfold dOf
  cases hr : l4.all (okProd l0.length l1.length) with
  | false => exact Ev.neg (by simp) (Ev.some (by simp))
  | true =>
    refine Ev.pos rfl ?_
    by_cases hn : (l0.length : Int) = 0
    · exact Ev.pos hn (Ev.some (if_neg (fun hc => hc.2.1 (Int.ofNat_eq_zero.1 hn))).symm)
    · refine Ev.neg hn (Ev.bind (Ev.val (refRight_ev l0 l1 a2 a3 [⟨0, l⟩] ⟨by simp, by simpa using hl⟩) (s := l.all (okSym l0.length l1.length)) ?_) ?_)
      · simp [okProd]; intro _; omega
      cases hs : l.all (okSym l0.length l1.length) with
      | false => exact Ev.neg (by simp) (Ev.some (by simp))
      | true =>
        have hsh := fst_sh l0.length l1.length (clo false l0.length l4) hr
        have hb := bg_length (clo false l0.length l4) hsh l _ hs (none0_length l1.length)
        refine Ev.pos rfl (Ev.bind (refFirst_ev l0 l1 a2 a3 l4 h h0 h1 hr) (Ev.bind (Ev.val (refEmpty_ev l0 l1 a2 a3 l4 h h0) (if_pos hr)) ?_))
        refine Ev.bind (refBegins_ev l0 l1 a2 a3 l4 hsh (clo_length l0.length l1.length false hr) h1 l hs hl) (Ev.bind (list_ev _ (by rw [hb]; omega)) (Ev.some ?_))
        have hc : true = true ∧ l0.length ≠ 0 ∧ true = true := ⟨rfl, by omega, rfl⟩
        rw [if_pos hc]
theorem same_ev (l : List Sym) (hl : l.length ≤ 1000000) : Ev (fun k => regletlaw13_same.f k l0 l1 a2 a3 l4 l) true := by
  have hsz : (dEmpty l0.length l1.length l4).length ≤ 1000000 ∧ (dUseful l0.length l1.length l4).length ≤ 1000000 ∧ ((dFirst l0.length l1.length l4).length ≤ 1000000 ∧ ∀ r ∈ dFirst l0.length l1.length l4, r.length ≤ 1000000) ∧ ((dFollow l0.length l1.length l4).length ≤ 1000000 ∧ ∀ r ∈ dFollow l0.length l1.length l4, r.length ≤ 1000000) ∧ (dOf l0.length l1.length l4 l).1.length ≤ 1000000 := by
    unfold dEmpty dUseful dFirst dFollow dOf
    cases hr : l4.all (okProd l0.length l1.length) with
    | false => simp
    | true =>
      have hs := fst_sh l0.length l1.length (clo false l0.length l4) hr
      have hs2 := fol_sh (clo false l0.length l4) hs hr
      have hidx : ∀ {m : List (List Bool)}, Sh l0.length l1.length m → (idxs m).length ≤ 1000000 ∧ ∀ r ∈ idxs m, r.length ≤ 1000000 := fun {m} hm => ⟨by rw [idxs, List.length_map, hm.1]; exact h0, fun r hr => by
        obtain ⟨a, ha, rfl⟩ := List.mem_map.1 hr
        have := idx_length 0 a
        have := hm.2 a ha
        omega⟩
      simp only [if_pos]
      refine ⟨by rw [clo_length l0.length l1.length false hr]; exact h0, by rw [clo_length l0.length l1.length true hr]; exact h0, hidx hs, hidx hs2, ?_⟩
      split
      · rename_i hc
        have hb := bg_length (clo false l0.length l4) hs l _ hc.2.2 (none0_length l1.length)
        have := idx_length 0 (bg (clo false l0.length l4) (fst l0.length l1.length (clo false l0.length l4) l4) l (none0 l1.length)).1
        simp only
        omega
      · simp
  obtain ⟨z1, z2, z3, z4, z5⟩ := hsz
  refine Ev.congr (fun k => by rw [regletlaw13_same.f]) (Ev.bind (of_ev l0 l1 a2 a3 l4 h h0 h1 l hl) (Ev.bind (refOf_ev l0 l1 a2 a3 l4 h h0 h1 l hl) ?_))
  refine Ev.bind0 (firstsRight_val l0 l1 a2 a3 l4 h) (Ev.bind (refRight_ev l0 l1 a2 a3 l4 h) (Ev.pos (by simp) ?_))
  refine Ev.bind (empty_ev l0 l1 a2 a3 l4 h h0) (Ev.bind (refEmpty_ev l0 l1 a2 a3 l4 h h0) (Ev.bind (sameBools_ev _ z1) (Ev.pos rfl ?_)))
  refine Ev.bind (useful_ev l0 l1 a2 a3 l4 h h0) (Ev.bind (refUseful_ev l0 l1 a2 a3 l4 h h0) (Ev.bind (sameBools_ev _ z2) (Ev.pos rfl ?_)))
  refine Ev.bind (first_ev l0 l1 a2 a3 l4 h h0 h1) (Ev.bind (refFirst2_ev l0 l1 a2 a3 l4 h h0 h1) (Ev.bind (sameLists_ev _ z3.1 z3.2) (Ev.pos rfl ?_)))
  refine Ev.bind (follow_ev l0 l1 a2 a3 l4 h h0 h1) (Ev.bind (refFollow_ev l0 l1 a2 a3 l4 h h0 h1) (Ev.bind (sameLists_ev _ z4.1 z4.2) (Ev.pos rfl ?_)))
  exact Ev.bind (sameInts_ev _ z5) (Ev.pos rfl (Ev.some (by simp)))
end
end Go.Proofs.Ytojdjjbkpbapfaa.M
end

section
namespace Go.Proofs.Ytojdjjbkpbapfaa.M
open Go.RowKit Go.Proofs.YtojdjjbkpbapfaaW.PrintWords Go.Proofs.YtojdjjbkpbapfaaW.PrintLast Go.Proofs.YtojdjjbkpbapfaaW.PrintMore Go.Proofs.Ytojdjjbkpbapfaa.P Go.Proofs.Ytojdjjbkpbapfaa.H
set_option linter.unusedVariables false
set_option linter.unusedSimpArgs false
set_option maxRecDepth 100000 in
theorem awake_some : regletlaw13_awake.f 40 = some true := by kernel_rfl
theorem awake_ev : Ev (fun k => regletlaw13_awake.f k) true := Ev.of regletlaw13_awake.mono awake_some
end Go.Proofs.Ytojdjjbkpbapfaa.M
end

section
namespace Go.Proofs.Ytojdjjbkpbapfaa.Pure
open Go.RowKit Go.Proofs.Ytojdjjbkpbapfaa.P Go.Proofs.YtojdjjbkpbapfaaW.PrintWords Go.Proofs.YtojdjjbkpbapfaaW.PrintLast Go.Proofs.YtojdjjbkpbapfaaW.PrintMore Go.Proofs.Ytojdjjbkpbapfaa.H Go.Proofs.Ytojdjjbkpbapfaa.M Go.Proofs.Ytojdjjbkpbapfaa.Open
def tot : List S34 → Nat
  | [] => 0
  | p :: ps => p.f1.length + tot ps
theorem tot_szL : ∀ ps : List S34, szL (fun p : S34 => p.f1.length + 1) ps = tot ps + ps.length + 1
  | [] => rfl
  | p :: ps => by have := tot_szL ps; simp only [szL, tot, List.length_cons]; omega
theorem tot_mem : ∀ {ps : List S34} {p : S34}, p ∈ ps → p.f1.length ≤ tot ps
  | q :: ps, p, h => by
    rcases List.mem_cons.1 h with rfl | h
    · simp only [tot]; omega
    · have := tot_mem h; simp only [tot]; omega
theorem big_l0_ev (l0 : List ByteArray) (l1 : List S62) (a2 a3 : Int) : ∀ (qs pre : List S34) (x : Int), 0 ≤ x → x + tot qs ≤ 4294967296 → pre.length + qs.length ≤ 4294967296 → Ev (fun k => regletlaw13_big.l0 k 60 x (pre.length : Int) l0 l1 a2 a3 (pre ++ qs)) (decide (x + (tot qs : Int) > 60))
  | [], pre, x, _, _, _ => Ev.step (fun k => by rw [regletlaw13_big.l0]) (Ev.neg (by simp) (Ev.some (by simp [tot])))
  | p :: qs, pre, x, h0, h1, h2 => by
    simp only [List.length_cons, tot] at h1 h2
    have ih := big_l0_ev l0 l1 a2 a3 qs (pre ++ [p]) (x + p.f1.length) (by omega) (by omega) (by simp; omega)
    have e1 : wrap64 ((pre.length : Int) + 1) = ((pre ++ [p]).length : Int) := by rw [wrap64_id (by omega) (by omega)]; simp
    have e2 : wrap64 (x + (p.f1.length : Int)) = x + (p.f1.length : Int) := wrap64_id (by omega) (by omega)
    rw [← e1, List.append_assoc, List.singleton_append] at ih
    have er : rd_T34 (pre ++ p :: qs) (pre.length : Int) = p := getD_mid _ pre p qs _ rfl
    refine Ev.step (fun k => by rw [regletlaw13_big.l0]) (Ev.pos (by simp; omega) (Ev.pos (by omega) ?_))
    rw [er, e2]
    refine Ev.val ih ?_
    simp only [tot]
    congr 2
    omega
theorem FirstsAny (l0 : List ByteArray) (l1 : List S62) (a2 a3 : Int) (l4 : List S34) (l : List S49) (h : l0.length + l1.length + szL (fun p : S34 => p.f1.length + 1) l4 + l.length ≤ 1048576) : ∃ k, regletlaw13_FirstsAny.f k l0 l1 a2 a3 l4 l = some true := by
  rw [tot_szL] at h
  apply Ev.rounds
  unfold regletlaw13_FirstsAny.f
  have e1 : wrap64 ((l0.length : Int) + (l1.length : Int)) = (l0.length : Int) + (l1.length : Int) := wrap64_id (by omega) (by omega)
  have e2 : wrap64 ((l0.length : Int) + (l1.length : Int) + (l4.length : Int)) = (l0.length : Int) + (l1.length : Int) + (l4.length : Int) := wrap64_id (by omega) (by omega)
  have e3 : wrap64 ((l0.length : Int) + (l1.length : Int) + (l4.length : Int) + (l.length : Int)) = (l0.length : Int) + (l1.length : Int) + (l4.length : Int) + (l.length : Int) := wrap64_id (by omega) (by omega)
  have hb := big_l0_ev l0 l1 a2 a3 l4 [] ((l0.length : Int) + (l1.length : Int) + (l4.length : Int) + (l.length : Int)) (by omega) (by omega) (by simp; omega)
  simp only [List.nil_append, List.length_nil, Int.natCast_zero] at hb
  refine Ev.bind awake_ev (Ev.pos rfl (Ev.bind (Ev.congr (fun k => by rw [regletlaw13_big.f, e1, e2, e3]) hb) ?_))
  by_cases hs : (l0.length : Int) + (l1.length : Int) + (l4.length : Int) + (l.length : Int) + (tot l4 : Int) > 60
  · exact Ev.pos (decide_eq_true hs) (Ev.some rfl)
  · refine Ev.neg (by simpa using hs) (Ev.bind (same_ev l0 l1 a2 a3 l4 ⟨by omega, fun p hp => ?_⟩ (by omega) (by omega) l (by omega)) (Ev.some rfl))
    have := tot_mem hp
    omega
end Go.Proofs.Ytojdjjbkpbapfaa.Pure
end
