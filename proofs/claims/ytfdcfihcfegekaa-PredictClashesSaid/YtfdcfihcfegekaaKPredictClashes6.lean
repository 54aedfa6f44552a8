/- Packed texts of this claim: the walks of the functions, and their plain laws; see the claim's last text. -/
import Derived.Test.YtfdcfihcfegekaaKPredictClashes5
section
namespace Go.Proofs.Ytfdcfihcfegekaa.P
open Go.RowKit Go.Proofs.YtfdcfihcfegekaaW.PrintWords Go.Proofs.YtfdcfihcfegekaaW.PrintLast Go.Proofs.YtfdcfihcfegekaaW.PrintMore
attribute [local go_sem] max2_int min2_int max_two min_two max_three min_three max_four min_four   -- for this text's walks alone
set_option linter.unusedVariables false
set_option linter.unusedSimpArgs false
mutual
def regletlaw14_PredictClashes.l0 : Nat → Bool → List (S50) → List (List Int) → Int → List ByteArray → List (S61) → Int → Int → List (S30) → Option (Bool)
  | 0,_,_,_,_,_,_,_,_,_ => none
  | k + 1,x3,x6,x7,x8,x508000,x508001,x508002,x508003,x508004 => if x8 < (x6.length : Int) then (if 0 ≤ x8 then (if ((rd_T50 x6 x8).f2) < 0 then (regletlaw14_PredictClashes.j1 k x3 x6 x7 x8 true x508000 x508001 x508002 x508003 x508004) else (if ((rd_T50 x6 x8).f3) ≤ ((rd_T50 x6 x8).f2) then (regletlaw14_PredictClashes.j1 k x3 x6 x7 x8 true x508000 x508001 x508002 x508003 x508004) else (if ((rd_T50 x6 x8).f3) ≥ (x508004.length : Int) then (regletlaw14_PredictClashes.j1 k x3 x6 x7 x8 true x508000 x508001 x508002 x508003 x508004) else (if ((rd_T50 x6 x8).f0) < 0 then (regletlaw14_PredictClashes.j1 k x3 x6 x7 x8 true x508000 x508001 x508002 x508003 x508004) else (regletlaw14_PredictClashes.j1 k x3 x6 x7 x8 (decide (((rd_T50 x6 x8).f0) ≥ (x508000.length : Int))) x508000 x508001 x508002 x508003 x508004))))) else (none)) else (some x3)
def regletlaw14_PredictClashes.j1 : Nat → Bool → List (S50) → List (List Int) → Int → Bool → List ByteArray → List (S61) → Int → Int → List (S30) → Option (Bool)
  | 0,_,_,_,_,_,_,_,_,_,_ => none
  | k + 1,x3,x6,x7,x8,x81,x508000,x508001,x508002,x508003,x508004 => if x81 = true then (some false) else (if 0 ≤ x8 then (if x8 < (x6.length : Int) then ((some (([(rd_T50 x6 x8).f2,(rd_T50 x6 x8).f3] : List Int) : List Int)).bind fun y525 => (regletlaw14_PredictClashes.l1 k x3 x6 x7 x8 y525 (y525.length : Int) 0 x508000 x508001 x508002 x508003 x508004)) else (none)) else (none))
def regletlaw14_PredictClashes.l1 : Nat → Bool → List (S50) → List (List Int) → Int → List Int → Int → Int → List ByteArray → List (S61) → Int → Int → List (S30) → Option (Bool)
  | 0,_,_,_,_,_,_,_,_,_,_,_,_ => none
  | k + 1,x3,x6,x7,x8,x92,x93,x94,x508000,x508001,x508002,x508003,x508004 => if x94 < x93 then (if 0 ≤ x94 then (if x94 < (x92.length : Int) then (if 0 ≤ (rd x92 x94) then (if (rd x92 x94) < (x508004.length : Int) then ((regletref13_Of.f k x508000 x508001 x508002 x508003 x508004 ((rd_T30 x508004 (rd x92 x94)).f1)).bind fun bt530 => (if bt530.2 = true then (if 0 ≤ x8 then (if x8 < (x6.length : Int) then (if 0 ≤ ((rd_T50 x6 x8).f0) then (if ((rd_T50 x6 x8).f0) < (x7.length : Int) then (if bt530.1.length + (rd_L3 x7 ((rd_T50 x6 x8).f0)).length < 17592186044416 then (regletlaw14_PredictClashes.j3 k x3 x6 x7 x8 (rd x92 x94) (bt530.1 ++ (rd_L3 x7 ((rd_T50 x6 x8).f0))) x92 x93 x94 x508000 x508001 x508002 x508003 x508004) else (none)) else (none)) else (none)) else (none)) else (none)) else (regletlaw14_PredictClashes.j3 k x3 x6 x7 x8 (rd x92 x94) bt530.1 x92 x93 x94 x508000 x508001 x508002 x508003 x508004))) else (none)) else (none)) else (none)) else (none)) else (regletlaw14_PredictClashes.l0 k x3 x6 x7 (wrap64 (x8 + 1)) x508000 x508001 x508002 x508003 x508004)
def regletlaw14_PredictClashes.j3 : Nat → Bool → List (S50) → List (List Int) → Int → Int → List Int → List Int → Int → Int → List ByteArray → List (S61) → Int → Int → List (S30) → Option (Bool)
  | 0,_,_,_,_,_,_,_,_,_,_,_,_,_,_ => none
  | k + 1,x3,x6,x7,x8,x10,x11,x92,x93,x94,x508000,x508001,x508002,x508003,x508004 => regletlaw14_PredictClashes.l2 k x3 x6 x7 x8 x10 x11 false 0 x92 x93 x94 x508000 x508001 x508002 x508003 x508004
def regletlaw14_PredictClashes.l2 : Nat → Bool → List (S50) → List (List Int) → Int → Int → List Int → Bool → Int → List Int → Int → Int → List ByteArray → List (S61) → Int → Int → List (S30) → Option (Bool)
  | 0,_,_,_,_,_,_,_,_,_,_,_,_,_,_,_,_ => none
  | k + 1,x3,x6,x7,x8,x10,x11,x13,x14,x92,x93,x94,x508000,x508001,x508002,x508003,x508004 => if x14 < (x11.length : Int) then (if x13 = true then (regletlaw14_PredictClashes.l2 k x3 x6 x7 x8 x10 x11 true (wrap64 (x14 + 1)) x92 x93 x94 x508000 x508001 x508002 x508003 x508004) else (if 0 ≤ x14 then (if 0 ≤ x8 then (if x8 < (x6.length : Int) then (regletlaw14_PredictClashes.l2 k x3 x6 x7 x8 x10 x11 ((rd x11 x14) == ((rd_T50 x6 x8).f1)) (wrap64 (x14 + 1)) x92 x93 x94 x508000 x508001 x508002 x508003 x508004) else (none)) else (none)) else (none))) else (if x13 = true then (if 0 ≤ x10 then (if x10 < (x508004.length : Int) then (if 0 ≤ x8 then (if x8 < (x6.length : Int) then (if ((rd_T30 x508004 x10).f0) = ((rd_T50 x6 x8).f0) then (regletlaw14_PredictClashes.l1 k x3 x6 x7 x8 x92 x93 (wrap64 (x94 + 1)) x508000 x508001 x508002 x508003 x508004) else (some false)) else (none)) else (none)) else (none)) else (none)) else (some false))
end
def regletlaw14_PredictClashes.f (k : Nat) (l0 : List Int) : Option (Bool) := (regletlaw14_awake.f k).bind fun t495 => (if t495 = true then ((regletlaw13_Made.f k l0).bind fun bt496 => ((predict_Predict.f k bt496.1 bt496.2.1 bt496.2.2.1 bt496.2.2.2.1 bt496.2.2.2.2).bind fun bt508 => ((regletref13_Follow.f k bt496.1 bt496.2.1 bt496.2.2.1 bt496.2.2.2.1 bt496.2.2.2.2).bind fun t514 => (regletlaw14_PredictClashes.l0 k t495 bt508.2 t514 0 bt496.1 bt496.2.1 bt496.2.2.1 bt496.2.2.2.1 bt496.2.2.2.2)))) else (some false))
def regletlaw14_PredictClashes.T10 : Bool × List (List Nat × List Nat) := (true,[([],[]),([],[]),([0,1],[0,1]),([2],[2]),([3],[3]),([4],[4]),([5],[5]),([6],[6]),([6],[6]),([7,8,6],[6,7,8]),([9,6],[6,9]),([10,6],[6,10]),([6],[6]),([6],[6]),([12,13,6],[6,12,13]),([14,6],[6,14]),([15,6],[6,15]),([11,16,6],[6,11,16]),([6,17],[6,17]),([18,6],[18]),([19],[19]),([19],[19]),([20,21,19],[19,20,21]),([22,19],[19,22]),([23,19],[19,23]),([19],[19]),([25,19],[19,25]),([26,19],[19,26]),([24,27,19],[19,24,27]),([19,28],[19,28]),([29,19],[29]),([30],[30]),([30],[30]),([31,32,30],[30,31,32]),([33,30],[30,33]),([34,30],[30,34]),([35,30],[30,35]),([30,36],[30,36]),([37,30],[37]),([38],[38]),([38],[38]),([39,40,38],[38,39,40]),([41,38],[38,41]),([42,38],[38,42]),([38],[38]),([44,38],[38,44]),([45,38],[38,45]),([43,46,38],[38,43,46]),([38,47],[38,47])])
def regletlaw14_PredictClashes.B10 : List Nat := [0,0,3,7,15,31,63,127,127,511,1023,2047,127,127,12415,28799,61567,131071,262143,524287,1048575,1048575,4194303,8388607,16777215,1048575,34603007,101711871,268435455,536870911,1073741823,2147483647,2147483647,8589934591,17179869183,34359738367,68719476735,137438953471,274877906943,549755813887,549755813887,2199023255551,4398046511103,8796093022207,549755813887,18141941858303,53326313947135,140737488355327,281474976710655]
theorem regletlaw14_PredictClashes.tab10 : rtab .any (opsOf Try.f7 10) = regletlaw14_PredictClashes.T10:=by kernel_rfl
theorem regletlaw14_PredictClashes.bits10 : waitsOk regletlaw14_PredictClashes.T10.2 regletlaw14_PredictClashes.B10 = true:=by kernel_rfl
def regletlaw14_PredictClashes.T12 : Bool × List (List Nat × List Nat) := (true,[([],[]),([],[]),([0,1],[0,1]),([2],[2]),([3],[3]),([],[]),([],[]),([5,6],[5,6]),([7],[7]),([8],[8]),([4,9],[4,9]),([10],[10]),([],[])])
def regletlaw14_PredictClashes.B12 : List Nat := [0,0,3,7,15,0,0,96,224,480,1023,2047,0]
theorem regletlaw14_PredictClashes.tab12 : rtab .any (opsOf Try.f7 12) = regletlaw14_PredictClashes.T12:=by kernel_rfl
theorem regletlaw14_PredictClashes.bits12 : waitsOk regletlaw14_PredictClashes.T12.2 regletlaw14_PredictClashes.B12 = true:=by kernel_rfl
def regletlaw14_PredictClashes.T15 : Bool × List (List Nat × List Nat) := (true,[([],[]),([],[]),([1],[1]),([],[]),([2,3],[2,3]),([4],[4]),([5],[5]),([0,6],[0,6]),([7],[7]),([8],[8]),([8],[8]),([9,7,0,1,2,3,4,5,6,7,8,9],[9]),([10,11,0,1,2,3,4,5,6,7,8,9,10,11],[10])])
def regletlaw14_PredictClashes.B15 : List Nat := [0,0,2,0,14,30,62,127,255,511,511,1023,4095]
theorem regletlaw14_PredictClashes.tab15 : rtab .any (opsOf Try.f7 15) = regletlaw14_PredictClashes.T15:=by kernel_rfl
theorem regletlaw14_PredictClashes.bits15 : waitsOk regletlaw14_PredictClashes.T15.2 regletlaw14_PredictClashes.B15 = true:=by kernel_rfl
def regletlaw14_PredictClashes.T22 : Bool × List (List Nat × List Nat) := (true,[([],[]),([0],[0]),([1],[1]),([1],[1]),([2,3,1],[1,2,3]),([4,1],[1,4]),([1],[1]),([1],[1]),([6,7,1],[1,6,7]),([8,1],[1,8]),([9,1],[1,9]),([5,10,1],[1,5,10]),([1,11],[1,11]),([12,1,0,1,2,3,4,5,6,7,8,9,10,11,12],[0,12])])
def regletlaw14_PredictClashes.B22 : List Nat := [0,1,3,3,15,31,3,3,195,451,963,2047,4095,8191]
theorem regletlaw14_PredictClashes.tab22 : rtab .any (opsOf Try.f7 22) = regletlaw14_PredictClashes.T22:=by kernel_rfl
theorem regletlaw14_PredictClashes.bits22 : waitsOk regletlaw14_PredictClashes.T22.2 regletlaw14_PredictClashes.B22 = true:=by kernel_rfl
def regletlaw14_PredictClashes.T23 : Bool × List (List Nat × List Nat) := (true,[([],[]),([0],[0]),([1],[1]),([2],[2]),([3,2],[2,3]),([2],[2]),([4,5,2],[2,4,5]),([6,2],[2,6]),([7,2],[2,7]),([2],[2]),([2],[2]),([9,10,2],[2,9,10]),([11,2],[2,11]),([12,2],[2,12]),([8,13,2],[2,8,13]),([2,14],[2,14])])
def regletlaw14_PredictClashes.B23 : List Nat := [0,1,3,7,15,7,63,127,255,7,7,1543,3591,7687,16383,32767]
theorem regletlaw14_PredictClashes.tab23 : rtab .any (opsOf Try.f7 23) = regletlaw14_PredictClashes.T23:=by kernel_rfl
theorem regletlaw14_PredictClashes.bits23 : waitsOk regletlaw14_PredictClashes.T23.2 regletlaw14_PredictClashes.B23 = true:=by kernel_rfl
set_option maxHeartbeats 8000000 in
set_option maxRecDepth 100000 in
theorem regletlaw14_PredictClashes.calls (k : Nat) (A0 : Option Addr) (c0 : Nat) (l0 : List Int) (r : Bool) (w : World) (hr0 : Kd.C (Kd.int .u8) w A0 l0.length l0) (hc0 : l0.length ≤ c0) (h : regletlaw14_PredictClashes.f k l0 = some r) :
    Calls Try.prog 7 #[.slice A0 l0.length c0] w fun e w' => e = .returned (.bool r) ∧ Below w.heap.size w w' := by
 have hu26:=Try.underlying26
 have HR0:=Aside0.mk hr0
 have HC0:=Aside0.mk hc0
 clear hr0 hc0
 have HB:=Aside0.mk (Below.refl w.heap.size w)
 have H : ((regletlaw14_awake.f k).bind fun t495 => (if t495 = true then ((regletlaw13_Made.f k l0).bind fun bt496 => ((predict_Predict.f k bt496.1 bt496.2.1 bt496.2.2.1 bt496.2.2.2.1 bt496.2.2.2.2).bind fun bt508 => ((regletref13_Follow.f k bt496.1 bt496.2.1 bt496.2.2.1 bt496.2.2.2.1 bt496.2.2.2.2).bind fun t514 => (regletlaw14_PredictClashes.l0 k t495 bt508.2 t514 0 bt496.1 bt496.2.1 bt496.2.2.1 bt496.2.2.2.1 bt496.2.2.2.2)))) else (some false))) = some r:=h
 clear h
 replace H:=Option.bind_eq_some_iff.mp H
 obtain ⟨t495,A20,H⟩ := H
 replace H : (if t495 = true then ((regletlaw13_Made.f k l0).bind fun bt496 => ((predict_Predict.f k bt496.1 bt496.2.1 bt496.2.2.1 bt496.2.2.2.1 bt496.2.2.2.2).bind fun bt508 => ((regletref13_Follow.f k bt496.1 bt496.2.1 bt496.2.2.1 bt496.2.2.2.1 bt496.2.2.2.2).bind fun t514 => (regletlaw14_PredictClashes.l0 k t495 bt508.2 t514 0 bt496.1 bt496.2.1 bt496.2.2.1 bt496.2.2.2.1 bt496.2.2.2.2)))) else (some false)) = some r:=H
 have A2:=Aside0.mk A20
 clear A20
 by_cases c3 : t495 = true
 · subst c3
   have H1 : ((regletlaw13_Made.f k l0).bind fun bt496 => ((predict_Predict.f k bt496.1 bt496.2.1 bt496.2.2.1 bt496.2.2.2.1 bt496.2.2.2.2).bind fun bt508 => ((regletref13_Follow.f k bt496.1 bt496.2.1 bt496.2.2.1 bt496.2.2.2.1 bt496.2.2.2.2).bind fun t514 => (regletlaw14_PredictClashes.l0 k true bt508.2 t514 0 bt496.1 bt496.2.1 bt496.2.2.1 bt496.2.2.2.1 bt496.2.2.2.2)))) = some r:=by rw [if_pos rfl] at H;exact H
   clear H
   have H:=H1
   clear H1
   replace H:=Option.bind_eq_some_iff.mp H
   obtain ⟨⟨t496,t499,t502,t503,t504⟩,A40,H⟩ := H
   replace H : ((predict_Predict.f k t496 t499 t502 t503 t504).bind fun bt508 => ((regletref13_Follow.f k t496 t499 t502 t503 t504).bind fun t514 => (regletlaw14_PredictClashes.l0 k true bt508.2 t514 0 t496 t499 t502 t503 t504))) = some r:=H
   have A4:=Aside0.mk A40
   clear A40
   replace H:=Option.bind_eq_some_iff.mp H
   obtain ⟨⟨t508,t511⟩,A50,H⟩ := H
   replace H : ((regletref13_Follow.f k t496 t499 t502 t503 t504).bind fun t514 => (regletlaw14_PredictClashes.l0 k true t511 t514 0 t496 t499 t502 t503 t504)) = some r:=H
   have A5:=Aside0.mk A50
   clear A50
   replace H:=Option.bind_eq_some_iff.mp H
   obtain ⟨t514,A60,H⟩ := H
   replace H : (regletlaw14_PredictClashes.l0 k true t511 t514 0 t496 t499 t502 t503 t504) = some r:=H
   have A6:=Aside0.mk A60
   clear A60
   have H' := Aside0.mk H
   clear H
   go_enter Try.func7,Try.ntmps7
   go_wp2_with (first | ((with_reducible refine gate_callee (f:=9) rfl ?_);refine goesL_ (some 15) rfl rfl Try.func9 (by kernel_rfl) rfl #[] rfl (by (try simp only [List.map_toArray,List.map_cons,List.map_nil]);first | done | rfl | (simp only [List.length_drop,List.length_take];rfl)) ?_;(with_reducible refine (regletlaw14_awake.calls k  true _ A2.out).mono ?_);rintro e w7 ⟨rfl,hb⟩;refine ⟨_,rfl,?_⟩;have n0_:=Aside0.mk (below_step (by repeat (first | (with_reducible first | exact HB.out | apply below_alloc | apply pw_below_drewN | apply below_drew1) | exact HB.out)) hb);clear HB;have HB:=n0_;clear n0_;(try clear hb);(try clear hb2);(try clear hk);(try clear hi)) | ((with_reducible refine gate_callee (f:=11) rfl ?_);refine goesL_ (some 19) rfl rfl Try.func11 (by kernel_rfl) rfl #[.slice A0 l0.length c0] rfl (by (try simp only [List.map_toArray,List.map_cons,List.map_nil]);first | done | rfl | (simp only [List.length_drop,List.length_take];rfl)) ?_;(with_reducible refine (regletlaw13_Made.calls k _ _ l0 t496 t499 t502 t503 t504 _ ?side1 ?side2 A4.out).mono ?_);(case side1 => repeat (first | exact (Kd.C_below HR0.out HB.out) | (with_reducible refine Kd.C_alloc ?_ _) | (with_reducible refine Kd.C_drewN ?_ _) | (with_reducible refine Kd.C_drew ?_)));(case side2 => exact HC0.out);rintro e w8 ⟨v497,v500,v505,rfl,ho0,ho1,ho2,hb⟩;refine ⟨_,rfl,?_⟩;have n0_:=Aside0.mk (Kd.R_lower ho0 (below_size (by repeat (first | (with_reducible first | exact HB.out | apply below_alloc | apply pw_below_drewN | apply below_drew1) | exact HB.out))));have n1_:=Aside0.mk (Kd.R_lower ho1 (below_size (by repeat (first | (with_reducible first | exact HB.out | apply below_alloc | apply pw_below_drewN | apply below_drew1) | exact HB.out))));have n2_:=Aside0.mk (Kd.S_lower ho2 (below_size (by repeat (first | (with_reducible first | exact HB.out | apply below_alloc | apply pw_below_drewN | apply below_drew1) | exact HB.out))));have n3_:=Aside0.mk (below_step (by repeat (first | (with_reducible first | exact HB.out | apply below_alloc | apply pw_below_drewN | apply below_drew1) | exact HB.out)) hb);clear HB;have HO498:=n0_;have HO501:=n1_;have HO506:=n2_;have HB:=n3_;clear n0_ n1_ n2_ n3_;(try clear hb);(try clear hb2);(try clear hk);(try clear hi);(try clear ho0);(try clear ho1);(try clear ho2)) | ((with_reducible refine gate_dst (N:=4) rfl ?_);(try (refine gate_guard (by rfl) ?_;dsimp only));refine box_event ?hg (N:=4) ?hd (cs:=#[.slice none 0 0,.slice none 0 0,.int .i64 0,.int .i64 0,.slice none 0 0]) (t:=26) ?hr ?_;(case hd => rfl);(case hg => rfl);(case hr => first | (go_simp;done) | (go_simp;rfl));intro gb507 hg w9 hbox hb;have n0_:=Aside0.mk (Kd.R_below (by (with_reducible repeat (first | apply Kd.R_alloc | apply Kd.R_drewN | apply Kd.R_drew));exact HO498.out) hb);have n1_:=Aside0.mk (Kd.R_below (by (with_reducible repeat (first | apply Kd.R_alloc | apply Kd.R_drewN | apply Kd.R_drew));exact HO501.out) hb);have n2_:=Aside0.mk (Kd.S_below (by (with_reducible repeat (first | apply Kd.S_alloc | apply Kd.S_drewN | apply Kd.S_drew));exact HO506.out) hb);have n3_:=Aside0.mk (below_step (by repeat (first | (with_reducible first | exact HB.out | apply below_alloc | apply pw_below_drewN | apply below_drew1) | exact HB.out)) hb);have n4_:=Aside0.mk (hbox);have n5_:=Aside0.mk ((by rw [hg];exact (below_size (by repeat (first | (with_reducible first | exact HB.out | apply below_alloc | apply pw_below_drewN | apply below_drew1) | exact HB.out))) : w.heap.size ≤ gb507));have n6_:=Aside0.mk ((by rw [hg];exact (below_size (by repeat (first | (with_reducible first | exact HB.out | apply below_alloc | apply pw_below_drewN | apply below_drew1) | exact HB.out))) : w.heap.size ≤ gb507));clear HO498;clear HO501;clear HO506;clear HB;have HO498:=n0_;have HO501:=n1_;have HO506:=n2_;have HB:=n3_;have BK507:=n4_;have GW507:=n5_;have GE507:=n6_;clear n0_ n1_ n2_ n3_ n4_ n5_ n6_;clear hb hbox hg;obtain ⟨Ao10,co10,eo10⟩ := Kd.R_slice HO498.out;subst eo10;have hcz11_0 : w9.cell? ⟨gb507,0,none⟩ = some (.slice none 0 0) := (blk_cell BK507.out 0).trans rfl;have hcz11_1 : w9.cell? ⟨gb507,1,none⟩ = some (.slice none 0 0) := (blk_cell BK507.out 1).trans rfl;have hcz11_2 : w9.cell? ⟨gb507,2,none⟩ = some (.int .i64 0) := (blk_cell BK507.out 2).trans rfl;have hcz11_3 : w9.cell? ⟨gb507,3,none⟩ = some (.int .i64 0) := (blk_cell BK507.out 3).trans rfl;have hcz11_4 : w9.cell? ⟨gb507,4,none⟩ = some (.slice none 0 0) := (blk_cell BK507.out 4).trans rfl;have hfz11_0:=blk_frozen BK507.out 0;have hfz11_1:=blk_frozen BK507.out 1;have hfz11_2:=blk_frozen BK507.out 2;have hfz11_3:=blk_frozen BK507.out 3;have hfz11_4:=blk_frozen BK507.out 4;obtain ⟨Ao12,co12,eo12⟩ := Kd.R_slice HO501.out;subst eo12;obtain ⟨Ao13,co13,eo13⟩ := Kd.S_slice HO506.out;subst eo13) | ((with_reducible refine gate_callee (f:=13) rfl ?_);refine goesL_ (some 22) rfl rfl Try.func13 (by kernel_rfl) rfl #[.agg #[.slice Ao10 t496.length co10,.slice Ao12 t499.length co12,.int .i64 t502,.int .i64 t503,.slice Ao13 t504.length co13]] rfl (by (try simp only [List.map_toArray,List.map_cons,List.map_nil]);first | done | rfl | (simp only [List.length_drop,List.length_take];rfl)) ?_;(with_reducible refine (predict_Predict.calls k _ _ t496 _ _ t499 t502 t503 _ _ t504 t508 t511 _ ?side1 ?side2 ?side3 ?side4 ?side5 ?side6 A5.out).mono ?_);(case side1 => refine (Kd.R_reads' (e:=9) (base:=w.heap.size) (ok:=fun k_ => True) (n:=t496.length) (c:=co10) ?_).2.2;exact (by (with_reducible repeat (first | apply Kd.R_alloc | apply Kd.R_drewN | apply Kd.R_drew));exact (Kd.R_mono (Kd.R_far (p:=⟨gb507,4,none⟩) (Kd.R_far (p:=⟨gb507,3,none⟩) (Kd.R_far (p:=⟨gb507,2,none⟩) (Kd.R_far (p:=⟨gb507,1,none⟩) (Kd.R_far (p:=⟨gb507,0,none⟩) (Kd.R_types HO498.out BK507.out (by decide)) (fun _ hk => hk.2) (.slice Ao10 t496.length co10)) (fun _ hk => hk.2) (.slice Ao12 t499.length co12)) (fun _ hk => hk.2) (.int .i64 t502)) (fun _ hk => hk.2) (.int .i64 t503)) (fun _ hk => hk.2) (.slice Ao13 t504.length co13)) (fun _ h_ => h_.1))));(case side2 => exact (Kd.R_reads' HO498.out).2.1);(case side3 => refine (Kd.R_reads' (e:=61) (base:=w.heap.size) (ok:=fun k_ => True) (n:=t499.length) (c:=co12) ?_).2.2;exact (by (with_reducible repeat (first | apply Kd.R_alloc | apply Kd.R_drewN | apply Kd.R_drew));exact (Kd.R_mono (Kd.R_far (p:=⟨gb507,4,none⟩) (Kd.R_far (p:=⟨gb507,3,none⟩) (Kd.R_far (p:=⟨gb507,2,none⟩) (Kd.R_far (p:=⟨gb507,1,none⟩) (Kd.R_far (p:=⟨gb507,0,none⟩) (Kd.R_types HO501.out BK507.out (by decide)) (fun _ hk => hk.2) (.slice Ao10 t496.length co10)) (fun _ hk => hk.2) (.slice Ao12 t499.length co12)) (fun _ hk => hk.2) (.int .i64 t502)) (fun _ hk => hk.2) (.int .i64 t503)) (fun _ hk => hk.2) (.slice Ao13 t504.length co13)) (fun _ h_ => h_.1))));(case side4 => exact (Kd.R_reads' HO501.out).2.1);(case side5 => refine (Kd.S_reads' (e:=30) (base:=w.heap.size) (ok:=fun k_ => True) (n:=t504.length) (c:=co13) ?_).2.2;exact (by (with_reducible repeat (first | apply Kd.S_alloc | apply Kd.S_drewN | apply Kd.S_drew));exact (Kd.S_mono (Kd.S_far (p:=⟨gb507,4,none⟩) (Kd.S_far (p:=⟨gb507,3,none⟩) (Kd.S_far (p:=⟨gb507,2,none⟩) (Kd.S_far (p:=⟨gb507,1,none⟩) (Kd.S_far (p:=⟨gb507,0,none⟩) (Kd.S_types HO506.out BK507.out (by decide)) (fun _ hk => hk.2) (.slice Ao10 t496.length co10)) (fun _ hk => hk.2) (.slice Ao12 t499.length co12)) (fun _ hk => hk.2) (.int .i64 t502)) (fun _ hk => hk.2) (.int .i64 t503)) (fun _ hk => hk.2) (.slice Ao13 t504.length co13)) (fun _ h_ => h_.1))));(case side6 => exact (Kd.S_reads' HO506.out).2.1);rintro e w14 ⟨v509,v512,rfl,ho0,ho1,hb⟩;refine ⟨_,rfl,?_⟩;have n0_:=Aside0.mk (Kd.R_below (by (with_reducible repeat (first | apply Kd.R_alloc | apply Kd.R_drewN | apply Kd.R_drew));exact (Kd.R_mono (Kd.R_far (p:=⟨gb507,4,none⟩) (Kd.R_far (p:=⟨gb507,3,none⟩) (Kd.R_far (p:=⟨gb507,2,none⟩) (Kd.R_far (p:=⟨gb507,1,none⟩) (Kd.R_far (p:=⟨gb507,0,none⟩) (Kd.R_types HO498.out BK507.out (by decide)) (fun _ hk => hk.2) (.slice Ao10 t496.length co10)) (fun _ hk => hk.2) (.slice Ao12 t499.length co12)) (fun _ hk => hk.2) (.int .i64 t502)) (fun _ hk => hk.2) (.int .i64 t503)) (fun _ hk => hk.2) (.slice Ao13 t504.length co13)) (fun _ h_ => h_.1))) hb);have n1_:=Aside0.mk (Kd.R_below (by (with_reducible repeat (first | apply Kd.R_alloc | apply Kd.R_drewN | apply Kd.R_drew));exact (Kd.R_mono (Kd.R_far (p:=⟨gb507,4,none⟩) (Kd.R_far (p:=⟨gb507,3,none⟩) (Kd.R_far (p:=⟨gb507,2,none⟩) (Kd.R_far (p:=⟨gb507,1,none⟩) (Kd.R_far (p:=⟨gb507,0,none⟩) (Kd.R_types HO501.out BK507.out (by decide)) (fun _ hk => hk.2) (.slice Ao10 t496.length co10)) (fun _ hk => hk.2) (.slice Ao12 t499.length co12)) (fun _ hk => hk.2) (.int .i64 t502)) (fun _ hk => hk.2) (.int .i64 t503)) (fun _ hk => hk.2) (.slice Ao13 t504.length co13)) (fun _ h_ => h_.1))) hb);have n2_:=Aside0.mk (Kd.S_below (by (with_reducible repeat (first | apply Kd.S_alloc | apply Kd.S_drewN | apply Kd.S_drew));exact (Kd.S_mono (Kd.S_far (p:=⟨gb507,4,none⟩) (Kd.S_far (p:=⟨gb507,3,none⟩) (Kd.S_far (p:=⟨gb507,2,none⟩) (Kd.S_far (p:=⟨gb507,1,none⟩) (Kd.S_far (p:=⟨gb507,0,none⟩) (Kd.S_types HO506.out BK507.out (by decide)) (fun _ hk => hk.2) (.slice Ao10 t496.length co10)) (fun _ hk => hk.2) (.slice Ao12 t499.length co12)) (fun _ hk => hk.2) (.int .i64 t502)) (fun _ hk => hk.2) (.int .i64 t503)) (fun _ hk => hk.2) (.slice Ao13 t504.length co13)) (fun _ h_ => h_.1))) hb);have n3_:=Aside0.mk (Kd.S_lower ho0 (below_size (by repeat (first | (with_reducible first | exact HB.out | apply below_alloc | apply pw_below_drewN | apply below_drew1 | refine below_set ?_ GE507.out) | exact HB.out))));have n4_:=Aside0.mk (Kd.R_lower ho1 (below_size (by repeat (first | (with_reducible first | exact HB.out | apply below_alloc | apply pw_below_drewN | apply below_drew1 | refine below_set ?_ GE507.out) | exact HB.out))));have n5_:=Aside0.mk (blk_below (g:=gb507) (o := .cells #[.slice Ao10 t496.length co10,.slice Ao12 t499.length co12,.int .i64 t502,.int .i64 t503,.slice Ao13 t504.length co13] 26 (0,0)) (by (with_reducible repeat (first | refine blk_drewN ?_ _ | refine blk_drew ?_ | refine blk_alloc ?_ _));refine blk_put (cs:=#[.slice Ao10 t496.length co10,.slice Ao12 t499.length co12,.int .i64 t502,.int .i64 t503,.slice none 0 0]) ?_ 4 _ rfl;(with_reducible repeat (first | refine blk_drewN ?_ _ | refine blk_drew ?_ | refine blk_alloc ?_ _));refine blk_put (cs:=#[.slice Ao10 t496.length co10,.slice Ao12 t499.length co12,.int .i64 t502,.int .i64 0,.slice none 0 0]) ?_ 3 _ rfl;(with_reducible repeat (first | refine blk_drewN ?_ _ | refine blk_drew ?_ | refine blk_alloc ?_ _));refine blk_put (cs:=#[.slice Ao10 t496.length co10,.slice Ao12 t499.length co12,.int .i64 0,.int .i64 0,.slice none 0 0]) ?_ 2 _ rfl;(with_reducible repeat (first | refine blk_drewN ?_ _ | refine blk_drew ?_ | refine blk_alloc ?_ _));refine blk_put (cs:=#[.slice Ao10 t496.length co10,.slice none 0 0,.int .i64 0,.int .i64 0,.slice none 0 0]) ?_ 1 _ rfl;(with_reducible repeat (first | refine blk_drewN ?_ _ | refine blk_drew ?_ | refine blk_alloc ?_ _));refine blk_put (cs:=#[.slice none 0 0,.slice none 0 0,.int .i64 0,.int .i64 0,.slice none 0 0]) ?_ 0 _ rfl;(with_reducible repeat (first | refine blk_drewN ?_ _ | refine blk_drew ?_ | refine blk_alloc ?_ _));exact BK507.out) hb);have n6_:=Aside0.mk (below_step (by repeat (first | (with_reducible first | exact HB.out | apply below_alloc | apply pw_below_drewN | apply below_drew1 | refine below_set ?_ GE507.out) | exact HB.out)) hb);clear HO498;clear HO501;clear HO506;clear BK507;clear HB;have HO498:=n0_;have HO501:=n1_;have HO506:=n2_;have HO510:=n3_;have HO513:=n4_;have BK507:=n5_;have HB:=n6_;clear n0_ n1_ n2_ n3_ n4_ n5_ n6_;(try clear hb);(try clear hb2);(try clear hk);(try clear hi);(try clear ho0);(try clear ho1);have hcz15_0 : w14.cell? ⟨gb507,0,none⟩ = some (.slice Ao10 t496.length co10) := (blk_cell BK507.out 0).trans rfl;have hcz15_1 : w14.cell? ⟨gb507,1,none⟩ = some (.slice Ao12 t499.length co12) := (blk_cell BK507.out 1).trans rfl;have hcz15_2 : w14.cell? ⟨gb507,2,none⟩ = some (.int .i64 t502) := (blk_cell BK507.out 2).trans rfl;have hcz15_3 : w14.cell? ⟨gb507,3,none⟩ = some (.int .i64 t503) := (blk_cell BK507.out 3).trans rfl;have hcz15_4 : w14.cell? ⟨gb507,4,none⟩ = some (.slice Ao13 t504.length co13) := (blk_cell BK507.out 4).trans rfl;have hfz15_0:=blk_frozen BK507.out 0;have hfz15_1:=blk_frozen BK507.out 1;have hfz15_2:=blk_frozen BK507.out 2;have hfz15_3:=blk_frozen BK507.out 3;have hfz15_4:=blk_frozen BK507.out 4) | ((with_reducible refine gate_callee (f:=16) rfl ?_);refine goesL_ (some 26) rfl rfl Try.func16 (by kernel_rfl) rfl #[.agg #[.slice Ao10 t496.length co10,.slice Ao12 t499.length co12,.int .i64 t502,.int .i64 t503,.slice Ao13 t504.length co13]] rfl (by (try simp only [List.map_toArray,List.map_cons,List.map_nil]);first | done | rfl | (simp only [List.length_drop,List.length_take];rfl)) ?_;(with_reducible refine (regletref13_Follow.calls k _ _ t496 _ _ t499 t502 t503 _ _ t504 t514 _ ?side1 ?side2 ?side3 ?side4 ?side5 ?side6 A6.out).mono ?_);(case side1 => repeat (first | exact (Kd.R_reads' HO498.out).2.2 | (with_reducible refine Kd.C_alloc ?_ _) | (with_reducible refine Kd.C_drewN ?_ _) | (with_reducible refine Kd.C_drew ?_)));(case side2 => exact (Kd.R_reads' HO498.out).2.1);(case side3 => repeat (first | exact (Kd.R_reads' HO501.out).2.2 | (with_reducible refine Kd.C_alloc ?_ _) | (with_reducible refine Kd.C_drewN ?_ _) | (with_reducible refine Kd.C_drew ?_)));(case side4 => exact (Kd.R_reads' HO501.out).2.1);(case side5 => repeat (first | exact (Kd.S_reads' HO506.out).2.2 | (with_reducible refine Kd.C_alloc ?_ _) | (with_reducible refine Kd.C_drewN ?_ _) | (with_reducible refine Kd.C_drew ?_)));(case side6 => exact (Kd.S_reads' HO506.out).2.1);rintro e w16 ⟨v515,rfl,ho0,hb⟩;refine ⟨_,rfl,?_⟩;have n0_:=Aside0.mk (Kd.R_below (by (with_reducible repeat (first | apply Kd.R_alloc | apply Kd.R_drewN | apply Kd.R_drew));exact HO498.out) hb);have n1_:=Aside0.mk (Kd.R_below (by (with_reducible repeat (first | apply Kd.R_alloc | apply Kd.R_drewN | apply Kd.R_drew));exact HO501.out) hb);have n2_:=Aside0.mk (Kd.S_below (by (with_reducible repeat (first | apply Kd.S_alloc | apply Kd.S_drewN | apply Kd.S_drew));exact HO506.out) hb);have n3_:=Aside0.mk (Kd.S_elder' (by (with_reducible repeat (first | apply Kd.S_alloc | apply Kd.S_drewN | apply Kd.S_drew));exact HO510.out) (Kd.S_base ho0) hb);have n4_:=Aside0.mk (Kd.R_below (by (with_reducible repeat (first | apply Kd.R_alloc | apply Kd.R_drewN | apply Kd.R_drew));exact HO513.out) hb);have n5_:=Aside0.mk (Kd.S_lower (Kd.S_new' ho0 (Kd.S_lt (by (with_reducible repeat (first | apply Kd.S_alloc | apply Kd.S_drewN | apply Kd.S_drew));exact HO510.out))) (below_size (by repeat (first | (with_reducible first | exact HB.out | apply below_alloc | apply pw_below_drewN | apply below_drew1 | refine below_set ?_ GE507.out) | exact HB.out))));have n6_:=Aside0.mk (blk_below (g:=gb507) (o := .cells #[.slice Ao10 t496.length co10,.slice Ao12 t499.length co12,.int .i64 t502,.int .i64 t503,.slice Ao13 t504.length co13] 26 (0,0)) (by (with_reducible repeat (first | refine blk_drewN ?_ _ | refine blk_drew ?_ | refine blk_alloc ?_ _));exact BK507.out) hb);have n7_:=Aside0.mk (below_step (by repeat (first | (with_reducible first | exact HB.out | apply below_alloc | apply pw_below_drewN | apply below_drew1 | refine below_set ?_ GE507.out) | exact HB.out)) hb);clear HO498;clear HO501;clear HO506;clear HO510;clear HO513;clear BK507;clear HB;have HO498:=n0_;have HO501:=n1_;have HO506:=n2_;have HO510:=n3_;have HO513:=n4_;have HO516:=n5_;have BK507:=n6_;have HB:=n7_;clear n0_ n1_ n2_ n3_ n4_ n5_ n6_ n7_;(try clear hb);(try clear hb2);(try clear hk);(try clear hi);(try clear ho0)))
   go_loopg [8] k (fun kq v8 w' => ∃ (x8_1 : Int),v8 = .int .i64 x8_1 ∧ Aside0 (regletlaw14_PredictClashes.l0 kq true t511 t514 x8_1 t496 t499 t502 t503 t504 = some r) ∧ Aside0 (kq ≤ k) ∧ Aside0 (Kd.R k50 50 w' w.heap.size (fun _ => True) v512 t511) ∧ Aside0 (Kd.S (Kd.slice 3 (Kd.int .i64)) 43 w' w.heap.size (fun _ => True) v515 t514) ∧ Aside0 (Kd.R Kd.string 9 w' w.heap.size (fun _ => True) (.slice Ao10 t496.length co10) t496) ∧ Aside0 (Kd.R k61 61 w' w.heap.size (fun _ => True) (.slice Ao12 t499.length co12) t499) ∧ Aside0 (Kd.S k30 30 w' w.heap.size (fun _ => True) (.slice Ao13 t504.length co13) t504) ∧ Aside0 (w'.heap[gb507]? = some (.cells #[(.slice Ao10 t496.length co10),(.slice Ao12 t499.length co12),.int .i64 t502,.int .i64 t503,(.slice Ao13 t504.length co13)] 26 (0,0))) ∧ Aside0 (Below w.heap.size w w'))
   case atStart => exact ⟨(0),(by first | rfl | (simp;done) | (simp [*];done)),H',⟨Nat.le_refl _⟩,⟨by (with_reducible repeat (first | apply Kd.R_alloc | apply Kd.R_drewN | apply Kd.R_drew));exact HO513.out⟩,⟨by (with_reducible repeat (first | apply Kd.S_alloc | apply Kd.S_drewN | apply Kd.S_drew));exact Kd.S_mono HO516.out (fun _ hk => trivial)⟩,⟨by (with_reducible repeat (first | apply Kd.R_alloc | apply Kd.R_drewN | apply Kd.R_drew));exact HO498.out⟩,⟨by (with_reducible repeat (first | apply Kd.R_alloc | apply Kd.R_drewN | apply Kd.R_drew));exact HO501.out⟩,⟨by (with_reducible repeat (first | apply Kd.S_alloc | apply Kd.S_drewN | apply Kd.S_drew));exact HO506.out⟩,⟨by (with_reducible repeat (first | refine blk_drewN ?_ _ | refine blk_drew ?_ | refine blk_alloc ?_ _));exact BK507.out⟩,⟨by repeat (first | (with_reducible first | exact HB.out | apply below_alloc | apply pw_below_drewN | apply below_drew1 | refine below_set ?_ GE507.out) | exact HB.out)⟩⟩
   case round =>
    clear H'
    (try clear c1);(try clear p2);(try clear c3);(try clear c7);(try clear c9);(try clear c11);(try clear c13);(try clear c16);(try clear hcz11_0);(try clear hcz11_1);(try clear hcz11_2);(try clear hcz11_3);(try clear hcz11_4);(try clear hcz15_0);(try clear hcz15_1);(try clear hcz15_2);(try clear hcz15_3);(try clear hcz15_4);(try clear hfz11_0);(try clear hfz11_1);(try clear hfz11_2);(try clear hfz11_3)
    (try clear hfz11_4);(try clear hfz15_0);(try clear hfz15_1);(try clear hfz15_2);(try clear hfz15_3);(try clear hfz15_4)
    obtain ⟨x8_1,rfl,HA,HK1,HO_6,HO_7,HO_508000,HO_508001,HO_508004,BK507,HB⟩ := hrel
    cases gk with
    | zero => exact absurd HA.out (by simp [regletlaw14_PredictClashes.l0])
    | succ k1 =>
     have H:=HA.out
     clear HA
     simp only [regletlaw14_PredictClashes.l0] at H
     by_cases c17 : x8_1 < (t511.length : Int)
     · rw [if_pos c17] at H
       have c17b0 : decide (x8_1 < (t511.length : Int)) = true:=decide_eq_true c17
       clear c17
       have HC18:=Aside0.mk H
       clear H
       obtain ⟨Ao19,co19,eo19⟩ := Kd.R_slice HO_6.out
       subst eo19
       go_upto_region 10 with (fail)
       go_cut [81] (fun v81 wc => ∃ (kq : Nat) (x81_17 : Bool),v81 = .bool x81_17 ∧ Aside0 (regletlaw14_PredictClashes.j1 kq true t511 t514 x8_1 x81_17 t496 t499 t502 t503 t504 = some r) ∧ Aside0 (kq ≤ k1) ∧ Aside0 (Kd.R k50 50 wc w.heap.size (fun _ => True) (.slice Ao19 t511.length co19) t511) ∧ Aside0 (Kd.S (Kd.slice 3 (Kd.int .i64)) 43 wc w.heap.size (fun _ => True) v515 t514) ∧ Aside0 (Kd.R Kd.string 9 wc w.heap.size (fun _ => True) (.slice Ao10 t496.length co10) t496) ∧ Aside0 (Kd.R k61 61 wc w.heap.size (fun _ => True) (.slice Ao12 t499.length co12) t499) ∧ Aside0 (Kd.S k30 30 wc w.heap.size (fun _ => True) (.slice Ao13 t504.length co13) t504) ∧ Aside0 (wc.heap[gb507]? = some (.cells #[(.slice Ao10 t496.length co10),(.slice Ao12 t499.length co12),.int .i64 t502,.int .i64 t503,(.slice Ao13 t504.length co13)] 26 (0,0))) ∧ Aside0 (Below w.heap.size w wc))
       case first =>
        have H:=HC18.out
        clear HC18
        by_cases c20 : 0 ≤ x8_1
        rotate_left
        · rw [if_neg c20] at H
          exact absurd H (by simp)
        rw [if_pos c20] at H
        have c20b0 : decide (0 ≤ x8_1) = true:=decide_eq_true c20
        clear c20
        (first | rw [c20b0] | (simp only [i64_w,i32_w];rw [c20b0]) | skip)
        by_cases c21 : ((rd_T50 t511 x8_1).f2) < 0
        · rw [if_pos c21] at H
          have c21b0 : decide (((rd_T50 t511 x8_1).f2) < 0) = true:=decide_eq_true c21
          clear c21
          have H' := Aside0.mk H
          clear H
          try go_wp2
          have n0_:=Aside0.mk (Kd.R_drew HO_6.out)
          have n1_:=Aside0.mk (Kd.S_drew HO_7.out)
          have n2_:=Aside0.mk (Kd.R_drew HO_508000.out)
          have n3_:=Aside0.mk (Kd.R_drew HO_508001.out)
          have n4_:=Aside0.mk (Kd.S_drew HO_508004.out)
          have n5_:=Aside0.mk (blk_drew BK507.out)
          have n6_:=Aside0.mk (below_drew1 HB.out)
          clear HO_6
          clear HO_7
          clear HO_508000
          clear HO_508001
          clear HO_508004
          clear BK507
          clear HB
          have HO_6:=n0_
          have HO_7:=n1_
          have HO_508000:=n2_
          have HO_508001:=n3_
          have HO_508004:=n4_
          have BK507:=n5_
          have HB:=n6_
          clear n0_ n1_ n2_ n3_ n4_ n5_ n6_
          have p517 : 0 ≤ (x8_1 : Int) := of_decide_eq_true (by first | (with_reducible assumption) | assumption)
          have q517 : x8_1 < (t511.length : Int) := of_decide_eq_true (by first | (with_reducible assumption) | assumption)
          obtain ⟨ad517,e517,hx517_0,hx517_1,hx517_2,hx517_3⟩ := at_T50 (Kd.R_reads' HO_6.out).2.2 x8_1 p517 q517
          cases e517
          replace p517:=eq_true p517
          replace q517:=eq_true q517
          refine start_ (n:=49) (S:=fun w' => w'.cell? (ad517.add ((x8_1).toNat * 4)) = some (.int .i64 ((rd_T50 t511 x8_1).f0)) ∧ w'.cell? ⟨(ad517.add ((x8_1).toNat * 4)).block,(ad517.add ((x8_1).toNat * 4)).off + 1,none⟩ = some (.int .i64 ((rd_T50 t511 x8_1).f1)) ∧ w'.cell? ⟨(ad517.add ((x8_1).toNat * 4)).block,(ad517.add ((x8_1).toNat * 4)).off + 2,none⟩ = some (.int .i64 ((rd_T50 t511 x8_1).f2)) ∧ w'.cell? ⟨(ad517.add ((x8_1).toNat * 4)).block,(ad517.add ((x8_1).toNat * 4)).off + 3,none⟩ = some (.int .i64 ((rd_T50 t511 x8_1).f3))) (ds := []) #[F,F,F,F,F,F,F,F,F,F,F,F,F,F,F,F,F,F,F,F,F,F,F,F,F,F,F,F,F,F,F,F,F,F,F,F,F,F,F,F,F,F,F,F,F,F,F,F,F] (by kernel_rfl) rfl rfl ⟨hx517_0,hx517_1,hx517_2,hx517_3⟩ (fun hHeld => ?_);refine with_tabW regletlaw14_PredictClashes.tab10 regletlaw14_PredictClashes.bits10 (fun HT_ HW_ => ?_)
          generalize wr.drew = w22 at HO_6 HO_7 HO_508000 HO_508001 HO_508004 BK507 HB hx517_0 hx517_1 hx517_2 hx517_3 hHeld ⊢
          refine pure_ (i:=0) (N:=some 33) (v:=?_) (a' := ?_) #[T,F,F,F,F,F,F,F,F,F,F,F,F,F,F,F,F,F,F,F,F,F,F,F,F,F,F,F,F,F,F,F,F,F,F,F,F,F,F,F,F,F,F,F,F,F,F,F,F] rfl rfl (any_of HT_.out (by kernel_rfl)) (fun _ _ _ h => h) (Or.inl ⟨by rfl,?_⟩) ?_ ?_
          rotate_left;(intro w';go_simp;with_reducible rfl);rotate_left;(simp only [pq];rfl)
          refine pure_ (i:=1) (N:=some 34) (v:=?_) (a' := ?_) #[T,T,F,F,F,F,F,F,F,F,F,F,F,F,F,F,F,F,F,F,F,F,F,F,F,F,F,F,F,F,F,F,F,F,F,F,F,F,F,F,F,F,F,F,F,F,F,F,F] rfl rfl (any_of HT_.out (by kernel_rfl)) (fun _ _ _ h => h) (Or.inl ⟨by rfl,?_⟩) ?_ ?_
          rotate_left;(intro w';go_simp;with_reducible rfl);rotate_left;(simp only [pq];rfl)
          refine pure_ (i:=2) (N:=some 35) (v:=?_) (a' := ?_) #[T,T,T,F,F,F,F,F,F,F,F,F,F,F,F,F,F,F,F,F,F,F,F,F,F,F,F,F,F,F,F,F,F,F,F,F,F,F,F,F,F,F,F,F,F,F,F,F,F] rfl rfl (any_of HT_.out (by kernel_rfl)) (fun _ _ _ h => h) (Or.inl ⟨by rfl,?_⟩) ?_ ?_
          rotate_left;(intro w';go_simp;with_reducible rfl);rotate_left;(simp only [pq];rfl)
          refine pure_ (i:=3) (N:=some 36) (v:=?_) (a' := ?_) #[T,T,T,T,F,F,F,F,F,F,F,F,F,F,F,F,F,F,F,F,F,F,F,F,F,F,F,F,F,F,F,F,F,F,F,F,F,F,F,F,F,F,F,F,F,F,F,F,F] rfl rfl (any_of HT_.out (by kernel_rfl)) (fun _ _ _ h => h) (Or.inl ⟨by rfl,?_⟩) ?_ ?_
          rotate_left;(intro w';go_simp;with_reducible rfl);rotate_left;(simp only [pq];rfl)
          refine take_ (i:=4) (N:=some 37) (v:=?_) (a' := ?_) #[T,T,T,T,T,F,F,F,F,F,F,F,F,F,F,F,F,F,F,F,F,F,F,F,F,F,F,F,F,F,F,F,F,F,F,F,F,F,F,F,F,F,F,F,F,F,F,F,F] rfl rfl (take_ofW HT_.out HW_.out (by kernel_rfl)) (fun _ _ _ h => h) (Or.inl ⟨by rfl,?_⟩) hHeld ?_ ?_
          rotate_left
          · rintro w' ⟨s0,s1,s2,s3⟩
            go_simp
            with_reducible rfl
          rotate_left
          · simp only [pq]
            rfl
          refine pure_ (i:=5) (N:=some 38) (v:=?_) (a' := ?_) #[T,T,T,T,T,T,F,F,F,F,F,F,F,F,F,F,F,F,F,F,F,F,F,F,F,F,F,F,F,F,F,F,F,F,F,F,F,F,F,F,F,F,F,F,F,F,F,F,F] rfl rfl (any_of HT_.out (by kernel_rfl)) (fun _ _ _ h => h) (Or.inl ⟨by rfl,?_⟩) ?_ ?_
          rotate_left;(intro w';go_simp;with_reducible rfl);rotate_left;(simp only [pq];rfl)
          refine pure_ (i:=6) (N:=some 39) (v:=?_) (a' := ?_) #[T,T,T,T,T,T,T,F,F,F,F,F,F,F,F,F,F,F,F,F,F,F,F,F,F,F,F,F,F,F,F,F,F,F,F,F,F,F,F,F,F,F,F,F,F,F,F,F,F] rfl rfl (any_of HT_.out (by kernel_rfl)) (fun _ _ _ h => h) (Or.inl ⟨by rfl,?_⟩) ?_ ?_
          rotate_left;(intro w';go_simp;with_reducible rfl);rotate_left;(simp only [pq];rfl)
          refine pure_ (i:=7) (N:=some 40) (v:=undef) (a' := ?_) #[T,T,T,T,T,T,T,T,F,F,F,F,F,F,F,F,F,F,F,F,F,F,F,F,F,F,F,F,F,F,F,F,F,F,F,F,F,F,F,F,F,F,F,F,F,F,F,F,F] rfl rfl (any_of HT_.out (by kernel_rfl)) (fun _ _ _ h => h) (Or.inr ⟨by rfl,rfl⟩) ?_ ?_
          rotate_left
          · simp only [pq]
            rfl
          refine pure_ (i:=8) (N:=some 41) (v:=undef) (a' := ?_) #[T,T,T,T,T,T,T,T,T,F,F,F,F,F,F,F,F,F,F,F,F,F,F,F,F,F,F,F,F,F,F,F,F,F,F,F,F,F,F,F,F,F,F,F,F,F,F,F,F] rfl rfl (any_of HT_.out (by kernel_rfl)) (fun _ _ _ h => h) (Or.inr ⟨by rfl,rfl⟩) ?_ ?_
          rotate_left
          · simp only [pq]
            rfl
          refine pure_ (i:=9) (N:=some 42) (v:=undef) (a' := ?_) #[T,T,T,T,T,T,T,T,T,T,F,F,F,F,F,F,F,F,F,F,F,F,F,F,F,F,F,F,F,F,F,F,F,F,F,F,F,F,F,F,F,F,F,F,F,F,F,F,F] rfl rfl (any_of HT_.out (by kernel_rfl)) (fun _ _ _ h => h) (Or.inr ⟨by rfl,rfl⟩) ?_ ?_
          rotate_left
          · simp only [pq]
            rfl
          refine pure_ (i:=10) (N:=some 43) (v:=undef) (a' := ?_) #[T,T,T,T,T,T,T,T,T,T,T,F,F,F,F,F,F,F,F,F,F,F,F,F,F,F,F,F,F,F,F,F,F,F,F,F,F,F,F,F,F,F,F,F,F,F,F,F,F] rfl rfl (any_of HT_.out (by kernel_rfl)) (fun _ _ _ h => h) (Or.inr ⟨by rfl,rfl⟩) ?_ ?_
          rotate_left
          · simp only [pq]
            rfl
          refine pure_ (i:=11) (N:=some 44) (v:=undef) (a' := ?_) #[T,T,T,T,T,T,T,T,T,T,T,T,F,F,F,F,F,F,F,F,F,F,F,F,F,F,F,F,F,F,F,F,F,F,F,F,F,F,F,F,F,F,F,F,F,F,F,F,F] rfl rfl (any_of HT_.out (by kernel_rfl)) (fun _ _ _ h => h) (Or.inr ⟨by rfl,rfl⟩) ?_ ?_
          rotate_left
          · simp only [pq]
            rfl
          refine pure_ (i:=12) (N:=some 45) (v:=undef) (a' := ?_) #[T,T,T,T,T,T,T,T,T,T,T,T,T,F,F,F,F,F,F,F,F,F,F,F,F,F,F,F,F,F,F,F,F,F,F,F,F,F,F,F,F,F,F,F,F,F,F,F,F] rfl rfl (any_of HT_.out (by kernel_rfl)) (fun _ _ _ h => h) (Or.inr ⟨by rfl,rfl⟩) ?_ ?_
          rotate_left
          · simp only [pq]
            rfl
          refine pure_ (i:=13) (N:=some 46) (v:=undef) (a' := ?_) #[T,T,T,T,T,T,T,T,T,T,T,T,T,T,F,F,F,F,F,F,F,F,F,F,F,F,F,F,F,F,F,F,F,F,F,F,F,F,F,F,F,F,F,F,F,F,F,F,F] rfl rfl (any_of HT_.out (by kernel_rfl)) (fun _ _ _ h => h) (Or.inr ⟨by rfl,rfl⟩) ?_ ?_
          rotate_left
          · simp only [pq]
            rfl
          refine pure_ (i:=14) (N:=some 47) (v:=undef) (a' := ?_) #[T,T,T,T,T,T,T,T,T,T,T,T,T,T,T,F,F,F,F,F,F,F,F,F,F,F,F,F,F,F,F,F,F,F,F,F,F,F,F,F,F,F,F,F,F,F,F,F,F] rfl rfl (any_of HT_.out (by kernel_rfl)) (fun _ _ _ h => h) (Or.inr ⟨by rfl,rfl⟩) ?_ ?_
          rotate_left
          · simp only [pq]
            rfl
          refine pure_ (i:=15) (N:=some 48) (v:=undef) (a' := ?_) #[T,T,T,T,T,T,T,T,T,T,T,T,T,T,T,T,F,F,F,F,F,F,F,F,F,F,F,F,F,F,F,F,F,F,F,F,F,F,F,F,F,F,F,F,F,F,F,F,F] rfl rfl (any_of HT_.out (by kernel_rfl)) (fun _ _ _ h => h) (Or.inr ⟨by rfl,rfl⟩) ?_ ?_
          rotate_left
          · simp only [pq]
            rfl
          refine pure_ (i:=16) (N:=some 49) (v:=undef) (a' := ?_) #[T,T,T,T,T,T,T,T,T,T,T,T,T,T,T,T,T,F,F,F,F,F,F,F,F,F,F,F,F,F,F,F,F,F,F,F,F,F,F,F,F,F,F,F,F,F,F,F,F] rfl rfl (any_of HT_.out (by kernel_rfl)) (fun _ _ _ h => h) (Or.inr ⟨by rfl,rfl⟩) ?_ ?_
          rotate_left
          · simp only [pq]
            rfl
          refine pure_ (i:=17) (N:=some 50) (v:=undef) (a' := ?_) #[T,T,T,T,T,T,T,T,T,T,T,T,T,T,T,T,T,T,F,F,F,F,F,F,F,F,F,F,F,F,F,F,F,F,F,F,F,F,F,F,F,F,F,F,F,F,F,F,F] rfl rfl (any_of HT_.out (by kernel_rfl)) (fun _ _ _ h => h) (Or.inr ⟨by rfl,rfl⟩) ?_ ?_
          rotate_left
          · simp only [pq]
            rfl
          refine pure_ (i:=18) (N:=some 51) (v:=?_) (a' := ?_) #[T,T,T,T,T,T,T,T,T,T,T,T,T,T,T,T,T,T,T,F,F,F,F,F,F,F,F,F,F,F,F,F,F,F,F,F,F,F,F,F,F,F,F,F,F,F,F,F,F] rfl rfl (any_of HT_.out (by kernel_rfl)) (fun _ _ _ h => h) (Or.inl ⟨by rfl,?_⟩) ?_ ?_
          rotate_left;(intro w';go_simp;with_reducible rfl);rotate_left;(simp only [pq];rfl)
          refine pure_ (i:=19) (N:=some 52) (v:=?_) (a' := ?_) #[T,T,T,T,T,T,T,T,T,T,T,T,T,T,T,T,T,T,T,T,F,F,F,F,F,F,F,F,F,F,F,F,F,F,F,F,F,F,F,F,F,F,F,F,F,F,F,F,F] rfl rfl (any_of HT_.out (by kernel_rfl)) (fun _ _ _ h => h) (Or.inl ⟨by rfl,?_⟩) ?_ ?_
          rotate_left;(intro w';go_simp;with_reducible rfl);rotate_left;(simp only [pq];rfl)
          refine pure_ (i:=20) (N:=some 53) (v:=undef) (a' := ?_) #[T,T,T,T,T,T,T,T,T,T,T,T,T,T,T,T,T,T,T,T,T,F,F,F,F,F,F,F,F,F,F,F,F,F,F,F,F,F,F,F,F,F,F,F,F,F,F,F,F] rfl rfl (any_of HT_.out (by kernel_rfl)) (fun _ _ _ h => h) (Or.inr ⟨by rfl,rfl⟩) ?_ ?_
          rotate_left
          · simp only [pq]
            rfl
          refine pure_ (i:=21) (N:=some 54) (v:=undef) (a' := ?_) #[T,T,T,T,T,T,T,T,T,T,T,T,T,T,T,T,T,T,T,T,T,T,F,F,F,F,F,F,F,F,F,F,F,F,F,F,F,F,F,F,F,F,F,F,F,F,F,F,F] rfl rfl (any_of HT_.out (by kernel_rfl)) (fun _ _ _ h => h) (Or.inr ⟨by rfl,rfl⟩) ?_ ?_
          rotate_left
          · simp only [pq]
            rfl
          refine pure_ (i:=22) (N:=some 55) (v:=undef) (a' := ?_) #[T,T,T,T,T,T,T,T,T,T,T,T,T,T,T,T,T,T,T,T,T,T,T,F,F,F,F,F,F,F,F,F,F,F,F,F,F,F,F,F,F,F,F,F,F,F,F,F,F] rfl rfl (any_of HT_.out (by kernel_rfl)) (fun _ _ _ h => h) (Or.inr ⟨by rfl,rfl⟩) ?_ ?_
          rotate_left
          · simp only [pq]
            rfl
          refine pure_ (i:=23) (N:=some 56) (v:=undef) (a' := ?_) #[T,T,T,T,T,T,T,T,T,T,T,T,T,T,T,T,T,T,T,T,T,T,T,T,F,F,F,F,F,F,F,F,F,F,F,F,F,F,F,F,F,F,F,F,F,F,F,F,F] rfl rfl (any_of HT_.out (by kernel_rfl)) (fun _ _ _ h => h) (Or.inr ⟨by rfl,rfl⟩) ?_ ?_
          rotate_left
          · simp only [pq]
            rfl
          refine pure_ (i:=24) (N:=some 57) (v:=undef) (a' := ?_) #[T,T,T,T,T,T,T,T,T,T,T,T,T,T,T,T,T,T,T,T,T,T,T,T,T,F,F,F,F,F,F,F,F,F,F,F,F,F,F,F,F,F,F,F,F,F,F,F,F] rfl rfl (any_of HT_.out (by kernel_rfl)) (fun _ _ _ h => h) (Or.inr ⟨by rfl,rfl⟩) ?_ ?_
          rotate_left
          · simp only [pq]
            rfl
          refine pure_ (i:=25) (N:=some 58) (v:=undef) (a' := ?_) #[T,T,T,T,T,T,T,T,T,T,T,T,T,T,T,T,T,T,T,T,T,T,T,T,T,T,F,F,F,F,F,F,F,F,F,F,F,F,F,F,F,F,F,F,F,F,F,F,F] rfl rfl (any_of HT_.out (by kernel_rfl)) (fun _ _ _ h => h) (Or.inr ⟨by rfl,rfl⟩) ?_ ?_
          rotate_left
          · simp only [pq]
            rfl
          refine pure_ (i:=26) (N:=some 59) (v:=undef) (a' := ?_) #[T,T,T,T,T,T,T,T,T,T,T,T,T,T,T,T,T,T,T,T,T,T,T,T,T,T,T,F,F,F,F,F,F,F,F,F,F,F,F,F,F,F,F,F,F,F,F,F,F] rfl rfl (any_of HT_.out (by kernel_rfl)) (fun _ _ _ h => h) (Or.inr ⟨by rfl,rfl⟩) ?_ ?_
          rotate_left
          · simp only [pq]
            rfl
          refine pure_ (i:=27) (N:=some 60) (v:=undef) (a' := ?_) #[T,T,T,T,T,T,T,T,T,T,T,T,T,T,T,T,T,T,T,T,T,T,T,T,T,T,T,T,F,F,F,F,F,F,F,F,F,F,F,F,F,F,F,F,F,F,F,F,F] rfl rfl (any_of HT_.out (by kernel_rfl)) (fun _ _ _ h => h) (Or.inr ⟨by rfl,rfl⟩) ?_ ?_
          rotate_left
          · simp only [pq]
            rfl
          refine pure_ (i:=28) (N:=some 61) (v:=undef) (a' := ?_) #[T,T,T,T,T,T,T,T,T,T,T,T,T,T,T,T,T,T,T,T,T,T,T,T,T,T,T,T,T,F,F,F,F,F,F,F,F,F,F,F,F,F,F,F,F,F,F,F,F] rfl rfl (any_of HT_.out (by kernel_rfl)) (fun _ _ _ h => h) (Or.inr ⟨by rfl,rfl⟩) ?_ ?_
          rotate_left
          · simp only [pq]
            rfl
          refine pure_ (i:=29) (N:=some 62) (v:=?_) (a' := ?_) #[T,T,T,T,T,T,T,T,T,T,T,T,T,T,T,T,T,T,T,T,T,T,T,T,T,T,T,T,T,T,F,F,F,F,F,F,F,F,F,F,F,F,F,F,F,F,F,F,F] rfl rfl (any_of HT_.out (by kernel_rfl)) (fun _ _ _ h => h) (Or.inl ⟨by rfl,?_⟩) ?_ ?_
          rotate_left;(intro w';go_simp;with_reducible rfl);rotate_left;(simp only [pq];rfl)
          refine pure_ (i:=30) (N:=some 63) (v:=?_) (a' := ?_) #[T,T,T,T,T,T,T,T,T,T,T,T,T,T,T,T,T,T,T,T,T,T,T,T,T,T,T,T,T,T,T,F,F,F,F,F,F,F,F,F,F,F,F,F,F,F,F,F,F] rfl rfl (any_of HT_.out (by kernel_rfl)) (fun _ _ _ h => h) (Or.inl ⟨by rfl,?_⟩) ?_ ?_
          rotate_left;(intro w';go_simp;with_reducible rfl);rotate_left;(simp only [pq];rfl)
          refine pure_ (i:=31) (N:=some 64) (v:=undef) (a' := ?_) #[T,T,T,T,T,T,T,T,T,T,T,T,T,T,T,T,T,T,T,T,T,T,T,T,T,T,T,T,T,T,T,T,F,F,F,F,F,F,F,F,F,F,F,F,F,F,F,F,F] rfl rfl (any_of HT_.out (by kernel_rfl)) (fun _ _ _ h => h) (Or.inr ⟨by rfl,rfl⟩) ?_ ?_
          rotate_left
          · simp only [pq]
            rfl
          refine pure_ (i:=32) (N:=some 65) (v:=undef) (a' := ?_) #[T,T,T,T,T,T,T,T,T,T,T,T,T,T,T,T,T,T,T,T,T,T,T,T,T,T,T,T,T,T,T,T,T,F,F,F,F,F,F,F,F,F,F,F,F,F,F,F,F] rfl rfl (any_of HT_.out (by kernel_rfl)) (fun _ _ _ h => h) (Or.inr ⟨by rfl,rfl⟩) ?_ ?_
          rotate_left
          · simp only [pq]
            rfl
          refine pure_ (i:=33) (N:=some 66) (v:=undef) (a' := ?_) #[T,T,T,T,T,T,T,T,T,T,T,T,T,T,T,T,T,T,T,T,T,T,T,T,T,T,T,T,T,T,T,T,T,T,F,F,F,F,F,F,F,F,F,F,F,F,F,F,F] rfl rfl (any_of HT_.out (by kernel_rfl)) (fun _ _ _ h => h) (Or.inr ⟨by rfl,rfl⟩) ?_ ?_
          rotate_left
          · simp only [pq]
            rfl
          refine pure_ (i:=34) (N:=some 67) (v:=undef) (a' := ?_) #[T,T,T,T,T,T,T,T,T,T,T,T,T,T,T,T,T,T,T,T,T,T,T,T,T,T,T,T,T,T,T,T,T,T,T,F,F,F,F,F,F,F,F,F,F,F,F,F,F] rfl rfl (any_of HT_.out (by kernel_rfl)) (fun _ _ _ h => h) (Or.inr ⟨by rfl,rfl⟩) ?_ ?_
          rotate_left
          · simp only [pq]
            rfl
          refine pure_ (i:=35) (N:=some 68) (v:=undef) (a' := ?_) #[T,T,T,T,T,T,T,T,T,T,T,T,T,T,T,T,T,T,T,T,T,T,T,T,T,T,T,T,T,T,T,T,T,T,T,T,F,F,F,F,F,F,F,F,F,F,F,F,F] rfl rfl (any_of HT_.out (by kernel_rfl)) (fun _ _ _ h => h) (Or.inr ⟨by rfl,rfl⟩) ?_ ?_
          rotate_left
          · simp only [pq]
            rfl
          refine pure_ (i:=36) (N:=some 69) (v:=undef) (a' := ?_) #[T,T,T,T,T,T,T,T,T,T,T,T,T,T,T,T,T,T,T,T,T,T,T,T,T,T,T,T,T,T,T,T,T,T,T,T,T,F,F,F,F,F,F,F,F,F,F,F,F] rfl rfl (any_of HT_.out (by kernel_rfl)) (fun _ _ _ h => h) (Or.inr ⟨by rfl,rfl⟩) ?_ ?_
          rotate_left
          · simp only [pq]
            rfl
          refine pure_ (i:=37) (N:=some 70) (v:=?_) (a' := ?_) #[T,T,T,T,T,T,T,T,T,T,T,T,T,T,T,T,T,T,T,T,T,T,T,T,T,T,T,T,T,T,T,T,T,T,T,T,T,T,F,F,F,F,F,F,F,F,F,F,F] rfl rfl (any_of HT_.out (by kernel_rfl)) (fun _ _ _ h => h) (Or.inl ⟨by rfl,?_⟩) ?_ ?_
          rotate_left;(intro w';go_simp;with_reducible rfl);rotate_left;(simp only [pq];rfl)
          refine pure_ (i:=38) (N:=some 71) (v:=?_) (a' := ?_) #[T,T,T,T,T,T,T,T,T,T,T,T,T,T,T,T,T,T,T,T,T,T,T,T,T,T,T,T,T,T,T,T,T,T,T,T,T,T,T,F,F,F,F,F,F,F,F,F,F] rfl rfl (any_of HT_.out (by kernel_rfl)) (fun _ _ _ h => h) (Or.inl ⟨by rfl,?_⟩) ?_ ?_
          rotate_left;(intro w';go_simp;with_reducible rfl);rotate_left;(simp only [pq];rfl)
          refine pure_ (i:=39) (N:=some 72) (v:=undef) (a' := ?_) #[T,T,T,T,T,T,T,T,T,T,T,T,T,T,T,T,T,T,T,T,T,T,T,T,T,T,T,T,T,T,T,T,T,T,T,T,T,T,T,T,F,F,F,F,F,F,F,F,F] rfl rfl (any_of HT_.out (by kernel_rfl)) (fun _ _ _ h => h) (Or.inr ⟨by rfl,rfl⟩) ?_ ?_
          rotate_left
          · simp only [pq]
            rfl
          refine pure_ (i:=40) (N:=some 73) (v:=undef) (a' := ?_) #[T,T,T,T,T,T,T,T,T,T,T,T,T,T,T,T,T,T,T,T,T,T,T,T,T,T,T,T,T,T,T,T,T,T,T,T,T,T,T,T,T,F,F,F,F,F,F,F,F] rfl rfl (any_of HT_.out (by kernel_rfl)) (fun _ _ _ h => h) (Or.inr ⟨by rfl,rfl⟩) ?_ ?_
          rotate_left
          · simp only [pq]
            rfl
          refine pure_ (i:=41) (N:=some 74) (v:=undef) (a' := ?_) #[T,T,T,T,T,T,T,T,T,T,T,T,T,T,T,T,T,T,T,T,T,T,T,T,T,T,T,T,T,T,T,T,T,T,T,T,T,T,T,T,T,T,F,F,F,F,F,F,F] rfl rfl (any_of HT_.out (by kernel_rfl)) (fun _ _ _ h => h) (Or.inr ⟨by rfl,rfl⟩) ?_ ?_
          rotate_left
          · simp only [pq]
            rfl
          refine pure_ (i:=42) (N:=some 75) (v:=undef) (a' := ?_) #[T,T,T,T,T,T,T,T,T,T,T,T,T,T,T,T,T,T,T,T,T,T,T,T,T,T,T,T,T,T,T,T,T,T,T,T,T,T,T,T,T,T,T,F,F,F,F,F,F] rfl rfl (any_of HT_.out (by kernel_rfl)) (fun _ _ _ h => h) (Or.inr ⟨by rfl,rfl⟩) ?_ ?_
          rotate_left
          · simp only [pq]
            rfl
          refine pure_ (i:=43) (N:=some 76) (v:=undef) (a' := ?_) #[T,T,T,T,T,T,T,T,T,T,T,T,T,T,T,T,T,T,T,T,T,T,T,T,T,T,T,T,T,T,T,T,T,T,T,T,T,T,T,T,T,T,T,T,F,F,F,F,F] rfl rfl (any_of HT_.out (by kernel_rfl)) (fun _ _ _ h => h) (Or.inr ⟨by rfl,rfl⟩) ?_ ?_
          rotate_left
          · simp only [pq]
            rfl
          refine pure_ (i:=44) (N:=some 77) (v:=undef) (a' := ?_) #[T,T,T,T,T,T,T,T,T,T,T,T,T,T,T,T,T,T,T,T,T,T,T,T,T,T,T,T,T,T,T,T,T,T,T,T,T,T,T,T,T,T,T,T,T,F,F,F,F] rfl rfl (any_of HT_.out (by kernel_rfl)) (fun _ _ _ h => h) (Or.inr ⟨by rfl,rfl⟩) ?_ ?_
          rotate_left
          · simp only [pq]
            rfl
          refine pure_ (i:=45) (N:=some 78) (v:=undef) (a' := ?_) #[T,T,T,T,T,T,T,T,T,T,T,T,T,T,T,T,T,T,T,T,T,T,T,T,T,T,T,T,T,T,T,T,T,T,T,T,T,T,T,T,T,T,T,T,T,T,F,F,F] rfl rfl (any_of HT_.out (by kernel_rfl)) (fun _ _ _ h => h) (Or.inr ⟨by rfl,rfl⟩) ?_ ?_
          rotate_left
          · simp only [pq]
            rfl
          refine pure_ (i:=46) (N:=some 79) (v:=undef) (a' := ?_) #[T,T,T,T,T,T,T,T,T,T,T,T,T,T,T,T,T,T,T,T,T,T,T,T,T,T,T,T,T,T,T,T,T,T,T,T,T,T,T,T,T,T,T,T,T,T,T,F,F] rfl rfl (any_of HT_.out (by kernel_rfl)) (fun _ _ _ h => h) (Or.inr ⟨by rfl,rfl⟩) ?_ ?_
          rotate_left
          · simp only [pq]
            rfl
          refine pure_ (i:=47) (N:=some 80) (v:=undef) (a' := ?_) #[T,T,T,T,T,T,T,T,T,T,T,T,T,T,T,T,T,T,T,T,T,T,T,T,T,T,T,T,T,T,T,T,T,T,T,T,T,T,T,T,T,T,T,T,T,T,T,T,F] rfl rfl (any_of HT_.out (by kernel_rfl)) (fun _ _ _ h => h) (Or.inr ⟨by rfl,rfl⟩) ?_ ?_
          rotate_left
          · simp only [pq]
            rfl
          refine pure_ (i:=48) (N:=some 81) (v:=?_) (a' := ?_) #[T,T,T,T,T,T,T,T,T,T,T,T,T,T,T,T,T,T,T,T,T,T,T,T,T,T,T,T,T,T,T,T,T,T,T,T,T,T,T,T,T,T,T,T,T,T,T,T,T] rfl rfl (any_of HT_.out (by kernel_rfl)) (fun _ _ _ h => h) (Or.inl ⟨by rfl,?_⟩) ?_ ?_
          rotate_left;(intro w';go_simp;with_reducible rfl);rotate_left;(simp only [pq];rfl)
          refine done_ (done_of HT_.out (by kernel_rfl)) ?_
          try go_wp2
          go_meet
          case rel => exact ⟨_,(true),(by first | rfl | (simp;done) | (simp [*];done)),H',⟨by have:=HK1.out;first | omega | exact Nat.le_refl _⟩,⟨by (with_reducible repeat (first | apply Kd.R_alloc | apply Kd.R_drewN | apply Kd.R_drew));exact HO_6.out⟩,⟨by (with_reducible repeat (first | apply Kd.S_alloc | apply Kd.S_drewN | apply Kd.S_drew));exact HO_7.out⟩,⟨by (with_reducible repeat (first | apply Kd.R_alloc | apply Kd.R_drewN | apply Kd.R_drew));exact HO_508000.out⟩,⟨by (with_reducible repeat (first | apply Kd.R_alloc | apply Kd.R_drewN | apply Kd.R_drew));exact HO_508001.out⟩,⟨by (with_reducible repeat (first | apply Kd.S_alloc | apply Kd.S_drewN | apply Kd.S_drew));exact HO_508004.out⟩,⟨by (with_reducible repeat (first | refine blk_drewN ?_ _ | refine blk_drew ?_ | refine blk_alloc ?_ _));exact BK507.out⟩,⟨by repeat (first | (with_reducible first | exact HB.out | apply below_alloc | apply pw_below_drewN | apply below_drew1 | refine below_set ?_ GE507.out) | exact HB.out)⟩⟩
        · rw [if_neg c21] at H
          have c21b0 : decide (((rd_T50 t511 x8_1).f2) < 0) = false:=decide_eq_false c21
          clear c21
          by_cases c23 : ((rd_T50 t511 x8_1).f3) ≤ ((rd_T50 t511 x8_1).f2)
          · rw [if_pos c23] at H
            have c23b0 : decide (((rd_T50 t511 x8_1).f3) ≤ ((rd_T50 t511 x8_1).f2)) = true:=decide_eq_true c23
            clear c23
            have H' := Aside0.mk H
            clear H
            try go_wp2
            have n0_:=Aside0.mk (Kd.R_drew HO_6.out)
            have n1_:=Aside0.mk (Kd.S_drew HO_7.out)
            have n2_:=Aside0.mk (Kd.R_drew HO_508000.out)
            have n3_:=Aside0.mk (Kd.R_drew HO_508001.out)
            have n4_:=Aside0.mk (Kd.S_drew HO_508004.out)
            have n5_:=Aside0.mk (blk_drew BK507.out)
            have n6_:=Aside0.mk (below_drew1 HB.out)
            clear HO_6
            clear HO_7
            clear HO_508000
            clear HO_508001
            clear HO_508004
            clear BK507
            clear HB
            have HO_6:=n0_
            have HO_7:=n1_
            have HO_508000:=n2_
            have HO_508001:=n3_
            have HO_508004:=n4_
            have BK507:=n5_
            have HB:=n6_
            clear n0_ n1_ n2_ n3_ n4_ n5_ n6_
            have p517 : 0 ≤ (x8_1 : Int) := of_decide_eq_true (by first | (with_reducible assumption) | assumption)
            have q517 : x8_1 < (t511.length : Int) := of_decide_eq_true (by first | (with_reducible assumption) | assumption)
            obtain ⟨ad517,e517,hx517_0,hx517_1,hx517_2,hx517_3⟩ := at_T50 (Kd.R_reads' HO_6.out).2.2 x8_1 p517 q517
            cases e517
            replace p517:=eq_true p517
            replace q517:=eq_true q517
            have p518 : 0 ≤ (x8_1 : Int) := of_decide_eq_true (by first | (with_reducible assumption) | assumption)
            have q518 : x8_1 < (t511.length : Int) := of_decide_eq_true (by first | (with_reducible assumption) | assumption)
            obtain ⟨ad518,e518,hx518_0,hx518_1,hx518_2,hx518_3⟩ := at_T50 (Kd.R_reads' HO_6.out).2.2 x8_1 p518 q518
            obtain rfl : ad517 = ad518:=(by injection e518)
            replace p518:=eq_true p518
            replace q518:=eq_true q518
            have p519 : 0 ≤ (x8_1 : Int) := of_decide_eq_true (by first | (with_reducible assumption) | assumption)
            have q519 : x8_1 < (t511.length : Int) := of_decide_eq_true (by first | (with_reducible assumption) | assumption)
            obtain ⟨ad519,e519,hx519_0,hx519_1,hx519_2,hx519_3⟩ := at_T50 (Kd.R_reads' HO_6.out).2.2 x8_1 p519 q519
            obtain rfl : ad517 = ad519:=(by injection e519)
            replace p519:=eq_true p519
            replace q519:=eq_true q519
            refine start_ (n:=49) (S:=fun w' => w'.cell? (ad517.add ((x8_1).toNat * 4)) = some (.int .i64 ((rd_T50 t511 x8_1).f0)) ∧ w'.cell? ⟨(ad517.add ((x8_1).toNat * 4)).block,(ad517.add ((x8_1).toNat * 4)).off + 1,none⟩ = some (.int .i64 ((rd_T50 t511 x8_1).f1)) ∧ w'.cell? ⟨(ad517.add ((x8_1).toNat * 4)).block,(ad517.add ((x8_1).toNat * 4)).off + 2,none⟩ = some (.int .i64 ((rd_T50 t511 x8_1).f2)) ∧ w'.cell? ⟨(ad517.add ((x8_1).toNat * 4)).block,(ad517.add ((x8_1).toNat * 4)).off + 3,none⟩ = some (.int .i64 ((rd_T50 t511 x8_1).f3)) ∧ w'.cell? (ad517.add ((x8_1).toNat * 4)) = some (.int .i64 ((rd_T50 t511 x8_1).f0)) ∧ w'.cell? ⟨(ad517.add ((x8_1).toNat * 4)).block,(ad517.add ((x8_1).toNat * 4)).off + 1,none⟩ = some (.int .i64 ((rd_T50 t511 x8_1).f1)) ∧ w'.cell? ⟨(ad517.add ((x8_1).toNat * 4)).block,(ad517.add ((x8_1).toNat * 4)).off + 2,none⟩ = some (.int .i64 ((rd_T50 t511 x8_1).f2)) ∧ w'.cell? ⟨(ad517.add ((x8_1).toNat * 4)).block,(ad517.add ((x8_1).toNat * 4)).off + 3,none⟩ = some (.int .i64 ((rd_T50 t511 x8_1).f3)) ∧ w'.cell? (ad517.add ((x8_1).toNat * 4)) = some (.int .i64 ((rd_T50 t511 x8_1).f0)) ∧ w'.cell? ⟨(ad517.add ((x8_1).toNat * 4)).block,(ad517.add ((x8_1).toNat * 4)).off + 1,none⟩ = some (.int .i64 ((rd_T50 t511 x8_1).f1)) ∧ w'.cell? ⟨(ad517.add ((x8_1).toNat * 4)).block,(ad517.add ((x8_1).toNat * 4)).off + 2,none⟩ = some (.int .i64 ((rd_T50 t511 x8_1).f2)) ∧ w'.cell? ⟨(ad517.add ((x8_1).toNat * 4)).block,(ad517.add ((x8_1).toNat * 4)).off + 3,none⟩ = some (.int .i64 ((rd_T50 t511 x8_1).f3))) (ds := []) #[F,F,F,F,F,F,F,F,F,F,F,F,F,F,F,F,F,F,F,F,F,F,F,F,F,F,F,F,F,F,F,F,F,F,F,F,F,F,F,F,F,F,F,F,F,F,F,F,F] (by kernel_rfl) rfl rfl ⟨hx517_0,hx517_1,hx517_2,hx517_3,hx518_0,hx518_1,hx518_2,hx518_3,hx519_0,hx519_1,hx519_2,hx519_3⟩ (fun hHeld => ?_);refine with_tabW regletlaw14_PredictClashes.tab10 regletlaw14_PredictClashes.bits10 (fun HT_ HW_ => ?_)
            generalize wr.drew = w24 at HO_6 HO_7 HO_508000 HO_508001 HO_508004 BK507 HB hx517_0 hx517_1 hx517_2 hx517_3 hx518_0 hx518_1 hx518_2 hx518_3 hx519_0 hx519_1 hx519_2 hx519_3 hHeld ⊢
            refine pure_ (i:=0) (N:=some 33) (v:=?_) (a' := ?_) #[T,F,F,F,F,F,F,F,F,F,F,F,F,F,F,F,F,F,F,F,F,F,F,F,F,F,F,F,F,F,F,F,F,F,F,F,F,F,F,F,F,F,F,F,F,F,F,F,F] rfl rfl (any_of HT_.out (by kernel_rfl)) (fun _ _ _ h => h) (Or.inl ⟨by rfl,?_⟩) ?_ ?_
            rotate_left;(intro w';go_simp;with_reducible rfl);rotate_left;(simp only [pq];rfl)
            refine pure_ (i:=1) (N:=some 34) (v:=?_) (a' := ?_) #[T,T,F,F,F,F,F,F,F,F,F,F,F,F,F,F,F,F,F,F,F,F,F,F,F,F,F,F,F,F,F,F,F,F,F,F,F,F,F,F,F,F,F,F,F,F,F,F,F] rfl rfl (any_of HT_.out (by kernel_rfl)) (fun _ _ _ h => h) (Or.inl ⟨by rfl,?_⟩) ?_ ?_
            rotate_left;(intro w';go_simp;with_reducible rfl);rotate_left;(simp only [pq];rfl)
            refine pure_ (i:=2) (N:=some 35) (v:=?_) (a' := ?_) #[T,T,T,F,F,F,F,F,F,F,F,F,F,F,F,F,F,F,F,F,F,F,F,F,F,F,F,F,F,F,F,F,F,F,F,F,F,F,F,F,F,F,F,F,F,F,F,F,F] rfl rfl (any_of HT_.out (by kernel_rfl)) (fun _ _ _ h => h) (Or.inl ⟨by rfl,?_⟩) ?_ ?_
            rotate_left;(intro w';go_simp;with_reducible rfl);rotate_left;(simp only [pq];rfl)
            refine pure_ (i:=3) (N:=some 36) (v:=?_) (a' := ?_) #[T,T,T,T,F,F,F,F,F,F,F,F,F,F,F,F,F,F,F,F,F,F,F,F,F,F,F,F,F,F,F,F,F,F,F,F,F,F,F,F,F,F,F,F,F,F,F,F,F] rfl rfl (any_of HT_.out (by kernel_rfl)) (fun _ _ _ h => h) (Or.inl ⟨by rfl,?_⟩) ?_ ?_
            rotate_left;(intro w';go_simp;with_reducible rfl);rotate_left;(simp only [pq];rfl)
            refine take_ (i:=4) (N:=some 37) (v:=?_) (a' := ?_) #[T,T,T,T,T,F,F,F,F,F,F,F,F,F,F,F,F,F,F,F,F,F,F,F,F,F,F,F,F,F,F,F,F,F,F,F,F,F,F,F,F,F,F,F,F,F,F,F,F] rfl rfl (take_ofW HT_.out HW_.out (by kernel_rfl)) (fun _ _ _ h => h) (Or.inl ⟨by rfl,?_⟩) hHeld ?_ ?_
            rotate_left
            · rintro w' ⟨s0,s1,s2,s3,s4,s5,s6,s7,s8,s9,s10,s11⟩
              go_simp
              with_reducible rfl
            rotate_left
            · simp only [pq]
              rfl
            refine pure_ (i:=5) (N:=some 38) (v:=?_) (a' := ?_) #[T,T,T,T,T,T,F,F,F,F,F,F,F,F,F,F,F,F,F,F,F,F,F,F,F,F,F,F,F,F,F,F,F,F,F,F,F,F,F,F,F,F,F,F,F,F,F,F,F] rfl rfl (any_of HT_.out (by kernel_rfl)) (fun _ _ _ h => h) (Or.inl ⟨by rfl,?_⟩) ?_ ?_
            rotate_left;(intro w';go_simp;with_reducible rfl);rotate_left;(simp only [pq];rfl)
            refine pure_ (i:=6) (N:=some 39) (v:=?_) (a' := ?_) #[T,T,T,T,T,T,T,F,F,F,F,F,F,F,F,F,F,F,F,F,F,F,F,F,F,F,F,F,F,F,F,F,F,F,F,F,F,F,F,F,F,F,F,F,F,F,F,F,F] rfl rfl (any_of HT_.out (by kernel_rfl)) (fun _ _ _ h => h) (Or.inl ⟨by rfl,?_⟩) ?_ ?_
            rotate_left;(intro w';go_simp;with_reducible rfl);rotate_left;(simp only [pq];rfl)
            refine pure_ (i:=7) (N:=some 40) (v:=?_) (a' := ?_) #[T,T,T,T,T,T,T,T,F,F,F,F,F,F,F,F,F,F,F,F,F,F,F,F,F,F,F,F,F,F,F,F,F,F,F,F,F,F,F,F,F,F,F,F,F,F,F,F,F] rfl rfl (any_of HT_.out (by kernel_rfl)) (fun _ _ _ h => h) (Or.inl ⟨by rfl,?_⟩) ?_ ?_
            rotate_left;(intro w';go_simp;with_reducible rfl);rotate_left;(simp only [pq];rfl)
            refine pure_ (i:=8) (N:=some 41) (v:=?_) (a' := ?_) #[T,T,T,T,T,T,T,T,T,F,F,F,F,F,F,F,F,F,F,F,F,F,F,F,F,F,F,F,F,F,F,F,F,F,F,F,F,F,F,F,F,F,F,F,F,F,F,F,F] rfl rfl (any_of HT_.out (by kernel_rfl)) (fun _ _ _ h => h) (Or.inl ⟨by rfl,?_⟩) ?_ ?_
            rotate_left;(intro w';go_simp;with_reducible rfl);rotate_left;(simp only [pq];rfl)
            refine pure_ (i:=9) (N:=some 42) (v:=?_) (a' := ?_) #[T,T,T,T,T,T,T,T,T,T,F,F,F,F,F,F,F,F,F,F,F,F,F,F,F,F,F,F,F,F,F,F,F,F,F,F,F,F,F,F,F,F,F,F,F,F,F,F,F] rfl rfl (any_of HT_.out (by kernel_rfl)) (fun _ _ _ h => h) (Or.inl ⟨by rfl,?_⟩) ?_ ?_
            rotate_left;(intro w';go_simp;with_reducible rfl);rotate_left;(simp only [pq];rfl)
            refine pure_ (i:=10) (N:=some 43) (v:=?_) (a' := ?_) #[T,T,T,T,T,T,T,T,T,T,T,F,F,F,F,F,F,F,F,F,F,F,F,F,F,F,F,F,F,F,F,F,F,F,F,F,F,F,F,F,F,F,F,F,F,F,F,F,F] rfl rfl (any_of HT_.out (by kernel_rfl)) (fun _ _ _ h => h) (Or.inl ⟨by rfl,?_⟩) ?_ ?_
            rotate_left;(intro w';go_simp;with_reducible rfl);rotate_left;(simp only [pq];rfl)
            refine pure_ (i:=12) (N:=some 45) (v:=?_) (a' := ?_) #[T,T,T,T,T,T,T,T,T,T,T,F,T,F,F,F,F,F,F,F,F,F,F,F,F,F,F,F,F,F,F,F,F,F,F,F,F,F,F,F,F,F,F,F,F,F,F,F,F] rfl rfl (any_of HT_.out (by kernel_rfl)) (fun _ _ _ h => h) (Or.inl ⟨by rfl,?_⟩) ?_ ?_
            rotate_left;(intro w';go_simp;with_reducible rfl);rotate_left;(simp only [pq];rfl)
            refine pure_ (i:=13) (N:=some 46) (v:=?_) (a' := ?_) #[T,T,T,T,T,T,T,T,T,T,T,F,T,T,F,F,F,F,F,F,F,F,F,F,F,F,F,F,F,F,F,F,F,F,F,F,F,F,F,F,F,F,F,F,F,F,F,F,F] rfl rfl (any_of HT_.out (by kernel_rfl)) (fun _ _ _ h => h) (Or.inl ⟨by rfl,?_⟩) ?_ ?_
            rotate_left;(intro w';go_simp;with_reducible rfl);rotate_left;(simp only [pq];rfl)
            refine pure_ (i:=14) (N:=some 47) (v:=?_) (a' := ?_) #[T,T,T,T,T,T,T,T,T,T,T,F,T,T,T,F,F,F,F,F,F,F,F,F,F,F,F,F,F,F,F,F,F,F,F,F,F,F,F,F,F,F,F,F,F,F,F,F,F] rfl rfl (any_of HT_.out (by kernel_rfl)) (fun _ _ _ h => h) (Or.inl ⟨by rfl,?_⟩) ?_ ?_
            rotate_left;(intro w';go_simp;with_reducible rfl);rotate_left;(simp only [pq];rfl)
            refine pure_ (i:=15) (N:=some 48) (v:=?_) (a' := ?_) #[T,T,T,T,T,T,T,T,T,T,T,F,T,T,T,T,F,F,F,F,F,F,F,F,F,F,F,F,F,F,F,F,F,F,F,F,F,F,F,F,F,F,F,F,F,F,F,F,F] rfl rfl (any_of HT_.out (by kernel_rfl)) (fun _ _ _ h => h) (Or.inl ⟨by rfl,?_⟩) ?_ ?_
            rotate_left;(intro w';go_simp;with_reducible rfl);rotate_left;(simp only [pq];rfl)
            refine take_ (i:=11) (N:=some 44) (v:=?_) (a' := ?_) #[T,T,T,T,T,T,T,T,T,T,T,T,T,T,T,T,F,F,F,F,F,F,F,F,F,F,F,F,F,F,F,F,F,F,F,F,F,F,F,F,F,F,F,F,F,F,F,F,F] rfl rfl (take_ofW HT_.out HW_.out (by kernel_rfl)) (fun _ _ _ h => h) (Or.inl ⟨by rfl,?_⟩) hHeld ?_ ?_
            rotate_left
            · rintro w' ⟨s0,s1,s2,s3,s4,s5,s6,s7,s8,s9,s10,s11⟩
              go_simp
              with_reducible rfl
            rotate_left
            · simp only [pq]
              rfl
            refine take_ (i:=16) (N:=some 49) (v:=?_) (a' := ?_) #[T,T,T,T,T,T,T,T,T,T,T,T,T,T,T,T,T,F,F,F,F,F,F,F,F,F,F,F,F,F,F,F,F,F,F,F,F,F,F,F,F,F,F,F,F,F,F,F,F] rfl rfl (take_ofW HT_.out HW_.out (by kernel_rfl)) (fun _ _ _ h => h) (Or.inl ⟨by rfl,?_⟩) hHeld ?_ ?_
            rotate_left
            · rintro w' ⟨s0,s1,s2,s3,s4,s5,s6,s7,s8,s9,s10,s11⟩
              go_simp
              with_reducible rfl
            rotate_left
            · simp only [pq]
              rfl
            refine pure_ (i:=17) (N:=some 50) (v:=?_) (a' := ?_) #[T,T,T,T,T,T,T,T,T,T,T,T,T,T,T,T,T,T,F,F,F,F,F,F,F,F,F,F,F,F,F,F,F,F,F,F,F,F,F,F,F,F,F,F,F,F,F,F,F] rfl rfl (any_of HT_.out (by kernel_rfl)) (fun _ _ _ h => h) (Or.inl ⟨by rfl,?_⟩) ?_ ?_
            rotate_left;(intro w';go_simp;with_reducible rfl);rotate_left;(simp only [pq];rfl)
            refine pure_ (i:=18) (N:=some 51) (v:=?_) (a' := ?_) #[T,T,T,T,T,T,T,T,T,T,T,T,T,T,T,T,T,T,T,F,F,F,F,F,F,F,F,F,F,F,F,F,F,F,F,F,F,F,F,F,F,F,F,F,F,F,F,F,F] rfl rfl (any_of HT_.out (by kernel_rfl)) (fun _ _ _ h => h) (Or.inl ⟨by rfl,?_⟩) ?_ ?_
            rotate_left;(intro w';go_simp;with_reducible rfl);rotate_left;(simp only [pq];rfl)
            refine pure_ (i:=19) (N:=some 52) (v:=?_) (a' := ?_) #[T,T,T,T,T,T,T,T,T,T,T,T,T,T,T,T,T,T,T,T,F,F,F,F,F,F,F,F,F,F,F,F,F,F,F,F,F,F,F,F,F,F,F,F,F,F,F,F,F] rfl rfl (any_of HT_.out (by kernel_rfl)) (fun _ _ _ h => h) (Or.inl ⟨by rfl,?_⟩) ?_ ?_
            rotate_left;(intro w';go_simp;with_reducible rfl);rotate_left;(simp only [pq];rfl)
            refine pure_ (i:=20) (N:=some 53) (v:=undef) (a' := ?_) #[T,T,T,T,T,T,T,T,T,T,T,T,T,T,T,T,T,T,T,T,T,F,F,F,F,F,F,F,F,F,F,F,F,F,F,F,F,F,F,F,F,F,F,F,F,F,F,F,F] rfl rfl (any_of HT_.out (by kernel_rfl)) (fun _ _ _ h => h) (Or.inr ⟨by rfl,rfl⟩) ?_ ?_
            rotate_left
            · simp only [pq]
              rfl
            refine pure_ (i:=21) (N:=some 54) (v:=undef) (a' := ?_) #[T,T,T,T,T,T,T,T,T,T,T,T,T,T,T,T,T,T,T,T,T,T,F,F,F,F,F,F,F,F,F,F,F,F,F,F,F,F,F,F,F,F,F,F,F,F,F,F,F] rfl rfl (any_of HT_.out (by kernel_rfl)) (fun _ _ _ h => h) (Or.inr ⟨by rfl,rfl⟩) ?_ ?_
            rotate_left
            · simp only [pq]
              rfl
            refine pure_ (i:=22) (N:=some 55) (v:=undef) (a' := ?_) #[T,T,T,T,T,T,T,T,T,T,T,T,T,T,T,T,T,T,T,T,T,T,T,F,F,F,F,F,F,F,F,F,F,F,F,F,F,F,F,F,F,F,F,F,F,F,F,F,F] rfl rfl (any_of HT_.out (by kernel_rfl)) (fun _ _ _ h => h) (Or.inr ⟨by rfl,rfl⟩) ?_ ?_
            rotate_left
            · simp only [pq]
              rfl
            refine pure_ (i:=23) (N:=some 56) (v:=undef) (a' := ?_) #[T,T,T,T,T,T,T,T,T,T,T,T,T,T,T,T,T,T,T,T,T,T,T,T,F,F,F,F,F,F,F,F,F,F,F,F,F,F,F,F,F,F,F,F,F,F,F,F,F] rfl rfl (any_of HT_.out (by kernel_rfl)) (fun _ _ _ h => h) (Or.inr ⟨by rfl,rfl⟩) ?_ ?_
            rotate_left
            · simp only [pq]
              rfl
            refine pure_ (i:=24) (N:=some 57) (v:=undef) (a' := ?_) #[T,T,T,T,T,T,T,T,T,T,T,T,T,T,T,T,T,T,T,T,T,T,T,T,T,F,F,F,F,F,F,F,F,F,F,F,F,F,F,F,F,F,F,F,F,F,F,F,F] rfl rfl (any_of HT_.out (by kernel_rfl)) (fun _ _ _ h => h) (Or.inr ⟨by rfl,rfl⟩) ?_ ?_
            rotate_left
            · simp only [pq]
              rfl
            refine pure_ (i:=25) (N:=some 58) (v:=undef) (a' := ?_) #[T,T,T,T,T,T,T,T,T,T,T,T,T,T,T,T,T,T,T,T,T,T,T,T,T,T,F,F,F,F,F,F,F,F,F,F,F,F,F,F,F,F,F,F,F,F,F,F,F] rfl rfl (any_of HT_.out (by kernel_rfl)) (fun _ _ _ h => h) (Or.inr ⟨by rfl,rfl⟩) ?_ ?_
            rotate_left
            · simp only [pq]
              rfl
            refine pure_ (i:=26) (N:=some 59) (v:=undef) (a' := ?_) #[T,T,T,T,T,T,T,T,T,T,T,T,T,T,T,T,T,T,T,T,T,T,T,T,T,T,T,F,F,F,F,F,F,F,F,F,F,F,F,F,F,F,F,F,F,F,F,F,F] rfl rfl (any_of HT_.out (by kernel_rfl)) (fun _ _ _ h => h) (Or.inr ⟨by rfl,rfl⟩) ?_ ?_
            rotate_left
            · simp only [pq]
              rfl
            refine pure_ (i:=27) (N:=some 60) (v:=undef) (a' := ?_) #[T,T,T,T,T,T,T,T,T,T,T,T,T,T,T,T,T,T,T,T,T,T,T,T,T,T,T,T,F,F,F,F,F,F,F,F,F,F,F,F,F,F,F,F,F,F,F,F,F] rfl rfl (any_of HT_.out (by kernel_rfl)) (fun _ _ _ h => h) (Or.inr ⟨by rfl,rfl⟩) ?_ ?_
            rotate_left
            · simp only [pq]
              rfl
            refine pure_ (i:=28) (N:=some 61) (v:=undef) (a' := ?_) #[T,T,T,T,T,T,T,T,T,T,T,T,T,T,T,T,T,T,T,T,T,T,T,T,T,T,T,T,T,F,F,F,F,F,F,F,F,F,F,F,F,F,F,F,F,F,F,F,F] rfl rfl (any_of HT_.out (by kernel_rfl)) (fun _ _ _ h => h) (Or.inr ⟨by rfl,rfl⟩) ?_ ?_
            rotate_left
            · simp only [pq]
              rfl
            refine pure_ (i:=29) (N:=some 62) (v:=?_) (a' := ?_) #[T,T,T,T,T,T,T,T,T,T,T,T,T,T,T,T,T,T,T,T,T,T,T,T,T,T,T,T,T,T,F,F,F,F,F,F,F,F,F,F,F,F,F,F,F,F,F,F,F] rfl rfl (any_of HT_.out (by kernel_rfl)) (fun _ _ _ h => h) (Or.inl ⟨by rfl,?_⟩) ?_ ?_
            rotate_left;(intro w';go_simp;with_reducible rfl);rotate_left;(simp only [pq];rfl)
            refine pure_ (i:=30) (N:=some 63) (v:=?_) (a' := ?_) #[T,T,T,T,T,T,T,T,T,T,T,T,T,T,T,T,T,T,T,T,T,T,T,T,T,T,T,T,T,T,T,F,F,F,F,F,F,F,F,F,F,F,F,F,F,F,F,F,F] rfl rfl (any_of HT_.out (by kernel_rfl)) (fun _ _ _ h => h) (Or.inl ⟨by rfl,?_⟩) ?_ ?_
            rotate_left;(intro w';go_simp;with_reducible rfl);rotate_left;(simp only [pq];rfl)
            refine pure_ (i:=31) (N:=some 64) (v:=undef) (a' := ?_) #[T,T,T,T,T,T,T,T,T,T,T,T,T,T,T,T,T,T,T,T,T,T,T,T,T,T,T,T,T,T,T,T,F,F,F,F,F,F,F,F,F,F,F,F,F,F,F,F,F] rfl rfl (any_of HT_.out (by kernel_rfl)) (fun _ _ _ h => h) (Or.inr ⟨by rfl,rfl⟩) ?_ ?_
            rotate_left
            · simp only [pq]
              rfl
            refine pure_ (i:=32) (N:=some 65) (v:=undef) (a' := ?_) #[T,T,T,T,T,T,T,T,T,T,T,T,T,T,T,T,T,T,T,T,T,T,T,T,T,T,T,T,T,T,T,T,T,F,F,F,F,F,F,F,F,F,F,F,F,F,F,F,F] rfl rfl (any_of HT_.out (by kernel_rfl)) (fun _ _ _ h => h) (Or.inr ⟨by rfl,rfl⟩) ?_ ?_
            rotate_left
            · simp only [pq]
              rfl
            refine pure_ (i:=33) (N:=some 66) (v:=undef) (a' := ?_) #[T,T,T,T,T,T,T,T,T,T,T,T,T,T,T,T,T,T,T,T,T,T,T,T,T,T,T,T,T,T,T,T,T,T,F,F,F,F,F,F,F,F,F,F,F,F,F,F,F] rfl rfl (any_of HT_.out (by kernel_rfl)) (fun _ _ _ h => h) (Or.inr ⟨by rfl,rfl⟩) ?_ ?_
            rotate_left
            · simp only [pq]
              rfl
            refine pure_ (i:=34) (N:=some 67) (v:=undef) (a' := ?_) #[T,T,T,T,T,T,T,T,T,T,T,T,T,T,T,T,T,T,T,T,T,T,T,T,T,T,T,T,T,T,T,T,T,T,T,F,F,F,F,F,F,F,F,F,F,F,F,F,F] rfl rfl (any_of HT_.out (by kernel_rfl)) (fun _ _ _ h => h) (Or.inr ⟨by rfl,rfl⟩) ?_ ?_
            rotate_left
            · simp only [pq]
              rfl
            refine pure_ (i:=35) (N:=some 68) (v:=undef) (a' := ?_) #[T,T,T,T,T,T,T,T,T,T,T,T,T,T,T,T,T,T,T,T,T,T,T,T,T,T,T,T,T,T,T,T,T,T,T,T,F,F,F,F,F,F,F,F,F,F,F,F,F] rfl rfl (any_of HT_.out (by kernel_rfl)) (fun _ _ _ h => h) (Or.inr ⟨by rfl,rfl⟩) ?_ ?_
            rotate_left
            · simp only [pq]
              rfl
            refine pure_ (i:=36) (N:=some 69) (v:=undef) (a' := ?_) #[T,T,T,T,T,T,T,T,T,T,T,T,T,T,T,T,T,T,T,T,T,T,T,T,T,T,T,T,T,T,T,T,T,T,T,T,T,F,F,F,F,F,F,F,F,F,F,F,F] rfl rfl (any_of HT_.out (by kernel_rfl)) (fun _ _ _ h => h) (Or.inr ⟨by rfl,rfl⟩) ?_ ?_
            rotate_left
            · simp only [pq]
              rfl
            refine pure_ (i:=37) (N:=some 70) (v:=?_) (a' := ?_) #[T,T,T,T,T,T,T,T,T,T,T,T,T,T,T,T,T,T,T,T,T,T,T,T,T,T,T,T,T,T,T,T,T,T,T,T,T,T,F,F,F,F,F,F,F,F,F,F,F] rfl rfl (any_of HT_.out (by kernel_rfl)) (fun _ _ _ h => h) (Or.inl ⟨by rfl,?_⟩) ?_ ?_
            rotate_left;(intro w';go_simp;with_reducible rfl);rotate_left;(simp only [pq];rfl)
            refine pure_ (i:=38) (N:=some 71) (v:=?_) (a' := ?_) #[T,T,T,T,T,T,T,T,T,T,T,T,T,T,T,T,T,T,T,T,T,T,T,T,T,T,T,T,T,T,T,T,T,T,T,T,T,T,T,F,F,F,F,F,F,F,F,F,F] rfl rfl (any_of HT_.out (by kernel_rfl)) (fun _ _ _ h => h) (Or.inl ⟨by rfl,?_⟩) ?_ ?_
            rotate_left;(intro w';go_simp;with_reducible rfl);rotate_left;(simp only [pq];rfl)
            refine pure_ (i:=39) (N:=some 72) (v:=undef) (a' := ?_) #[T,T,T,T,T,T,T,T,T,T,T,T,T,T,T,T,T,T,T,T,T,T,T,T,T,T,T,T,T,T,T,T,T,T,T,T,T,T,T,T,F,F,F,F,F,F,F,F,F] rfl rfl (any_of HT_.out (by kernel_rfl)) (fun _ _ _ h => h) (Or.inr ⟨by rfl,rfl⟩) ?_ ?_
            rotate_left
            · simp only [pq]
              rfl
            refine pure_ (i:=40) (N:=some 73) (v:=undef) (a' := ?_) #[T,T,T,T,T,T,T,T,T,T,T,T,T,T,T,T,T,T,T,T,T,T,T,T,T,T,T,T,T,T,T,T,T,T,T,T,T,T,T,T,T,F,F,F,F,F,F,F,F] rfl rfl (any_of HT_.out (by kernel_rfl)) (fun _ _ _ h => h) (Or.inr ⟨by rfl,rfl⟩) ?_ ?_
            rotate_left
            · simp only [pq]
              rfl
            refine pure_ (i:=41) (N:=some 74) (v:=undef) (a' := ?_) #[T,T,T,T,T,T,T,T,T,T,T,T,T,T,T,T,T,T,T,T,T,T,T,T,T,T,T,T,T,T,T,T,T,T,T,T,T,T,T,T,T,T,F,F,F,F,F,F,F] rfl rfl (any_of HT_.out (by kernel_rfl)) (fun _ _ _ h => h) (Or.inr ⟨by rfl,rfl⟩) ?_ ?_
            rotate_left
            · simp only [pq]
              rfl
            refine pure_ (i:=42) (N:=some 75) (v:=undef) (a' := ?_) #[T,T,T,T,T,T,T,T,T,T,T,T,T,T,T,T,T,T,T,T,T,T,T,T,T,T,T,T,T,T,T,T,T,T,T,T,T,T,T,T,T,T,T,F,F,F,F,F,F] rfl rfl (any_of HT_.out (by kernel_rfl)) (fun _ _ _ h => h) (Or.inr ⟨by rfl,rfl⟩) ?_ ?_
            rotate_left
            · simp only [pq]
              rfl
            refine pure_ (i:=43) (N:=some 76) (v:=undef) (a' := ?_) #[T,T,T,T,T,T,T,T,T,T,T,T,T,T,T,T,T,T,T,T,T,T,T,T,T,T,T,T,T,T,T,T,T,T,T,T,T,T,T,T,T,T,T,T,F,F,F,F,F] rfl rfl (any_of HT_.out (by kernel_rfl)) (fun _ _ _ h => h) (Or.inr ⟨by rfl,rfl⟩) ?_ ?_
            rotate_left
            · simp only [pq]
              rfl
            refine pure_ (i:=44) (N:=some 77) (v:=undef) (a' := ?_) #[T,T,T,T,T,T,T,T,T,T,T,T,T,T,T,T,T,T,T,T,T,T,T,T,T,T,T,T,T,T,T,T,T,T,T,T,T,T,T,T,T,T,T,T,T,F,F,F,F] rfl rfl (any_of HT_.out (by kernel_rfl)) (fun _ _ _ h => h) (Or.inr ⟨by rfl,rfl⟩) ?_ ?_
            rotate_left
            · simp only [pq]
              rfl
            refine pure_ (i:=45) (N:=some 78) (v:=undef) (a' := ?_) #[T,T,T,T,T,T,T,T,T,T,T,T,T,T,T,T,T,T,T,T,T,T,T,T,T,T,T,T,T,T,T,T,T,T,T,T,T,T,T,T,T,T,T,T,T,T,F,F,F] rfl rfl (any_of HT_.out (by kernel_rfl)) (fun _ _ _ h => h) (Or.inr ⟨by rfl,rfl⟩) ?_ ?_
            rotate_left
            · simp only [pq]
              rfl
            refine pure_ (i:=46) (N:=some 79) (v:=undef) (a' := ?_) #[T,T,T,T,T,T,T,T,T,T,T,T,T,T,T,T,T,T,T,T,T,T,T,T,T,T,T,T,T,T,T,T,T,T,T,T,T,T,T,T,T,T,T,T,T,T,T,F,F] rfl rfl (any_of HT_.out (by kernel_rfl)) (fun _ _ _ h => h) (Or.inr ⟨by rfl,rfl⟩) ?_ ?_
            rotate_left
            · simp only [pq]
              rfl
            refine pure_ (i:=47) (N:=some 80) (v:=undef) (a' := ?_) #[T,T,T,T,T,T,T,T,T,T,T,T,T,T,T,T,T,T,T,T,T,T,T,T,T,T,T,T,T,T,T,T,T,T,T,T,T,T,T,T,T,T,T,T,T,T,T,T,F] rfl rfl (any_of HT_.out (by kernel_rfl)) (fun _ _ _ h => h) (Or.inr ⟨by rfl,rfl⟩) ?_ ?_
            rotate_left
            · simp only [pq]
              rfl
            refine pure_ (i:=48) (N:=some 81) (v:=?_) (a' := ?_) #[T,T,T,T,T,T,T,T,T,T,T,T,T,T,T,T,T,T,T,T,T,T,T,T,T,T,T,T,T,T,T,T,T,T,T,T,T,T,T,T,T,T,T,T,T,T,T,T,T] rfl rfl (any_of HT_.out (by kernel_rfl)) (fun _ _ _ h => h) (Or.inl ⟨by rfl,?_⟩) ?_ ?_
            rotate_left;(intro w';go_simp;with_reducible rfl);rotate_left;(simp only [pq];rfl)
            refine done_ (done_of HT_.out (by kernel_rfl)) ?_
            try go_wp2
            go_meet
            case rel => exact ⟨_,(true),(by first | rfl | (simp;done) | (simp [*];done)),H',⟨by have:=HK1.out;first | omega | exact Nat.le_refl _⟩,⟨by (with_reducible repeat (first | apply Kd.R_alloc | apply Kd.R_drewN | apply Kd.R_drew));exact HO_6.out⟩,⟨by (with_reducible repeat (first | apply Kd.S_alloc | apply Kd.S_drewN | apply Kd.S_drew));exact HO_7.out⟩,⟨by (with_reducible repeat (first | apply Kd.R_alloc | apply Kd.R_drewN | apply Kd.R_drew));exact HO_508000.out⟩,⟨by (with_reducible repeat (first | apply Kd.R_alloc | apply Kd.R_drewN | apply Kd.R_drew));exact HO_508001.out⟩,⟨by (with_reducible repeat (first | apply Kd.S_alloc | apply Kd.S_drewN | apply Kd.S_drew));exact HO_508004.out⟩,⟨by (with_reducible repeat (first | refine blk_drewN ?_ _ | refine blk_drew ?_ | refine blk_alloc ?_ _));exact BK507.out⟩,⟨by repeat (first | (with_reducible first | exact HB.out | apply below_alloc | apply pw_below_drewN | apply below_drew1 | refine below_set ?_ GE507.out) | exact HB.out)⟩⟩
          · rw [if_neg c23] at H
            have c23b0 : decide (((rd_T50 t511 x8_1).f3) ≤ ((rd_T50 t511 x8_1).f2)) = false:=decide_eq_false c23
            clear c23
            by_cases c25 : ((rd_T50 t511 x8_1).f3) ≥ (t504.length : Int)
            · rw [if_pos c25] at H
              have c25b0 : decide ((t504.length : Int) ≤ ((rd_T50 t511 x8_1).f3)) = true:=decide_eq_true c25
              clear c25
              have H' := Aside0.mk H
              clear H
              try go_wp2
              have n0_:=Aside0.mk (Kd.R_drew HO_6.out)
              have n1_:=Aside0.mk (Kd.S_drew HO_7.out)
              have n2_:=Aside0.mk (Kd.R_drew HO_508000.out)
              have n3_:=Aside0.mk (Kd.R_drew HO_508001.out)
              have n4_:=Aside0.mk (Kd.S_drew HO_508004.out)
              have n5_:=Aside0.mk (blk_drew BK507.out)
              have n6_:=Aside0.mk (below_drew1 HB.out)
              clear HO_6
              clear HO_7
              clear HO_508000
              clear HO_508001
              clear HO_508004
              clear BK507
              clear HB
              have HO_6:=n0_
              have HO_7:=n1_
              have HO_508000:=n2_
              have HO_508001:=n3_
              have HO_508004:=n4_
              have BK507:=n5_
              have HB:=n6_
              clear n0_ n1_ n2_ n3_ n4_ n5_ n6_
              have p517 : 0 ≤ (x8_1 : Int) := of_decide_eq_true (by first | (with_reducible assumption) | assumption)
              have q517 : x8_1 < (t511.length : Int) := of_decide_eq_true (by first | (with_reducible assumption) | assumption)
              obtain ⟨ad517,e517,hx517_0,hx517_1,hx517_2,hx517_3⟩ := at_T50 (Kd.R_reads' HO_6.out).2.2 x8_1 p517 q517
              cases e517
              replace p517:=eq_true p517
              replace q517:=eq_true q517
              have p518 : 0 ≤ (x8_1 : Int) := of_decide_eq_true (by first | (with_reducible assumption) | assumption)
              have q518 : x8_1 < (t511.length : Int) := of_decide_eq_true (by first | (with_reducible assumption) | assumption)
              obtain ⟨ad518,e518,hx518_0,hx518_1,hx518_2,hx518_3⟩ := at_T50 (Kd.R_reads' HO_6.out).2.2 x8_1 p518 q518
              obtain rfl : ad517 = ad518:=(by injection e518)
              replace p518:=eq_true p518
              replace q518:=eq_true q518
              have p519 : 0 ≤ (x8_1 : Int) := of_decide_eq_true (by first | (with_reducible assumption) | assumption)
              have q519 : x8_1 < (t511.length : Int) := of_decide_eq_true (by first | (with_reducible assumption) | assumption)
              obtain ⟨ad519,e519,hx519_0,hx519_1,hx519_2,hx519_3⟩ := at_T50 (Kd.R_reads' HO_6.out).2.2 x8_1 p519 q519
              obtain rfl : ad517 = ad519:=(by injection e519)
              replace p519:=eq_true p519
              replace q519:=eq_true q519
              have p520 : 0 ≤ (x8_1 : Int) := of_decide_eq_true (by first | (with_reducible assumption) | assumption)
              have q520 : x8_1 < (t511.length : Int) := of_decide_eq_true (by first | (with_reducible assumption) | assumption)
              obtain ⟨ad520,e520,hx520_0,hx520_1,hx520_2,hx520_3⟩ := at_T50 (Kd.R_reads' HO_6.out).2.2 x8_1 p520 q520
              obtain rfl : ad517 = ad520:=(by injection e520)
              replace p520:=eq_true p520
              replace q520:=eq_true q520
              refine start_ (n:=49) (S:=fun w' => w'.cell? ⟨gb507,0,none⟩ = some (.slice Ao10 t496.length co10) ∧ w'.cell? ⟨gb507,1,none⟩ = some (.slice Ao12 t499.length co12) ∧ w'.cell? ⟨gb507,2,none⟩ = some (.int .i64 t502) ∧ w'.cell? ⟨gb507,3,none⟩ = some (.int .i64 t503) ∧ w'.cell? ⟨gb507,4,none⟩ = some (.slice Ao13 t504.length co13) ∧ w'.cell? (ad517.add ((x8_1).toNat * 4)) = some (.int .i64 ((rd_T50 t511 x8_1).f0)) ∧ w'.cell? ⟨(ad517.add ((x8_1).toNat * 4)).block,(ad517.add ((x8_1).toNat * 4)).off + 1,none⟩ = some (.int .i64 ((rd_T50 t511 x8_1).f1)) ∧ w'.cell? ⟨(ad517.add ((x8_1).toNat * 4)).block,(ad517.add ((x8_1).toNat * 4)).off + 2,none⟩ = some (.int .i64 ((rd_T50 t511 x8_1).f2)) ∧ w'.cell? ⟨(ad517.add ((x8_1).toNat * 4)).block,(ad517.add ((x8_1).toNat * 4)).off + 3,none⟩ = some (.int .i64 ((rd_T50 t511 x8_1).f3)) ∧ w'.cell? (ad517.add ((x8_1).toNat * 4)) = some (.int .i64 ((rd_T50 t511 x8_1).f0)) ∧ w'.cell? ⟨(ad517.add ((x8_1).toNat * 4)).block,(ad517.add ((x8_1).toNat * 4)).off + 1,none⟩ = some (.int .i64 ((rd_T50 t511 x8_1).f1)) ∧ w'.cell? ⟨(ad517.add ((x8_1).toNat * 4)).block,(ad517.add ((x8_1).toNat * 4)).off + 2,none⟩ = some (.int .i64 ((rd_T50 t511 x8_1).f2)) ∧ w'.cell? ⟨(ad517.add ((x8_1).toNat * 4)).block,(ad517.add ((x8_1).toNat * 4)).off + 3,none⟩ = some (.int .i64 ((rd_T50 t511 x8_1).f3)) ∧ w'.cell? (ad517.add ((x8_1).toNat * 4)) = some (.int .i64 ((rd_T50 t511 x8_1).f0)) ∧ w'.cell? ⟨(ad517.add ((x8_1).toNat * 4)).block,(ad517.add ((x8_1).toNat * 4)).off + 1,none⟩ = some (.int .i64 ((rd_T50 t511 x8_1).f1)) ∧ w'.cell? ⟨(ad517.add ((x8_1).toNat * 4)).block,(ad517.add ((x8_1).toNat * 4)).off + 2,none⟩ = some (.int .i64 ((rd_T50 t511 x8_1).f2)) ∧ w'.cell? ⟨(ad517.add ((x8_1).toNat * 4)).block,(ad517.add ((x8_1).toNat * 4)).off + 3,none⟩ = some (.int .i64 ((rd_T50 t511 x8_1).f3)) ∧ w'.cell? (ad517.add ((x8_1).toNat * 4)) = some (.int .i64 ((rd_T50 t511 x8_1).f0)) ∧ w'.cell? ⟨(ad517.add ((x8_1).toNat * 4)).block,(ad517.add ((x8_1).toNat * 4)).off + 1,none⟩ = some (.int .i64 ((rd_T50 t511 x8_1).f1)) ∧ w'.cell? ⟨(ad517.add ((x8_1).toNat * 4)).block,(ad517.add ((x8_1).toNat * 4)).off + 2,none⟩ = some (.int .i64 ((rd_T50 t511 x8_1).f2)) ∧ w'.cell? ⟨(ad517.add ((x8_1).toNat * 4)).block,(ad517.add ((x8_1).toNat * 4)).off + 3,none⟩ = some (.int .i64 ((rd_T50 t511 x8_1).f3))) (ds := []) #[F,F,F,F,F,F,F,F,F,F,F,F,F,F,F,F,F,F,F,F,F,F,F,F,F,F,F,F,F,F,F,F,F,F,F,F,F,F,F,F,F,F,F,F,F,F,F,F,F] (by kernel_rfl) rfl rfl ⟨(blk_cell BK507.out 0).trans rfl,(blk_cell BK507.out 1).trans rfl,(blk_cell BK507.out 2).trans rfl,(blk_cell BK507.out 3).trans rfl,(blk_cell BK507.out 4).trans rfl,hx517_0,hx517_1,hx517_2,hx517_3,hx518_0,hx518_1,hx518_2,hx518_3,hx519_0,hx519_1,hx519_2,hx519_3,hx520_0,hx520_1,hx520_2,hx520_3⟩ (fun hHeld => ?_);refine with_tabW regletlaw14_PredictClashes.tab10 regletlaw14_PredictClashes.bits10 (fun HT_ HW_ => ?_)
              generalize wr.drew = w26 at HO_6 HO_7 HO_508000 HO_508001 HO_508004 BK507 HB hx517_0 hx517_1 hx517_2 hx517_3 hx518_0 hx518_1 hx518_2 hx518_3 hx519_0 hx519_1 hx519_2 hx519_3 hx520_0 hx520_1 hx520_2 hx520_3 hHeld ⊢
              refine pure_ (i:=0) (N:=some 33) (v:=?_) (a' := ?_) #[T,F,F,F,F,F,F,F,F,F,F,F,F,F,F,F,F,F,F,F,F,F,F,F,F,F,F,F,F,F,F,F,F,F,F,F,F,F,F,F,F,F,F,F,F,F,F,F,F] rfl rfl (any_of HT_.out (by kernel_rfl)) (fun _ _ _ h => h) (Or.inl ⟨by rfl,?_⟩) ?_ ?_
              rotate_left;(intro w';go_simp;with_reducible rfl);rotate_left;(simp only [pq];rfl)
              refine pure_ (i:=1) (N:=some 34) (v:=?_) (a' := ?_) #[T,T,F,F,F,F,F,F,F,F,F,F,F,F,F,F,F,F,F,F,F,F,F,F,F,F,F,F,F,F,F,F,F,F,F,F,F,F,F,F,F,F,F,F,F,F,F,F,F] rfl rfl (any_of HT_.out (by kernel_rfl)) (fun _ _ _ h => h) (Or.inl ⟨by rfl,?_⟩) ?_ ?_
              rotate_left;(intro w';go_simp;with_reducible rfl);rotate_left;(simp only [pq];rfl)
              refine pure_ (i:=2) (N:=some 35) (v:=?_) (a' := ?_) #[T,T,T,F,F,F,F,F,F,F,F,F,F,F,F,F,F,F,F,F,F,F,F,F,F,F,F,F,F,F,F,F,F,F,F,F,F,F,F,F,F,F,F,F,F,F,F,F,F] rfl rfl (any_of HT_.out (by kernel_rfl)) (fun _ _ _ h => h) (Or.inl ⟨by rfl,?_⟩) ?_ ?_
              rotate_left;(intro w';go_simp;with_reducible rfl);rotate_left;(simp only [pq];rfl)
              refine pure_ (i:=3) (N:=some 36) (v:=?_) (a' := ?_) #[T,T,T,T,F,F,F,F,F,F,F,F,F,F,F,F,F,F,F,F,F,F,F,F,F,F,F,F,F,F,F,F,F,F,F,F,F,F,F,F,F,F,F,F,F,F,F,F,F] rfl rfl (any_of HT_.out (by kernel_rfl)) (fun _ _ _ h => h) (Or.inl ⟨by rfl,?_⟩) ?_ ?_
              rotate_left;(intro w';go_simp;with_reducible rfl);rotate_left;(simp only [pq];rfl)
              refine take_ (i:=4) (N:=some 37) (v:=?_) (a' := ?_) #[T,T,T,T,T,F,F,F,F,F,F,F,F,F,F,F,F,F,F,F,F,F,F,F,F,F,F,F,F,F,F,F,F,F,F,F,F,F,F,F,F,F,F,F,F,F,F,F,F] rfl rfl (take_ofW HT_.out HW_.out (by kernel_rfl)) (fun _ _ _ h => h) (Or.inl ⟨by rfl,?_⟩) hHeld ?_ ?_
              rotate_left
              · rintro w' ⟨s0,s1,s2,s3,s4,s5,s6,s7,s8,s9,s10,s11,s12,s13,s14,s15,s16,s17,s18,s19,s20⟩
                go_simp
                with_reducible rfl
              rotate_left
              · simp only [pq]
                rfl
              refine pure_ (i:=5) (N:=some 38) (v:=?_) (a' := ?_) #[T,T,T,T,T,T,F,F,F,F,F,F,F,F,F,F,F,F,F,F,F,F,F,F,F,F,F,F,F,F,F,F,F,F,F,F,F,F,F,F,F,F,F,F,F,F,F,F,F] rfl rfl (any_of HT_.out (by kernel_rfl)) (fun _ _ _ h => h) (Or.inl ⟨by rfl,?_⟩) ?_ ?_
              rotate_left;(intro w';go_simp;with_reducible rfl);rotate_left;(simp only [pq];rfl)
              refine pure_ (i:=6) (N:=some 39) (v:=?_) (a' := ?_) #[T,T,T,T,T,T,T,F,F,F,F,F,F,F,F,F,F,F,F,F,F,F,F,F,F,F,F,F,F,F,F,F,F,F,F,F,F,F,F,F,F,F,F,F,F,F,F,F,F] rfl rfl (any_of HT_.out (by kernel_rfl)) (fun _ _ _ h => h) (Or.inl ⟨by rfl,?_⟩) ?_ ?_
              rotate_left;(intro w';go_simp;with_reducible rfl);rotate_left;(simp only [pq];rfl)
              refine pure_ (i:=7) (N:=some 40) (v:=?_) (a' := ?_) #[T,T,T,T,T,T,T,T,F,F,F,F,F,F,F,F,F,F,F,F,F,F,F,F,F,F,F,F,F,F,F,F,F,F,F,F,F,F,F,F,F,F,F,F,F,F,F,F,F] rfl rfl (any_of HT_.out (by kernel_rfl)) (fun _ _ _ h => h) (Or.inl ⟨by rfl,?_⟩) ?_ ?_
              rotate_left;(intro w';go_simp;with_reducible rfl);rotate_left;(simp only [pq];rfl)
              refine pure_ (i:=8) (N:=some 41) (v:=?_) (a' := ?_) #[T,T,T,T,T,T,T,T,T,F,F,F,F,F,F,F,F,F,F,F,F,F,F,F,F,F,F,F,F,F,F,F,F,F,F,F,F,F,F,F,F,F,F,F,F,F,F,F,F] rfl rfl (any_of HT_.out (by kernel_rfl)) (fun _ _ _ h => h) (Or.inl ⟨by rfl,?_⟩) ?_ ?_
              rotate_left;(intro w';go_simp;with_reducible rfl);rotate_left;(simp only [pq];rfl)
              refine pure_ (i:=9) (N:=some 42) (v:=?_) (a' := ?_) #[T,T,T,T,T,T,T,T,T,T,F,F,F,F,F,F,F,F,F,F,F,F,F,F,F,F,F,F,F,F,F,F,F,F,F,F,F,F,F,F,F,F,F,F,F,F,F,F,F] rfl rfl (any_of HT_.out (by kernel_rfl)) (fun _ _ _ h => h) (Or.inl ⟨by rfl,?_⟩) ?_ ?_
              rotate_left;(intro w';go_simp;with_reducible rfl);rotate_left;(simp only [pq];rfl)
              refine pure_ (i:=10) (N:=some 43) (v:=?_) (a' := ?_) #[T,T,T,T,T,T,T,T,T,T,T,F,F,F,F,F,F,F,F,F,F,F,F,F,F,F,F,F,F,F,F,F,F,F,F,F,F,F,F,F,F,F,F,F,F,F,F,F,F] rfl rfl (any_of HT_.out (by kernel_rfl)) (fun _ _ _ h => h) (Or.inl ⟨by rfl,?_⟩) ?_ ?_
              rotate_left;(intro w';go_simp;with_reducible rfl);rotate_left;(simp only [pq];rfl)
              refine pure_ (i:=12) (N:=some 45) (v:=?_) (a' := ?_) #[T,T,T,T,T,T,T,T,T,T,T,F,T,F,F,F,F,F,F,F,F,F,F,F,F,F,F,F,F,F,F,F,F,F,F,F,F,F,F,F,F,F,F,F,F,F,F,F,F] rfl rfl (any_of HT_.out (by kernel_rfl)) (fun _ _ _ h => h) (Or.inl ⟨by rfl,?_⟩) ?_ ?_
              rotate_left;(intro w';go_simp;with_reducible rfl);rotate_left;(simp only [pq];rfl)
              refine pure_ (i:=13) (N:=some 46) (v:=?_) (a' := ?_) #[T,T,T,T,T,T,T,T,T,T,T,F,T,T,F,F,F,F,F,F,F,F,F,F,F,F,F,F,F,F,F,F,F,F,F,F,F,F,F,F,F,F,F,F,F,F,F,F,F] rfl rfl (any_of HT_.out (by kernel_rfl)) (fun _ _ _ h => h) (Or.inl ⟨by rfl,?_⟩) ?_ ?_
              rotate_left;(intro w';go_simp;with_reducible rfl);rotate_left;(simp only [pq];rfl)
              refine pure_ (i:=14) (N:=some 47) (v:=?_) (a' := ?_) #[T,T,T,T,T,T,T,T,T,T,T,F,T,T,T,F,F,F,F,F,F,F,F,F,F,F,F,F,F,F,F,F,F,F,F,F,F,F,F,F,F,F,F,F,F,F,F,F,F] rfl rfl (any_of HT_.out (by kernel_rfl)) (fun _ _ _ h => h) (Or.inl ⟨by rfl,?_⟩) ?_ ?_
              rotate_left;(intro w';go_simp;with_reducible rfl);rotate_left;(simp only [pq];rfl)
              refine pure_ (i:=15) (N:=some 48) (v:=?_) (a' := ?_) #[T,T,T,T,T,T,T,T,T,T,T,F,T,T,T,T,F,F,F,F,F,F,F,F,F,F,F,F,F,F,F,F,F,F,F,F,F,F,F,F,F,F,F,F,F,F,F,F,F] rfl rfl (any_of HT_.out (by kernel_rfl)) (fun _ _ _ h => h) (Or.inl ⟨by rfl,?_⟩) ?_ ?_
              rotate_left;(intro w';go_simp;with_reducible rfl);rotate_left;(simp only [pq];rfl)
              refine take_ (i:=11) (N:=some 44) (v:=?_) (a' := ?_) #[T,T,T,T,T,T,T,T,T,T,T,T,T,T,T,T,F,F,F,F,F,F,F,F,F,F,F,F,F,F,F,F,F,F,F,F,F,F,F,F,F,F,F,F,F,F,F,F,F] rfl rfl (take_ofW HT_.out HW_.out (by kernel_rfl)) (fun _ _ _ h => h) (Or.inl ⟨by rfl,?_⟩) hHeld ?_ ?_
              rotate_left
              · rintro w' ⟨s0,s1,s2,s3,s4,s5,s6,s7,s8,s9,s10,s11,s12,s13,s14,s15,s16,s17,s18,s19,s20⟩
                go_simp
                with_reducible rfl
              rotate_left
              · simp only [pq]
                rfl
              refine take_ (i:=16) (N:=some 49) (v:=?_) (a' := ?_) #[T,T,T,T,T,T,T,T,T,T,T,T,T,T,T,T,T,F,F,F,F,F,F,F,F,F,F,F,F,F,F,F,F,F,F,F,F,F,F,F,F,F,F,F,F,F,F,F,F] rfl rfl (take_ofW HT_.out HW_.out (by kernel_rfl)) (fun _ _ _ h => h) (Or.inl ⟨by rfl,?_⟩) hHeld ?_ ?_
              rotate_left
              · rintro w' ⟨s0,s1,s2,s3,s4,s5,s6,s7,s8,s9,s10,s11,s12,s13,s14,s15,s16,s17,s18,s19,s20⟩
                go_simp
                with_reducible rfl
              rotate_left
              · simp only [pq]
                rfl
              refine pure_ (i:=17) (N:=some 50) (v:=?_) (a' := ?_) #[T,T,T,T,T,T,T,T,T,T,T,T,T,T,T,T,T,T,F,F,F,F,F,F,F,F,F,F,F,F,F,F,F,F,F,F,F,F,F,F,F,F,F,F,F,F,F,F,F] rfl rfl (any_of HT_.out (by kernel_rfl)) (fun _ _ _ h => h) (Or.inl ⟨by rfl,?_⟩) ?_ ?_
              rotate_left;(intro w';go_simp;with_reducible rfl);rotate_left;(simp only [pq];rfl)
              refine pure_ (i:=18) (N:=some 51) (v:=?_) (a' := ?_) #[T,T,T,T,T,T,T,T,T,T,T,T,T,T,T,T,T,T,T,F,F,F,F,F,F,F,F,F,F,F,F,F,F,F,F,F,F,F,F,F,F,F,F,F,F,F,F,F,F] rfl rfl (any_of HT_.out (by kernel_rfl)) (fun _ _ _ h => h) (Or.inl ⟨by rfl,?_⟩) ?_ ?_
              rotate_left;(intro w';go_simp;with_reducible rfl);rotate_left;(simp only [pq];rfl)
              refine pure_ (i:=19) (N:=some 52) (v:=?_) (a' := ?_) #[T,T,T,T,T,T,T,T,T,T,T,T,T,T,T,T,T,T,T,T,F,F,F,F,F,F,F,F,F,F,F,F,F,F,F,F,F,F,F,F,F,F,F,F,F,F,F,F,F] rfl rfl (any_of HT_.out (by kernel_rfl)) (fun _ _ _ h => h) (Or.inl ⟨by rfl,?_⟩) ?_ ?_
              rotate_left;(intro w';go_simp;with_reducible rfl);rotate_left;(simp only [pq];rfl)
              refine pure_ (i:=20) (N:=some 53) (v:=?_) (a' := ?_) #[T,T,T,T,T,T,T,T,T,T,T,T,T,T,T,T,T,T,T,T,T,F,F,F,F,F,F,F,F,F,F,F,F,F,F,F,F,F,F,F,F,F,F,F,F,F,F,F,F] rfl rfl (any_of HT_.out (by kernel_rfl)) (fun _ _ _ h => h) (Or.inl ⟨by rfl,?_⟩) ?_ ?_
              rotate_left;(intro w';go_simp;with_reducible rfl);rotate_left;(simp only [pq];rfl)
              refine pure_ (i:=21) (N:=some 54) (v:=?_) (a' := ?_) #[T,T,T,T,T,T,T,T,T,T,T,T,T,T,T,T,T,T,T,T,T,T,F,F,F,F,F,F,F,F,F,F,F,F,F,F,F,F,F,F,F,F,F,F,F,F,F,F,F] rfl rfl (any_of HT_.out (by kernel_rfl)) (fun _ _ _ h => h) (Or.inl ⟨by rfl,?_⟩) ?_ ?_
              rotate_left;(intro w';go_simp;with_reducible rfl);rotate_left;(simp only [pq];rfl)
              refine pure_ (i:=22) (N:=some 55) (v:=?_) (a' := ?_) #[T,T,T,T,T,T,T,T,T,T,T,T,T,T,T,T,T,T,T,T,T,T,T,F,F,F,F,F,F,F,F,F,F,F,F,F,F,F,F,F,F,F,F,F,F,F,F,F,F] rfl rfl (any_of HT_.out (by kernel_rfl)) (fun _ _ _ h => h) (Or.inl ⟨by rfl,?_⟩) ?_ ?_
              rotate_left;(intro w';go_simp;with_reducible rfl);rotate_left;(simp only [pq];rfl)
              refine pure_ (i:=23) (N:=some 56) (v:=?_) (a' := ?_) #[T,T,T,T,T,T,T,T,T,T,T,T,T,T,T,T,T,T,T,T,T,T,T,T,F,F,F,F,F,F,F,F,F,F,F,F,F,F,F,F,F,F,F,F,F,F,F,F,F] rfl rfl (any_of HT_.out (by kernel_rfl)) (fun _ _ _ h => h) (Or.inl ⟨by rfl,?_⟩) ?_ ?_
              rotate_left;(intro w';go_simp;with_reducible rfl);rotate_left;(simp only [pq];rfl)
              refine pure_ (i:=25) (N:=some 58) (v:=?_) (a' := ?_) #[T,T,T,T,T,T,T,T,T,T,T,T,T,T,T,T,T,T,T,T,T,T,T,T,F,T,F,F,F,F,F,F,F,F,F,F,F,F,F,F,F,F,F,F,F,F,F,F,F] rfl rfl (any_of HT_.out (by kernel_rfl)) (fun _ _ _ h => h) (Or.inl ⟨by rfl,?_⟩) ?_ ?_
              rotate_left;(intro w';go_simp;with_reducible rfl);rotate_left;(simp only [pq];rfl)
              refine take_ (i:=24) (N:=some 57) (v:=?_) (a' := ?_) #[T,T,T,T,T,T,T,T,T,T,T,T,T,T,T,T,T,T,T,T,T,T,T,T,T,T,F,F,F,F,F,F,F,F,F,F,F,F,F,F,F,F,F,F,F,F,F,F,F] rfl rfl (take_ofW HT_.out HW_.out (by kernel_rfl)) (fun _ _ _ h => h) (Or.inl ⟨by rfl,?_⟩) hHeld ?_ ?_
              rotate_left
              · rintro w' ⟨s0,s1,s2,s3,s4,s5,s6,s7,s8,s9,s10,s11,s12,s13,s14,s15,s16,s17,s18,s19,s20⟩
                go_simp
                with_reducible rfl
              rotate_left
              · simp only [pq]
                rfl
              refine take_ (i:=26) (N:=some 59) (v:=?_) (a' := ?_) #[T,T,T,T,T,T,T,T,T,T,T,T,T,T,T,T,T,T,T,T,T,T,T,T,T,T,T,F,F,F,F,F,F,F,F,F,F,F,F,F,F,F,F,F,F,F,F,F,F] rfl rfl (take_ofW HT_.out HW_.out (by kernel_rfl)) (fun _ _ _ h => h) (Or.inl ⟨by rfl,?_⟩) hHeld ?_ ?_
              rotate_left
              · rintro w' ⟨s0,s1,s2,s3,s4,s5,s6,s7,s8,s9,s10,s11,s12,s13,s14,s15,s16,s17,s18,s19,s20⟩
                go_simp
                with_reducible rfl
              rotate_left
              · simp only [pq]
                rfl
              refine pure_ (i:=27) (N:=some 60) (v:=?_) (a' := ?_) #[T,T,T,T,T,T,T,T,T,T,T,T,T,T,T,T,T,T,T,T,T,T,T,T,T,T,T,T,F,F,F,F,F,F,F,F,F,F,F,F,F,F,F,F,F,F,F,F,F] rfl rfl (any_of HT_.out (by kernel_rfl)) (fun _ _ _ h => h) (Or.inl ⟨by rfl,?_⟩) ?_ ?_
              rotate_left;(intro w';go_simp;with_reducible rfl);rotate_left;(simp only [pq];rfl)
              refine pure_ (i:=28) (N:=some 61) (v:=?_) (a' := ?_) #[T,T,T,T,T,T,T,T,T,T,T,T,T,T,T,T,T,T,T,T,T,T,T,T,T,T,T,T,T,F,F,F,F,F,F,F,F,F,F,F,F,F,F,F,F,F,F,F,F] rfl rfl (any_of HT_.out (by kernel_rfl)) (fun _ _ _ h => h) (Or.inl ⟨by rfl,?_⟩) ?_ ?_
              rotate_left;(intro w';go_simp;with_reducible rfl);rotate_left;(simp only [pq];rfl)
              refine pure_ (i:=29) (N:=some 62) (v:=?_) (a' := ?_) #[T,T,T,T,T,T,T,T,T,T,T,T,T,T,T,T,T,T,T,T,T,T,T,T,T,T,T,T,T,T,F,F,F,F,F,F,F,F,F,F,F,F,F,F,F,F,F,F,F] rfl rfl (any_of HT_.out (by kernel_rfl)) (fun _ _ _ h => h) (Or.inl ⟨by rfl,?_⟩) ?_ ?_
              rotate_left;(intro w';go_simp;with_reducible rfl);rotate_left;(simp only [pq];rfl)
              refine pure_ (i:=30) (N:=some 63) (v:=?_) (a' := ?_) #[T,T,T,T,T,T,T,T,T,T,T,T,T,T,T,T,T,T,T,T,T,T,T,T,T,T,T,T,T,T,T,F,F,F,F,F,F,F,F,F,F,F,F,F,F,F,F,F,F] rfl rfl (any_of HT_.out (by kernel_rfl)) (fun _ _ _ h => h) (Or.inl ⟨by rfl,?_⟩) ?_ ?_
              rotate_left;(intro w';go_simp;with_reducible rfl);rotate_left;(simp only [pq];rfl)
              refine pure_ (i:=31) (N:=some 64) (v:=undef) (a' := ?_) #[T,T,T,T,T,T,T,T,T,T,T,T,T,T,T,T,T,T,T,T,T,T,T,T,T,T,T,T,T,T,T,T,F,F,F,F,F,F,F,F,F,F,F,F,F,F,F,F,F] rfl rfl (any_of HT_.out (by kernel_rfl)) (fun _ _ _ h => h) (Or.inr ⟨by rfl,rfl⟩) ?_ ?_
              rotate_left
              · simp only [pq]
                rfl
              refine pure_ (i:=32) (N:=some 65) (v:=undef) (a' := ?_) #[T,T,T,T,T,T,T,T,T,T,T,T,T,T,T,T,T,T,T,T,T,T,T,T,T,T,T,T,T,T,T,T,T,F,F,F,F,F,F,F,F,F,F,F,F,F,F,F,F] rfl rfl (any_of HT_.out (by kernel_rfl)) (fun _ _ _ h => h) (Or.inr ⟨by rfl,rfl⟩) ?_ ?_
              rotate_left
              · simp only [pq]
                rfl
              refine pure_ (i:=33) (N:=some 66) (v:=undef) (a' := ?_) #[T,T,T,T,T,T,T,T,T,T,T,T,T,T,T,T,T,T,T,T,T,T,T,T,T,T,T,T,T,T,T,T,T,T,F,F,F,F,F,F,F,F,F,F,F,F,F,F,F] rfl rfl (any_of HT_.out (by kernel_rfl)) (fun _ _ _ h => h) (Or.inr ⟨by rfl,rfl⟩) ?_ ?_
              rotate_left
              · simp only [pq]
                rfl
              refine pure_ (i:=34) (N:=some 67) (v:=undef) (a' := ?_) #[T,T,T,T,T,T,T,T,T,T,T,T,T,T,T,T,T,T,T,T,T,T,T,T,T,T,T,T,T,T,T,T,T,T,T,F,F,F,F,F,F,F,F,F,F,F,F,F,F] rfl rfl (any_of HT_.out (by kernel_rfl)) (fun _ _ _ h => h) (Or.inr ⟨by rfl,rfl⟩) ?_ ?_
              rotate_left
              · simp only [pq]
                rfl
              refine pure_ (i:=35) (N:=some 68) (v:=undef) (a' := ?_) #[T,T,T,T,T,T,T,T,T,T,T,T,T,T,T,T,T,T,T,T,T,T,T,T,T,T,T,T,T,T,T,T,T,T,T,T,F,F,F,F,F,F,F,F,F,F,F,F,F] rfl rfl (any_of HT_.out (by kernel_rfl)) (fun _ _ _ h => h) (Or.inr ⟨by rfl,rfl⟩) ?_ ?_
              rotate_left
              · simp only [pq]
                rfl
              refine pure_ (i:=36) (N:=some 69) (v:=undef) (a' := ?_) #[T,T,T,T,T,T,T,T,T,T,T,T,T,T,T,T,T,T,T,T,T,T,T,T,T,T,T,T,T,T,T,T,T,T,T,T,T,F,F,F,F,F,F,F,F,F,F,F,F] rfl rfl (any_of HT_.out (by kernel_rfl)) (fun _ _ _ h => h) (Or.inr ⟨by rfl,rfl⟩) ?_ ?_
              rotate_left
              · simp only [pq]
                rfl
              refine pure_ (i:=37) (N:=some 70) (v:=?_) (a' := ?_) #[T,T,T,T,T,T,T,T,T,T,T,T,T,T,T,T,T,T,T,T,T,T,T,T,T,T,T,T,T,T,T,T,T,T,T,T,T,T,F,F,F,F,F,F,F,F,F,F,F] rfl rfl (any_of HT_.out (by kernel_rfl)) (fun _ _ _ h => h) (Or.inl ⟨by rfl,?_⟩) ?_ ?_
              rotate_left;(intro w';go_simp;with_reducible rfl);rotate_left;(simp only [pq];rfl)
              refine pure_ (i:=38) (N:=some 71) (v:=?_) (a' := ?_) #[T,T,T,T,T,T,T,T,T,T,T,T,T,T,T,T,T,T,T,T,T,T,T,T,T,T,T,T,T,T,T,T,T,T,T,T,T,T,T,F,F,F,F,F,F,F,F,F,F] rfl rfl (any_of HT_.out (by kernel_rfl)) (fun _ _ _ h => h) (Or.inl ⟨by rfl,?_⟩) ?_ ?_
              rotate_left;(intro w';go_simp;with_reducible rfl);rotate_left;(simp only [pq];rfl)
              refine pure_ (i:=39) (N:=some 72) (v:=undef) (a' := ?_) #[T,T,T,T,T,T,T,T,T,T,T,T,T,T,T,T,T,T,T,T,T,T,T,T,T,T,T,T,T,T,T,T,T,T,T,T,T,T,T,T,F,F,F,F,F,F,F,F,F] rfl rfl (any_of HT_.out (by kernel_rfl)) (fun _ _ _ h => h) (Or.inr ⟨by rfl,rfl⟩) ?_ ?_
              rotate_left
              · simp only [pq]
                rfl
              refine pure_ (i:=40) (N:=some 73) (v:=undef) (a' := ?_) #[T,T,T,T,T,T,T,T,T,T,T,T,T,T,T,T,T,T,T,T,T,T,T,T,T,T,T,T,T,T,T,T,T,T,T,T,T,T,T,T,T,F,F,F,F,F,F,F,F] rfl rfl (any_of HT_.out (by kernel_rfl)) (fun _ _ _ h => h) (Or.inr ⟨by rfl,rfl⟩) ?_ ?_
              rotate_left
              · simp only [pq]
                rfl
              refine pure_ (i:=41) (N:=some 74) (v:=undef) (a' := ?_) #[T,T,T,T,T,T,T,T,T,T,T,T,T,T,T,T,T,T,T,T,T,T,T,T,T,T,T,T,T,T,T,T,T,T,T,T,T,T,T,T,T,T,F,F,F,F,F,F,F] rfl rfl (any_of HT_.out (by kernel_rfl)) (fun _ _ _ h => h) (Or.inr ⟨by rfl,rfl⟩) ?_ ?_
              rotate_left
              · simp only [pq]
                rfl
              refine pure_ (i:=42) (N:=some 75) (v:=undef) (a' := ?_) #[T,T,T,T,T,T,T,T,T,T,T,T,T,T,T,T,T,T,T,T,T,T,T,T,T,T,T,T,T,T,T,T,T,T,T,T,T,T,T,T,T,T,T,F,F,F,F,F,F] rfl rfl (any_of HT_.out (by kernel_rfl)) (fun _ _ _ h => h) (Or.inr ⟨by rfl,rfl⟩) ?_ ?_
              rotate_left
              · simp only [pq]
                rfl
              refine pure_ (i:=43) (N:=some 76) (v:=undef) (a' := ?_) #[T,T,T,T,T,T,T,T,T,T,T,T,T,T,T,T,T,T,T,T,T,T,T,T,T,T,T,T,T,T,T,T,T,T,T,T,T,T,T,T,T,T,T,T,F,F,F,F,F] rfl rfl (any_of HT_.out (by kernel_rfl)) (fun _ _ _ h => h) (Or.inr ⟨by rfl,rfl⟩) ?_ ?_
              rotate_left
              · simp only [pq]
                rfl
              refine pure_ (i:=44) (N:=some 77) (v:=undef) (a' := ?_) #[T,T,T,T,T,T,T,T,T,T,T,T,T,T,T,T,T,T,T,T,T,T,T,T,T,T,T,T,T,T,T,T,T,T,T,T,T,T,T,T,T,T,T,T,T,F,F,F,F] rfl rfl (any_of HT_.out (by kernel_rfl)) (fun _ _ _ h => h) (Or.inr ⟨by rfl,rfl⟩) ?_ ?_
              rotate_left
              · simp only [pq]
                rfl
              refine pure_ (i:=45) (N:=some 78) (v:=undef) (a' := ?_) #[T,T,T,T,T,T,T,T,T,T,T,T,T,T,T,T,T,T,T,T,T,T,T,T,T,T,T,T,T,T,T,T,T,T,T,T,T,T,T,T,T,T,T,T,T,T,F,F,F] rfl rfl (any_of HT_.out (by kernel_rfl)) (fun _ _ _ h => h) (Or.inr ⟨by rfl,rfl⟩) ?_ ?_
              rotate_left
              · simp only [pq]
                rfl
              refine pure_ (i:=46) (N:=some 79) (v:=undef) (a' := ?_) #[T,T,T,T,T,T,T,T,T,T,T,T,T,T,T,T,T,T,T,T,T,T,T,T,T,T,T,T,T,T,T,T,T,T,T,T,T,T,T,T,T,T,T,T,T,T,T,F,F] rfl rfl (any_of HT_.out (by kernel_rfl)) (fun _ _ _ h => h) (Or.inr ⟨by rfl,rfl⟩) ?_ ?_
              rotate_left
              · simp only [pq]
                rfl
              refine pure_ (i:=47) (N:=some 80) (v:=undef) (a' := ?_) #[T,T,T,T,T,T,T,T,T,T,T,T,T,T,T,T,T,T,T,T,T,T,T,T,T,T,T,T,T,T,T,T,T,T,T,T,T,T,T,T,T,T,T,T,T,T,T,T,F] rfl rfl (any_of HT_.out (by kernel_rfl)) (fun _ _ _ h => h) (Or.inr ⟨by rfl,rfl⟩) ?_ ?_
              rotate_left
              · simp only [pq]
                rfl
              refine pure_ (i:=48) (N:=some 81) (v:=?_) (a' := ?_) #[T,T,T,T,T,T,T,T,T,T,T,T,T,T,T,T,T,T,T,T,T,T,T,T,T,T,T,T,T,T,T,T,T,T,T,T,T,T,T,T,T,T,T,T,T,T,T,T,T] rfl rfl (any_of HT_.out (by kernel_rfl)) (fun _ _ _ h => h) (Or.inl ⟨by rfl,?_⟩) ?_ ?_
              rotate_left;(intro w';go_simp;with_reducible rfl);rotate_left;(simp only [pq];rfl)
              refine done_ (done_of HT_.out (by kernel_rfl)) ?_
              try go_wp2
              go_meet
              case rel => exact ⟨_,(true),(by first | rfl | (simp;done) | (simp [*];done)),H',⟨by have:=HK1.out;first | omega | exact Nat.le_refl _⟩,⟨by (with_reducible repeat (first | apply Kd.R_alloc | apply Kd.R_drewN | apply Kd.R_drew));exact HO_6.out⟩,⟨by (with_reducible repeat (first | apply Kd.S_alloc | apply Kd.S_drewN | apply Kd.S_drew));exact HO_7.out⟩,⟨by (with_reducible repeat (first | apply Kd.R_alloc | apply Kd.R_drewN | apply Kd.R_drew));exact HO_508000.out⟩,⟨by (with_reducible repeat (first | apply Kd.R_alloc | apply Kd.R_drewN | apply Kd.R_drew));exact HO_508001.out⟩,⟨by (with_reducible repeat (first | apply Kd.S_alloc | apply Kd.S_drewN | apply Kd.S_drew));exact HO_508004.out⟩,⟨by (with_reducible repeat (first | refine blk_drewN ?_ _ | refine blk_drew ?_ | refine blk_alloc ?_ _));exact BK507.out⟩,⟨by repeat (first | (with_reducible first | exact HB.out | apply below_alloc | apply pw_below_drewN | apply below_drew1 | refine below_set ?_ GE507.out) | exact HB.out)⟩⟩
            · rw [if_neg c25] at H
              have c25b0 : decide ((t504.length : Int) ≤ ((rd_T50 t511 x8_1).f3)) = false:=decide_eq_false c25
              clear c25
              by_cases c27 : ((rd_T50 t511 x8_1).f0) < 0
              · rw [if_pos c27] at H
                have c27b0 : decide (((rd_T50 t511 x8_1).f0) < 0) = true:=decide_eq_true c27
                clear c27
                have H' := Aside0.mk H
                clear H
                try go_wp2
                have n0_:=Aside0.mk (Kd.R_drew HO_6.out)
                have n1_:=Aside0.mk (Kd.S_drew HO_7.out)
                have n2_:=Aside0.mk (Kd.R_drew HO_508000.out)
                have n3_:=Aside0.mk (Kd.R_drew HO_508001.out)
                have n4_:=Aside0.mk (Kd.S_drew HO_508004.out)
                have n5_:=Aside0.mk (blk_drew BK507.out)
                have n6_:=Aside0.mk (below_drew1 HB.out)
                clear HO_6
                clear HO_7
                clear HO_508000
                clear HO_508001
                clear HO_508004
                clear BK507
                clear HB
                have HO_6:=n0_
                have HO_7:=n1_
                have HO_508000:=n2_
                have HO_508001:=n3_
                have HO_508004:=n4_
                have BK507:=n5_
                have HB:=n6_
                clear n0_ n1_ n2_ n3_ n4_ n5_ n6_
                have p517 : 0 ≤ (x8_1 : Int) := of_decide_eq_true (by first | (with_reducible assumption) | assumption)
                have q517 : x8_1 < (t511.length : Int) := of_decide_eq_true (by first | (with_reducible assumption) | assumption)
                obtain ⟨ad517,e517,hx517_0,hx517_1,hx517_2,hx517_3⟩ := at_T50 (Kd.R_reads' HO_6.out).2.2 x8_1 p517 q517
                cases e517
                replace p517:=eq_true p517
                replace q517:=eq_true q517
                have p518 : 0 ≤ (x8_1 : Int) := of_decide_eq_true (by first | (with_reducible assumption) | assumption)
                have q518 : x8_1 < (t511.length : Int) := of_decide_eq_true (by first | (with_reducible assumption) | assumption)
                obtain ⟨ad518,e518,hx518_0,hx518_1,hx518_2,hx518_3⟩ := at_T50 (Kd.R_reads' HO_6.out).2.2 x8_1 p518 q518
                obtain rfl : ad517 = ad518:=(by injection e518)
                replace p518:=eq_true p518
                replace q518:=eq_true q518
                have p519 : 0 ≤ (x8_1 : Int) := of_decide_eq_true (by first | (with_reducible assumption) | assumption)
                have q519 : x8_1 < (t511.length : Int) := of_decide_eq_true (by first | (with_reducible assumption) | assumption)
                obtain ⟨ad519,e519,hx519_0,hx519_1,hx519_2,hx519_3⟩ := at_T50 (Kd.R_reads' HO_6.out).2.2 x8_1 p519 q519
                obtain rfl : ad517 = ad519:=(by injection e519)
                replace p519:=eq_true p519
                replace q519:=eq_true q519
                have p520 : 0 ≤ (x8_1 : Int) := of_decide_eq_true (by first | (with_reducible assumption) | assumption)
                have q520 : x8_1 < (t511.length : Int) := of_decide_eq_true (by first | (with_reducible assumption) | assumption)
                obtain ⟨ad520,e520,hx520_0,hx520_1,hx520_2,hx520_3⟩ := at_T50 (Kd.R_reads' HO_6.out).2.2 x8_1 p520 q520
                obtain rfl : ad517 = ad520:=(by injection e520)
                replace p520:=eq_true p520
                replace q520:=eq_true q520
                have p521 : 0 ≤ (x8_1 : Int) := of_decide_eq_true (by first | (with_reducible assumption) | assumption)
                have q521 : x8_1 < (t511.length : Int) := of_decide_eq_true (by first | (with_reducible assumption) | assumption)
                obtain ⟨ad521,e521,hx521_0,hx521_1,hx521_2,hx521_3⟩ := at_T50 (Kd.R_reads' HO_6.out).2.2 x8_1 p521 q521
                obtain rfl : ad517 = ad521:=(by injection e521)
                replace p521:=eq_true p521
                replace q521:=eq_true q521
                refine start_ (n:=49) (S:=fun w' => w'.cell? ⟨gb507,0,none⟩ = some (.slice Ao10 t496.length co10) ∧ w'.cell? ⟨gb507,1,none⟩ = some (.slice Ao12 t499.length co12) ∧ w'.cell? ⟨gb507,2,none⟩ = some (.int .i64 t502) ∧ w'.cell? ⟨gb507,3,none⟩ = some (.int .i64 t503) ∧ w'.cell? ⟨gb507,4,none⟩ = some (.slice Ao13 t504.length co13) ∧ w'.cell? (ad517.add ((x8_1).toNat * 4)) = some (.int .i64 ((rd_T50 t511 x8_1).f0)) ∧ w'.cell? ⟨(ad517.add ((x8_1).toNat * 4)).block,(ad517.add ((x8_1).toNat * 4)).off + 1,none⟩ = some (.int .i64 ((rd_T50 t511 x8_1).f1)) ∧ w'.cell? ⟨(ad517.add ((x8_1).toNat * 4)).block,(ad517.add ((x8_1).toNat * 4)).off + 2,none⟩ = some (.int .i64 ((rd_T50 t511 x8_1).f2)) ∧ w'.cell? ⟨(ad517.add ((x8_1).toNat * 4)).block,(ad517.add ((x8_1).toNat * 4)).off + 3,none⟩ = some (.int .i64 ((rd_T50 t511 x8_1).f3)) ∧ w'.cell? (ad517.add ((x8_1).toNat * 4)) = some (.int .i64 ((rd_T50 t511 x8_1).f0)) ∧ w'.cell? ⟨(ad517.add ((x8_1).toNat * 4)).block,(ad517.add ((x8_1).toNat * 4)).off + 1,none⟩ = some (.int .i64 ((rd_T50 t511 x8_1).f1)) ∧ w'.cell? ⟨(ad517.add ((x8_1).toNat * 4)).block,(ad517.add ((x8_1).toNat * 4)).off + 2,none⟩ = some (.int .i64 ((rd_T50 t511 x8_1).f2)) ∧ w'.cell? ⟨(ad517.add ((x8_1).toNat * 4)).block,(ad517.add ((x8_1).toNat * 4)).off + 3,none⟩ = some (.int .i64 ((rd_T50 t511 x8_1).f3)) ∧ w'.cell? (ad517.add ((x8_1).toNat * 4)) = some (.int .i64 ((rd_T50 t511 x8_1).f0)) ∧ w'.cell? ⟨(ad517.add ((x8_1).toNat * 4)).block,(ad517.add ((x8_1).toNat * 4)).off + 1,none⟩ = some (.int .i64 ((rd_T50 t511 x8_1).f1)) ∧ w'.cell? ⟨(ad517.add ((x8_1).toNat * 4)).block,(ad517.add ((x8_1).toNat * 4)).off + 2,none⟩ = some (.int .i64 ((rd_T50 t511 x8_1).f2)) ∧ w'.cell? ⟨(ad517.add ((x8_1).toNat * 4)).block,(ad517.add ((x8_1).toNat * 4)).off + 3,none⟩ = some (.int .i64 ((rd_T50 t511 x8_1).f3)) ∧ w'.cell? (ad517.add ((x8_1).toNat * 4)) = some (.int .i64 ((rd_T50 t511 x8_1).f0)) ∧ w'.cell? ⟨(ad517.add ((x8_1).toNat * 4)).block,(ad517.add ((x8_1).toNat * 4)).off + 1,none⟩ = some (.int .i64 ((rd_T50 t511 x8_1).f1)) ∧ w'.cell? ⟨(ad517.add ((x8_1).toNat * 4)).block,(ad517.add ((x8_1).toNat * 4)).off + 2,none⟩ = some (.int .i64 ((rd_T50 t511 x8_1).f2)) ∧ w'.cell? ⟨(ad517.add ((x8_1).toNat * 4)).block,(ad517.add ((x8_1).toNat * 4)).off + 3,none⟩ = some (.int .i64 ((rd_T50 t511 x8_1).f3)) ∧ w'.cell? (ad517.add ((x8_1).toNat * 4)) = some (.int .i64 ((rd_T50 t511 x8_1).f0)) ∧ w'.cell? ⟨(ad517.add ((x8_1).toNat * 4)).block,(ad517.add ((x8_1).toNat * 4)).off + 1,none⟩ = some (.int .i64 ((rd_T50 t511 x8_1).f1)) ∧ w'.cell? ⟨(ad517.add ((x8_1).toNat * 4)).block,(ad517.add ((x8_1).toNat * 4)).off + 2,none⟩ = some (.int .i64 ((rd_T50 t511 x8_1).f2)) ∧ w'.cell? ⟨(ad517.add ((x8_1).toNat * 4)).block,(ad517.add ((x8_1).toNat * 4)).off + 3,none⟩ = some (.int .i64 ((rd_T50 t511 x8_1).f3))) (ds := []) #[F,F,F,F,F,F,F,F,F,F,F,F,F,F,F,F,F,F,F,F,F,F,F,F,F,F,F,F,F,F,F,F,F,F,F,F,F,F,F,F,F,F,F,F,F,F,F,F,F] (by kernel_rfl) rfl rfl ⟨(blk_cell BK507.out 0).trans rfl,(blk_cell BK507.out 1).trans rfl,(blk_cell BK507.out 2).trans rfl,(blk_cell BK507.out 3).trans rfl,(blk_cell BK507.out 4).trans rfl,hx517_0,hx517_1,hx517_2,hx517_3,hx518_0,hx518_1,hx518_2,hx518_3,hx519_0,hx519_1,hx519_2,hx519_3,hx520_0,hx520_1,hx520_2,hx520_3,hx521_0,hx521_1,hx521_2,hx521_3⟩ (fun hHeld => ?_);refine with_tabW regletlaw14_PredictClashes.tab10 regletlaw14_PredictClashes.bits10 (fun HT_ HW_ => ?_)
                generalize wr.drew = w28 at HO_6 HO_7 HO_508000 HO_508001 HO_508004 BK507 HB hx517_0 hx517_1 hx517_2 hx517_3 hx518_0 hx518_1 hx518_2 hx518_3 hx519_0 hx519_1 hx519_2 hx519_3 hx520_0 hx520_1 hx520_2 hx520_3 hx521_0 hx521_1 hx521_2 hx521_3 hHeld ⊢
                refine pure_ (i:=0) (N:=some 33) (v:=?_) (a' := ?_) #[T,F,F,F,F,F,F,F,F,F,F,F,F,F,F,F,F,F,F,F,F,F,F,F,F,F,F,F,F,F,F,F,F,F,F,F,F,F,F,F,F,F,F,F,F,F,F,F,F] rfl rfl (any_of HT_.out (by kernel_rfl)) (fun _ _ _ h => h) (Or.inl ⟨by rfl,?_⟩) ?_ ?_
                rotate_left;(intro w';go_simp;with_reducible rfl);rotate_left;(simp only [pq];rfl)
                refine pure_ (i:=1) (N:=some 34) (v:=?_) (a' := ?_) #[T,T,F,F,F,F,F,F,F,F,F,F,F,F,F,F,F,F,F,F,F,F,F,F,F,F,F,F,F,F,F,F,F,F,F,F,F,F,F,F,F,F,F,F,F,F,F,F,F] rfl rfl (any_of HT_.out (by kernel_rfl)) (fun _ _ _ h => h) (Or.inl ⟨by rfl,?_⟩) ?_ ?_
                rotate_left;(intro w';go_simp;with_reducible rfl);rotate_left;(simp only [pq];rfl)
                refine pure_ (i:=2) (N:=some 35) (v:=?_) (a' := ?_) #[T,T,T,F,F,F,F,F,F,F,F,F,F,F,F,F,F,F,F,F,F,F,F,F,F,F,F,F,F,F,F,F,F,F,F,F,F,F,F,F,F,F,F,F,F,F,F,F,F] rfl rfl (any_of HT_.out (by kernel_rfl)) (fun _ _ _ h => h) (Or.inl ⟨by rfl,?_⟩) ?_ ?_
                rotate_left;(intro w';go_simp;with_reducible rfl);rotate_left;(simp only [pq];rfl)
                refine pure_ (i:=3) (N:=some 36) (v:=?_) (a' := ?_) #[T,T,T,T,F,F,F,F,F,F,F,F,F,F,F,F,F,F,F,F,F,F,F,F,F,F,F,F,F,F,F,F,F,F,F,F,F,F,F,F,F,F,F,F,F,F,F,F,F] rfl rfl (any_of HT_.out (by kernel_rfl)) (fun _ _ _ h => h) (Or.inl ⟨by rfl,?_⟩) ?_ ?_
                rotate_left;(intro w';go_simp;with_reducible rfl);rotate_left;(simp only [pq];rfl)
                refine take_ (i:=4) (N:=some 37) (v:=?_) (a' := ?_) #[T,T,T,T,T,F,F,F,F,F,F,F,F,F,F,F,F,F,F,F,F,F,F,F,F,F,F,F,F,F,F,F,F,F,F,F,F,F,F,F,F,F,F,F,F,F,F,F,F] rfl rfl (take_ofW HT_.out HW_.out (by kernel_rfl)) (fun _ _ _ h => h) (Or.inl ⟨by rfl,?_⟩) hHeld ?_ ?_
                rotate_left
                · rintro w' ⟨s0,s1,s2,s3,s4,s5,s6,s7,s8,s9,s10,s11,s12,s13,s14,s15,s16,s17,s18,s19,s20,s21,s22,s23,s24⟩
                  go_simp
                  with_reducible rfl
                rotate_left
                · simp only [pq]
                  rfl
                refine pure_ (i:=5) (N:=some 38) (v:=?_) (a' := ?_) #[T,T,T,T,T,T,F,F,F,F,F,F,F,F,F,F,F,F,F,F,F,F,F,F,F,F,F,F,F,F,F,F,F,F,F,F,F,F,F,F,F,F,F,F,F,F,F,F,F] rfl rfl (any_of HT_.out (by kernel_rfl)) (fun _ _ _ h => h) (Or.inl ⟨by rfl,?_⟩) ?_ ?_
                rotate_left;(intro w';go_simp;with_reducible rfl);rotate_left;(simp only [pq];rfl)
                refine pure_ (i:=6) (N:=some 39) (v:=?_) (a' := ?_) #[T,T,T,T,T,T,T,F,F,F,F,F,F,F,F,F,F,F,F,F,F,F,F,F,F,F,F,F,F,F,F,F,F,F,F,F,F,F,F,F,F,F,F,F,F,F,F,F,F] rfl rfl (any_of HT_.out (by kernel_rfl)) (fun _ _ _ h => h) (Or.inl ⟨by rfl,?_⟩) ?_ ?_
                rotate_left;(intro w';go_simp;with_reducible rfl);rotate_left;(simp only [pq];rfl)
                refine pure_ (i:=7) (N:=some 40) (v:=?_) (a' := ?_) #[T,T,T,T,T,T,T,T,F,F,F,F,F,F,F,F,F,F,F,F,F,F,F,F,F,F,F,F,F,F,F,F,F,F,F,F,F,F,F,F,F,F,F,F,F,F,F,F,F] rfl rfl (any_of HT_.out (by kernel_rfl)) (fun _ _ _ h => h) (Or.inl ⟨by rfl,?_⟩) ?_ ?_
                rotate_left;(intro w';go_simp;with_reducible rfl);rotate_left;(simp only [pq];rfl)
                refine pure_ (i:=8) (N:=some 41) (v:=?_) (a' := ?_) #[T,T,T,T,T,T,T,T,T,F,F,F,F,F,F,F,F,F,F,F,F,F,F,F,F,F,F,F,F,F,F,F,F,F,F,F,F,F,F,F,F,F,F,F,F,F,F,F,F] rfl rfl (any_of HT_.out (by kernel_rfl)) (fun _ _ _ h => h) (Or.inl ⟨by rfl,?_⟩) ?_ ?_
                rotate_left;(intro w';go_simp;with_reducible rfl);rotate_left;(simp only [pq];rfl)
                refine pure_ (i:=9) (N:=some 42) (v:=?_) (a' := ?_) #[T,T,T,T,T,T,T,T,T,T,F,F,F,F,F,F,F,F,F,F,F,F,F,F,F,F,F,F,F,F,F,F,F,F,F,F,F,F,F,F,F,F,F,F,F,F,F,F,F] rfl rfl (any_of HT_.out (by kernel_rfl)) (fun _ _ _ h => h) (Or.inl ⟨by rfl,?_⟩) ?_ ?_
                rotate_left;(intro w';go_simp;with_reducible rfl);rotate_left;(simp only [pq];rfl)
                refine pure_ (i:=10) (N:=some 43) (v:=?_) (a' := ?_) #[T,T,T,T,T,T,T,T,T,T,T,F,F,F,F,F,F,F,F,F,F,F,F,F,F,F,F,F,F,F,F,F,F,F,F,F,F,F,F,F,F,F,F,F,F,F,F,F,F] rfl rfl (any_of HT_.out (by kernel_rfl)) (fun _ _ _ h => h) (Or.inl ⟨by rfl,?_⟩) ?_ ?_
                rotate_left;(intro w';go_simp;with_reducible rfl);rotate_left;(simp only [pq];rfl)
                refine pure_ (i:=12) (N:=some 45) (v:=?_) (a' := ?_) #[T,T,T,T,T,T,T,T,T,T,T,F,T,F,F,F,F,F,F,F,F,F,F,F,F,F,F,F,F,F,F,F,F,F,F,F,F,F,F,F,F,F,F,F,F,F,F,F,F] rfl rfl (any_of HT_.out (by kernel_rfl)) (fun _ _ _ h => h) (Or.inl ⟨by rfl,?_⟩) ?_ ?_
                rotate_left;(intro w';go_simp;with_reducible rfl);rotate_left;(simp only [pq];rfl)
                refine pure_ (i:=13) (N:=some 46) (v:=?_) (a' := ?_) #[T,T,T,T,T,T,T,T,T,T,T,F,T,T,F,F,F,F,F,F,F,F,F,F,F,F,F,F,F,F,F,F,F,F,F,F,F,F,F,F,F,F,F,F,F,F,F,F,F] rfl rfl (any_of HT_.out (by kernel_rfl)) (fun _ _ _ h => h) (Or.inl ⟨by rfl,?_⟩) ?_ ?_
                rotate_left;(intro w';go_simp;with_reducible rfl);rotate_left;(simp only [pq];rfl)
                refine pure_ (i:=14) (N:=some 47) (v:=?_) (a' := ?_) #[T,T,T,T,T,T,T,T,T,T,T,F,T,T,T,F,F,F,F,F,F,F,F,F,F,F,F,F,F,F,F,F,F,F,F,F,F,F,F,F,F,F,F,F,F,F,F,F,F] rfl rfl (any_of HT_.out (by kernel_rfl)) (fun _ _ _ h => h) (Or.inl ⟨by rfl,?_⟩) ?_ ?_
                rotate_left;(intro w';go_simp;with_reducible rfl);rotate_left;(simp only [pq];rfl)
                refine pure_ (i:=15) (N:=some 48) (v:=?_) (a' := ?_) #[T,T,T,T,T,T,T,T,T,T,T,F,T,T,T,T,F,F,F,F,F,F,F,F,F,F,F,F,F,F,F,F,F,F,F,F,F,F,F,F,F,F,F,F,F,F,F,F,F] rfl rfl (any_of HT_.out (by kernel_rfl)) (fun _ _ _ h => h) (Or.inl ⟨by rfl,?_⟩) ?_ ?_
                rotate_left;(intro w';go_simp;with_reducible rfl);rotate_left;(simp only [pq];rfl)
                refine take_ (i:=11) (N:=some 44) (v:=?_) (a' := ?_) #[T,T,T,T,T,T,T,T,T,T,T,T,T,T,T,T,F,F,F,F,F,F,F,F,F,F,F,F,F,F,F,F,F,F,F,F,F,F,F,F,F,F,F,F,F,F,F,F,F] rfl rfl (take_ofW HT_.out HW_.out (by kernel_rfl)) (fun _ _ _ h => h) (Or.inl ⟨by rfl,?_⟩) hHeld ?_ ?_
                rotate_left
                · rintro w' ⟨s0,s1,s2,s3,s4,s5,s6,s7,s8,s9,s10,s11,s12,s13,s14,s15,s16,s17,s18,s19,s20,s21,s22,s23,s24⟩
                  go_simp
                  with_reducible rfl
                rotate_left
                · simp only [pq]
                  rfl
                refine take_ (i:=16) (N:=some 49) (v:=?_) (a' := ?_) #[T,T,T,T,T,T,T,T,T,T,T,T,T,T,T,T,T,F,F,F,F,F,F,F,F,F,F,F,F,F,F,F,F,F,F,F,F,F,F,F,F,F,F,F,F,F,F,F,F] rfl rfl (take_ofW HT_.out HW_.out (by kernel_rfl)) (fun _ _ _ h => h) (Or.inl ⟨by rfl,?_⟩) hHeld ?_ ?_
                rotate_left
                · rintro w' ⟨s0,s1,s2,s3,s4,s5,s6,s7,s8,s9,s10,s11,s12,s13,s14,s15,s16,s17,s18,s19,s20,s21,s22,s23,s24⟩
                  go_simp
                  with_reducible rfl
                rotate_left
                · simp only [pq]
                  rfl
                refine pure_ (i:=17) (N:=some 50) (v:=?_) (a' := ?_) #[T,T,T,T,T,T,T,T,T,T,T,T,T,T,T,T,T,T,F,F,F,F,F,F,F,F,F,F,F,F,F,F,F,F,F,F,F,F,F,F,F,F,F,F,F,F,F,F,F] rfl rfl (any_of HT_.out (by kernel_rfl)) (fun _ _ _ h => h) (Or.inl ⟨by rfl,?_⟩) ?_ ?_
                rotate_left;(intro w';go_simp;with_reducible rfl);rotate_left;(simp only [pq];rfl)
                refine pure_ (i:=18) (N:=some 51) (v:=?_) (a' := ?_) #[T,T,T,T,T,T,T,T,T,T,T,T,T,T,T,T,T,T,T,F,F,F,F,F,F,F,F,F,F,F,F,F,F,F,F,F,F,F,F,F,F,F,F,F,F,F,F,F,F] rfl rfl (any_of HT_.out (by kernel_rfl)) (fun _ _ _ h => h) (Or.inl ⟨by rfl,?_⟩) ?_ ?_
                rotate_left;(intro w';go_simp;with_reducible rfl);rotate_left;(simp only [pq];rfl)
                refine pure_ (i:=19) (N:=some 52) (v:=?_) (a' := ?_) #[T,T,T,T,T,T,T,T,T,T,T,T,T,T,T,T,T,T,T,T,F,F,F,F,F,F,F,F,F,F,F,F,F,F,F,F,F,F,F,F,F,F,F,F,F,F,F,F,F] rfl rfl (any_of HT_.out (by kernel_rfl)) (fun _ _ _ h => h) (Or.inl ⟨by rfl,?_⟩) ?_ ?_
                rotate_left;(intro w';go_simp;with_reducible rfl);rotate_left;(simp only [pq];rfl)
                refine pure_ (i:=20) (N:=some 53) (v:=?_) (a' := ?_) #[T,T,T,T,T,T,T,T,T,T,T,T,T,T,T,T,T,T,T,T,T,F,F,F,F,F,F,F,F,F,F,F,F,F,F,F,F,F,F,F,F,F,F,F,F,F,F,F,F] rfl rfl (any_of HT_.out (by kernel_rfl)) (fun _ _ _ h => h) (Or.inl ⟨by rfl,?_⟩) ?_ ?_
                rotate_left;(intro w';go_simp;with_reducible rfl);rotate_left;(simp only [pq];rfl)
                refine pure_ (i:=21) (N:=some 54) (v:=?_) (a' := ?_) #[T,T,T,T,T,T,T,T,T,T,T,T,T,T,T,T,T,T,T,T,T,T,F,F,F,F,F,F,F,F,F,F,F,F,F,F,F,F,F,F,F,F,F,F,F,F,F,F,F] rfl rfl (any_of HT_.out (by kernel_rfl)) (fun _ _ _ h => h) (Or.inl ⟨by rfl,?_⟩) ?_ ?_
                rotate_left;(intro w';go_simp;with_reducible rfl);rotate_left;(simp only [pq];rfl)
                refine pure_ (i:=22) (N:=some 55) (v:=?_) (a' := ?_) #[T,T,T,T,T,T,T,T,T,T,T,T,T,T,T,T,T,T,T,T,T,T,T,F,F,F,F,F,F,F,F,F,F,F,F,F,F,F,F,F,F,F,F,F,F,F,F,F,F] rfl rfl (any_of HT_.out (by kernel_rfl)) (fun _ _ _ h => h) (Or.inl ⟨by rfl,?_⟩) ?_ ?_
                rotate_left;(intro w';go_simp;with_reducible rfl);rotate_left;(simp only [pq];rfl)
                refine pure_ (i:=23) (N:=some 56) (v:=?_) (a' := ?_) #[T,T,T,T,T,T,T,T,T,T,T,T,T,T,T,T,T,T,T,T,T,T,T,T,F,F,F,F,F,F,F,F,F,F,F,F,F,F,F,F,F,F,F,F,F,F,F,F,F] rfl rfl (any_of HT_.out (by kernel_rfl)) (fun _ _ _ h => h) (Or.inl ⟨by rfl,?_⟩) ?_ ?_
                rotate_left;(intro w';go_simp;with_reducible rfl);rotate_left;(simp only [pq];rfl)
                refine pure_ (i:=25) (N:=some 58) (v:=?_) (a' := ?_) #[T,T,T,T,T,T,T,T,T,T,T,T,T,T,T,T,T,T,T,T,T,T,T,T,F,T,F,F,F,F,F,F,F,F,F,F,F,F,F,F,F,F,F,F,F,F,F,F,F] rfl rfl (any_of HT_.out (by kernel_rfl)) (fun _ _ _ h => h) (Or.inl ⟨by rfl,?_⟩) ?_ ?_
                rotate_left;(intro w';go_simp;with_reducible rfl);rotate_left;(simp only [pq];rfl)
                refine take_ (i:=24) (N:=some 57) (v:=?_) (a' := ?_) #[T,T,T,T,T,T,T,T,T,T,T,T,T,T,T,T,T,T,T,T,T,T,T,T,T,T,F,F,F,F,F,F,F,F,F,F,F,F,F,F,F,F,F,F,F,F,F,F,F] rfl rfl (take_ofW HT_.out HW_.out (by kernel_rfl)) (fun _ _ _ h => h) (Or.inl ⟨by rfl,?_⟩) hHeld ?_ ?_
                rotate_left
                · rintro w' ⟨s0,s1,s2,s3,s4,s5,s6,s7,s8,s9,s10,s11,s12,s13,s14,s15,s16,s17,s18,s19,s20,s21,s22,s23,s24⟩
                  go_simp
                  with_reducible rfl
                rotate_left
                · simp only [pq]
                  rfl
                refine take_ (i:=26) (N:=some 59) (v:=?_) (a' := ?_) #[T,T,T,T,T,T,T,T,T,T,T,T,T,T,T,T,T,T,T,T,T,T,T,T,T,T,T,F,F,F,F,F,F,F,F,F,F,F,F,F,F,F,F,F,F,F,F,F,F] rfl rfl (take_ofW HT_.out HW_.out (by kernel_rfl)) (fun _ _ _ h => h) (Or.inl ⟨by rfl,?_⟩) hHeld ?_ ?_
                rotate_left
                · rintro w' ⟨s0,s1,s2,s3,s4,s5,s6,s7,s8,s9,s10,s11,s12,s13,s14,s15,s16,s17,s18,s19,s20,s21,s22,s23,s24⟩
                  go_simp
                  with_reducible rfl
                rotate_left
                · simp only [pq]
                  rfl
                refine pure_ (i:=27) (N:=some 60) (v:=?_) (a' := ?_) #[T,T,T,T,T,T,T,T,T,T,T,T,T,T,T,T,T,T,T,T,T,T,T,T,T,T,T,T,F,F,F,F,F,F,F,F,F,F,F,F,F,F,F,F,F,F,F,F,F] rfl rfl (any_of HT_.out (by kernel_rfl)) (fun _ _ _ h => h) (Or.inl ⟨by rfl,?_⟩) ?_ ?_
                rotate_left;(intro w';go_simp;with_reducible rfl);rotate_left;(simp only [pq];rfl)
                refine pure_ (i:=28) (N:=some 61) (v:=?_) (a' := ?_) #[T,T,T,T,T,T,T,T,T,T,T,T,T,T,T,T,T,T,T,T,T,T,T,T,T,T,T,T,T,F,F,F,F,F,F,F,F,F,F,F,F,F,F,F,F,F,F,F,F] rfl rfl (any_of HT_.out (by kernel_rfl)) (fun _ _ _ h => h) (Or.inl ⟨by rfl,?_⟩) ?_ ?_
                rotate_left;(intro w';go_simp;with_reducible rfl);rotate_left;(simp only [pq];rfl)
                refine pure_ (i:=29) (N:=some 62) (v:=?_) (a' := ?_) #[T,T,T,T,T,T,T,T,T,T,T,T,T,T,T,T,T,T,T,T,T,T,T,T,T,T,T,T,T,T,F,F,F,F,F,F,F,F,F,F,F,F,F,F,F,F,F,F,F] rfl rfl (any_of HT_.out (by kernel_rfl)) (fun _ _ _ h => h) (Or.inl ⟨by rfl,?_⟩) ?_ ?_
                rotate_left;(intro w';go_simp;with_reducible rfl);rotate_left;(simp only [pq];rfl)
                refine pure_ (i:=30) (N:=some 63) (v:=?_) (a' := ?_) #[T,T,T,T,T,T,T,T,T,T,T,T,T,T,T,T,T,T,T,T,T,T,T,T,T,T,T,T,T,T,T,F,F,F,F,F,F,F,F,F,F,F,F,F,F,F,F,F,F] rfl rfl (any_of HT_.out (by kernel_rfl)) (fun _ _ _ h => h) (Or.inl ⟨by rfl,?_⟩) ?_ ?_
                rotate_left;(intro w';go_simp;with_reducible rfl);rotate_left;(simp only [pq];rfl)
                refine pure_ (i:=31) (N:=some 64) (v:=?_) (a' := ?_) #[T,T,T,T,T,T,T,T,T,T,T,T,T,T,T,T,T,T,T,T,T,T,T,T,T,T,T,T,T,T,T,T,F,F,F,F,F,F,F,F,F,F,F,F,F,F,F,F,F] rfl rfl (any_of HT_.out (by kernel_rfl)) (fun _ _ _ h => h) (Or.inl ⟨by rfl,?_⟩) ?_ ?_
                rotate_left;(intro w';go_simp;with_reducible rfl);rotate_left;(simp only [pq];rfl)
                refine pure_ (i:=32) (N:=some 65) (v:=?_) (a' := ?_) #[T,T,T,T,T,T,T,T,T,T,T,T,T,T,T,T,T,T,T,T,T,T,T,T,T,T,T,T,T,T,T,T,T,F,F,F,F,F,F,F,F,F,F,F,F,F,F,F,F] rfl rfl (any_of HT_.out (by kernel_rfl)) (fun _ _ _ h => h) (Or.inl ⟨by rfl,?_⟩) ?_ ?_
                rotate_left;(intro w';go_simp;with_reducible rfl);rotate_left;(simp only [pq];rfl)
                refine pure_ (i:=33) (N:=some 66) (v:=?_) (a' := ?_) #[T,T,T,T,T,T,T,T,T,T,T,T,T,T,T,T,T,T,T,T,T,T,T,T,T,T,T,T,T,T,T,T,T,T,F,F,F,F,F,F,F,F,F,F,F,F,F,F,F] rfl rfl (any_of HT_.out (by kernel_rfl)) (fun _ _ _ h => h) (Or.inl ⟨by rfl,?_⟩) ?_ ?_
                rotate_left;(intro w';go_simp;with_reducible rfl);rotate_left;(simp only [pq];rfl)
                refine pure_ (i:=34) (N:=some 67) (v:=?_) (a' := ?_) #[T,T,T,T,T,T,T,T,T,T,T,T,T,T,T,T,T,T,T,T,T,T,T,T,T,T,T,T,T,T,T,T,T,T,T,F,F,F,F,F,F,F,F,F,F,F,F,F,F] rfl rfl (any_of HT_.out (by kernel_rfl)) (fun _ _ _ h => h) (Or.inl ⟨by rfl,?_⟩) ?_ ?_
                rotate_left;(intro w';go_simp;with_reducible rfl);rotate_left;(simp only [pq];rfl)
                refine take_ (i:=35) (N:=some 68) (v:=?_) (a' := ?_) #[T,T,T,T,T,T,T,T,T,T,T,T,T,T,T,T,T,T,T,T,T,T,T,T,T,T,T,T,T,T,T,T,T,T,T,T,F,F,F,F,F,F,F,F,F,F,F,F,F] rfl rfl (take_ofW HT_.out HW_.out (by kernel_rfl)) (fun _ _ _ h => h) (Or.inl ⟨by rfl,?_⟩) hHeld ?_ ?_
                rotate_left
                · rintro w' ⟨s0,s1,s2,s3,s4,s5,s6,s7,s8,s9,s10,s11,s12,s13,s14,s15,s16,s17,s18,s19,s20,s21,s22,s23,s24⟩
                  go_simp
                  with_reducible rfl
                rotate_left
                · simp only [pq]
                  rfl
                refine pure_ (i:=36) (N:=some 69) (v:=?_) (a' := ?_) #[T,T,T,T,T,T,T,T,T,T,T,T,T,T,T,T,T,T,T,T,T,T,T,T,T,T,T,T,T,T,T,T,T,T,T,T,T,F,F,F,F,F,F,F,F,F,F,F,F] rfl rfl (any_of HT_.out (by kernel_rfl)) (fun _ _ _ h => h) (Or.inl ⟨by rfl,?_⟩) ?_ ?_
                rotate_left;(intro w';go_simp;with_reducible rfl);rotate_left;(simp only [pq];rfl)
                refine pure_ (i:=37) (N:=some 70) (v:=?_) (a' := ?_) #[T,T,T,T,T,T,T,T,T,T,T,T,T,T,T,T,T,T,T,T,T,T,T,T,T,T,T,T,T,T,T,T,T,T,T,T,T,T,F,F,F,F,F,F,F,F,F,F,F] rfl rfl (any_of HT_.out (by kernel_rfl)) (fun _ _ _ h => h) (Or.inl ⟨by rfl,?_⟩) ?_ ?_
                rotate_left;(intro w';go_simp;with_reducible rfl);rotate_left;(simp only [pq];rfl)
                refine pure_ (i:=38) (N:=some 71) (v:=?_) (a' := ?_) #[T,T,T,T,T,T,T,T,T,T,T,T,T,T,T,T,T,T,T,T,T,T,T,T,T,T,T,T,T,T,T,T,T,T,T,T,T,T,T,F,F,F,F,F,F,F,F,F,F] rfl rfl (any_of HT_.out (by kernel_rfl)) (fun _ _ _ h => h) (Or.inl ⟨by rfl,?_⟩) ?_ ?_
                rotate_left;(intro w';go_simp;with_reducible rfl);rotate_left;(simp only [pq];rfl)
                refine pure_ (i:=39) (N:=some 72) (v:=undef) (a' := ?_) #[T,T,T,T,T,T,T,T,T,T,T,T,T,T,T,T,T,T,T,T,T,T,T,T,T,T,T,T,T,T,T,T,T,T,T,T,T,T,T,T,F,F,F,F,F,F,F,F,F] rfl rfl (any_of HT_.out (by kernel_rfl)) (fun _ _ _ h => h) (Or.inr ⟨by rfl,rfl⟩) ?_ ?_
                rotate_left
                · simp only [pq]
                  rfl
                refine pure_ (i:=40) (N:=some 73) (v:=undef) (a' := ?_) #[T,T,T,T,T,T,T,T,T,T,T,T,T,T,T,T,T,T,T,T,T,T,T,T,T,T,T,T,T,T,T,T,T,T,T,T,T,T,T,T,T,F,F,F,F,F,F,F,F] rfl rfl (any_of HT_.out (by kernel_rfl)) (fun _ _ _ h => h) (Or.inr ⟨by rfl,rfl⟩) ?_ ?_
                rotate_left
                · simp only [pq]
                  rfl
                refine pure_ (i:=41) (N:=some 74) (v:=undef) (a' := ?_) #[T,T,T,T,T,T,T,T,T,T,T,T,T,T,T,T,T,T,T,T,T,T,T,T,T,T,T,T,T,T,T,T,T,T,T,T,T,T,T,T,T,T,F,F,F,F,F,F,F] rfl rfl (any_of HT_.out (by kernel_rfl)) (fun _ _ _ h => h) (Or.inr ⟨by rfl,rfl⟩) ?_ ?_
                rotate_left
                · simp only [pq]
                  rfl
                refine pure_ (i:=42) (N:=some 75) (v:=undef) (a' := ?_) #[T,T,T,T,T,T,T,T,T,T,T,T,T,T,T,T,T,T,T,T,T,T,T,T,T,T,T,T,T,T,T,T,T,T,T,T,T,T,T,T,T,T,T,F,F,F,F,F,F] rfl rfl (any_of HT_.out (by kernel_rfl)) (fun _ _ _ h => h) (Or.inr ⟨by rfl,rfl⟩) ?_ ?_
                rotate_left
                · simp only [pq]
                  rfl
                refine pure_ (i:=43) (N:=some 76) (v:=undef) (a' := ?_) #[T,T,T,T,T,T,T,T,T,T,T,T,T,T,T,T,T,T,T,T,T,T,T,T,T,T,T,T,T,T,T,T,T,T,T,T,T,T,T,T,T,T,T,T,F,F,F,F,F] rfl rfl (any_of HT_.out (by kernel_rfl)) (fun _ _ _ h => h) (Or.inr ⟨by rfl,rfl⟩) ?_ ?_
                rotate_left
                · simp only [pq]
                  rfl
                refine pure_ (i:=44) (N:=some 77) (v:=undef) (a' := ?_) #[T,T,T,T,T,T,T,T,T,T,T,T,T,T,T,T,T,T,T,T,T,T,T,T,T,T,T,T,T,T,T,T,T,T,T,T,T,T,T,T,T,T,T,T,T,F,F,F,F] rfl rfl (any_of HT_.out (by kernel_rfl)) (fun _ _ _ h => h) (Or.inr ⟨by rfl,rfl⟩) ?_ ?_
                rotate_left
                · simp only [pq]
                  rfl
                refine pure_ (i:=45) (N:=some 78) (v:=undef) (a' := ?_) #[T,T,T,T,T,T,T,T,T,T,T,T,T,T,T,T,T,T,T,T,T,T,T,T,T,T,T,T,T,T,T,T,T,T,T,T,T,T,T,T,T,T,T,T,T,T,F,F,F] rfl rfl (any_of HT_.out (by kernel_rfl)) (fun _ _ _ h => h) (Or.inr ⟨by rfl,rfl⟩) ?_ ?_
                rotate_left
                · simp only [pq]
                  rfl
                refine pure_ (i:=46) (N:=some 79) (v:=undef) (a' := ?_) #[T,T,T,T,T,T,T,T,T,T,T,T,T,T,T,T,T,T,T,T,T,T,T,T,T,T,T,T,T,T,T,T,T,T,T,T,T,T,T,T,T,T,T,T,T,T,T,F,F] rfl rfl (any_of HT_.out (by kernel_rfl)) (fun _ _ _ h => h) (Or.inr ⟨by rfl,rfl⟩) ?_ ?_
                rotate_left
                · simp only [pq]
                  rfl
                refine pure_ (i:=47) (N:=some 80) (v:=undef) (a' := ?_) #[T,T,T,T,T,T,T,T,T,T,T,T,T,T,T,T,T,T,T,T,T,T,T,T,T,T,T,T,T,T,T,T,T,T,T,T,T,T,T,T,T,T,T,T,T,T,T,T,F] rfl rfl (any_of HT_.out (by kernel_rfl)) (fun _ _ _ h => h) (Or.inr ⟨by rfl,rfl⟩) ?_ ?_
                rotate_left
                · simp only [pq]
                  rfl
                refine pure_ (i:=48) (N:=some 81) (v:=?_) (a' := ?_) #[T,T,T,T,T,T,T,T,T,T,T,T,T,T,T,T,T,T,T,T,T,T,T,T,T,T,T,T,T,T,T,T,T,T,T,T,T,T,T,T,T,T,T,T,T,T,T,T,T] rfl rfl (any_of HT_.out (by kernel_rfl)) (fun _ _ _ h => h) (Or.inl ⟨by rfl,?_⟩) ?_ ?_
                rotate_left;(intro w';go_simp;with_reducible rfl);rotate_left;(simp only [pq];rfl)
                refine done_ (done_of HT_.out (by kernel_rfl)) ?_
                try go_wp2
                go_meet
                case rel => exact ⟨_,(true),(by first | rfl | (simp;done) | (simp [*];done)),H',⟨by have:=HK1.out;first | omega | exact Nat.le_refl _⟩,⟨by (with_reducible repeat (first | apply Kd.R_alloc | apply Kd.R_drewN | apply Kd.R_drew));exact HO_6.out⟩,⟨by (with_reducible repeat (first | apply Kd.S_alloc | apply Kd.S_drewN | apply Kd.S_drew));exact HO_7.out⟩,⟨by (with_reducible repeat (first | apply Kd.R_alloc | apply Kd.R_drewN | apply Kd.R_drew));exact HO_508000.out⟩,⟨by (with_reducible repeat (first | apply Kd.R_alloc | apply Kd.R_drewN | apply Kd.R_drew));exact HO_508001.out⟩,⟨by (with_reducible repeat (first | apply Kd.S_alloc | apply Kd.S_drewN | apply Kd.S_drew));exact HO_508004.out⟩,⟨by (with_reducible repeat (first | refine blk_drewN ?_ _ | refine blk_drew ?_ | refine blk_alloc ?_ _));exact BK507.out⟩,⟨by repeat (first | (with_reducible first | exact HB.out | apply below_alloc | apply pw_below_drewN | apply below_drew1 | refine below_set ?_ GE507.out) | exact HB.out)⟩⟩
              · rw [if_neg c27] at H
                have c27b0 : decide (((rd_T50 t511 x8_1).f0) < 0) = false:=decide_eq_false c27
                clear c27
                have H' := Aside0.mk H
                clear H
                try go_wp2
                have n0_:=Aside0.mk (Kd.R_drew HO_6.out)
                have n1_:=Aside0.mk (Kd.S_drew HO_7.out)
                have n2_:=Aside0.mk (Kd.R_drew HO_508000.out)
                have n3_:=Aside0.mk (Kd.R_drew HO_508001.out)
                have n4_:=Aside0.mk (Kd.S_drew HO_508004.out)
                have n5_:=Aside0.mk (blk_drew BK507.out)
                have n6_:=Aside0.mk (below_drew1 HB.out)
                clear HO_6
                clear HO_7
                clear HO_508000
                clear HO_508001
                clear HO_508004
                clear BK507
                clear HB
                have HO_6:=n0_
                have HO_7:=n1_
                have HO_508000:=n2_
                have HO_508001:=n3_
                have HO_508004:=n4_
                have BK507:=n5_
                have HB:=n6_
                clear n0_ n1_ n2_ n3_ n4_ n5_ n6_
                have p517 : 0 ≤ (x8_1 : Int) := of_decide_eq_true (by first | (with_reducible assumption) | assumption)
                have q517 : x8_1 < (t511.length : Int) := of_decide_eq_true (by first | (with_reducible assumption) | assumption)
                obtain ⟨ad517,e517,hx517_0,hx517_1,hx517_2,hx517_3⟩ := at_T50 (Kd.R_reads' HO_6.out).2.2 x8_1 p517 q517
                cases e517
                replace p517:=eq_true p517
                replace q517:=eq_true q517
                have p518 : 0 ≤ (x8_1 : Int) := of_decide_eq_true (by first | (with_reducible assumption) | assumption)
                have q518 : x8_1 < (t511.length : Int) := of_decide_eq_true (by first | (with_reducible assumption) | assumption)
                obtain ⟨ad518,e518,hx518_0,hx518_1,hx518_2,hx518_3⟩ := at_T50 (Kd.R_reads' HO_6.out).2.2 x8_1 p518 q518
                obtain rfl : ad517 = ad518:=(by injection e518)
                replace p518:=eq_true p518
                replace q518:=eq_true q518
                have p519 : 0 ≤ (x8_1 : Int) := of_decide_eq_true (by first | (with_reducible assumption) | assumption)
                have q519 : x8_1 < (t511.length : Int) := of_decide_eq_true (by first | (with_reducible assumption) | assumption)
                obtain ⟨ad519,e519,hx519_0,hx519_1,hx519_2,hx519_3⟩ := at_T50 (Kd.R_reads' HO_6.out).2.2 x8_1 p519 q519
                obtain rfl : ad517 = ad519:=(by injection e519)
                replace p519:=eq_true p519
                replace q519:=eq_true q519
                have p520 : 0 ≤ (x8_1 : Int) := of_decide_eq_true (by first | (with_reducible assumption) | assumption)
                have q520 : x8_1 < (t511.length : Int) := of_decide_eq_true (by first | (with_reducible assumption) | assumption)
                obtain ⟨ad520,e520,hx520_0,hx520_1,hx520_2,hx520_3⟩ := at_T50 (Kd.R_reads' HO_6.out).2.2 x8_1 p520 q520
                obtain rfl : ad517 = ad520:=(by injection e520)
                replace p520:=eq_true p520
                replace q520:=eq_true q520
                have p521 : 0 ≤ (x8_1 : Int) := of_decide_eq_true (by first | (with_reducible assumption) | assumption)
                have q521 : x8_1 < (t511.length : Int) := of_decide_eq_true (by first | (with_reducible assumption) | assumption)
                obtain ⟨ad521,e521,hx521_0,hx521_1,hx521_2,hx521_3⟩ := at_T50 (Kd.R_reads' HO_6.out).2.2 x8_1 p521 q521
                obtain rfl : ad517 = ad521:=(by injection e521)
                replace p521:=eq_true p521
                replace q521:=eq_true q521
                have p522 : 0 ≤ (x8_1 : Int) := of_decide_eq_true (by first | (with_reducible assumption) | assumption)
                have q522 : x8_1 < (t511.length : Int) := of_decide_eq_true (by first | (with_reducible assumption) | assumption)
                obtain ⟨ad522,e522,hx522_0,hx522_1,hx522_2,hx522_3⟩ := at_T50 (Kd.R_reads' HO_6.out).2.2 x8_1 p522 q522
                obtain rfl : ad517 = ad522:=(by injection e522)
                replace p522:=eq_true p522
                replace q522:=eq_true q522
                refine start_ (n:=49) (S:=fun w' => w'.cell? ⟨gb507,0,none⟩ = some (.slice Ao10 t496.length co10) ∧ w'.cell? ⟨gb507,1,none⟩ = some (.slice Ao12 t499.length co12) ∧ w'.cell? ⟨gb507,2,none⟩ = some (.int .i64 t502) ∧ w'.cell? ⟨gb507,3,none⟩ = some (.int .i64 t503) ∧ w'.cell? ⟨gb507,4,none⟩ = some (.slice Ao13 t504.length co13) ∧ w'.cell? (ad517.add ((x8_1).toNat * 4)) = some (.int .i64 ((rd_T50 t511 x8_1).f0)) ∧ w'.cell? ⟨(ad517.add ((x8_1).toNat * 4)).block,(ad517.add ((x8_1).toNat * 4)).off + 1,none⟩ = some (.int .i64 ((rd_T50 t511 x8_1).f1)) ∧ w'.cell? ⟨(ad517.add ((x8_1).toNat * 4)).block,(ad517.add ((x8_1).toNat * 4)).off + 2,none⟩ = some (.int .i64 ((rd_T50 t511 x8_1).f2)) ∧ w'.cell? ⟨(ad517.add ((x8_1).toNat * 4)).block,(ad517.add ((x8_1).toNat * 4)).off + 3,none⟩ = some (.int .i64 ((rd_T50 t511 x8_1).f3)) ∧ w'.cell? (ad517.add ((x8_1).toNat * 4)) = some (.int .i64 ((rd_T50 t511 x8_1).f0)) ∧ w'.cell? ⟨(ad517.add ((x8_1).toNat * 4)).block,(ad517.add ((x8_1).toNat * 4)).off + 1,none⟩ = some (.int .i64 ((rd_T50 t511 x8_1).f1)) ∧ w'.cell? ⟨(ad517.add ((x8_1).toNat * 4)).block,(ad517.add ((x8_1).toNat * 4)).off + 2,none⟩ = some (.int .i64 ((rd_T50 t511 x8_1).f2)) ∧ w'.cell? ⟨(ad517.add ((x8_1).toNat * 4)).block,(ad517.add ((x8_1).toNat * 4)).off + 3,none⟩ = some (.int .i64 ((rd_T50 t511 x8_1).f3)) ∧ w'.cell? (ad517.add ((x8_1).toNat * 4)) = some (.int .i64 ((rd_T50 t511 x8_1).f0)) ∧ w'.cell? ⟨(ad517.add ((x8_1).toNat * 4)).block,(ad517.add ((x8_1).toNat * 4)).off + 1,none⟩ = some (.int .i64 ((rd_T50 t511 x8_1).f1)) ∧ w'.cell? ⟨(ad517.add ((x8_1).toNat * 4)).block,(ad517.add ((x8_1).toNat * 4)).off + 2,none⟩ = some (.int .i64 ((rd_T50 t511 x8_1).f2)) ∧ w'.cell? ⟨(ad517.add ((x8_1).toNat * 4)).block,(ad517.add ((x8_1).toNat * 4)).off + 3,none⟩ = some (.int .i64 ((rd_T50 t511 x8_1).f3)) ∧ w'.cell? (ad517.add ((x8_1).toNat * 4)) = some (.int .i64 ((rd_T50 t511 x8_1).f0)) ∧ w'.cell? ⟨(ad517.add ((x8_1).toNat * 4)).block,(ad517.add ((x8_1).toNat * 4)).off + 1,none⟩ = some (.int .i64 ((rd_T50 t511 x8_1).f1)) ∧ w'.cell? ⟨(ad517.add ((x8_1).toNat * 4)).block,(ad517.add ((x8_1).toNat * 4)).off + 2,none⟩ = some (.int .i64 ((rd_T50 t511 x8_1).f2)) ∧ w'.cell? ⟨(ad517.add ((x8_1).toNat * 4)).block,(ad517.add ((x8_1).toNat * 4)).off + 3,none⟩ = some (.int .i64 ((rd_T50 t511 x8_1).f3)) ∧ w'.cell? (ad517.add ((x8_1).toNat * 4)) = some (.int .i64 ((rd_T50 t511 x8_1).f0)) ∧ w'.cell? ⟨(ad517.add ((x8_1).toNat * 4)).block,(ad517.add ((x8_1).toNat * 4)).off + 1,none⟩ = some (.int .i64 ((rd_T50 t511 x8_1).f1)) ∧ w'.cell? ⟨(ad517.add ((x8_1).toNat * 4)).block,(ad517.add ((x8_1).toNat * 4)).off + 2,none⟩ = some (.int .i64 ((rd_T50 t511 x8_1).f2)) ∧ w'.cell? ⟨(ad517.add ((x8_1).toNat * 4)).block,(ad517.add ((x8_1).toNat * 4)).off + 3,none⟩ = some (.int .i64 ((rd_T50 t511 x8_1).f3)) ∧ w'.cell? (ad517.add ((x8_1).toNat * 4)) = some (.int .i64 ((rd_T50 t511 x8_1).f0)) ∧ w'.cell? ⟨(ad517.add ((x8_1).toNat * 4)).block,(ad517.add ((x8_1).toNat * 4)).off + 1,none⟩ = some (.int .i64 ((rd_T50 t511 x8_1).f1)) ∧ w'.cell? ⟨(ad517.add ((x8_1).toNat * 4)).block,(ad517.add ((x8_1).toNat * 4)).off + 2,none⟩ = some (.int .i64 ((rd_T50 t511 x8_1).f2)) ∧ w'.cell? ⟨(ad517.add ((x8_1).toNat * 4)).block,(ad517.add ((x8_1).toNat * 4)).off + 3,none⟩ = some (.int .i64 ((rd_T50 t511 x8_1).f3))) (ds := []) #[F,F,F,F,F,F,F,F,F,F,F,F,F,F,F,F,F,F,F,F,F,F,F,F,F,F,F,F,F,F,F,F,F,F,F,F,F,F,F,F,F,F,F,F,F,F,F,F,F] (by kernel_rfl) rfl rfl ⟨(blk_cell BK507.out 0).trans rfl,(blk_cell BK507.out 1).trans rfl,(blk_cell BK507.out 2).trans rfl,(blk_cell BK507.out 3).trans rfl,(blk_cell BK507.out 4).trans rfl,hx517_0,hx517_1,hx517_2,hx517_3,hx518_0,hx518_1,hx518_2,hx518_3,hx519_0,hx519_1,hx519_2,hx519_3,hx520_0,hx520_1,hx520_2,hx520_3,hx521_0,hx521_1,hx521_2,hx521_3,hx522_0,hx522_1,hx522_2,hx522_3⟩ (fun hHeld => ?_);refine with_tabW regletlaw14_PredictClashes.tab10 regletlaw14_PredictClashes.bits10 (fun HT_ HW_ => ?_)
                generalize wr.drew = w29 at HO_6 HO_7 HO_508000 HO_508001 HO_508004 BK507 HB hx517_0 hx517_1 hx517_2 hx517_3 hx518_0 hx518_1 hx518_2 hx518_3 hx519_0 hx519_1 hx519_2 hx519_3 hx520_0 hx520_1 hx520_2 hx520_3 hx521_0 hx521_1 hx521_2 hx521_3 hx522_0 hx522_1 hx522_2 hx522_3 hHeld ⊢
                refine pure_ (i:=0) (N:=some 33) (v:=?_) (a' := ?_) #[T,F,F,F,F,F,F,F,F,F,F,F,F,F,F,F,F,F,F,F,F,F,F,F,F,F,F,F,F,F,F,F,F,F,F,F,F,F,F,F,F,F,F,F,F,F,F,F,F] rfl rfl (any_of HT_.out (by kernel_rfl)) (fun _ _ _ h => h) (Or.inl ⟨by rfl,?_⟩) ?_ ?_
                rotate_left;(intro w';go_simp;with_reducible rfl);rotate_left;(simp only [pq];rfl)
                refine pure_ (i:=1) (N:=some 34) (v:=?_) (a' := ?_) #[T,T,F,F,F,F,F,F,F,F,F,F,F,F,F,F,F,F,F,F,F,F,F,F,F,F,F,F,F,F,F,F,F,F,F,F,F,F,F,F,F,F,F,F,F,F,F,F,F] rfl rfl (any_of HT_.out (by kernel_rfl)) (fun _ _ _ h => h) (Or.inl ⟨by rfl,?_⟩) ?_ ?_
                rotate_left;(intro w';go_simp;with_reducible rfl);rotate_left;(simp only [pq];rfl)
                refine pure_ (i:=2) (N:=some 35) (v:=?_) (a' := ?_) #[T,T,T,F,F,F,F,F,F,F,F,F,F,F,F,F,F,F,F,F,F,F,F,F,F,F,F,F,F,F,F,F,F,F,F,F,F,F,F,F,F,F,F,F,F,F,F,F,F] rfl rfl (any_of HT_.out (by kernel_rfl)) (fun _ _ _ h => h) (Or.inl ⟨by rfl,?_⟩) ?_ ?_
                rotate_left;(intro w';go_simp;with_reducible rfl);rotate_left;(simp only [pq];rfl)
                refine pure_ (i:=3) (N:=some 36) (v:=?_) (a' := ?_) #[T,T,T,T,F,F,F,F,F,F,F,F,F,F,F,F,F,F,F,F,F,F,F,F,F,F,F,F,F,F,F,F,F,F,F,F,F,F,F,F,F,F,F,F,F,F,F,F,F] rfl rfl (any_of HT_.out (by kernel_rfl)) (fun _ _ _ h => h) (Or.inl ⟨by rfl,?_⟩) ?_ ?_
                rotate_left;(intro w';go_simp;with_reducible rfl);rotate_left;(simp only [pq];rfl)
                refine take_ (i:=4) (N:=some 37) (v:=?_) (a' := ?_) #[T,T,T,T,T,F,F,F,F,F,F,F,F,F,F,F,F,F,F,F,F,F,F,F,F,F,F,F,F,F,F,F,F,F,F,F,F,F,F,F,F,F,F,F,F,F,F,F,F] rfl rfl (take_ofW HT_.out HW_.out (by kernel_rfl)) (fun _ _ _ h => h) (Or.inl ⟨by rfl,?_⟩) hHeld ?_ ?_
                rotate_left
                · rintro w' ⟨s0,s1,s2,s3,s4,s5,s6,s7,s8,s9,s10,s11,s12,s13,s14,s15,s16,s17,s18,s19,s20,s21,s22,s23,s24,s25,s26,s27,s28⟩
                  go_simp
                  with_reducible rfl
                rotate_left
                · simp only [pq]
                  rfl
                refine pure_ (i:=5) (N:=some 38) (v:=?_) (a' := ?_) #[T,T,T,T,T,T,F,F,F,F,F,F,F,F,F,F,F,F,F,F,F,F,F,F,F,F,F,F,F,F,F,F,F,F,F,F,F,F,F,F,F,F,F,F,F,F,F,F,F] rfl rfl (any_of HT_.out (by kernel_rfl)) (fun _ _ _ h => h) (Or.inl ⟨by rfl,?_⟩) ?_ ?_
                rotate_left;(intro w';go_simp;with_reducible rfl);rotate_left;(simp only [pq];rfl)
                refine pure_ (i:=6) (N:=some 39) (v:=?_) (a' := ?_) #[T,T,T,T,T,T,T,F,F,F,F,F,F,F,F,F,F,F,F,F,F,F,F,F,F,F,F,F,F,F,F,F,F,F,F,F,F,F,F,F,F,F,F,F,F,F,F,F,F] rfl rfl (any_of HT_.out (by kernel_rfl)) (fun _ _ _ h => h) (Or.inl ⟨by rfl,?_⟩) ?_ ?_
                rotate_left;(intro w';go_simp;with_reducible rfl);rotate_left;(simp only [pq];rfl)
                refine pure_ (i:=7) (N:=some 40) (v:=?_) (a' := ?_) #[T,T,T,T,T,T,T,T,F,F,F,F,F,F,F,F,F,F,F,F,F,F,F,F,F,F,F,F,F,F,F,F,F,F,F,F,F,F,F,F,F,F,F,F,F,F,F,F,F] rfl rfl (any_of HT_.out (by kernel_rfl)) (fun _ _ _ h => h) (Or.inl ⟨by rfl,?_⟩) ?_ ?_
                rotate_left;(intro w';go_simp;with_reducible rfl);rotate_left;(simp only [pq];rfl)
                refine pure_ (i:=8) (N:=some 41) (v:=?_) (a' := ?_) #[T,T,T,T,T,T,T,T,T,F,F,F,F,F,F,F,F,F,F,F,F,F,F,F,F,F,F,F,F,F,F,F,F,F,F,F,F,F,F,F,F,F,F,F,F,F,F,F,F] rfl rfl (any_of HT_.out (by kernel_rfl)) (fun _ _ _ h => h) (Or.inl ⟨by rfl,?_⟩) ?_ ?_
                rotate_left;(intro w';go_simp;with_reducible rfl);rotate_left;(simp only [pq];rfl)
                refine pure_ (i:=9) (N:=some 42) (v:=?_) (a' := ?_) #[T,T,T,T,T,T,T,T,T,T,F,F,F,F,F,F,F,F,F,F,F,F,F,F,F,F,F,F,F,F,F,F,F,F,F,F,F,F,F,F,F,F,F,F,F,F,F,F,F] rfl rfl (any_of HT_.out (by kernel_rfl)) (fun _ _ _ h => h) (Or.inl ⟨by rfl,?_⟩) ?_ ?_
                rotate_left;(intro w';go_simp;with_reducible rfl);rotate_left;(simp only [pq];rfl)
                refine pure_ (i:=10) (N:=some 43) (v:=?_) (a' := ?_) #[T,T,T,T,T,T,T,T,T,T,T,F,F,F,F,F,F,F,F,F,F,F,F,F,F,F,F,F,F,F,F,F,F,F,F,F,F,F,F,F,F,F,F,F,F,F,F,F,F] rfl rfl (any_of HT_.out (by kernel_rfl)) (fun _ _ _ h => h) (Or.inl ⟨by rfl,?_⟩) ?_ ?_
                rotate_left;(intro w';go_simp;with_reducible rfl);rotate_left;(simp only [pq];rfl)
                refine pure_ (i:=12) (N:=some 45) (v:=?_) (a' := ?_) #[T,T,T,T,T,T,T,T,T,T,T,F,T,F,F,F,F,F,F,F,F,F,F,F,F,F,F,F,F,F,F,F,F,F,F,F,F,F,F,F,F,F,F,F,F,F,F,F,F] rfl rfl (any_of HT_.out (by kernel_rfl)) (fun _ _ _ h => h) (Or.inl ⟨by rfl,?_⟩) ?_ ?_
                rotate_left;(intro w';go_simp;with_reducible rfl);rotate_left;(simp only [pq];rfl)
                refine pure_ (i:=13) (N:=some 46) (v:=?_) (a' := ?_) #[T,T,T,T,T,T,T,T,T,T,T,F,T,T,F,F,F,F,F,F,F,F,F,F,F,F,F,F,F,F,F,F,F,F,F,F,F,F,F,F,F,F,F,F,F,F,F,F,F] rfl rfl (any_of HT_.out (by kernel_rfl)) (fun _ _ _ h => h) (Or.inl ⟨by rfl,?_⟩) ?_ ?_
                rotate_left;(intro w';go_simp;with_reducible rfl);rotate_left;(simp only [pq];rfl)
                refine pure_ (i:=14) (N:=some 47) (v:=?_) (a' := ?_) #[T,T,T,T,T,T,T,T,T,T,T,F,T,T,T,F,F,F,F,F,F,F,F,F,F,F,F,F,F,F,F,F,F,F,F,F,F,F,F,F,F,F,F,F,F,F,F,F,F] rfl rfl (any_of HT_.out (by kernel_rfl)) (fun _ _ _ h => h) (Or.inl ⟨by rfl,?_⟩) ?_ ?_
                rotate_left;(intro w';go_simp;with_reducible rfl);rotate_left;(simp only [pq];rfl)
                refine pure_ (i:=15) (N:=some 48) (v:=?_) (a' := ?_) #[T,T,T,T,T,T,T,T,T,T,T,F,T,T,T,T,F,F,F,F,F,F,F,F,F,F,F,F,F,F,F,F,F,F,F,F,F,F,F,F,F,F,F,F,F,F,F,F,F] rfl rfl (any_of HT_.out (by kernel_rfl)) (fun _ _ _ h => h) (Or.inl ⟨by rfl,?_⟩) ?_ ?_
                rotate_left;(intro w';go_simp;with_reducible rfl);rotate_left;(simp only [pq];rfl)
                refine take_ (i:=11) (N:=some 44) (v:=?_) (a' := ?_) #[T,T,T,T,T,T,T,T,T,T,T,T,T,T,T,T,F,F,F,F,F,F,F,F,F,F,F,F,F,F,F,F,F,F,F,F,F,F,F,F,F,F,F,F,F,F,F,F,F] rfl rfl (take_ofW HT_.out HW_.out (by kernel_rfl)) (fun _ _ _ h => h) (Or.inl ⟨by rfl,?_⟩) hHeld ?_ ?_
                rotate_left
                · rintro w' ⟨s0,s1,s2,s3,s4,s5,s6,s7,s8,s9,s10,s11,s12,s13,s14,s15,s16,s17,s18,s19,s20,s21,s22,s23,s24,s25,s26,s27,s28⟩
                  go_simp
                  with_reducible rfl
                rotate_left
                · simp only [pq]
                  rfl
                refine take_ (i:=16) (N:=some 49) (v:=?_) (a' := ?_) #[T,T,T,T,T,T,T,T,T,T,T,T,T,T,T,T,T,F,F,F,F,F,F,F,F,F,F,F,F,F,F,F,F,F,F,F,F,F,F,F,F,F,F,F,F,F,F,F,F] rfl rfl (take_ofW HT_.out HW_.out (by kernel_rfl)) (fun _ _ _ h => h) (Or.inl ⟨by rfl,?_⟩) hHeld ?_ ?_
                rotate_left
                · rintro w' ⟨s0,s1,s2,s3,s4,s5,s6,s7,s8,s9,s10,s11,s12,s13,s14,s15,s16,s17,s18,s19,s20,s21,s22,s23,s24,s25,s26,s27,s28⟩
                  go_simp
                  with_reducible rfl
                rotate_left
                · simp only [pq]
                  rfl
                refine pure_ (i:=17) (N:=some 50) (v:=?_) (a' := ?_) #[T,T,T,T,T,T,T,T,T,T,T,T,T,T,T,T,T,T,F,F,F,F,F,F,F,F,F,F,F,F,F,F,F,F,F,F,F,F,F,F,F,F,F,F,F,F,F,F,F] rfl rfl (any_of HT_.out (by kernel_rfl)) (fun _ _ _ h => h) (Or.inl ⟨by rfl,?_⟩) ?_ ?_
                rotate_left;(intro w';go_simp;with_reducible rfl);rotate_left;(simp only [pq];rfl)
                refine pure_ (i:=18) (N:=some 51) (v:=?_) (a' := ?_) #[T,T,T,T,T,T,T,T,T,T,T,T,T,T,T,T,T,T,T,F,F,F,F,F,F,F,F,F,F,F,F,F,F,F,F,F,F,F,F,F,F,F,F,F,F,F,F,F,F] rfl rfl (any_of HT_.out (by kernel_rfl)) (fun _ _ _ h => h) (Or.inl ⟨by rfl,?_⟩) ?_ ?_
                rotate_left;(intro w';go_simp;with_reducible rfl);rotate_left;(simp only [pq];rfl)
                refine pure_ (i:=19) (N:=some 52) (v:=?_) (a' := ?_) #[T,T,T,T,T,T,T,T,T,T,T,T,T,T,T,T,T,T,T,T,F,F,F,F,F,F,F,F,F,F,F,F,F,F,F,F,F,F,F,F,F,F,F,F,F,F,F,F,F] rfl rfl (any_of HT_.out (by kernel_rfl)) (fun _ _ _ h => h) (Or.inl ⟨by rfl,?_⟩) ?_ ?_
                rotate_left;(intro w';go_simp;with_reducible rfl);rotate_left;(simp only [pq];rfl)
                refine pure_ (i:=20) (N:=some 53) (v:=?_) (a' := ?_) #[T,T,T,T,T,T,T,T,T,T,T,T,T,T,T,T,T,T,T,T,T,F,F,F,F,F,F,F,F,F,F,F,F,F,F,F,F,F,F,F,F,F,F,F,F,F,F,F,F] rfl rfl (any_of HT_.out (by kernel_rfl)) (fun _ _ _ h => h) (Or.inl ⟨by rfl,?_⟩) ?_ ?_
                rotate_left;(intro w';go_simp;with_reducible rfl);rotate_left;(simp only [pq];rfl)
                refine pure_ (i:=21) (N:=some 54) (v:=?_) (a' := ?_) #[T,T,T,T,T,T,T,T,T,T,T,T,T,T,T,T,T,T,T,T,T,T,F,F,F,F,F,F,F,F,F,F,F,F,F,F,F,F,F,F,F,F,F,F,F,F,F,F,F] rfl rfl (any_of HT_.out (by kernel_rfl)) (fun _ _ _ h => h) (Or.inl ⟨by rfl,?_⟩) ?_ ?_
                rotate_left;(intro w';go_simp;with_reducible rfl);rotate_left;(simp only [pq];rfl)
                refine pure_ (i:=22) (N:=some 55) (v:=?_) (a' := ?_) #[T,T,T,T,T,T,T,T,T,T,T,T,T,T,T,T,T,T,T,T,T,T,T,F,F,F,F,F,F,F,F,F,F,F,F,F,F,F,F,F,F,F,F,F,F,F,F,F,F] rfl rfl (any_of HT_.out (by kernel_rfl)) (fun _ _ _ h => h) (Or.inl ⟨by rfl,?_⟩) ?_ ?_
                rotate_left;(intro w';go_simp;with_reducible rfl);rotate_left;(simp only [pq];rfl)
                refine pure_ (i:=23) (N:=some 56) (v:=?_) (a' := ?_) #[T,T,T,T,T,T,T,T,T,T,T,T,T,T,T,T,T,T,T,T,T,T,T,T,F,F,F,F,F,F,F,F,F,F,F,F,F,F,F,F,F,F,F,F,F,F,F,F,F] rfl rfl (any_of HT_.out (by kernel_rfl)) (fun _ _ _ h => h) (Or.inl ⟨by rfl,?_⟩) ?_ ?_
                rotate_left;(intro w';go_simp;with_reducible rfl);rotate_left;(simp only [pq];rfl)
                refine pure_ (i:=25) (N:=some 58) (v:=?_) (a' := ?_) #[T,T,T,T,T,T,T,T,T,T,T,T,T,T,T,T,T,T,T,T,T,T,T,T,F,T,F,F,F,F,F,F,F,F,F,F,F,F,F,F,F,F,F,F,F,F,F,F,F] rfl rfl (any_of HT_.out (by kernel_rfl)) (fun _ _ _ h => h) (Or.inl ⟨by rfl,?_⟩) ?_ ?_
                rotate_left;(intro w';go_simp;with_reducible rfl);rotate_left;(simp only [pq];rfl)
                refine take_ (i:=24) (N:=some 57) (v:=?_) (a' := ?_) #[T,T,T,T,T,T,T,T,T,T,T,T,T,T,T,T,T,T,T,T,T,T,T,T,T,T,F,F,F,F,F,F,F,F,F,F,F,F,F,F,F,F,F,F,F,F,F,F,F] rfl rfl (take_ofW HT_.out HW_.out (by kernel_rfl)) (fun _ _ _ h => h) (Or.inl ⟨by rfl,?_⟩) hHeld ?_ ?_
                rotate_left
                · rintro w' ⟨s0,s1,s2,s3,s4,s5,s6,s7,s8,s9,s10,s11,s12,s13,s14,s15,s16,s17,s18,s19,s20,s21,s22,s23,s24,s25,s26,s27,s28⟩
                  go_simp
                  with_reducible rfl
                rotate_left
                · simp only [pq]
                  rfl
                refine take_ (i:=26) (N:=some 59) (v:=?_) (a' := ?_) #[T,T,T,T,T,T,T,T,T,T,T,T,T,T,T,T,T,T,T,T,T,T,T,T,T,T,T,F,F,F,F,F,F,F,F,F,F,F,F,F,F,F,F,F,F,F,F,F,F] rfl rfl (take_ofW HT_.out HW_.out (by kernel_rfl)) (fun _ _ _ h => h) (Or.inl ⟨by rfl,?_⟩) hHeld ?_ ?_
                rotate_left
                · rintro w' ⟨s0,s1,s2,s3,s4,s5,s6,s7,s8,s9,s10,s11,s12,s13,s14,s15,s16,s17,s18,s19,s20,s21,s22,s23,s24,s25,s26,s27,s28⟩
                  go_simp
                  with_reducible rfl
                rotate_left
                · simp only [pq]
                  rfl
                refine pure_ (i:=27) (N:=some 60) (v:=?_) (a' := ?_) #[T,T,T,T,T,T,T,T,T,T,T,T,T,T,T,T,T,T,T,T,T,T,T,T,T,T,T,T,F,F,F,F,F,F,F,F,F,F,F,F,F,F,F,F,F,F,F,F,F] rfl rfl (any_of HT_.out (by kernel_rfl)) (fun _ _ _ h => h) (Or.inl ⟨by rfl,?_⟩) ?_ ?_
                rotate_left;(intro w';go_simp;with_reducible rfl);rotate_left;(simp only [pq];rfl)
                refine pure_ (i:=28) (N:=some 61) (v:=?_) (a' := ?_) #[T,T,T,T,T,T,T,T,T,T,T,T,T,T,T,T,T,T,T,T,T,T,T,T,T,T,T,T,T,F,F,F,F,F,F,F,F,F,F,F,F,F,F,F,F,F,F,F,F] rfl rfl (any_of HT_.out (by kernel_rfl)) (fun _ _ _ h => h) (Or.inl ⟨by rfl,?_⟩) ?_ ?_
                rotate_left;(intro w';go_simp;with_reducible rfl);rotate_left;(simp only [pq];rfl)
                refine pure_ (i:=29) (N:=some 62) (v:=?_) (a' := ?_) #[T,T,T,T,T,T,T,T,T,T,T,T,T,T,T,T,T,T,T,T,T,T,T,T,T,T,T,T,T,T,F,F,F,F,F,F,F,F,F,F,F,F,F,F,F,F,F,F,F] rfl rfl (any_of HT_.out (by kernel_rfl)) (fun _ _ _ h => h) (Or.inl ⟨by rfl,?_⟩) ?_ ?_
                rotate_left;(intro w';go_simp;with_reducible rfl);rotate_left;(simp only [pq];rfl)
                refine pure_ (i:=30) (N:=some 63) (v:=?_) (a' := ?_) #[T,T,T,T,T,T,T,T,T,T,T,T,T,T,T,T,T,T,T,T,T,T,T,T,T,T,T,T,T,T,T,F,F,F,F,F,F,F,F,F,F,F,F,F,F,F,F,F,F] rfl rfl (any_of HT_.out (by kernel_rfl)) (fun _ _ _ h => h) (Or.inl ⟨by rfl,?_⟩) ?_ ?_
                rotate_left;(intro w';go_simp;with_reducible rfl);rotate_left;(simp only [pq];rfl)
                refine pure_ (i:=31) (N:=some 64) (v:=?_) (a' := ?_) #[T,T,T,T,T,T,T,T,T,T,T,T,T,T,T,T,T,T,T,T,T,T,T,T,T,T,T,T,T,T,T,T,F,F,F,F,F,F,F,F,F,F,F,F,F,F,F,F,F] rfl rfl (any_of HT_.out (by kernel_rfl)) (fun _ _ _ h => h) (Or.inl ⟨by rfl,?_⟩) ?_ ?_
                rotate_left;(intro w';go_simp;with_reducible rfl);rotate_left;(simp only [pq];rfl)
                refine pure_ (i:=32) (N:=some 65) (v:=?_) (a' := ?_) #[T,T,T,T,T,T,T,T,T,T,T,T,T,T,T,T,T,T,T,T,T,T,T,T,T,T,T,T,T,T,T,T,T,F,F,F,F,F,F,F,F,F,F,F,F,F,F,F,F] rfl rfl (any_of HT_.out (by kernel_rfl)) (fun _ _ _ h => h) (Or.inl ⟨by rfl,?_⟩) ?_ ?_
                rotate_left;(intro w';go_simp;with_reducible rfl);rotate_left;(simp only [pq];rfl)
                refine pure_ (i:=33) (N:=some 66) (v:=?_) (a' := ?_) #[T,T,T,T,T,T,T,T,T,T,T,T,T,T,T,T,T,T,T,T,T,T,T,T,T,T,T,T,T,T,T,T,T,T,F,F,F,F,F,F,F,F,F,F,F,F,F,F,F] rfl rfl (any_of HT_.out (by kernel_rfl)) (fun _ _ _ h => h) (Or.inl ⟨by rfl,?_⟩) ?_ ?_
                rotate_left;(intro w';go_simp;with_reducible rfl);rotate_left;(simp only [pq];rfl)
                refine pure_ (i:=34) (N:=some 67) (v:=?_) (a' := ?_) #[T,T,T,T,T,T,T,T,T,T,T,T,T,T,T,T,T,T,T,T,T,T,T,T,T,T,T,T,T,T,T,T,T,T,T,F,F,F,F,F,F,F,F,F,F,F,F,F,F] rfl rfl (any_of HT_.out (by kernel_rfl)) (fun _ _ _ h => h) (Or.inl ⟨by rfl,?_⟩) ?_ ?_
                rotate_left;(intro w';go_simp;with_reducible rfl);rotate_left;(simp only [pq];rfl)
                refine take_ (i:=35) (N:=some 68) (v:=?_) (a' := ?_) #[T,T,T,T,T,T,T,T,T,T,T,T,T,T,T,T,T,T,T,T,T,T,T,T,T,T,T,T,T,T,T,T,T,T,T,T,F,F,F,F,F,F,F,F,F,F,F,F,F] rfl rfl (take_ofW HT_.out HW_.out (by kernel_rfl)) (fun _ _ _ h => h) (Or.inl ⟨by rfl,?_⟩) hHeld ?_ ?_
                rotate_left
                · rintro w' ⟨s0,s1,s2,s3,s4,s5,s6,s7,s8,s9,s10,s11,s12,s13,s14,s15,s16,s17,s18,s19,s20,s21,s22,s23,s24,s25,s26,s27,s28⟩
                  go_simp
                  with_reducible rfl
                rotate_left
                · simp only [pq]
                  rfl
                refine pure_ (i:=36) (N:=some 69) (v:=?_) (a' := ?_) #[T,T,T,T,T,T,T,T,T,T,T,T,T,T,T,T,T,T,T,T,T,T,T,T,T,T,T,T,T,T,T,T,T,T,T,T,T,F,F,F,F,F,F,F,F,F,F,F,F] rfl rfl (any_of HT_.out (by kernel_rfl)) (fun _ _ _ h => h) (Or.inl ⟨by rfl,?_⟩) ?_ ?_
                rotate_left;(intro w';go_simp;with_reducible rfl);rotate_left;(simp only [pq];rfl)
                refine pure_ (i:=37) (N:=some 70) (v:=?_) (a' := ?_) #[T,T,T,T,T,T,T,T,T,T,T,T,T,T,T,T,T,T,T,T,T,T,T,T,T,T,T,T,T,T,T,T,T,T,T,T,T,T,F,F,F,F,F,F,F,F,F,F,F] rfl rfl (any_of HT_.out (by kernel_rfl)) (fun _ _ _ h => h) (Or.inl ⟨by rfl,?_⟩) ?_ ?_
                rotate_left;(intro w';go_simp;with_reducible rfl);rotate_left;(simp only [pq];rfl)
                refine pure_ (i:=38) (N:=some 71) (v:=?_) (a' := ?_) #[T,T,T,T,T,T,T,T,T,T,T,T,T,T,T,T,T,T,T,T,T,T,T,T,T,T,T,T,T,T,T,T,T,T,T,T,T,T,T,F,F,F,F,F,F,F,F,F,F] rfl rfl (any_of HT_.out (by kernel_rfl)) (fun _ _ _ h => h) (Or.inl ⟨by rfl,?_⟩) ?_ ?_
                rotate_left;(intro w';go_simp;with_reducible rfl);rotate_left;(simp only [pq];rfl)
                refine pure_ (i:=39) (N:=some 72) (v:=?_) (a' := ?_) #[T,T,T,T,T,T,T,T,T,T,T,T,T,T,T,T,T,T,T,T,T,T,T,T,T,T,T,T,T,T,T,T,T,T,T,T,T,T,T,T,F,F,F,F,F,F,F,F,F] rfl rfl (any_of HT_.out (by kernel_rfl)) (fun _ _ _ h => h) (Or.inl ⟨by rfl,?_⟩) ?_ ?_
                rotate_left;(intro w';go_simp;with_reducible rfl);rotate_left;(simp only [pq];rfl)
                refine pure_ (i:=40) (N:=some 73) (v:=?_) (a' := ?_) #[T,T,T,T,T,T,T,T,T,T,T,T,T,T,T,T,T,T,T,T,T,T,T,T,T,T,T,T,T,T,T,T,T,T,T,T,T,T,T,T,T,F,F,F,F,F,F,F,F] rfl rfl (any_of HT_.out (by kernel_rfl)) (fun _ _ _ h => h) (Or.inl ⟨by rfl,?_⟩) ?_ ?_
                rotate_left;(intro w';go_simp;with_reducible rfl);rotate_left;(simp only [pq];rfl)
                refine pure_ (i:=41) (N:=some 74) (v:=?_) (a' := ?_) #[T,T,T,T,T,T,T,T,T,T,T,T,T,T,T,T,T,T,T,T,T,T,T,T,T,T,T,T,T,T,T,T,T,T,T,T,T,T,T,T,T,T,F,F,F,F,F,F,F] rfl rfl (any_of HT_.out (by kernel_rfl)) (fun _ _ _ h => h) (Or.inl ⟨by rfl,?_⟩) ?_ ?_
                rotate_left;(intro w';go_simp;with_reducible rfl);rotate_left;(simp only [pq];rfl)
                refine pure_ (i:=42) (N:=some 75) (v:=?_) (a' := ?_) #[T,T,T,T,T,T,T,T,T,T,T,T,T,T,T,T,T,T,T,T,T,T,T,T,T,T,T,T,T,T,T,T,T,T,T,T,T,T,T,T,T,T,T,F,F,F,F,F,F] rfl rfl (any_of HT_.out (by kernel_rfl)) (fun _ _ _ h => h) (Or.inl ⟨by rfl,?_⟩) ?_ ?_
                rotate_left;(intro w';go_simp;with_reducible rfl);rotate_left;(simp only [pq];rfl)
                refine pure_ (i:=44) (N:=some 77) (v:=?_) (a' := ?_) #[T,T,T,T,T,T,T,T,T,T,T,T,T,T,T,T,T,T,T,T,T,T,T,T,T,T,T,T,T,T,T,T,T,T,T,T,T,T,T,T,T,T,T,F,T,F,F,F,F] rfl rfl (any_of HT_.out (by kernel_rfl)) (fun _ _ _ h => h) (Or.inl ⟨by rfl,?_⟩) ?_ ?_
                rotate_left;(intro w';go_simp;with_reducible rfl);rotate_left;(simp only [pq];rfl)
                refine take_ (i:=43) (N:=some 76) (v:=?_) (a' := ?_) #[T,T,T,T,T,T,T,T,T,T,T,T,T,T,T,T,T,T,T,T,T,T,T,T,T,T,T,T,T,T,T,T,T,T,T,T,T,T,T,T,T,T,T,T,T,F,F,F,F] rfl rfl (take_ofW HT_.out HW_.out (by kernel_rfl)) (fun _ _ _ h => h) (Or.inl ⟨by rfl,?_⟩) hHeld ?_ ?_
                rotate_left
                · rintro w' ⟨s0,s1,s2,s3,s4,s5,s6,s7,s8,s9,s10,s11,s12,s13,s14,s15,s16,s17,s18,s19,s20,s21,s22,s23,s24,s25,s26,s27,s28⟩
                  go_simp
                  with_reducible rfl
                rotate_left
                · simp only [pq]
                  rfl
                refine take_ (i:=45) (N:=some 78) (v:=?_) (a' := ?_) #[T,T,T,T,T,T,T,T,T,T,T,T,T,T,T,T,T,T,T,T,T,T,T,T,T,T,T,T,T,T,T,T,T,T,T,T,T,T,T,T,T,T,T,T,T,T,F,F,F] rfl rfl (take_ofW HT_.out HW_.out (by kernel_rfl)) (fun _ _ _ h => h) (Or.inl ⟨by rfl,?_⟩) hHeld ?_ ?_
                rotate_left
                · rintro w' ⟨s0,s1,s2,s3,s4,s5,s6,s7,s8,s9,s10,s11,s12,s13,s14,s15,s16,s17,s18,s19,s20,s21,s22,s23,s24,s25,s26,s27,s28⟩
                  go_simp
                  with_reducible rfl
                rotate_left
                · simp only [pq]
                  rfl
                refine pure_ (i:=46) (N:=some 79) (v:=?_) (a' := ?_) #[T,T,T,T,T,T,T,T,T,T,T,T,T,T,T,T,T,T,T,T,T,T,T,T,T,T,T,T,T,T,T,T,T,T,T,T,T,T,T,T,T,T,T,T,T,T,T,F,F] rfl rfl (any_of HT_.out (by kernel_rfl)) (fun _ _ _ h => h) (Or.inl ⟨by rfl,?_⟩) ?_ ?_
                rotate_left;(intro w';go_simp;with_reducible rfl);rotate_left;(simp only [pq];rfl)
                refine pure_ (i:=47) (N:=some 80) (v:=?_) (a' := ?_) #[T,T,T,T,T,T,T,T,T,T,T,T,T,T,T,T,T,T,T,T,T,T,T,T,T,T,T,T,T,T,T,T,T,T,T,T,T,T,T,T,T,T,T,T,T,T,T,T,F] rfl rfl (any_of HT_.out (by kernel_rfl)) (fun _ _ _ h => h) (Or.inl ⟨by rfl,?_⟩) ?_ ?_
                rotate_left;(intro w';go_simp;with_reducible rfl);rotate_left;(simp only [pq];rfl)
                refine pure_ (i:=48) (N:=some 81) (v:=?_) (a' := ?_) #[T,T,T,T,T,T,T,T,T,T,T,T,T,T,T,T,T,T,T,T,T,T,T,T,T,T,T,T,T,T,T,T,T,T,T,T,T,T,T,T,T,T,T,T,T,T,T,T,T] rfl rfl (any_of HT_.out (by kernel_rfl)) (fun _ _ _ h => h) (Or.inl ⟨by rfl,?_⟩) ?_ ?_
                rotate_left;(intro w';go_simp;with_reducible rfl);rotate_left;(simp only [pq];rfl)
                refine done_ (done_of HT_.out (by kernel_rfl)) ?_
                try go_wp2
                go_meet
                case rel => exact ⟨_,(decide (((rd_T50 t511 x8_1).f0) ≥ (t496.length : Int))),(by first | rfl | (simp;done) | (simp [*];done)),H',⟨by have:=HK1.out;first | omega | exact Nat.le_refl _⟩,⟨by (with_reducible repeat (first | apply Kd.R_alloc | apply Kd.R_drewN | apply Kd.R_drew));exact HO_6.out⟩,⟨by (with_reducible repeat (first | apply Kd.S_alloc | apply Kd.S_drewN | apply Kd.S_drew));exact HO_7.out⟩,⟨by (with_reducible repeat (first | apply Kd.R_alloc | apply Kd.R_drewN | apply Kd.R_drew));exact HO_508000.out⟩,⟨by (with_reducible repeat (first | apply Kd.R_alloc | apply Kd.R_drewN | apply Kd.R_drew));exact HO_508001.out⟩,⟨by (with_reducible repeat (first | apply Kd.S_alloc | apply Kd.S_drewN | apply Kd.S_drew));exact HO_508004.out⟩,⟨by (with_reducible repeat (first | refine blk_drewN ?_ _ | refine blk_drew ?_ | refine blk_alloc ?_ _));exact BK507.out⟩,⟨by repeat (first | (with_reducible first | exact HB.out | apply below_alloc | apply pw_below_drewN | apply below_drew1 | refine below_set ?_ GE507.out) | exact HB.out)⟩⟩
       case rest =>
        clear HC18
        (try clear c2);(try clear p2);(try clear p5);(try clear q5);(try clear hx5);(try clear c20);(try clear c27);(try clear c27b0);(try clear hx517_0);(try clear hx517_1);(try clear hx517_2);(try clear hx517_3);(try clear hx518_0);(try clear hx518_1);(try clear hx518_2);(try clear hx518_3);(try clear hx519_0);(try clear hx519_1);(try clear hx519_2);(try clear hx519_3);(try clear hx520_0);(try clear hx520_1)
        (try clear hx520_2);(try clear hx520_3);(try clear hx521_0);(try clear hx521_1);(try clear hx521_2);(try clear hx521_3);(try clear hx522_0);(try clear hx522_1);(try clear hx522_2);(try clear hx522_3);(try clear p517);(try clear p518);(try clear p519);(try clear p520);(try clear p521);(try clear p522);(try clear q517);(try clear q518);(try clear q519);(try clear q520);(try clear q521);(try clear q522)
        obtain ⟨kq,x81_17,rfl,HA,HJ17,HO_6,HO_7,HO_508000,HO_508001,HO_508004,BK507,HB⟩ := hcut
        cases kq with
        | zero => exact absurd HA.out (by simp [regletlaw14_PredictClashes.j1])
        | succ kj17 =>
         have H:=HA.out
         clear HA
         simp only [regletlaw14_PredictClashes.j1] at H
         by_cases c30 : x81_17 = true
         · subst c30
           have H1 : (some false) = some r:=by rw [if_pos rfl] at H;exact H
           clear H
           have H:=H1
           clear H1
           obtain rfl:=Option.some.inj H
           go_wp2
           go_ret
           exact ⟨by first | rfl | (simp [errW_none,errW_some] <;> rfl) | (simp [*,errW_none,errW_some] <;> rfl),by repeat (first | (with_reducible first | exact HB.out | apply below_alloc | apply pw_below_drewN | apply below_drew1 | refine below_set ?_ GE507.out) | exact HB.out)⟩
         · replace c30:=Bool.eq_false_iff.mpr c30
           subst c30
           have H1 : (if 0 ≤ x8_1 then (if x8_1 < (t511.length : Int) then ((some (([(rd_T50 t511 x8_1).f2,(rd_T50 t511 x8_1).f3] : List Int) : List Int)).bind fun y525 => (regletlaw14_PredictClashes.l1 kj17 true t511 t514 x8_1 y525 (y525.length : Int) 0 t496 t499 t502 t503 t504)) else (none)) else (none)) = some r:=by rw [if_neg (show ¬ (false = true) by decide)] at H;exact H
           clear H
           have H:=H1
           clear H1
           by_cases c31 : 0 ≤ x8_1
           rotate_left
           · rw [if_neg c31] at H
             exact absurd H (by simp)
           rw [if_pos c31] at H
           have c31b0 : decide (0 ≤ x8_1) = true:=decide_eq_true c31
           clear c31
           by_cases c32 : x8_1 < (t511.length : Int)
           rotate_left
           · rw [if_neg c32] at H
             exact absurd H (by simp)
           rw [if_pos c32] at H
           have c32b0 : decide (x8_1 < (t511.length : Int)) = true:=decide_eq_true c32
           clear c32
           obtain ⟨y525,hy525⟩ : ∃ y_ : List Int,y_ = (([(rd_T50 t511 x8_1).f2,(rd_T50 t511 x8_1).f3] : List Int)) := ⟨_,rfl⟩
           replace H : (regletlaw14_PredictClashes.l1 kj17 true t511 t514 x8_1 y525 (y525.length : Int) 0 t496 t499 t502 t503 t504) = some r:=by first | (rw [hy525];with_reducible exact H) | (have H2_:=(Option.bind_some _ _).symm.trans H;rw [hy525];with_reducible exact H2_) | (have H2_:=(Option.bind_some _ _).symm.trans H;with_reducible exact H2_) | with_reducible exact H | (rw [hy525];exact H) | exact H
           have Ny525:=Aside0.mk hy525
           clear hy525
           have H' := Aside0.mk H
           clear H
           try go_wp2
           have n0_:=Aside0.mk (Kd.R_drew HO_6.out)
           have n1_:=Aside0.mk (Kd.S_drew HO_7.out)
           have n2_:=Aside0.mk (Kd.R_drew HO_508000.out)
           have n3_:=Aside0.mk (Kd.R_drew HO_508001.out)
           have n4_:=Aside0.mk (Kd.S_drew HO_508004.out)
           have n5_:=Aside0.mk (blk_drew BK507.out)
           have n6_:=Aside0.mk (below_drew1 HB.out)
           clear HO_6
           clear HO_7
           clear HO_508000
           clear HO_508001
           clear HO_508004
           clear BK507
           clear HB
           have HO_6:=n0_
           have HO_7:=n1_
           have HO_508000:=n2_
           have HO_508001:=n3_
           have HO_508004:=n4_
           have BK507:=n5_
           have HB:=n6_
           clear n0_ n1_ n2_ n3_ n4_ n5_ n6_
           have p523 : 0 ≤ (x8_1 : Int) := of_decide_eq_true (by first | (with_reducible assumption) | assumption)
           have q523 : x8_1 < (t511.length : Int) := of_decide_eq_true (by first | (with_reducible assumption) | assumption)
           obtain ⟨ad523,e523,hx523_0,hx523_1,hx523_2,hx523_3⟩ := at_T50 (Kd.R_reads' HO_6.out).2.2 x8_1 p523 q523
           cases e523
           replace p523:=eq_true p523
           replace q523:=eq_true q523
           have p524 : 0 ≤ (x8_1 : Int) := of_decide_eq_true (by first | (with_reducible assumption) | assumption)
           have q524 : x8_1 < (t511.length : Int) := of_decide_eq_true (by first | (with_reducible assumption) | assumption)
           obtain ⟨ad524,e524,hx524_0,hx524_1,hx524_2,hx524_3⟩ := at_T50 (Kd.R_reads' HO_6.out).2.2 x8_1 p524 q524
           obtain rfl : ad523 = ad524:=(by injection e524)
           replace p524:=eq_true p524
           replace q524:=eq_true q524
           refine start_ (n:=13) (S:=fun w' => w'.cell? (ad523.add ((x8_1).toNat * 4)) = some (.int .i64 ((rd_T50 t511 x8_1).f0)) ∧ w'.cell? ⟨(ad523.add ((x8_1).toNat * 4)).block,(ad523.add ((x8_1).toNat * 4)).off + 1,none⟩ = some (.int .i64 ((rd_T50 t511 x8_1).f1)) ∧ w'.cell? ⟨(ad523.add ((x8_1).toNat * 4)).block,(ad523.add ((x8_1).toNat * 4)).off + 2,none⟩ = some (.int .i64 ((rd_T50 t511 x8_1).f2)) ∧ w'.cell? ⟨(ad523.add ((x8_1).toNat * 4)).block,(ad523.add ((x8_1).toNat * 4)).off + 3,none⟩ = some (.int .i64 ((rd_T50 t511 x8_1).f3)) ∧ w'.cell? (ad523.add ((x8_1).toNat * 4)) = some (.int .i64 ((rd_T50 t511 x8_1).f0)) ∧ w'.cell? ⟨(ad523.add ((x8_1).toNat * 4)).block,(ad523.add ((x8_1).toNat * 4)).off + 1,none⟩ = some (.int .i64 ((rd_T50 t511 x8_1).f1)) ∧ w'.cell? ⟨(ad523.add ((x8_1).toNat * 4)).block,(ad523.add ((x8_1).toNat * 4)).off + 2,none⟩ = some (.int .i64 ((rd_T50 t511 x8_1).f2)) ∧ w'.cell? ⟨(ad523.add ((x8_1).toNat * 4)).block,(ad523.add ((x8_1).toNat * 4)).off + 3,none⟩ = some (.int .i64 ((rd_T50 t511 x8_1).f3))) (ds := []) #[F,F,F,F,F,F,F,F,F,F,F,F,F] (by kernel_rfl) rfl rfl ⟨hx523_0,hx523_1,hx523_2,hx523_3,hx524_0,hx524_1,hx524_2,hx524_3⟩ (fun hHeld => ?_);refine with_tabW regletlaw14_PredictClashes.tab12 regletlaw14_PredictClashes.bits12 (fun HT_ HW_ => ?_)
           generalize wc.drew = w33 at HO_6 HO_7 HO_508000 HO_508001 HO_508004 BK507 HB hx523_0 hx523_1 hx523_2 hx523_3 hx524_0 hx524_1 hx524_2 hx524_3 hHeld ⊢
           refine pure_ (i:=0) (N:=some 82) (v:=?_) (a' := ?_) #[T,F,F,F,F,F,F,F,F,F,F,F,F] rfl rfl (any_of HT_.out (by kernel_rfl)) (fun _ _ _ h => h) (Or.inl ⟨by rfl,?_⟩) ?_ ?_
           rotate_left;(intro w';go_simp;with_reducible rfl);rotate_left;(simp only [pq];rfl)
           refine pure_ (i:=1) (N:=some 83) (v:=?_) (a' := ?_) #[T,T,F,F,F,F,F,F,F,F,F,F,F] rfl rfl (any_of HT_.out (by kernel_rfl)) (fun _ _ _ h => h) (Or.inl ⟨by rfl,?_⟩) ?_ ?_
           rotate_left;(intro w';go_simp;with_reducible rfl);rotate_left;(simp only [pq];rfl)
           refine pure_ (i:=2) (N:=some 84) (v:=?_) (a' := ?_) #[T,T,T,F,F,F,F,F,F,F,F,F,F] rfl rfl (any_of HT_.out (by kernel_rfl)) (fun _ _ _ h => h) (Or.inl ⟨by rfl,?_⟩) ?_ ?_
           rotate_left;(intro w';go_simp;with_reducible rfl);rotate_left;(simp only [pq];rfl)
           refine pure_ (i:=3) (N:=some 85) (v:=?_) (a' := ?_) #[T,T,T,T,F,F,F,F,F,F,F,F,F] rfl rfl (any_of HT_.out (by kernel_rfl)) (fun _ _ _ h => h) (Or.inl ⟨by rfl,?_⟩) ?_ ?_
           rotate_left;(intro w';go_simp;with_reducible rfl);rotate_left;(simp only [pq];rfl)
           refine pure_ (i:=5) (N:=some 87) (v:=?_) (a' := ?_) #[T,T,T,T,F,T,F,F,F,F,F,F,F] rfl rfl (any_of HT_.out (by kernel_rfl)) (fun _ _ _ h => h) (Or.inl ⟨by rfl,?_⟩) ?_ ?_
           rotate_left;(intro w';go_simp;with_reducible rfl);rotate_left;(simp only [pq];rfl)
           refine pure_ (i:=6) (N:=some 88) (v:=?_) (a' := ?_) #[T,T,T,T,F,T,T,F,F,F,F,F,F] rfl rfl (any_of HT_.out (by kernel_rfl)) (fun _ _ _ h => h) (Or.inl ⟨by rfl,?_⟩) ?_ ?_
           rotate_left;(intro w';go_simp;with_reducible rfl);rotate_left;(simp only [pq];rfl)
           refine pure_ (i:=7) (N:=some 89) (v:=?_) (a' := ?_) #[T,T,T,T,F,T,T,T,F,F,F,F,F] rfl rfl (any_of HT_.out (by kernel_rfl)) (fun _ _ _ h => h) (Or.inl ⟨by rfl,?_⟩) ?_ ?_
           rotate_left;(intro w';go_simp;with_reducible rfl);rotate_left;(simp only [pq];rfl)
           refine pure_ (i:=8) (N:=some 90) (v:=?_) (a' := ?_) #[T,T,T,T,F,T,T,T,T,F,F,F,F] rfl rfl (any_of HT_.out (by kernel_rfl)) (fun _ _ _ h => h) (Or.inl ⟨by rfl,?_⟩) ?_ ?_
           rotate_left;(intro w';go_simp;with_reducible rfl);rotate_left;(simp only [pq];rfl)
           refine pure_ (i:=12) (N:=some 94) (v:=?_) (a' := ?_) #[T,T,T,T,F,T,T,T,T,F,F,F,T] rfl rfl (any_of HT_.out (by kernel_rfl)) (fun _ _ _ h => h) (Or.inl ⟨by rfl,?_⟩) ?_ ?_
           rotate_left;(intro w';go_simp;with_reducible rfl);rotate_left;(simp only [pq];rfl)
           refine take_ (i:=4) (N:=some 86) (v:=?_) (a' := ?_) #[T,T,T,T,T,T,T,T,T,F,F,F,T] rfl rfl (take_ofW HT_.out HW_.out (by kernel_rfl)) (fun _ _ _ h => h) (Or.inl ⟨by rfl,?_⟩) hHeld ?_ ?_
           rotate_left
           · rintro w' ⟨s0,s1,s2,s3,s4,s5,s6,s7⟩
             go_simp
             with_reducible rfl
           rotate_left
           · simp only [pq]
             rfl
           refine take_ (i:=9) (N:=some 91) (v:=?_) (a' := ?_) #[T,T,T,T,T,T,T,T,T,T,F,F,T] rfl rfl (take_ofW HT_.out HW_.out (by kernel_rfl)) (fun _ _ _ h => h) (Or.inl ⟨by rfl,?_⟩) hHeld ?_ ?_
           rotate_left
           · rintro w' ⟨s0,s1,s2,s3,s4,s5,s6,s7⟩
             go_simp
             with_reducible rfl
           rotate_left
           · simp only [pq]
             rfl
           refine one_ (i:=10) (N:=some 92) #[T,T,T,T,T,T,T,T,T,T,T,F,T] rfl rfl (one_of HT_.out (by kernel_rfl)) (by decide) (fun K hK => ?_)
           refine Kd.R_lit_step (Kd.int .i64) _ 3 ?hg (N:=92) ?hd (xs:=([(rd_T50 t511 x8_1).f2,(rd_T50 t511 x8_1).f3] : List Int)) (inner := [.int .i64 ((rd_T50 t511 x8_1).f2),.int .i64 ((rd_T50 t511 x8_1).f3)]) (ok:=fun _ => True) (okp:=fun _ => True) ?hr ?hp (fun _ hk => hk) trivial (Below.refl _ _) (Nat.le_refl _) (by simp) ?_;(case hd => rfl);(case hg => rfl);(case hr => first | (go_simp;done) | (go_simp;rfl));(case hp => exact (Reps.one (show Kd.M (Kd.int .i64) _ _ _ ((rd_T50 t511 x8_1).f2) [.int .i64 ((rd_T50 t511 x8_1).f2)] from rfl) (Reps.one (show Kd.M (Kd.int .i64) _ _ _ ((rd_T50 t511 x8_1).f3) [.int .i64 ((rd_T50 t511 x8_1).f3)] from rfl) (Reps.none _ _))))
           intro v526 w34 ho35 hb hg_ hnew_
           have HS0_:=(hb.cell (World.block_lt_of_cell? _ _ (hHeld.1))).trans (hHeld.1)
           have HS1_:=(hb.cell (World.block_lt_of_cell? _ _ (hHeld.2.1))).trans (hHeld.2.1)
           have HS2_:=(hb.cell (World.block_lt_of_cell? _ _ (hHeld.2.2.1))).trans (hHeld.2.2.1)
           have HS3_:=(hb.cell (World.block_lt_of_cell? _ _ (hHeld.2.2.2.1))).trans (hHeld.2.2.2.1)
           have HS4_:=(hb.cell (World.block_lt_of_cell? _ _ (hHeld.2.2.2.2.1))).trans (hHeld.2.2.2.2.1)
           have HS5_:=(hb.cell (World.block_lt_of_cell? _ _ (hHeld.2.2.2.2.2.1))).trans (hHeld.2.2.2.2.2.1)
           have HS6_:=(hb.cell (World.block_lt_of_cell? _ _ (hHeld.2.2.2.2.2.2.1))).trans (hHeld.2.2.2.2.2.2.1)
           have HS7_:=(hb.cell (World.block_lt_of_cell? _ _ (hHeld.2.2.2.2.2.2.2))).trans (hHeld.2.2.2.2.2.2.2)
           clear hg_ hnew_
           (first | rw [← Ny525.out] at ho35 | (simp only [Int.reduceToNat] at ho35;rw [← Ny525.out] at ho35))
           have n0_:=Aside0.mk (Kd.R_below (by (with_reducible repeat (first | apply Kd.R_alloc | apply Kd.R_drewN | apply Kd.R_drew));exact HO_6.out) hb)
           have n1_:=Aside0.mk (Kd.S_elder' (by (with_reducible repeat (first | apply Kd.S_alloc | apply Kd.S_drewN | apply Kd.S_drew));exact HO_7.out) (Kd.R_base ho35) hb)
           have n2_:=Aside0.mk (Kd.R_below (by (with_reducible repeat (first | apply Kd.R_alloc | apply Kd.R_drewN | apply Kd.R_drew));exact HO_508000.out) hb)
           have n3_:=Aside0.mk (Kd.R_elder' (by (with_reducible repeat (first | apply Kd.R_alloc | apply Kd.R_drewN | apply Kd.R_drew));exact HO_508001.out) (Kd.R_base ho35) hb)
           have n4_:=Aside0.mk (Kd.S_below (by (with_reducible repeat (first | apply Kd.S_alloc | apply Kd.S_drewN | apply Kd.S_drew));exact HO_508004.out) hb)
           have n5_:=Aside0.mk (Kd.R_lower ho35 (below_size (by repeat (first | (with_reducible first | exact HB.out | apply below_alloc | apply pw_below_drewN | apply below_drew1 | refine below_set ?_ GE507.out) | exact HB.out))))
           have n6_:=Aside0.mk (blk_below (g:=gb507) (o := .cells #[.slice Ao10 t496.length co10,.slice Ao12 t499.length co12,.int .i64 t502,.int .i64 t503,.slice Ao13 t504.length co13] 26 (0,0)) (by (with_reducible repeat (first | refine blk_drewN ?_ _ | refine blk_drew ?_ | refine blk_alloc ?_ _));exact BK507.out) hb)
           have n7_:=Aside0.mk (below_step (by repeat (first | (with_reducible first | exact HB.out | apply below_alloc | apply pw_below_drewN | apply below_drew1 | refine below_set ?_ GE507.out) | exact HB.out)) hb)
           clear HO_6
           clear HO_7
           clear HO_508000
           clear HO_508001
           clear HO_508004
           clear BK507
           clear HB
           have HO_6:=n0_
           have HO_7:=n1_
           have HO_508000:=n2_
           have HO_508001:=n3_
           have HO_508004:=n4_
           have HO527:=n5_
           have BK507:=n6_
           have HB:=n7_
           clear n0_ n1_ n2_ n3_ n4_ n5_ n6_ n7_
           clear hb ho35
           obtain ⟨Ao36,co36,eo36⟩ := Kd.R_slice HO527.out
           (first | subst eo36 | (injection eo36 with f1_ f2_ f3_;have f4_:=f1_.symm;have f5_:=f3_.symm;clear f1_ f2_ f3_;subst f4_;subst f5_))
           refine hK.out _ _ ⟨HS0_,HS1_,HS2_,HS3_,HS4_,HS5_,HS6_,HS7_⟩ (fun hHeld => ?_)
           clear hK K
           refine norm_ (a' := ?_) ?_ ?_
           rotate_left
           · show Act.put _ (some 92) _ = _
             simp only [pq]
             rfl
           refine pure_ (i:=11) (N:=some 93) (v:=?_) (a' := ?_) #[T,T,T,T,T,T,T,T,T,T,T,T,T] rfl rfl (any_of HT_.out (by kernel_rfl)) (fun _ _ _ h => h) (Or.inl ⟨by rfl,?_⟩) ?_ ?_
           rotate_left;(intro w';go_simp;with_reducible rfl);rotate_left;(simp only [pq];rfl)
           refine done_ (done_of HT_.out (by kernel_rfl)) ?_
           try go_wp2
           go_loopg [94] kj17 (fun kq v94 w' => ∃ (x94_3 : Int),v94 = .int .i64 x94_3 ∧ Aside0 (regletlaw14_PredictClashes.l1 kq true t511 t514 x8_1 y525 (y525.length : Int) x94_3 t496 t499 t502 t503 t504 = some r) ∧ Aside0 (kq ≤ kj17) ∧ Aside0 (Kd.R k50 50 w' w.heap.size (fun _ => True) (.slice (some ad523) t511.length co19) t511) ∧ Aside0 (Kd.S (Kd.slice 3 (Kd.int .i64)) 43 w' w.heap.size (fun k_ => some k_ ≠ ((.slice Ao36 y525.length co36) : Value).ownBlock) v515 t514) ∧ Aside0 (Kd.R (Kd.int .i64) 3 w' w.heap.size (fun _ => True) (.slice Ao36 y525.length co36) y525) ∧ Aside0 (Kd.R Kd.string 9 w' w.heap.size (fun _ => True) (.slice Ao10 t496.length co10) t496) ∧ Aside0 (Kd.R k61 61 w' w.heap.size (fun k_ => some k_ ≠ ((.slice Ao36 y525.length co36) : Value).ownBlock) (.slice Ao12 t499.length co12) t499) ∧ Aside0 (Kd.S k30 30 w' w.heap.size (fun _ => True) (.slice Ao13 t504.length co13) t504) ∧ Aside0 (w'.heap[gb507]? = some (.cells #[(.slice Ao10 t496.length co10),(.slice Ao12 t499.length co12),.int .i64 t502,.int .i64 t503,(.slice Ao13 t504.length co13)] 26 (0,0))) ∧ Aside0 (Below w.heap.size w w'))
           case atStart => exact ⟨(0),(by first | rfl | (simp;done) | (simp [*];done)),H',⟨Nat.le_refl _⟩,⟨by (with_reducible repeat (first | apply Kd.R_alloc | apply Kd.R_drewN | apply Kd.R_drew));exact HO_6.out⟩,⟨by (with_reducible repeat (first | apply Kd.S_alloc | apply Kd.S_drewN | apply Kd.S_drew));exact Kd.S_mono HO_7.out (fun _ hk => hk.2)⟩,⟨by (with_reducible repeat (first | apply Kd.R_alloc | apply Kd.R_drewN | apply Kd.R_drew));exact HO527.out⟩,⟨by (with_reducible repeat (first | apply Kd.R_alloc | apply Kd.R_drewN | apply Kd.R_drew));exact HO_508000.out⟩,⟨by (with_reducible repeat (first | apply Kd.R_alloc | apply Kd.R_drewN | apply Kd.R_drew));exact Kd.R_mono HO_508001.out (fun _ hk => hk.2)⟩,⟨by (with_reducible repeat (first | apply Kd.S_alloc | apply Kd.S_drewN | apply Kd.S_drew));exact HO_508004.out⟩,⟨by (with_reducible repeat (first | refine blk_drewN ?_ _ | refine blk_drew ?_ | refine blk_alloc ?_ _));exact BK507.out⟩,⟨by repeat (first | (with_reducible first | exact HB.out | apply below_alloc | apply pw_below_drewN | apply below_drew1 | refine below_set ?_ GE507.out) | exact HB.out)⟩⟩
           case round =>
            clear H'
            (try clear c2);(try clear p2);(try clear c3);(try clear p5);(try clear q5);(try clear hx5);(try clear c20);(try clear c27);(try clear c27b0);(try clear c30);(try clear c31);(try clear c31b0);(try clear c32);(try clear c32b0);(try clear hx517_0);(try clear hx517_1);(try clear hx517_2);(try clear hx517_3);(try clear hx518_0);(try clear hx518_1);(try clear hx518_2);(try clear hx518_3);(try clear hx519_0)
            (try clear hx519_1);(try clear hx519_2);(try clear hx519_3);(try clear hx520_0);(try clear hx520_1);(try clear hx520_2);(try clear hx520_3);(try clear hx521_0);(try clear hx521_1);(try clear hx521_2);(try clear hx521_3);(try clear hx522_0);(try clear hx522_1);(try clear hx522_2);(try clear hx522_3);(try clear hx523_0);(try clear hx523_1);(try clear hx523_2);(try clear hx523_3);(try clear hx524_0);(try clear hx524_1)
            (try clear hx524_2);(try clear hx524_3);(try clear p2);(try clear p5);(try clear p517);(try clear p518);(try clear p519);(try clear p520);(try clear p521);(try clear p522);(try clear p523);(try clear p524);(try clear q5);(try clear q517);(try clear q518);(try clear q519);(try clear q520);(try clear q521);(try clear q522);(try clear q523);(try clear q524)
            obtain ⟨x94_3,rfl,HA,HK3,HO_6,HO_7,HO_92,HO_508000,HO_508001,HO_508004,BK507,HB⟩ := hrel
            cases gk with
            | zero => exact absurd HA.out (by simp [regletlaw14_PredictClashes.l1])
            | succ k3 =>
             have H:=HA.out
             clear HA
             simp only [regletlaw14_PredictClashes.l1] at H
             by_cases c37 : x94_3 < (y525.length : Int)
             · rw [if_pos c37] at H
               have c37b0 : decide (x94_3 < (y525.length : Int)) = true:=decide_eq_true c37
               clear c37
               by_cases c38 : 0 ≤ x94_3
               rotate_left
               · rw [if_neg c38] at H
                 exact absurd H (by simp)
               rw [if_pos c38] at H
               have c38b0 : decide (0 ≤ x94_3) = true:=decide_eq_true c38
               clear c38
               by_cases c39 : x94_3 < (y525.length : Int)
               rotate_left
               · rw [if_neg c39] at H
                 exact absurd H (by simp)
               rw [if_pos c39] at H
               have c39b0 : decide (x94_3 < (y525.length : Int)) = true:=decide_eq_true c39
               clear c39
               by_cases c40 : 0 ≤ (rd y525 x94_3)
               rotate_left
               · rw [if_neg c40] at H
                 exact absurd H (by simp)
               rw [if_pos c40] at H
               have c40b0 : decide (0 ≤ (rd y525 x94_3)) = true:=decide_eq_true c40
               clear c40
               by_cases c41 : (rd y525 x94_3) < (t504.length : Int)
               rotate_left
               · rw [if_neg c41] at H
                 exact absurd H (by simp)
               rw [if_pos c41] at H
               have c41b0 : decide ((rd y525 x94_3) < (t504.length : Int)) = true:=decide_eq_true c41
               clear c41
               replace H:=Option.bind_eq_some_iff.mp H
               obtain ⟨⟨t530,t533⟩,A420,H⟩ := H
               replace H : (if t533 = true then (if 0 ≤ x8_1 then (if x8_1 < (t511.length : Int) then (if 0 ≤ ((rd_T50 t511 x8_1).f0) then (if ((rd_T50 t511 x8_1).f0) < (t514.length : Int) then (if t530.length + (rd_L3 t514 ((rd_T50 t511 x8_1).f0)).length < 17592186044416 then (regletlaw14_PredictClashes.j3 k3 true t511 t514 x8_1 (rd y525 x94_3) (t530 ++ (rd_L3 t514 ((rd_T50 t511 x8_1).f0))) y525 (y525.length : Int) x94_3 t496 t499 t502 t503 t504) else (none)) else (none)) else (none)) else (none)) else (none)) else (regletlaw14_PredictClashes.j3 k3 true t511 t514 x8_1 (rd y525 x94_3) t530 y525 (y525.length : Int) x94_3 t496 t499 t502 t503 t504)) = some r:=H
               have A42:=Aside0.mk A420
               clear A420
               have HC43:=Aside0.mk H
               clear H
               have p528 : 0 ≤ (x94_3 : Int) := of_decide_eq_true (by first | (with_reducible assumption) | assumption)
               have q528 : x94_3 < (y525.length : Int) := of_decide_eq_true (by first | (with_reducible assumption) | assumption)
               obtain ⟨ad528,e528,hx528_0⟩ := Kd.at_int (Kd.R_reads' HO_92.out).2.2 x94_3 p528 q528
               cases e528
               replace p528:=eq_true p528
               replace q528:=eq_true q528
               try go_wp2
               have n0_:=Aside0.mk (Kd.R_drew HO_6.out)
               have n1_:=Aside0.mk (Kd.S_drew HO_7.out)
               have n2_:=Aside0.mk (Kd.R_drew HO_92.out)
               have n3_:=Aside0.mk (Kd.R_drew HO_508000.out)
               have n4_:=Aside0.mk (Kd.R_drew HO_508001.out)
               have n5_:=Aside0.mk (Kd.S_drew HO_508004.out)
               have n6_:=Aside0.mk (blk_drew BK507.out)
               have n7_:=Aside0.mk (below_drew1 HB.out)
               clear HO_6
               clear HO_7
               clear HO_92
               clear HO_508000
               clear HO_508001
               clear HO_508004
               clear BK507
               clear HB
               have HO_6:=n0_
               have HO_7:=n1_
               have HO_92:=n2_
               have HO_508000:=n3_
               have HO_508001:=n4_
               have HO_508004:=n5_
               have BK507:=n6_
               have HB:=n7_
               clear n0_ n1_ n2_ n3_ n4_ n5_ n6_ n7_
               have p529 : 0 ≤ ((rd y525 x94_3) : Int) := of_decide_eq_true (by first | (with_reducible assumption) | assumption)
               have q529 : (rd y525 x94_3) < (t504.length : Int) := of_decide_eq_true (by first | (with_reducible assumption) | assumption)
               obtain ⟨ad529,A529_1,c529_1,e529,hx529_0,hx529_1,hl529_1,hi529_1⟩ := at_T30 (Kd.S_reads' HO_508004.out).2.2 (rd y525 x94_3) p529 q529
               cases e529
               obtain ⟨ce529,hce529,hMe529,hcc529⟩ := Kd.S_get HO_508004.out z30 (rd y525 x94_3) p529 (by first | exact q529 | exact of_decide_eq_true (by first | (with_reducible assumption) | assumption) | (have e_:=(Kd.S_reads' HO_508004.out).1;omega))
               obtain ⟨ve529_1,rfl,ge529_1⟩ := k30_openM hMe529
               have hv529_1:=hcc529 1 _ rfl
               rw [add_field _ _ 1 (by omega)] at hv529_1
               replace hv529_1:=Option.some.inj (hv529_1.symm.trans hx529_1)
               rw [hv529_1] at ge529_1
               have HL529_1:=Aside0.mk (show Kd.R k53 53 _ _ _ _ ((rd_T30 t504 (rd y525 x94_3)).f1) from ge529_1)
               clear hv529_1 ge529_1
               clear hcc529 hce529
               have HR529_1:=Aside0.mk hi529_1
               have HC529_1:=Aside0.mk hl529_1
               clear hi529_1 hl529_1
               replace p529:=eq_true p529
               replace q529:=eq_true q529
               refine start_ (n:=13) (S:=fun w' => w'.cell? ⟨gb507,0,none⟩ = some (.slice Ao10 t496.length co10) ∧ w'.cell? ⟨gb507,1,none⟩ = some (.slice Ao12 t499.length co12) ∧ w'.cell? ⟨gb507,2,none⟩ = some (.int .i64 t502) ∧ w'.cell? ⟨gb507,3,none⟩ = some (.int .i64 t503) ∧ w'.cell? ⟨gb507,4,none⟩ = some (.slice (some ad529) t504.length co13) ∧ w'.cell? (ad529.add (((rd y525 x94_3)).toNat * 2)) = some (.int .i64 ((rd_T30 t504 (rd y525 x94_3)).f0)) ∧ w'.cell? ⟨(ad529.add (((rd y525 x94_3)).toNat * 2)).block,(ad529.add (((rd y525 x94_3)).toNat * 2)).off + 1,none⟩ = some (.slice A529_1 ((rd_T30 t504 (rd y525 x94_3)).f1).length c529_1)) (ds := []) #[F,F,F,F,F,F,F,F,F,F,F,F,F] (by kernel_rfl) rfl rfl ⟨(blk_cell BK507.out 0).trans rfl,(blk_cell BK507.out 1).trans rfl,(blk_cell BK507.out 2).trans rfl,(blk_cell BK507.out 3).trans rfl,(blk_cell BK507.out 4).trans rfl,hx529_0,hx529_1⟩ (fun hHeld => ?_);refine with_tabW regletlaw14_PredictClashes.tab15 regletlaw14_PredictClashes.bits15 (fun HT_ HW_ => ?_)
               generalize wr.drew = w44 at HO_6 HO_7 HO_92 HO_508000 HO_508001 HO_508004 BK507 HB HL529_1 HR529_1 hx529_0 hx529_1 hHeld ⊢
               refine pure_ (i:=1) (N:=some 100) (v:=?_) (a' := ?_) #[F,T,F,F,F,F,F,F,F,F,F,F,F] rfl rfl (any_of HT_.out (by kernel_rfl)) (fun _ _ _ h => h) (Or.inl ⟨by rfl,?_⟩) ?_ ?_
               rotate_left;(intro w';go_simp;with_reducible rfl);rotate_left;(simp only [pq];rfl)
               refine pure_ (i:=3) (N:=some 102) (v:=?_) (a' := ?_) #[F,T,F,T,F,F,F,F,F,F,F,F,F] rfl rfl (any_of HT_.out (by kernel_rfl)) (fun _ _ _ h => h) (Or.inl ⟨by rfl,?_⟩) ?_ ?_
               rotate_left;(intro w';go_simp;with_reducible rfl);rotate_left;(simp only [pq];rfl)
               refine take_ (i:=0) (N:=some 99) (v:=?_) (a' := ?_) #[T,T,F,T,F,F,F,F,F,F,F,F,F] rfl rfl (take_ofW HT_.out HW_.out (by kernel_rfl)) (fun _ _ _ h => h) (Or.inl ⟨by rfl,?_⟩) hHeld ?_ ?_
               rotate_left
               · rintro w' ⟨s0,s1,s2,s3,s4,s5,s6⟩
                 go_simp
                 with_reducible rfl
               rotate_left
               · simp only [pq]
                 rfl
               refine take_ (i:=2) (N:=some 101) (v:=?_) (a' := ?_) #[T,T,T,T,F,F,F,F,F,F,F,F,F] rfl rfl (take_ofW HT_.out HW_.out (by kernel_rfl)) (fun _ _ _ h => h) (Or.inl ⟨by rfl,?_⟩) hHeld ?_ ?_
               rotate_left
               · rintro w' ⟨s0,s1,s2,s3,s4,s5,s6⟩
                 go_simp
                 with_reducible rfl
               rotate_left
               · simp only [pq]
                 rfl
               refine pure_ (i:=4) (N:=some 103) (v:=?_) (a' := ?_) #[T,T,T,T,T,F,F,F,F,F,F,F,F] rfl rfl (any_of HT_.out (by kernel_rfl)) (fun _ _ _ h => h) (Or.inl ⟨by rfl,?_⟩) ?_ ?_
               rotate_left;(intro w';go_simp;with_reducible rfl);rotate_left;(simp only [pq];rfl)
               refine pure_ (i:=5) (N:=some 104) (v:=?_) (a' := ?_) #[T,T,T,T,T,T,F,F,F,F,F,F,F] rfl rfl (any_of HT_.out (by kernel_rfl)) (fun _ _ _ h => h) (Or.inl ⟨by rfl,?_⟩) ?_ ?_
               rotate_left;(intro w';go_simp;with_reducible rfl);rotate_left;(simp only [pq];rfl)
               refine take_ (i:=6) (N:=some 105) (v:=?_) (a' := ?_) #[T,T,T,T,T,T,T,F,F,F,F,F,F] rfl rfl (take_ofW HT_.out HW_.out (by kernel_rfl)) (fun _ _ _ h => h) (Or.inl ⟨by rfl,?_⟩) hHeld ?_ ?_
               rotate_left
               · rintro w' ⟨s0,s1,s2,s3,s4,s5,s6⟩
                 go_simp
                 with_reducible rfl
               rotate_left
               · simp only [pq]
                 rfl
               refine one_ (i:=7) (N:=some 106) #[T,T,T,T,T,T,T,T,F,F,F,F,F] rfl rfl (one_of HT_.out (by kernel_rfl)) (by decide) (fun K hK => ?_)
               refine goes_ Try.func17 (by kernel_rfl) rfl #[.agg #[.slice Ao10 t496.length co10,.slice Ao12 t499.length co12,.int .i64 t502,.int .i64 t503,.slice (some ad529) t504.length co13],.slice A529_1 ((rd_T30 t504 (rd y525 x94_3)).f1).length c529_1] (by rfl) rfl rfl (by (try simp only [List.map_toArray,List.map_cons,List.map_nil]);first | done | rfl | (simp only [List.length_drop,List.length_take];rfl)) ?_
               with_reducible refine (regletref13_Of.calls k3 _ _ t496 _ _ t499 t502 t503 _ _ t504 _ _ ((rd_T30 t504 (rd y525 x94_3)).f1) t530 t533 _ ?side1 ?side2 ?side3 ?side4 ?side5 ?side6 ?side7 ?side8 A42.out).mono ?_
               (case side1 => repeat (first | exact (Kd.R_reads' HO_508000.out).2.2 | (with_reducible refine Kd.C_alloc ?_ _) | (with_reducible refine Kd.C_drewN ?_ _) | (with_reducible refine Kd.C_drew ?_)))
               (case side2 => exact (Kd.R_reads' HO_508000.out).2.1)
               (case side3 => repeat (first | exact (Kd.R_reads' HO_508001.out).2.2 | (with_reducible refine Kd.C_alloc ?_ _) | (with_reducible refine Kd.C_drewN ?_ _) | (with_reducible refine Kd.C_drew ?_)))
               (case side4 => exact (Kd.R_reads' HO_508001.out).2.1)
               (case side5 => repeat (first | exact (Kd.S_reads' HO_508004.out).2.2 | (with_reducible refine Kd.C_alloc ?_ _) | (with_reducible refine Kd.C_drewN ?_ _) | (with_reducible refine Kd.C_drew ?_)))
               (case side6 => exact (Kd.S_reads' HO_508004.out).2.1)
               (case side7 => repeat (first | exact (by repeat (first | (with_reducible exact HR529_1.out) | (with_reducible refine Kd.C_alloc ?_ _) | (with_reducible refine Kd.C_drewN ?_ _) | (with_reducible refine Kd.C_drew ?_) | exact HR529_1.out)) | (with_reducible refine Kd.C_alloc ?_ _) | (with_reducible refine Kd.C_drewN ?_ _) | (with_reducible refine Kd.C_drew ?_)))
               (case side8 => exact HC529_1.out)
               rintro e w45 ⟨v531,rfl,ho0,hb⟩
               have HS5_:=(hb.cell (World.block_lt_of_cell? _ _ (hHeld.2.2.2.2.2.1))).trans (hHeld.2.2.2.2.2.1)
               have HS6_:=(hb.cell (World.block_lt_of_cell? _ _ (hHeld.2.2.2.2.2.2))).trans (hHeld.2.2.2.2.2.2)
               refine ⟨_,rfl,?_⟩
               have n0_:=Aside0.mk (Kd.R_below (by (with_reducible repeat (first | apply Kd.R_alloc | apply Kd.R_drewN | apply Kd.R_drew));exact HO_6.out) hb)
               have n1_:=Aside0.mk (Kd.S_elder' (by (with_reducible repeat (first | apply Kd.S_alloc | apply Kd.S_drewN | apply Kd.S_drew));exact HO_7.out) (Kd.R_base ho0) hb)
               have n2_:=Aside0.mk (Kd.R_elder' (by (with_reducible repeat (first | apply Kd.R_alloc | apply Kd.R_drewN | apply Kd.R_drew));exact HO_92.out) (Kd.R_base ho0) hb)
               have n3_:=Aside0.mk (Kd.R_below (by (with_reducible repeat (first | apply Kd.R_alloc | apply Kd.R_drewN | apply Kd.R_drew));exact HO_508000.out) hb)
               have n4_:=Aside0.mk (Kd.R_elder' (by (with_reducible repeat (first | apply Kd.R_alloc | apply Kd.R_drewN | apply Kd.R_drew));exact HO_508001.out) (Kd.R_base ho0) hb)
               have n5_:=Aside0.mk (Kd.S_below (by (with_reducible repeat (first | apply Kd.S_alloc | apply Kd.S_drewN | apply Kd.S_drew));exact HO_508004.out) hb)
               have n6_:=Aside0.mk (Kd.R_below (by (with_reducible repeat (first | apply Kd.R_alloc | apply Kd.R_drewN | apply Kd.R_drew));exact HL529_1.out) hb)
               have n7_:=Aside0.mk (Kd.R_lower (Kd.R_new' ho0 (Kd.R_lt (by (with_reducible repeat (first | apply Kd.R_alloc | apply Kd.R_drewN | apply Kd.R_drew));exact HO_92.out))) (below_size (by repeat (first | (with_reducible first | exact HB.out | apply below_alloc | apply pw_below_drewN | apply below_drew1 | refine below_set ?_ GE507.out) | exact HB.out))))
               have n8_:=Aside0.mk (blk_below (g:=gb507) (o := .cells #[.slice Ao10 t496.length co10,.slice Ao12 t499.length co12,.int .i64 t502,.int .i64 t503,.slice (some ad529) t504.length co13] 26 (0,0)) (by (with_reducible repeat (first | refine blk_drewN ?_ _ | refine blk_drew ?_ | refine blk_alloc ?_ _));exact BK507.out) hb)
               have n9_:=Aside0.mk (Kd.C_below (by repeat (first | (with_reducible exact HR529_1.out) | (with_reducible refine Kd.C_alloc ?_ _) | (with_reducible refine Kd.C_drewN ?_ _) | (with_reducible refine Kd.C_drew ?_) | exact HR529_1.out)) hb)
               have n10_:=Aside0.mk (below_step (by repeat (first | (with_reducible first | exact HB.out | apply below_alloc | apply pw_below_drewN | apply below_drew1 | refine below_set ?_ GE507.out) | exact HB.out)) hb)
               clear HO_6
               clear HO_7
               clear HO_92
               clear HO_508000
               clear HO_508001
               clear HO_508004
               clear HL529_1
               clear BK507
               clear HR529_1
               clear HB
               have HO_6:=n0_
               have HO_7:=n1_
               have HO_92:=n2_
               have HO_508000:=n3_
               have HO_508001:=n4_
               have HO_508004:=n5_
               have HL529_1:=n6_
               have HO532:=n7_
               have BK507:=n8_
               have HR529_1:=n9_
               have HB:=n10_
               clear n0_ n1_ n2_ n3_ n4_ n5_ n6_ n7_ n8_ n9_ n10_
               (try clear hb);(try clear hb2);(try clear hk);(try clear hi);(try clear ho0)
               refine hK.out _ _ ⟨(blk_cell BK507.out 0).trans rfl,(blk_cell BK507.out 1).trans rfl,(blk_cell BK507.out 2).trans rfl,(blk_cell BK507.out 3).trans rfl,(blk_cell BK507.out 4).trans rfl,HS5_,HS6_⟩ (fun hHeld => ?_)
               clear hK K
               refine norm_ (a' := ?_) ?_ ?_
               rotate_left
               · show Act.put _ (some 106) _ = _
                 simp only [pq]
                 rfl
               refine pure_ (i:=8) (N:=some 98) (v:=?_) (a' := ?_) #[T,T,T,T,T,T,T,T,T,F,F,F,F] rfl rfl (any_of HT_.out (by kernel_rfl)) (fun _ _ _ h => h) (Or.inl ⟨by rfl,?_⟩) ?_ ?_
               rotate_left;(intro w';go_simp;with_reducible rfl);rotate_left;(simp only [pq];rfl)
               refine pure_ (i:=9) (N:=some 107) (v:=?_) (a' := ?_) #[T,T,T,T,T,T,T,T,T,T,F,F,F] rfl rfl (any_of HT_.out (by kernel_rfl)) (fun _ _ _ h => h) (Or.inl ⟨by rfl,?_⟩) ?_ ?_
               rotate_left;(intro w';go_simp;with_reducible rfl);rotate_left;(simp only [pq];rfl)
               refine pure_ (i:=10) (N:=some 108) (v:=?_) (a' := ?_) #[T,T,T,T,T,T,T,T,T,T,T,F,F] rfl rfl (any_of HT_.out (by kernel_rfl)) (fun _ _ _ h => h) (Or.inl ⟨by rfl,?_⟩) ?_ ?_
               rotate_left;(intro w';go_simp;with_reducible rfl);rotate_left;(simp only [pq];rfl)
               refine pure_ (i:=11) (N:=some 11) (v:=?_) (a' := ?_) #[T,T,T,T,T,T,T,T,T,T,T,T,F] rfl rfl (any_of HT_.out (by kernel_rfl)) (fun _ _ _ h => h) (Or.inl ⟨by rfl,?_⟩) ?_ ?_
               rotate_left;(intro w';go_simp;with_reducible rfl);rotate_left;(simp only [pq];rfl)
               refine pure_ (i:=12) (N:=some 12) (v:=?_) (a' := ?_) #[T,T,T,T,T,T,T,T,T,T,T,T,T] rfl rfl (any_of HT_.out (by kernel_rfl)) (fun _ _ _ h => h) (Or.inl ⟨by rfl,?_⟩) ?_ ?_
               rotate_left;(intro w';go_simp;with_reducible rfl);rotate_left;(simp only [pq];rfl)
               refine done_ (done_of HT_.out (by kernel_rfl)) ?_
               go_upto_if 109 with (fail)
               go_cut [11] (fun v11 wc => ∃ (kq : Nat) (x11_42 : List Int),Aside0 (regletlaw14_PredictClashes.j3 kq true t511 t514 x8_1 (rd y525 x94_3) x11_42 y525 (y525.length : Int) x94_3 t496 t499 t502 t503 t504 = some r) ∧ Aside0 (kq ≤ k3) ∧ Aside0 (Kd.R k50 50 wc w.heap.size (fun _ => True) (.slice (some ad523) t511.length co19) t511) ∧ Aside0 (Kd.S (Kd.slice 3 (Kd.int .i64)) 43 wc w.heap.size (fun k_ => some k_ ≠ (v11 : Value).ownBlock ∧ some k_ ≠ ((.slice (some ad528) y525.length co36) : Value).ownBlock) v515 t514) ∧ Aside0 (Kd.R (Kd.int .i64) 3 wc w.heap.size (fun k_ => some k_ ≠ ((.slice (some ad528) y525.length co36) : Value).ownBlock) v11 x11_42) ∧ Aside0 (Kd.R (Kd.int .i64) 3 wc w.heap.size (fun k_ => some k_ ≠ (v11 : Value).ownBlock) (.slice (some ad528) y525.length co36) y525) ∧ Aside0 (Kd.R Kd.string 9 wc w.heap.size (fun _ => True) (.slice Ao10 t496.length co10) t496) ∧ Aside0 (Kd.R k61 61 wc w.heap.size (fun k_ => some k_ ≠ (v11 : Value).ownBlock ∧ some k_ ≠ ((.slice (some ad528) y525.length co36) : Value).ownBlock) (.slice Ao12 t499.length co12) t499) ∧ Aside0 (Kd.S k30 30 wc w.heap.size (fun _ => True) (.slice (some ad529) t504.length co13) t504) ∧ Aside0 (wc.heap[gb507]? = some (.cells #[(.slice Ao10 t496.length co10),(.slice Ao12 t499.length co12),.int .i64 t502,.int .i64 t503,(.slice (some ad529) t504.length co13)] 26 (0,0))) ∧ Aside0 (Below w.heap.size w wc))
               case first =>
                have H:=HC43.out
                clear HC43
                by_cases c46 : t533 = true
                · subst c46
                  have H1 : (if 0 ≤ x8_1 then (if x8_1 < (t511.length : Int) then (if 0 ≤ ((rd_T50 t511 x8_1).f0) then (if ((rd_T50 t511 x8_1).f0) < (t514.length : Int) then (if t530.length + (rd_L3 t514 ((rd_T50 t511 x8_1).f0)).length < 17592186044416 then (regletlaw14_PredictClashes.j3 k3 true t511 t514 x8_1 (rd y525 x94_3) (t530 ++ (rd_L3 t514 ((rd_T50 t511 x8_1).f0))) y525 (y525.length : Int) x94_3 t496 t499 t502 t503 t504) else (none)) else (none)) else (none)) else (none)) else (none)) = some r:=by rw [if_pos rfl] at H;exact H
                  clear H
                  have H:=H1
                  clear H1
                  by_cases c47 : 0 ≤ x8_1
                  rotate_left
                  · rw [if_neg c47] at H
                    exact absurd H (by simp)
                  rw [if_pos c47] at H
                  have c47b0 : decide (0 ≤ x8_1) = true:=decide_eq_true c47
                  clear c47
                  (first | rw [c47b0] | (simp only [i64_w,i32_w];rw [c47b0]) | skip)
                  by_cases c48 : x8_1 < (t511.length : Int)
                  rotate_left
                  · rw [if_neg c48] at H
                    exact absurd H (by simp)
                  rw [if_pos c48] at H
                  have c48b0 : decide (x8_1 < (t511.length : Int)) = true:=decide_eq_true c48
                  clear c48
                  by_cases c49 : 0 ≤ ((rd_T50 t511 x8_1).f0)
                  rotate_left
                  · rw [if_neg c49] at H
                    exact absurd H (by simp)
                  rw [if_pos c49] at H
                  have c49b0 : decide (0 ≤ ((rd_T50 t511 x8_1).f0)) = true:=decide_eq_true c49
                  clear c49
                  by_cases c50 : ((rd_T50 t511 x8_1).f0) < (t514.length : Int)
                  rotate_left
                  · rw [if_neg c50] at H
                    exact absurd H (by simp)
                  rw [if_pos c50] at H
                  have c50b0 : decide (((rd_T50 t511 x8_1).f0) < (t514.length : Int)) = true:=decide_eq_true c50
                  clear c50
                  by_cases c51 : t530.length + (rd_L3 t514 ((rd_T50 t511 x8_1).f0)).length < 17592186044416
                  rotate_left
                  · rw [if_neg c51] at H
                    exact absurd H (by simp)
                  rw [if_pos c51] at H
                  have LMc51:=Aside0.mk c51
                  clear c51
                  obtain ⟨y536,hy536⟩ : ∃ y_ : List Int,y_ = (t530 ++ (rd_L3 t514 ((rd_T50 t511 x8_1).f0))) := ⟨_,rfl⟩
                  replace H : (regletlaw14_PredictClashes.j3 k3 true t511 t514 x8_1 (rd y525 x94_3) y536 y525 (y525.length : Int) x94_3 t496 t499 t502 t503 t504) = some r:=by first | (rw [hy536];with_reducible exact H) | (have H2_:=(Option.bind_some _ _).symm.trans H;rw [hy536];with_reducible exact H2_) | (have H2_:=(Option.bind_some _ _).symm.trans H;with_reducible exact H2_) | with_reducible exact H | (rw [hy536];exact H) | exact H
                  have Ny536:=Aside0.mk hy536
                  clear hy536
                  have H' := Aside0.mk H
                  clear H
                  have p534 : 0 ≤ (x8_1 : Int) := of_decide_eq_true (by first | (with_reducible assumption) | assumption)
                  have q534 : x8_1 < (t511.length : Int) := of_decide_eq_true (by first | (with_reducible assumption) | assumption)
                  obtain ⟨ad534,e534,hx534_0,hx534_1,hx534_2,hx534_3⟩ := at_T50 (Kd.R_reads' HO_6.out).2.2 x8_1 p534 q534
                  obtain rfl : ad523 = ad534:=(by injection e534)
                  replace p534:=eq_true p534
                  replace q534:=eq_true q534
                  obtain ⟨Ao52,co52,eo52⟩ := Kd.S_slice HO_7.out
                  subst eo52
                  have p535 : 0 ≤ (((rd_T50 t511 x8_1).f0) : Int) := of_decide_eq_true (by first | (with_reducible assumption) | assumption)
                  have q535 : ((rd_T50 t511 x8_1).f0) < (t514.length : Int) := of_decide_eq_true (by first | (with_reducible assumption) | assumption)
                  obtain ⟨ad535,A535_0,c535_0,e535,hx535_0,hl535_0,hi535_0⟩ := at_L3 (Kd.S_reads' HO_7.out).2.2 ((rd_T50 t511 x8_1).f0) p535 q535
                  cases e535
                  obtain ⟨ce535,hce535,hMe535,hcc535⟩ := Kd.S_get HO_7.out [] ((rd_T50 t511 x8_1).f0) p535 (by first | exact q535 | exact of_decide_eq_true (by first | (with_reducible assumption) | assumption) | (have e_:=(Kd.S_reads' HO_7.out).1;omega))
                  obtain ⟨ve535_0,rfl,ge535_0⟩ := hMe535
                  have hv535_0:=hcc535 0 _ rfl
                  rw [Nat.add_zero,show ((Kd.slice 3 (Kd.int .i64))).sz = 1 from rfl,Nat.mul_one] at hv535_0
                  replace hv535_0:=Option.some.inj (hv535_0.symm.trans hx535_0)
                  rw [hv535_0] at ge535_0
                  have HL535_0:=Aside0.mk (show Kd.R (Kd.int .i64) 3 _ _ _ _ (rd_L3 t514 ((rd_T50 t511 x8_1).f0)) from ge535_0)
                  clear hv535_0 ge535_0
                  clear hcc535 hce535
                  have HR535_0:=Aside0.mk hi535_0
                  have HC535_0:=Aside0.mk hl535_0
                  clear hi535_0 hl535_0
                  replace p535:=eq_true p535
                  replace q535:=eq_true q535
                  go_wp2_with (first | ((with_reducible refine gate_builtin (b := .append) (xs:=#[.tmp 110,.tmp 118]) rfl ?_);(try (refine gate_guard (by rfl) ?_;dsimp only));at_builtin;refine Kd.R_append_rows (Kd.int .i64) (w0:=w) w.heap.size rfl (.tmp 110) (.tmp 118) 43 3 (.int .i64 0) 8 rfl Try.underlying43 info3 rfl (by decide) (by omega) v531 t530 (rd_L3 t514 ((rd_T50 t511 x8_1).f0)) _ _ _ (fun k_ => some k_ ≠ (.slice (some ad528) y525.length co36 : Value).ownBlock) (fun _ => False) rfl rfl ?aO ?aR (fun _ _ h => h) (fun _ h => h.elim) ?aF ?aB ?aS ?aL ?_;(case aR => repeat (first | exact (by repeat (first | (with_reducible exact HR535_0.out) | (with_reducible refine Kd.C_alloc ?_ _) | (with_reducible refine Kd.C_drewN ?_ _) | (with_reducible refine Kd.C_drew ?_) | exact HR535_0.out)) | (with_reducible refine Kd.C_alloc ?_ _) | (with_reducible refine Kd.C_drewN ?_ _) | (with_reducible refine Kd.C_drew ?_)));(case aB => exact (by repeat (first | (with_reducible first | exact HB.out | apply below_alloc | apply pw_below_drewN | apply below_drew1 | refine below_set ?_ GE507.out) | exact HB.out)));(case aF => exact (fun k_ hk => Kd.fresh' (Kd.R_lt (by (with_reducible repeat (first | apply Kd.R_alloc | apply Kd.R_drewN | apply Kd.R_drew));exact HO_92.out)) k_ hk));(case aO => exact (by (with_reducible repeat (first | apply Kd.R_alloc | apply Kd.R_drewN | apply Kd.R_drew));exact Kd.R_mono HO532.out (fun _ hk => hk.2)));(case aS => exact (below_size (by repeat (first | (with_reducible first | exact HB.out | apply below_alloc | apply pw_below_drewN | apply below_drew1 | refine below_set ?_ GE507.out) | exact HB.out))));(case aL => have:=LMc51.out;omega);intro v537 w53 ho hb hg hat;rw [← Ny536.out] at ho;have n0_:=Aside0.mk (Kd.R_over' (by (with_reducible repeat (first | apply Kd.R_alloc | apply Kd.R_drewN | apply Kd.R_drew));exact HO_6.out) (Kd.R_typed (by (with_reducible repeat (first | apply Kd.R_alloc | apply Kd.R_drewN | apply Kd.R_drew));exact HO532.out)) (by decide) hg);have n1_:=Aside0.mk (Kd.S_after (ok:=(fun k_ => some k_ ≠ (.slice (some ad528) y525.length co36 : Value).ownBlock)) (by (with_reducible repeat (first | apply Kd.S_alloc | apply Kd.S_drewN | apply Kd.S_drew));exact HO_7.out) hg hat);have n2_:=Aside0.mk (Kd.R_after (ok:=(fun _ => True)) (by (with_reducible repeat (first | apply Kd.R_alloc | apply Kd.R_drewN | apply Kd.R_drew));exact HO_92.out) hg hat);have n3_:=Aside0.mk (Kd.R_over' (by (with_reducible repeat (first | apply Kd.R_alloc | apply Kd.R_drewN | apply Kd.R_drew));exact HO_508000.out) (Kd.R_typed (by (with_reducible repeat (first | apply Kd.R_alloc | apply Kd.R_drewN | apply Kd.R_drew));exact HO532.out)) (by decide) hg);have n4_:=Aside0.mk (Kd.R_after (ok:=(fun k_ => some k_ ≠ (.slice (some ad528) y525.length co36 : Value).ownBlock)) (by (with_reducible repeat (first | apply Kd.R_alloc | apply Kd.R_drewN | apply Kd.R_drew));exact HO_508001.out) hg hat);have n5_:=Aside0.mk (Kd.S_over' (by (with_reducible repeat (first | apply Kd.S_alloc | apply Kd.S_drewN | apply Kd.S_drew));exact HO_508004.out) (Kd.R_typed (by (with_reducible repeat (first | apply Kd.R_alloc | apply Kd.R_drewN | apply Kd.R_drew));exact HO532.out)) (by decide) hg);have n6_:=Aside0.mk (blk_grown (g:=gb507) (o := .cells #[.slice Ao10 t496.length co10,.slice Ao12 t499.length co12,.int .i64 t502,.int .i64 t503,.slice (some ad529) t504.length co13] 26 (0,0)) (by (with_reducible repeat (first | refine blk_drewN ?_ _ | refine blk_drew ?_ | refine blk_alloc ?_ _));exact BK507.out) hg (Kd.R_ne HO532.out BK507.out (by decide)));have n7_:=Aside0.mk (Kd.R_over' (by (with_reducible repeat (first | apply Kd.R_alloc | apply Kd.R_drewN | apply Kd.R_drew));exact HL529_1.out) (Kd.R_typed (by (with_reducible repeat (first | apply Kd.R_alloc | apply Kd.R_drewN | apply Kd.R_drew));exact HO532.out)) (by decide) hg);have n8_:=Aside0.mk (Kd.R_after (ok:=(fun k_ => some k_ ≠ (.slice (some ad535) t514.length co52 : Value).ownBlock ∧ some k_ ≠ (.slice (some ad528) y525.length co36 : Value).ownBlock)) (by (with_reducible repeat (first | apply Kd.R_alloc | apply Kd.R_drewN | apply Kd.R_drew));exact Kd.R_mono HL535_0.out (fun _ hk => ⟨⟨hk.2,hk.1.1⟩,hk.1.2⟩)) hg hat);have n9_:=Aside0.mk (hb);have n10_:=Aside0.mk (ho);clear HO_6;clear HO_7;clear HO_92;clear HO_508000;clear HO_508001;clear HO_508004;clear BK507;clear HL529_1;clear HL535_0;clear HB;clear HO532;have HO_6:=n0_;have HO_7:=n1_;have HO_92:=n2_;have HO_508000:=n3_;have HO_508001:=n4_;have HO_508004:=n5_;have BK507:=n6_;have HL529_1:=n7_;have HL535_0:=n8_;have HB:=n9_;have HO538:=n10_;clear n0_ n1_ n2_ n3_ n4_ n5_ n6_ n7_ n8_ n9_ n10_;clear ho hb hg hat))
                  go_meet
                  case rel => exact ⟨_,(y536),H',⟨by have:=HK1.out;have:=HJ17.out;have:=HK3.out;first | omega | exact Nat.le_refl _⟩,⟨by (with_reducible repeat (first | apply Kd.R_alloc | apply Kd.R_drewN | apply Kd.R_drew));exact HO_6.out⟩,⟨by (with_reducible repeat (first | apply Kd.S_alloc | apply Kd.S_drewN | apply Kd.S_drew));exact Kd.S_mono HO_7.out (fun _ hk => ⟨hk.2,hk.1⟩)⟩,⟨by (with_reducible repeat (first | apply Kd.R_alloc | apply Kd.R_drewN | apply Kd.R_drew));exact HO538.out⟩,⟨by (with_reducible repeat (first | apply Kd.R_alloc | apply Kd.R_drewN | apply Kd.R_drew));exact Kd.R_mono HO_92.out (fun _ hk => hk.2)⟩,⟨by (with_reducible repeat (first | apply Kd.R_alloc | apply Kd.R_drewN | apply Kd.R_drew));exact HO_508000.out⟩,⟨by (with_reducible repeat (first | apply Kd.R_alloc | apply Kd.R_drewN | apply Kd.R_drew));exact Kd.R_mono HO_508001.out (fun _ hk => ⟨hk.2,hk.1⟩)⟩,⟨by (with_reducible repeat (first | apply Kd.S_alloc | apply Kd.S_drewN | apply Kd.S_drew));exact HO_508004.out⟩,⟨by (with_reducible repeat (first | refine blk_drewN ?_ _ | refine blk_drew ?_ | refine blk_alloc ?_ _));exact BK507.out⟩,⟨by repeat (first | (with_reducible first | exact HB.out | apply below_alloc | apply pw_below_drewN | apply below_drew1 | refine below_set ?_ GE507.out) | exact HB.out)⟩⟩
                · replace c46:=Bool.eq_false_iff.mpr c46
                  subst c46
                  have H1 : (regletlaw14_PredictClashes.j3 k3 true t511 t514 x8_1 (rd y525 x94_3) t530 y525 (y525.length : Int) x94_3 t496 t499 t502 t503 t504) = some r:=by rw [if_neg (show ¬ (false = true) by decide)] at H;exact H
                  clear H
                  have H:=H1
                  clear H1
                  have H' := Aside0.mk H
                  clear H
                  go_wp2
                  go_meet
                  case rel => exact ⟨_,(t530),H',⟨by have:=HK1.out;have:=HJ17.out;have:=HK3.out;first | omega | exact Nat.le_refl _⟩,⟨by (with_reducible repeat (first | apply Kd.R_alloc | apply Kd.R_drewN | apply Kd.R_drew));exact HO_6.out⟩,⟨by (with_reducible repeat (first | apply Kd.S_alloc | apply Kd.S_drewN | apply Kd.S_drew));exact Kd.S_mono HO_7.out (fun _ hk => ⟨hk.2,hk.1⟩)⟩,⟨by (with_reducible repeat (first | apply Kd.R_alloc | apply Kd.R_drewN | apply Kd.R_drew));exact Kd.R_mono HO532.out (fun _ hk => hk.2)⟩,⟨by (with_reducible repeat (first | apply Kd.R_alloc | apply Kd.R_drewN | apply Kd.R_drew));exact Kd.R_mono HO_92.out (fun _ hk => hk.2)⟩,⟨by (with_reducible repeat (first | apply Kd.R_alloc | apply Kd.R_drewN | apply Kd.R_drew));exact HO_508000.out⟩,⟨by (with_reducible repeat (first | apply Kd.R_alloc | apply Kd.R_drewN | apply Kd.R_drew));exact Kd.R_mono HO_508001.out (fun _ hk => ⟨hk.2,hk.1⟩)⟩,⟨by (with_reducible repeat (first | apply Kd.S_alloc | apply Kd.S_drewN | apply Kd.S_drew));exact HO_508004.out⟩,⟨by (with_reducible repeat (first | refine blk_drewN ?_ _ | refine blk_drew ?_ | refine blk_alloc ?_ _));exact BK507.out⟩,⟨by repeat (first | (with_reducible first | exact HB.out | apply below_alloc | apply pw_below_drewN | apply below_drew1 | refine below_set ?_ GE507.out) | exact HB.out)⟩⟩
               case rest =>
                clear HC43
                (try clear c1);(try clear c2);(try clear p2);(try clear c3);(try clear c4);(try clear c5);(try clear p5);(try clear q5);(try clear hx5);(try clear c17);(try clear c20);(try clear c27);(try clear c27b0);(try clear c30);(try clear c31);(try clear c31b0);(try clear c32);(try clear c32b0);(try clear c37);(try clear c37b0);(try clear c38);(try clear c38b0);(try clear c39);(try clear c39b0);(try clear c40)
                (try clear c40b0);(try clear c41);(try clear c41b0);(try clear c46);(try clear c47);(try clear c47b0);(try clear c48);(try clear c48b0);(try clear c49);(try clear c49b0);(try clear c50);(try clear c50b0);(try clear c51);(try clear p51);(try clear q51);(try clear hx51);(try clear c52);(try clear p52);(try clear q52);(try clear hx52);(try clear c53);(try clear p53);(try clear q53);(try clear hx53);(try clear hx517_0)
                (try clear hx517_1);(try clear hx517_2);(try clear hx517_3);(try clear hx518_0);(try clear hx518_1);(try clear hx518_2);(try clear hx518_3);(try clear hx519_0);(try clear hx519_1);(try clear hx519_2);(try clear hx519_3);(try clear hx520_0);(try clear hx520_1);(try clear hx520_2);(try clear hx520_3);(try clear hx521_0);(try clear hx521_1);(try clear hx521_2);(try clear hx521_3);(try clear hx522_0);(try clear hx522_1)
                (try clear hx522_2);(try clear hx522_3);(try clear hx523_0);(try clear hx523_1);(try clear hx523_2);(try clear hx523_3);(try clear hx524_0);(try clear hx524_1);(try clear hx524_2);(try clear hx524_3);(try clear hx528_0);(try clear hx529_0);(try clear hx529_1);(try clear hx534_0);(try clear hx534_1);(try clear hx534_2);(try clear hx534_3);(try clear hx535_0);(try clear p2);(try clear p5);(try clear p517)
                (try clear p518);(try clear p519);(try clear p520);(try clear p521);(try clear p522);(try clear p523);(try clear p524);(try clear p528);(try clear p529);(try clear p534);(try clear p535);(try clear q5);(try clear q517);(try clear q518);(try clear q519);(try clear q520);(try clear q521);(try clear q522);(try clear q523);(try clear q524);(try clear q528);(try clear q529);(try clear q534);(try clear q535)
                obtain ⟨kq,x11_42,HA,HJ42,HO_6,HO_7,HO_11,HO_92,HO_508000,HO_508001,HO_508004,BK507,HB⟩ := hcut
                cases kq with
                | zero => exact absurd HA.out (by simp [regletlaw14_PredictClashes.j3])
                | succ kj42 =>
                 have H:=HA.out
                 clear HA
                 simp only [regletlaw14_PredictClashes.j3] at H
                 have H' := Aside0.mk H
                 clear H
                 go_wp2
                 go_loopg [13,14] kj42 (fun kq v13 v14 w' => ∃ (x13_5 : Bool) (x14_5 : Int),v13 = .bool x13_5 ∧ v14 = .int .i64 x14_5 ∧ Aside0 (regletlaw14_PredictClashes.l2 kq true t511 t514 x8_1 (rd y525 x94_3) x11_42 x13_5 x14_5 y525 (y525.length : Int) x94_3 t496 t499 t502 t503 t504 = some r) ∧ Aside0 (kq ≤ kj42) ∧ Aside0 (Kd.R k50 50 w' w.heap.size (fun _ => True) (.slice (some ad523) t511.length co19) t511) ∧ Aside0 (Kd.S (Kd.slice 3 (Kd.int .i64)) 43 w' w.heap.size (fun k_ => some k_ ≠ (u11 : Value).ownBlock ∧ some k_ ≠ ((.slice (some ad528) y525.length co36) : Value).ownBlock) v515 t514) ∧ Aside0 (Kd.R (Kd.int .i64) 3 w' w.heap.size (fun k_ => some k_ ≠ ((.slice (some ad528) y525.length co36) : Value).ownBlock) u11 x11_42) ∧ Aside0 (Kd.R (Kd.int .i64) 3 w' w.heap.size (fun k_ => some k_ ≠ (u11 : Value).ownBlock) (.slice (some ad528) y525.length co36) y525) ∧ Aside0 (Kd.R Kd.string 9 w' w.heap.size (fun _ => True) (.slice Ao10 t496.length co10) t496) ∧ Aside0 (Kd.R k61 61 w' w.heap.size (fun k_ => some k_ ≠ (u11 : Value).ownBlock ∧ some k_ ≠ ((.slice (some ad528) y525.length co36) : Value).ownBlock) (.slice Ao12 t499.length co12) t499) ∧ Aside0 (Kd.S k30 30 w' w.heap.size (fun _ => True) (.slice (some ad529) t504.length co13) t504) ∧ Aside0 (w'.heap[gb507]? = some (.cells #[(.slice Ao10 t496.length co10),(.slice Ao12 t499.length co12),.int .i64 t502,.int .i64 t503,(.slice (some ad529) t504.length co13)] 26 (0,0))) ∧ Aside0 (Below w.heap.size w w'))
                 case atStart => exact ⟨(false),(0),(by first | rfl | (simp;done) | (simp [*];done)),(by first | rfl | (simp;done) | (simp [*];done)),H',⟨Nat.le_refl _⟩,⟨by (with_reducible repeat (first | apply Kd.R_alloc | apply Kd.R_drewN | apply Kd.R_drew));exact HO_6.out⟩,⟨by (with_reducible repeat (first | apply Kd.S_alloc | apply Kd.S_drewN | apply Kd.S_drew));exact HO_7.out⟩,⟨by (with_reducible repeat (first | apply Kd.R_alloc | apply Kd.R_drewN | apply Kd.R_drew));exact HO_11.out⟩,⟨by (with_reducible repeat (first | apply Kd.R_alloc | apply Kd.R_drewN | apply Kd.R_drew));exact HO_92.out⟩,⟨by (with_reducible repeat (first | apply Kd.R_alloc | apply Kd.R_drewN | apply Kd.R_drew));exact HO_508000.out⟩,⟨by (with_reducible repeat (first | apply Kd.R_alloc | apply Kd.R_drewN | apply Kd.R_drew));exact HO_508001.out⟩,⟨by (with_reducible repeat (first | apply Kd.S_alloc | apply Kd.S_drewN | apply Kd.S_drew));exact HO_508004.out⟩,⟨by (with_reducible repeat (first | refine blk_drewN ?_ _ | refine blk_drew ?_ | refine blk_alloc ?_ _));exact BK507.out⟩,⟨by repeat (first | (with_reducible first | exact HB.out | apply below_alloc | apply pw_below_drewN | apply below_drew1 | refine below_set ?_ GE507.out) | exact HB.out)⟩⟩
                 case round =>
                  clear H'
                  (try clear c1);(try clear c2);(try clear p2);(try clear c3);(try clear c4);(try clear c5);(try clear p5);(try clear q5);(try clear hx5);(try clear c17);(try clear c20);(try clear c27);(try clear c27b0);(try clear c30);(try clear c31);(try clear c31b0);(try clear c32);(try clear c32b0);(try clear c37);(try clear c37b0);(try clear c38);(try clear c38b0);(try clear c39);(try clear c39b0);(try clear c40)
                  (try clear c40b0);(try clear c41);(try clear c41b0);(try clear c46);(try clear c47);(try clear c47b0);(try clear c48);(try clear c48b0);(try clear c49);(try clear c49b0);(try clear c50);(try clear c50b0);(try clear c51);(try clear p51);(try clear q51);(try clear hx51);(try clear c52);(try clear p52);(try clear q52);(try clear hx52);(try clear c53);(try clear p53);(try clear q53);(try clear hx53);(try clear hx517_0)
                  (try clear hx517_1);(try clear hx517_2);(try clear hx517_3);(try clear hx518_0);(try clear hx518_1);(try clear hx518_2);(try clear hx518_3);(try clear hx519_0);(try clear hx519_1);(try clear hx519_2);(try clear hx519_3);(try clear hx520_0);(try clear hx520_1);(try clear hx520_2);(try clear hx520_3);(try clear hx521_0);(try clear hx521_1);(try clear hx521_2);(try clear hx521_3);(try clear hx522_0);(try clear hx522_1)
                  (try clear hx522_2);(try clear hx522_3);(try clear hx523_0);(try clear hx523_1);(try clear hx523_2);(try clear hx523_3);(try clear hx524_0);(try clear hx524_1);(try clear hx524_2);(try clear hx524_3);(try clear hx528_0);(try clear hx529_0);(try clear hx529_1);(try clear hx534_0);(try clear hx534_1);(try clear hx534_2);(try clear hx534_3);(try clear hx535_0);(try clear p2);(try clear p5);(try clear p51)
                  (try clear p517);(try clear p518);(try clear p519);(try clear p52);(try clear p520);(try clear p521);(try clear p522);(try clear p523);(try clear p524);(try clear p528);(try clear p529);(try clear p53);(try clear p534);(try clear p535);(try clear q5);(try clear q51);(try clear q517);(try clear q518);(try clear q519);(try clear q52);(try clear q520);(try clear q521);(try clear q522);(try clear q523)
                  (try clear q524);(try clear q528);(try clear q529);(try clear q53);(try clear q534);(try clear q535)
                  obtain ⟨x13_5,x14_5,rfl,rfl,HA,HK5,HO_6,HO_7,HO_11,HO_92,HO_508000,HO_508001,HO_508004,BK507,HB⟩ := hrel
                  cases gk with
                  | zero => exact absurd HA.out (by simp [regletlaw14_PredictClashes.l2])
                  | succ k5 =>
                   have H:=HA.out
                   clear HA
                   simp only [regletlaw14_PredictClashes.l2] at H
                   by_cases c54 : x14_5 < (x11_42.length : Int)
                   · rw [if_pos c54] at H
                     have c54b0 : decide (x14_5 < (x11_42.length : Int)) = true:=decide_eq_true c54
                     clear c54
                     by_cases c55 : x13_5 = true
                     · subst c55
                       have H1 : (regletlaw14_PredictClashes.l2 k5 true t511 t514 x8_1 (rd y525 x94_3) x11_42 true (wrap64 (x14_5 + 1)) y525 (y525.length : Int) x94_3 t496 t499 t502 t503 t504) = some r:=by rw [if_pos rfl] at H;exact H
                       clear H
                       have H:=H1
                       clear H1
                       have H' := Aside0.mk H
                       clear H
                       obtain ⟨Ao56,co56,eo56⟩ := Kd.R_slice HO_11.out
                       subst eo56
                       try go_wp2
                       have n0_:=Aside0.mk (Kd.R_drew HO_6.out)
                       have n1_:=Aside0.mk (Kd.S_drew HO_7.out)
                       have n2_:=Aside0.mk (Kd.R_drew HO_11.out)
                       have n3_:=Aside0.mk (Kd.R_drew HO_92.out)
                       have n4_:=Aside0.mk (Kd.R_drew HO_508000.out)
                       have n5_:=Aside0.mk (Kd.R_drew HO_508001.out)
                       have n6_:=Aside0.mk (Kd.S_drew HO_508004.out)
                       have n7_:=Aside0.mk (blk_drew BK507.out)
                       have n8_:=Aside0.mk (below_drew1 HB.out)
                       clear HO_6
                       clear HO_7
                       clear HO_11
                       clear HO_92
                       clear HO_508000
                       clear HO_508001
                       clear HO_508004
                       clear BK507
                       clear HB
                       have HO_6:=n0_
                       have HO_7:=n1_
                       have HO_11:=n2_
                       have HO_92:=n3_
                       have HO_508000:=n4_
                       have HO_508001:=n5_
                       have HO_508004:=n6_
                       have BK507:=n7_
                       have HB:=n8_
                       clear n0_ n1_ n2_ n3_ n4_ n5_ n6_ n7_ n8_
                       refine start_ (n:=14) (S:=fun w' => True) (ds := []) #[F,F,F,F,F,F,F,F,F,F,F,F,F,F] (by kernel_rfl) rfl rfl trivial (fun hHeld => ?_);refine with_tabW regletlaw14_PredictClashes.tab22 regletlaw14_PredictClashes.bits22 (fun HT_ HW_ => ?_)
                       generalize wr.drew = w57 at HO_6 HO_7 HO_11 HO_92 HO_508000 HO_508001 HO_508004 BK507 HB hHeld ⊢
                       refine pure_ (i:=0) (N:=some 126) (v:=?_) (a' := ?_) #[T,F,F,F,F,F,F,F,F,F,F,F,F,F] rfl rfl (any_of HT_.out (by kernel_rfl)) (fun _ _ _ h => h) (Or.inl ⟨by rfl,?_⟩) ?_ ?_
                       rotate_left;(intro w';go_simp;with_reducible rfl);rotate_left;(simp only [pq];rfl)
                       refine pure_ (i:=1) (N:=some 127) (v:=?_) (a' := ?_) #[T,T,F,F,F,F,F,F,F,F,F,F,F,F] rfl rfl (any_of HT_.out (by kernel_rfl)) (fun _ _ _ h => h) (Or.inl ⟨by rfl,?_⟩) ?_ ?_
                       rotate_left;(intro w';go_simp;with_reducible rfl);rotate_left;(simp only [pq];rfl)
                       refine pure_ (i:=2) (N:=some 128) (v:=undef) (a' := ?_) #[T,T,T,F,F,F,F,F,F,F,F,F,F,F] rfl rfl (any_of HT_.out (by kernel_rfl)) (fun _ _ _ h => h) (Or.inr ⟨by rfl,rfl⟩) ?_ ?_
                       rotate_left
                       · simp only [pq]
                         rfl
                       refine pure_ (i:=3) (N:=some 129) (v:=undef) (a' := ?_) #[T,T,T,T,F,F,F,F,F,F,F,F,F,F] rfl rfl (any_of HT_.out (by kernel_rfl)) (fun _ _ _ h => h) (Or.inr ⟨by rfl,rfl⟩) ?_ ?_
                       rotate_left
                       · simp only [pq]
                         rfl
                       refine pure_ (i:=4) (N:=some 130) (v:=undef) (a' := ?_) #[T,T,T,T,T,F,F,F,F,F,F,F,F,F] rfl rfl (any_of HT_.out (by kernel_rfl)) (fun _ _ _ h => h) (Or.inr ⟨by rfl,rfl⟩) ?_ ?_
                       rotate_left
                       · simp only [pq]
                         rfl
                       refine pure_ (i:=5) (N:=some 131) (v:=undef) (a' := ?_) #[T,T,T,T,T,T,F,F,F,F,F,F,F,F] rfl rfl (any_of HT_.out (by kernel_rfl)) (fun _ _ _ h => h) (Or.inr ⟨by rfl,rfl⟩) ?_ ?_
                       rotate_left
                       · simp only [pq]
                         rfl
                       refine pure_ (i:=6) (N:=some 132) (v:=undef) (a' := ?_) #[T,T,T,T,T,T,T,F,F,F,F,F,F,F] rfl rfl (any_of HT_.out (by kernel_rfl)) (fun _ _ _ h => h) (Or.inr ⟨by rfl,rfl⟩) ?_ ?_
                       rotate_left
                       · simp only [pq]
                         rfl
                       refine pure_ (i:=7) (N:=some 133) (v:=undef) (a' := ?_) #[T,T,T,T,T,T,T,T,F,F,F,F,F,F] rfl rfl (any_of HT_.out (by kernel_rfl)) (fun _ _ _ h => h) (Or.inr ⟨by rfl,rfl⟩) ?_ ?_
                       rotate_left
                       · simp only [pq]
                         rfl
                       refine pure_ (i:=8) (N:=some 134) (v:=undef) (a' := ?_) #[T,T,T,T,T,T,T,T,T,F,F,F,F,F] rfl rfl (any_of HT_.out (by kernel_rfl)) (fun _ _ _ h => h) (Or.inr ⟨by rfl,rfl⟩) ?_ ?_
                       rotate_left
                       · simp only [pq]
                         rfl
                       refine pure_ (i:=9) (N:=some 135) (v:=undef) (a' := ?_) #[T,T,T,T,T,T,T,T,T,T,F,F,F,F] rfl rfl (any_of HT_.out (by kernel_rfl)) (fun _ _ _ h => h) (Or.inr ⟨by rfl,rfl⟩) ?_ ?_
                       rotate_left
                       · simp only [pq]
                         rfl
                       refine pure_ (i:=10) (N:=some 136) (v:=undef) (a' := ?_) #[T,T,T,T,T,T,T,T,T,T,T,F,F,F] rfl rfl (any_of HT_.out (by kernel_rfl)) (fun _ _ _ h => h) (Or.inr ⟨by rfl,rfl⟩) ?_ ?_
                       rotate_left
                       · simp only [pq]
                         rfl
                       refine pure_ (i:=11) (N:=some 137) (v:=undef) (a' := ?_) #[T,T,T,T,T,T,T,T,T,T,T,T,F,F] rfl rfl (any_of HT_.out (by kernel_rfl)) (fun _ _ _ h => h) (Or.inr ⟨by rfl,rfl⟩) ?_ ?_
                       rotate_left
                       · simp only [pq]
                         rfl
                       refine pure_ (i:=12) (N:=some 138) (v:=?_) (a' := ?_) #[T,T,T,T,T,T,T,T,T,T,T,T,T,F] rfl rfl (any_of HT_.out (by kernel_rfl)) (fun _ _ _ h => h) (Or.inl ⟨by rfl,?_⟩) ?_ ?_
                       rotate_left;(intro w';go_simp;with_reducible rfl);rotate_left;(simp only [pq];rfl)
                       refine pure_ (i:=13) (N:=some 13) (v:=?_) (a' := ?_) #[T,T,T,T,T,T,T,T,T,T,T,T,T,T] rfl rfl (any_of HT_.out (by kernel_rfl)) (fun _ _ _ h => h) (Or.inl ⟨by rfl,?_⟩) ?_ ?_
                       rotate_left;(intro w';go_simp;with_reducible rfl);rotate_left;(simp only [pq];rfl)
                       refine done_ (done_of HT_.out (by kernel_rfl)) ?_
                       try go_wp2
                       go_roundg k5
                       case measure => have:=HK1.out;have:=HJ17.out;have:=HK3.out;have:=HJ42.out;have:=HK5.out;omega
                       case rel => exact ⟨(true),(wrap64 (x14_5 + 1)),(by first | rfl | (simp;done) | (simp [*];done)),(by first | rfl | (simp;done) | (simp [*];done)),H',⟨by have:=HK1.out;have:=HJ17.out;have:=HK3.out;have:=HJ42.out;have:=HK5.out;omega⟩,⟨by (with_reducible repeat (first | apply Kd.R_alloc | apply Kd.R_drewN | apply Kd.R_drew));exact HO_6.out⟩,⟨by (with_reducible repeat (first | apply Kd.S_alloc | apply Kd.S_drewN | apply Kd.S_drew));exact HO_7.out⟩,⟨by (with_reducible repeat (first | apply Kd.R_alloc | apply Kd.R_drewN | apply Kd.R_drew));exact HO_11.out⟩,⟨by (with_reducible repeat (first | apply Kd.R_alloc | apply Kd.R_drewN | apply Kd.R_drew));exact HO_92.out⟩,⟨by (with_reducible repeat (first | apply Kd.R_alloc | apply Kd.R_drewN | apply Kd.R_drew));exact HO_508000.out⟩,⟨by (with_reducible repeat (first | apply Kd.R_alloc | apply Kd.R_drewN | apply Kd.R_drew));exact HO_508001.out⟩,⟨by (with_reducible repeat (first | apply Kd.S_alloc | apply Kd.S_drewN | apply Kd.S_drew));exact HO_508004.out⟩,⟨by (with_reducible repeat (first | refine blk_drewN ?_ _ | refine blk_drew ?_ | refine blk_alloc ?_ _));exact BK507.out⟩,⟨by repeat (first | (with_reducible first | exact HB.out | apply below_alloc | apply pw_below_drewN | apply below_drew1 | refine below_set ?_ GE507.out) | exact HB.out)⟩⟩
                     · replace c55:=Bool.eq_false_iff.mpr c55
                       subst c55
                       have H1 : (if 0 ≤ x14_5 then (if 0 ≤ x8_1 then (if x8_1 < (t511.length : Int) then (regletlaw14_PredictClashes.l2 k5 true t511 t514 x8_1 (rd y525 x94_3) x11_42 ((rd x11_42 x14_5) == ((rd_T50 t511 x8_1).f1)) (wrap64 (x14_5 + 1)) y525 (y525.length : Int) x94_3 t496 t499 t502 t503 t504) else (none)) else (none)) else (none)) = some r:=by rw [if_neg (show ¬ (false = true) by decide)] at H;exact H
                       clear H
                       have H:=H1
                       clear H1
                       by_cases c58 : 0 ≤ x14_5
                       rotate_left
                       · rw [if_neg c58] at H
                         exact absurd H (by simp)
                       rw [if_pos c58] at H
                       have c58b0 : decide (0 ≤ x14_5) = true:=decide_eq_true c58
                       clear c58
                       by_cases c59 : 0 ≤ x8_1
                       rotate_left
                       · rw [if_neg c59] at H
                         exact absurd H (by simp)
                       rw [if_pos c59] at H
                       have c59b0 : decide (0 ≤ x8_1) = true:=decide_eq_true c59
                       clear c59
                       by_cases c60 : x8_1 < (t511.length : Int)
                       rotate_left
                       · rw [if_neg c60] at H
                         exact absurd H (by simp)
                       rw [if_pos c60] at H
                       have c60b0 : decide (x8_1 < (t511.length : Int)) = true:=decide_eq_true c60
                       clear c60
                       have H' := Aside0.mk H
                       clear H
                       obtain ⟨Ao61,co61,eo61⟩ := Kd.R_slice HO_11.out
                       subst eo61
                       try go_wp2
                       have n0_:=Aside0.mk (Kd.R_drew HO_6.out)
                       have n1_:=Aside0.mk (Kd.S_drew HO_7.out)
                       have n2_:=Aside0.mk (Kd.R_drew HO_11.out)
                       have n3_:=Aside0.mk (Kd.R_drew HO_92.out)
                       have n4_:=Aside0.mk (Kd.R_drew HO_508000.out)
                       have n5_:=Aside0.mk (Kd.R_drew HO_508001.out)
                       have n6_:=Aside0.mk (Kd.S_drew HO_508004.out)
                       have n7_:=Aside0.mk (blk_drew BK507.out)
                       have n8_:=Aside0.mk (below_drew1 HB.out)
                       clear HO_6
                       clear HO_7
                       clear HO_11
                       clear HO_92
                       clear HO_508000
                       clear HO_508001
                       clear HO_508004
                       clear BK507
                       clear HB
                       have HO_6:=n0_
                       have HO_7:=n1_
                       have HO_11:=n2_
                       have HO_92:=n3_
                       have HO_508000:=n4_
                       have HO_508001:=n5_
                       have HO_508004:=n6_
                       have BK507:=n7_
                       have HB:=n8_
                       clear n0_ n1_ n2_ n3_ n4_ n5_ n6_ n7_ n8_
                       have p539 : 0 ≤ (x14_5 : Int) := of_decide_eq_true (by first | (with_reducible assumption) | assumption)
                       have q539 : x14_5 < (x11_42.length : Int) := of_decide_eq_true (by first | (with_reducible assumption) | assumption)
                       obtain ⟨ad539,e539,hx539_0⟩ := Kd.at_int (Kd.R_reads' HO_11.out).2.2 x14_5 p539 q539
                       cases e539
                       replace p539:=eq_true p539
                       replace q539:=eq_true q539
                       have p540 : 0 ≤ (x8_1 : Int) := of_decide_eq_true (by first | (with_reducible assumption) | assumption)
                       have q540 : x8_1 < (t511.length : Int) := of_decide_eq_true (by first | (with_reducible assumption) | assumption)
                       obtain ⟨ad540,e540,hx540_0,hx540_1,hx540_2,hx540_3⟩ := at_T50 (Kd.R_reads' HO_6.out).2.2 x8_1 p540 q540
                       obtain rfl : ad523 = ad540:=(by injection e540)
                       replace p540:=eq_true p540
                       replace q540:=eq_true q540
                       refine start_ (n:=14) (S:=fun w' => w'.cell? (ad539.add (x14_5).toNat) = some (.int .i64 (rd x11_42 x14_5)) ∧ w'.cell? (ad523.add ((x8_1).toNat * 4)) = some (.int .i64 ((rd_T50 t511 x8_1).f0)) ∧ w'.cell? ⟨(ad523.add ((x8_1).toNat * 4)).block,(ad523.add ((x8_1).toNat * 4)).off + 1,none⟩ = some (.int .i64 ((rd_T50 t511 x8_1).f1)) ∧ w'.cell? ⟨(ad523.add ((x8_1).toNat * 4)).block,(ad523.add ((x8_1).toNat * 4)).off + 2,none⟩ = some (.int .i64 ((rd_T50 t511 x8_1).f2)) ∧ w'.cell? ⟨(ad523.add ((x8_1).toNat * 4)).block,(ad523.add ((x8_1).toNat * 4)).off + 3,none⟩ = some (.int .i64 ((rd_T50 t511 x8_1).f3))) (ds := []) #[F,F,F,F,F,F,F,F,F,F,F,F,F,F] (by kernel_rfl) rfl rfl ⟨hx539_0,hx540_0,hx540_1,hx540_2,hx540_3⟩ (fun hHeld => ?_);refine with_tabW regletlaw14_PredictClashes.tab22 regletlaw14_PredictClashes.bits22 (fun HT_ HW_ => ?_)
                       generalize wr.drew = w62 at HO_6 HO_7 HO_11 HO_92 HO_508000 HO_508001 HO_508004 BK507 HB hx539_0 hx540_0 hx540_1 hx540_2 hx540_3 hHeld ⊢
                       refine pure_ (i:=0) (N:=some 126) (v:=?_) (a' := ?_) #[T,F,F,F,F,F,F,F,F,F,F,F,F,F] rfl rfl (any_of HT_.out (by kernel_rfl)) (fun _ _ _ h => h) (Or.inl ⟨by rfl,?_⟩) ?_ ?_
                       rotate_left;(intro w';go_simp;with_reducible rfl);rotate_left;(simp only [pq];rfl)
                       refine pure_ (i:=1) (N:=some 127) (v:=?_) (a' := ?_) #[T,T,F,F,F,F,F,F,F,F,F,F,F,F] rfl rfl (any_of HT_.out (by kernel_rfl)) (fun _ _ _ h => h) (Or.inl ⟨by rfl,?_⟩) ?_ ?_
                       rotate_left;(intro w';go_simp;with_reducible rfl);rotate_left;(simp only [pq];rfl)
                       refine pure_ (i:=2) (N:=some 128) (v:=?_) (a' := ?_) #[T,T,T,F,F,F,F,F,F,F,F,F,F,F] rfl rfl (any_of HT_.out (by kernel_rfl)) (fun _ _ _ h => h) (Or.inl ⟨by rfl,?_⟩) ?_ ?_
                       rotate_left;(intro w';go_simp;with_reducible rfl);rotate_left;(simp only [pq];rfl)
                       refine pure_ (i:=3) (N:=some 129) (v:=?_) (a' := ?_) #[T,T,T,T,F,F,F,F,F,F,F,F,F,F] rfl rfl (any_of HT_.out (by kernel_rfl)) (fun _ _ _ h => h) (Or.inl ⟨by rfl,?_⟩) ?_ ?_
                       rotate_left;(intro w';go_simp;with_reducible rfl);rotate_left;(simp only [pq];rfl)
                       refine pure_ (i:=4) (N:=some 130) (v:=?_) (a' := ?_) #[T,T,T,T,T,F,F,F,F,F,F,F,F,F] rfl rfl (any_of HT_.out (by kernel_rfl)) (fun _ _ _ h => h) (Or.inl ⟨by rfl,?_⟩) ?_ ?_
                       rotate_left;(intro w';go_simp;with_reducible rfl);rotate_left;(simp only [pq];rfl)
                       refine pure_ (i:=6) (N:=some 132) (v:=?_) (a' := ?_) #[T,T,T,T,T,F,T,F,F,F,F,F,F,F] rfl rfl (any_of HT_.out (by kernel_rfl)) (fun _ _ _ h => h) (Or.inl ⟨by rfl,?_⟩) ?_ ?_
                       rotate_left;(intro w';go_simp;with_reducible rfl);rotate_left;(simp only [pq];rfl)
                       refine pure_ (i:=7) (N:=some 133) (v:=?_) (a' := ?_) #[T,T,T,T,T,F,T,T,F,F,F,F,F,F] rfl rfl (any_of HT_.out (by kernel_rfl)) (fun _ _ _ h => h) (Or.inl ⟨by rfl,?_⟩) ?_ ?_
                       rotate_left;(intro w';go_simp;with_reducible rfl);rotate_left;(simp only [pq];rfl)
                       refine pure_ (i:=8) (N:=some 134) (v:=?_) (a' := ?_) #[T,T,T,T,T,F,T,T,T,F,F,F,F,F] rfl rfl (any_of HT_.out (by kernel_rfl)) (fun _ _ _ h => h) (Or.inl ⟨by rfl,?_⟩) ?_ ?_
                       rotate_left;(intro w';go_simp;with_reducible rfl);rotate_left;(simp only [pq];rfl)
                       refine pure_ (i:=9) (N:=some 135) (v:=?_) (a' := ?_) #[T,T,T,T,T,F,T,T,T,T,F,F,F,F] rfl rfl (any_of HT_.out (by kernel_rfl)) (fun _ _ _ h => h) (Or.inl ⟨by rfl,?_⟩) ?_ ?_
                       rotate_left;(intro w';go_simp;with_reducible rfl);rotate_left;(simp only [pq];rfl)
                       refine take_ (i:=5) (N:=some 131) (v:=?_) (a' := ?_) #[T,T,T,T,T,T,T,T,T,T,F,F,F,F] rfl rfl (take_ofW HT_.out HW_.out (by kernel_rfl)) (fun _ _ _ h => h) (Or.inl ⟨by rfl,?_⟩) hHeld ?_ ?_
                       rotate_left
                       · rintro w' ⟨s0,s1,s2,s3,s4⟩
                         go_simp
                         with_reducible rfl
                       rotate_left
                       · simp only [pq]
                         rfl
                       refine take_ (i:=10) (N:=some 136) (v:=?_) (a' := ?_) #[T,T,T,T,T,T,T,T,T,T,T,F,F,F] rfl rfl (take_ofW HT_.out HW_.out (by kernel_rfl)) (fun _ _ _ h => h) (Or.inl ⟨by rfl,?_⟩) hHeld ?_ ?_
                       rotate_left
                       · rintro w' ⟨s0,s1,s2,s3,s4⟩
                         go_simp
                         with_reducible rfl
                       rotate_left
                       · simp only [pq]
                         rfl
                       refine pure_ (i:=11) (N:=some 137) (v:=?_) (a' := ?_) #[T,T,T,T,T,T,T,T,T,T,T,T,F,F] rfl rfl (any_of HT_.out (by kernel_rfl)) (fun _ _ _ h => h) (Or.inl ⟨by rfl,?_⟩) ?_ ?_
                       rotate_left;(intro w';go_simp;with_reducible rfl);rotate_left;(simp only [pq];rfl)
                       refine pure_ (i:=12) (N:=some 138) (v:=?_) (a' := ?_) #[T,T,T,T,T,T,T,T,T,T,T,T,T,F] rfl rfl (any_of HT_.out (by kernel_rfl)) (fun _ _ _ h => h) (Or.inl ⟨by rfl,?_⟩) ?_ ?_
                       rotate_left;(intro w';go_simp;with_reducible rfl);rotate_left;(simp only [pq];rfl)
                       refine pure_ (i:=13) (N:=some 13) (v:=?_) (a' := ?_) #[T,T,T,T,T,T,T,T,T,T,T,T,T,T] rfl rfl (any_of HT_.out (by kernel_rfl)) (fun _ _ _ h => h) (Or.inl ⟨by rfl,?_⟩) ?_ ?_
                       rotate_left;(intro w';go_simp;with_reducible rfl);rotate_left;(simp only [pq];rfl)
                       refine done_ (done_of HT_.out (by kernel_rfl)) ?_
                       try go_wp2
                       go_roundg k5
                       case measure => have:=HK1.out;have:=HJ17.out;have:=HK3.out;have:=HJ42.out;have:=HK5.out;omega
                       case rel => exact ⟨(((rd x11_42 x14_5) == ((rd_T50 t511 x8_1).f1))),(wrap64 (x14_5 + 1)),(by first | rfl | (simp;done) | (simp [*];done)),(by first | rfl | (simp;done) | (simp [*];done)),H',⟨by have:=HK1.out;have:=HJ17.out;have:=HK3.out;have:=HJ42.out;have:=HK5.out;omega⟩,⟨by (with_reducible repeat (first | apply Kd.R_alloc | apply Kd.R_drewN | apply Kd.R_drew));exact HO_6.out⟩,⟨by (with_reducible repeat (first | apply Kd.S_alloc | apply Kd.S_drewN | apply Kd.S_drew));exact HO_7.out⟩,⟨by (with_reducible repeat (first | apply Kd.R_alloc | apply Kd.R_drewN | apply Kd.R_drew));exact HO_11.out⟩,⟨by (with_reducible repeat (first | apply Kd.R_alloc | apply Kd.R_drewN | apply Kd.R_drew));exact HO_92.out⟩,⟨by (with_reducible repeat (first | apply Kd.R_alloc | apply Kd.R_drewN | apply Kd.R_drew));exact HO_508000.out⟩,⟨by (with_reducible repeat (first | apply Kd.R_alloc | apply Kd.R_drewN | apply Kd.R_drew));exact HO_508001.out⟩,⟨by (with_reducible repeat (first | apply Kd.S_alloc | apply Kd.S_drewN | apply Kd.S_drew));exact HO_508004.out⟩,⟨by (with_reducible repeat (first | refine blk_drewN ?_ _ | refine blk_drew ?_ | refine blk_alloc ?_ _));exact BK507.out⟩,⟨by repeat (first | (with_reducible first | exact HB.out | apply below_alloc | apply pw_below_drewN | apply below_drew1 | refine below_set ?_ GE507.out) | exact HB.out)⟩⟩
                   · rw [if_neg c54] at H
                     have c54b0 : decide (x14_5 < (x11_42.length : Int)) = false:=decide_eq_false c54
                     clear c54
                     by_cases c63 : x13_5 = true
                     · subst c63
                       have H1 : (if 0 ≤ (rd y525 x94_3) then (if (rd y525 x94_3) < (t504.length : Int) then (if 0 ≤ x8_1 then (if x8_1 < (t511.length : Int) then (if ((rd_T30 t504 (rd y525 x94_3)).f0) = ((rd_T50 t511 x8_1).f0) then (regletlaw14_PredictClashes.l1 k5 true t511 t514 x8_1 y525 (y525.length : Int) (wrap64 (x94_3 + 1)) t496 t499 t502 t503 t504) else (some false)) else (none)) else (none)) else (none)) else (none)) = some r:=by rw [if_pos rfl] at H;exact H
                       clear H
                       have H:=H1
                       clear H1
                       by_cases c64 : 0 ≤ (rd y525 x94_3)
                       rotate_left
                       · rw [if_neg c64] at H
                         exact absurd H (by simp)
                       rw [if_pos c64] at H
                       have c64b0 : decide (0 ≤ (rd y525 x94_3)) = true:=decide_eq_true c64
                       clear c64
                       by_cases c65 : (rd y525 x94_3) < (t504.length : Int)
                       rotate_left
                       · rw [if_neg c65] at H
                         exact absurd H (by simp)
                       rw [if_pos c65] at H
                       have c65b0 : decide ((rd y525 x94_3) < (t504.length : Int)) = true:=decide_eq_true c65
                       clear c65
                       by_cases c66 : 0 ≤ x8_1
                       rotate_left
                       · rw [if_neg c66] at H
                         exact absurd H (by simp)
                       rw [if_pos c66] at H
                       have c66b0 : decide (0 ≤ x8_1) = true:=decide_eq_true c66
                       clear c66
                       by_cases c67 : x8_1 < (t511.length : Int)
                       rotate_left
                       · rw [if_neg c67] at H
                         exact absurd H (by simp)
                       rw [if_pos c67] at H
                       have c67b0 : decide (x8_1 < (t511.length : Int)) = true:=decide_eq_true c67
                       clear c67
                       by_cases c68 : ((rd_T30 t504 (rd y525 x94_3)).f0) = ((rd_T50 t511 x8_1).f0)
                       · rw [if_pos c68] at H
                         have c68b0 : (((rd_T30 t504 (rd y525 x94_3)).f0) == ((rd_T50 t511 x8_1).f0)) = true:=beq_iff_eq.mpr c68
                         have c68b1 : (((rd_T30 t504 (rd y525 x94_3)).f0) != ((rd_T50 t511 x8_1).f0)) = false:=bne_eq_false_iff_eq.mpr c68
                         clear c68
                         have H' := Aside0.mk H
                         clear H
                         obtain ⟨Ao69,co69,eo69⟩ := Kd.R_slice HO_11.out
                         subst eo69
                         try go_wp2
                         have n0_:=Aside0.mk (Kd.R_drew HO_6.out)
                         have n1_:=Aside0.mk (Kd.S_drew HO_7.out)
                         have n2_:=Aside0.mk (Kd.R_drew HO_11.out)
                         have n3_:=Aside0.mk (Kd.R_drew HO_92.out)
                         have n4_:=Aside0.mk (Kd.R_drew HO_508000.out)
                         have n5_:=Aside0.mk (Kd.R_drew HO_508001.out)
                         have n6_:=Aside0.mk (Kd.S_drew HO_508004.out)
                         have n7_:=Aside0.mk (blk_drew BK507.out)
                         have n8_:=Aside0.mk (below_drew1 HB.out)
                         clear HO_6
                         clear HO_7
                         clear HO_11
                         clear HO_92
                         clear HO_508000
                         clear HO_508001
                         clear HO_508004
                         clear BK507
                         clear HB
                         have HO_6:=n0_
                         have HO_7:=n1_
                         have HO_11:=n2_
                         have HO_92:=n3_
                         have HO_508000:=n4_
                         have HO_508001:=n5_
                         have HO_508004:=n6_
                         have BK507:=n7_
                         have HB:=n8_
                         clear n0_ n1_ n2_ n3_ n4_ n5_ n6_ n7_ n8_
                         have p541 : 0 ≤ ((rd y525 x94_3) : Int) := of_decide_eq_true (by first | (with_reducible assumption) | assumption)
                         have q541 : (rd y525 x94_3) < (t504.length : Int) := of_decide_eq_true (by first | (with_reducible assumption) | assumption)
                         obtain ⟨ad541,A541_1,c541_1,e541,hx541_0,hx541_1,hl541_1,hi541_1⟩ := at_T30 (Kd.S_reads' HO_508004.out).2.2 (rd y525 x94_3) p541 q541
                         obtain rfl : ad529 = ad541:=(by injection e541)
                         obtain ⟨ce541,hce541,hMe541,hcc541⟩ := Kd.S_get HO_508004.out z30 (rd y525 x94_3) p541 (by first | exact q541 | exact of_decide_eq_true (by first | (with_reducible assumption) | assumption) | (have e_:=(Kd.S_reads' HO_508004.out).1;omega))
                         obtain ⟨ve541_1,rfl,ge541_1⟩ := k30_openM hMe541
                         have hv541_1:=hcc541 1 _ rfl
                         rw [add_field _ _ 1 (by omega)] at hv541_1
                         replace hv541_1:=Option.some.inj (hv541_1.symm.trans hx541_1)
                         rw [hv541_1] at ge541_1
                         have HL541_1:=Aside0.mk (show Kd.R k53 53 _ _ _ _ ((rd_T30 t504 (rd y525 x94_3)).f1) from ge541_1)
                         clear hv541_1 ge541_1
                         clear hcc541 hce541
                         have HR541_1:=Aside0.mk hi541_1
                         have HC541_1:=Aside0.mk hl541_1
                         clear hi541_1 hl541_1
                         replace p541:=eq_true p541
                         replace q541:=eq_true q541
                         have p542 : 0 ≤ (x8_1 : Int) := of_decide_eq_true (by first | (with_reducible assumption) | assumption)
                         have q542 : x8_1 < (t511.length : Int) := of_decide_eq_true (by first | (with_reducible assumption) | assumption)
                         obtain ⟨ad542,e542,hx542_0,hx542_1,hx542_2,hx542_3⟩ := at_T50 (Kd.R_reads' HO_6.out).2.2 x8_1 p542 q542
                         obtain rfl : ad523 = ad542:=(by injection e542)
                         replace p542:=eq_true p542
                         replace q542:=eq_true q542
                         refine start_ (n:=16) (S:=fun w' => w'.cell? ⟨gb507,0,none⟩ = some (.slice Ao10 t496.length co10) ∧ w'.cell? ⟨gb507,1,none⟩ = some (.slice Ao12 t499.length co12) ∧ w'.cell? ⟨gb507,2,none⟩ = some (.int .i64 t502) ∧ w'.cell? ⟨gb507,3,none⟩ = some (.int .i64 t503) ∧ w'.cell? ⟨gb507,4,none⟩ = some (.slice (some ad529) t504.length co13) ∧ w'.cell? (ad529.add (((rd y525 x94_3)).toNat * 2)) = some (.int .i64 ((rd_T30 t504 (rd y525 x94_3)).f0)) ∧ w'.cell? ⟨(ad529.add (((rd y525 x94_3)).toNat * 2)).block,(ad529.add (((rd y525 x94_3)).toNat * 2)).off + 1,none⟩ = some (.slice A541_1 ((rd_T30 t504 (rd y525 x94_3)).f1).length c541_1) ∧ w'.cell? (ad523.add ((x8_1).toNat * 4)) = some (.int .i64 ((rd_T50 t511 x8_1).f0)) ∧ w'.cell? ⟨(ad523.add ((x8_1).toNat * 4)).block,(ad523.add ((x8_1).toNat * 4)).off + 1,none⟩ = some (.int .i64 ((rd_T50 t511 x8_1).f1)) ∧ w'.cell? ⟨(ad523.add ((x8_1).toNat * 4)).block,(ad523.add ((x8_1).toNat * 4)).off + 2,none⟩ = some (.int .i64 ((rd_T50 t511 x8_1).f2)) ∧ w'.cell? ⟨(ad523.add ((x8_1).toNat * 4)).block,(ad523.add ((x8_1).toNat * 4)).off + 3,none⟩ = some (.int .i64 ((rd_T50 t511 x8_1).f3))) (ds := []) #[F,F,F,F,F,F,F,F,F,F,F,F,F,F,F,F] (by kernel_rfl) rfl rfl ⟨(blk_cell BK507.out 0).trans rfl,(blk_cell BK507.out 1).trans rfl,(blk_cell BK507.out 2).trans rfl,(blk_cell BK507.out 3).trans rfl,(blk_cell BK507.out 4).trans rfl,hx541_0,hx541_1,hx542_0,hx542_1,hx542_2,hx542_3⟩ (fun hHeld => ?_);refine with_tabW regletlaw14_PredictClashes.tab23 regletlaw14_PredictClashes.bits23 (fun HT_ HW_ => ?_)
                         generalize wr.drew = w70 at HO_6 HO_7 HO_11 HO_92 HO_508000 HO_508001 HO_508004 BK507 HB HL541_1 HR541_1 hx541_0 hx541_1 hx542_0 hx542_1 hx542_2 hx542_3 hHeld ⊢
                         refine pure_ (i:=0) (N:=some 139) (v:=?_) (a' := ?_) #[T,F,F,F,F,F,F,F,F,F,F,F,F,F,F,F] rfl rfl (any_of HT_.out (by kernel_rfl)) (fun _ _ _ h => h) (Or.inl ⟨by rfl,?_⟩) ?_ ?_
                         rotate_left;(intro w';go_simp;with_reducible rfl);rotate_left;(simp only [pq];rfl)
                         refine pure_ (i:=1) (N:=some 140) (v:=?_) (a' := ?_) #[T,T,F,F,F,F,F,F,F,F,F,F,F,F,F,F] rfl rfl (any_of HT_.out (by kernel_rfl)) (fun _ _ _ h => h) (Or.inl ⟨by rfl,?_⟩) ?_ ?_
                         rotate_left;(intro w';go_simp;with_reducible rfl);rotate_left;(simp only [pq];rfl)
                         refine pure_ (i:=2) (N:=some 141) (v:=?_) (a' := ?_) #[T,T,T,F,F,F,F,F,F,F,F,F,F,F,F,F] rfl rfl (any_of HT_.out (by kernel_rfl)) (fun _ _ _ h => h) (Or.inl ⟨by rfl,?_⟩) ?_ ?_
                         rotate_left;(intro w';go_simp;with_reducible rfl);rotate_left;(simp only [pq];rfl)
                         refine pure_ (i:=3) (N:=some 142) (v:=?_) (a' := ?_) #[T,T,T,T,F,F,F,F,F,F,F,F,F,F,F,F] rfl rfl (any_of HT_.out (by kernel_rfl)) (fun _ _ _ h => h) (Or.inl ⟨by rfl,?_⟩) ?_ ?_
                         rotate_left;(intro w';go_simp;with_reducible rfl);rotate_left;(simp only [pq];rfl)
                         refine pure_ (i:=5) (N:=some 144) (v:=?_) (a' := ?_) #[T,T,T,T,F,T,F,F,F,F,F,F,F,F,F,F] rfl rfl (any_of HT_.out (by kernel_rfl)) (fun _ _ _ h => h) (Or.inl ⟨by rfl,?_⟩) ?_ ?_
                         rotate_left;(intro w';go_simp;with_reducible rfl);rotate_left;(simp only [pq];rfl)
                         refine pure_ (i:=9) (N:=some 148) (v:=?_) (a' := ?_) #[T,T,T,T,F,T,F,F,F,T,F,F,F,F,F,F] rfl rfl (any_of HT_.out (by kernel_rfl)) (fun _ _ _ h => h) (Or.inl ⟨by rfl,?_⟩) ?_ ?_
                         rotate_left;(intro w';go_simp;with_reducible rfl);rotate_left;(simp only [pq];rfl)
                         refine pure_ (i:=10) (N:=some 149) (v:=?_) (a' := ?_) #[T,T,T,T,F,T,F,F,F,T,T,F,F,F,F,F] rfl rfl (any_of HT_.out (by kernel_rfl)) (fun _ _ _ h => h) (Or.inl ⟨by rfl,?_⟩) ?_ ?_
                         rotate_left;(intro w';go_simp;with_reducible rfl);rotate_left;(simp only [pq];rfl)
                         refine pure_ (i:=11) (N:=some 150) (v:=?_) (a' := ?_) #[T,T,T,T,F,T,F,F,F,T,T,T,F,F,F,F] rfl rfl (any_of HT_.out (by kernel_rfl)) (fun _ _ _ h => h) (Or.inl ⟨by rfl,?_⟩) ?_ ?_
                         rotate_left;(intro w';go_simp;with_reducible rfl);rotate_left;(simp only [pq];rfl)
                         refine pure_ (i:=12) (N:=some 151) (v:=?_) (a' := ?_) #[T,T,T,T,F,T,F,F,F,T,T,T,T,F,F,F] rfl rfl (any_of HT_.out (by kernel_rfl)) (fun _ _ _ h => h) (Or.inl ⟨by rfl,?_⟩) ?_ ?_
                         rotate_left;(intro w';go_simp;with_reducible rfl);rotate_left;(simp only [pq];rfl)
                         refine take_ (i:=4) (N:=some 143) (v:=?_) (a' := ?_) #[T,T,T,T,T,T,F,F,F,T,T,T,T,F,F,F] rfl rfl (take_ofW HT_.out HW_.out (by kernel_rfl)) (fun _ _ _ h => h) (Or.inl ⟨by rfl,?_⟩) hHeld ?_ ?_
                         rotate_left
                         · rintro w' ⟨s0,s1,s2,s3,s4,s5,s6,s7,s8,s9,s10⟩
                           go_simp
                           with_reducible rfl
                         rotate_left
                         · simp only [pq]
                           rfl
                         refine pure_ (i:=6) (N:=some 145) (v:=?_) (a' := ?_) #[T,T,T,T,T,T,T,F,F,T,T,T,T,F,F,F] rfl rfl (any_of HT_.out (by kernel_rfl)) (fun _ _ _ h => h) (Or.inl ⟨by rfl,?_⟩) ?_ ?_
                         rotate_left;(intro w';go_simp;with_reducible rfl);rotate_left;(simp only [pq];rfl)
                         refine pure_ (i:=7) (N:=some 146) (v:=?_) (a' := ?_) #[T,T,T,T,T,T,T,T,F,T,T,T,T,F,F,F] rfl rfl (any_of HT_.out (by kernel_rfl)) (fun _ _ _ h => h) (Or.inl ⟨by rfl,?_⟩) ?_ ?_
                         rotate_left;(intro w';go_simp;with_reducible rfl);rotate_left;(simp only [pq];rfl)
                         refine take_ (i:=8) (N:=some 147) (v:=?_) (a' := ?_) #[T,T,T,T,T,T,T,T,T,T,T,T,T,F,F,F] rfl rfl (take_ofW HT_.out HW_.out (by kernel_rfl)) (fun _ _ _ h => h) (Or.inl ⟨by rfl,?_⟩) hHeld ?_ ?_
                         rotate_left
                         · rintro w' ⟨s0,s1,s2,s3,s4,s5,s6,s7,s8,s9,s10⟩
                           go_simp
                           with_reducible rfl
                         rotate_left
                         · simp only [pq]
                           rfl
                         refine take_ (i:=13) (N:=some 152) (v:=?_) (a' := ?_) #[T,T,T,T,T,T,T,T,T,T,T,T,T,T,F,F] rfl rfl (take_ofW HT_.out HW_.out (by kernel_rfl)) (fun _ _ _ h => h) (Or.inl ⟨by rfl,?_⟩) hHeld ?_ ?_
                         rotate_left
                         · rintro w' ⟨s0,s1,s2,s3,s4,s5,s6,s7,s8,s9,s10⟩
                           go_simp
                           with_reducible rfl
                         rotate_left
                         · simp only [pq]
                           rfl
                         refine pure_ (i:=14) (N:=some 153) (v:=?_) (a' := ?_) #[T,T,T,T,T,T,T,T,T,T,T,T,T,T,T,F] rfl rfl (any_of HT_.out (by kernel_rfl)) (fun _ _ _ h => h) (Or.inl ⟨by rfl,?_⟩) ?_ ?_
                         rotate_left;(intro w';go_simp;with_reducible rfl);rotate_left;(simp only [pq];rfl)
                         refine pure_ (i:=15) (N:=some 154) (v:=?_) (a' := ?_) #[T,T,T,T,T,T,T,T,T,T,T,T,T,T,T,T] rfl rfl (any_of HT_.out (by kernel_rfl)) (fun _ _ _ h => h) (Or.inl ⟨by rfl,?_⟩) ?_ ?_
                         rotate_left;(intro w';go_simp;with_reducible rfl);rotate_left;(simp only [pq];rfl)
                         refine done_ (done_of HT_.out (by kernel_rfl)) ?_
                         try go_wp2
                         go_roundg k5
                         case measure => have:=HK1.out;have:=HJ17.out;have:=HK3.out;have:=HJ42.out;have:=HK5.out;omega
                         case rel => exact ⟨(wrap64 (x94_3 + 1)),(by first | rfl | (simp;done) | (simp [*];done)),H',⟨by have:=HK1.out;have:=HJ17.out;have:=HK3.out;have:=HJ42.out;have:=HK5.out;omega⟩,⟨by (with_reducible repeat (first | apply Kd.R_alloc | apply Kd.R_drewN | apply Kd.R_drew));exact HO_6.out⟩,⟨by (with_reducible repeat (first | apply Kd.S_alloc | apply Kd.S_drewN | apply Kd.S_drew));exact Kd.S_mono HO_7.out (fun _ hk => hk.2)⟩,⟨by (with_reducible repeat (first | apply Kd.R_alloc | apply Kd.R_drewN | apply Kd.R_drew));exact Kd.R_mono HO_92.out (fun _ hk => trivial)⟩,⟨by (with_reducible repeat (first | apply Kd.R_alloc | apply Kd.R_drewN | apply Kd.R_drew));exact HO_508000.out⟩,⟨by (with_reducible repeat (first | apply Kd.R_alloc | apply Kd.R_drewN | apply Kd.R_drew));exact Kd.R_mono HO_508001.out (fun _ hk => hk.2)⟩,⟨by (with_reducible repeat (first | apply Kd.S_alloc | apply Kd.S_drewN | apply Kd.S_drew));exact HO_508004.out⟩,⟨by (with_reducible repeat (first | refine blk_drewN ?_ _ | refine blk_drew ?_ | refine blk_alloc ?_ _));exact BK507.out⟩,⟨by repeat (first | (with_reducible first | exact HB.out | apply below_alloc | apply pw_below_drewN | apply below_drew1 | refine below_set ?_ GE507.out) | exact HB.out)⟩⟩
                       · rw [if_neg c68] at H
                         have c68b0 : (((rd_T30 t504 (rd y525 x94_3)).f0) == ((rd_T50 t511 x8_1).f0)) = false:=beq_eq_false_iff_ne.mpr c68
                         have c68b1 : (((rd_T30 t504 (rd y525 x94_3)).f0) != ((rd_T50 t511 x8_1).f0)) = true:=bne_iff_ne.mpr c68
                         obtain rfl:=Option.some.inj H
                         obtain ⟨Ao71,co71,eo71⟩ := Kd.R_slice HO_11.out
                         subst eo71
                         try go_wp2
                         have n0_:=Aside0.mk (Kd.R_drew HO_6.out)
                         have n1_:=Aside0.mk (Kd.S_drew HO_7.out)
                         have n2_:=Aside0.mk (Kd.R_drew HO_11.out)
                         have n3_:=Aside0.mk (Kd.R_drew HO_92.out)
                         have n4_:=Aside0.mk (Kd.R_drew HO_508000.out)
                         have n5_:=Aside0.mk (Kd.R_drew HO_508001.out)
                         have n6_:=Aside0.mk (Kd.S_drew HO_508004.out)
                         have n7_:=Aside0.mk (blk_drew BK507.out)
                         have n8_:=Aside0.mk (below_drew1 HB.out)
                         clear HO_6
                         clear HO_7
                         clear HO_11
                         clear HO_92
                         clear HO_508000
                         clear HO_508001
                         clear HO_508004
                         clear BK507
                         clear HB
                         have HO_6:=n0_
                         have HO_7:=n1_
                         have HO_11:=n2_
                         have HO_92:=n3_
                         have HO_508000:=n4_
                         have HO_508001:=n5_
                         have HO_508004:=n6_
                         have BK507:=n7_
                         have HB:=n8_
                         clear n0_ n1_ n2_ n3_ n4_ n5_ n6_ n7_ n8_
                         have p541 : 0 ≤ ((rd y525 x94_3) : Int) := of_decide_eq_true (by first | (with_reducible assumption) | assumption)
                         have q541 : (rd y525 x94_3) < (t504.length : Int) := of_decide_eq_true (by first | (with_reducible assumption) | assumption)
                         obtain ⟨ad541,A541_1,c541_1,e541,hx541_0,hx541_1,hl541_1,hi541_1⟩ := at_T30 (Kd.S_reads' HO_508004.out).2.2 (rd y525 x94_3) p541 q541
                         obtain rfl : ad529 = ad541:=(by injection e541)
                         obtain ⟨ce541,hce541,hMe541,hcc541⟩ := Kd.S_get HO_508004.out z30 (rd y525 x94_3) p541 (by first | exact q541 | exact of_decide_eq_true (by first | (with_reducible assumption) | assumption) | (have e_:=(Kd.S_reads' HO_508004.out).1;omega))
                         obtain ⟨ve541_1,rfl,ge541_1⟩ := k30_openM hMe541
                         have hv541_1:=hcc541 1 _ rfl
                         rw [add_field _ _ 1 (by omega)] at hv541_1
                         replace hv541_1:=Option.some.inj (hv541_1.symm.trans hx541_1)
                         rw [hv541_1] at ge541_1
                         have HL541_1:=Aside0.mk (show Kd.R k53 53 _ _ _ _ ((rd_T30 t504 (rd y525 x94_3)).f1) from ge541_1)
                         clear hv541_1 ge541_1
                         clear hcc541 hce541
                         have HR541_1:=Aside0.mk hi541_1
                         have HC541_1:=Aside0.mk hl541_1
                         clear hi541_1 hl541_1
                         replace p541:=eq_true p541
                         replace q541:=eq_true q541
                         have p542 : 0 ≤ (x8_1 : Int) := of_decide_eq_true (by first | (with_reducible assumption) | assumption)
                         have q542 : x8_1 < (t511.length : Int) := of_decide_eq_true (by first | (with_reducible assumption) | assumption)
                         obtain ⟨ad542,e542,hx542_0,hx542_1,hx542_2,hx542_3⟩ := at_T50 (Kd.R_reads' HO_6.out).2.2 x8_1 p542 q542
                         obtain rfl : ad523 = ad542:=(by injection e542)
                         replace p542:=eq_true p542
                         replace q542:=eq_true q542
                         refine start_ (n:=16) (S:=fun w' => w'.cell? ⟨gb507,0,none⟩ = some (.slice Ao10 t496.length co10) ∧ w'.cell? ⟨gb507,1,none⟩ = some (.slice Ao12 t499.length co12) ∧ w'.cell? ⟨gb507,2,none⟩ = some (.int .i64 t502) ∧ w'.cell? ⟨gb507,3,none⟩ = some (.int .i64 t503) ∧ w'.cell? ⟨gb507,4,none⟩ = some (.slice (some ad529) t504.length co13) ∧ w'.cell? (ad529.add (((rd y525 x94_3)).toNat * 2)) = some (.int .i64 ((rd_T30 t504 (rd y525 x94_3)).f0)) ∧ w'.cell? ⟨(ad529.add (((rd y525 x94_3)).toNat * 2)).block,(ad529.add (((rd y525 x94_3)).toNat * 2)).off + 1,none⟩ = some (.slice A541_1 ((rd_T30 t504 (rd y525 x94_3)).f1).length c541_1) ∧ w'.cell? (ad523.add ((x8_1).toNat * 4)) = some (.int .i64 ((rd_T50 t511 x8_1).f0)) ∧ w'.cell? ⟨(ad523.add ((x8_1).toNat * 4)).block,(ad523.add ((x8_1).toNat * 4)).off + 1,none⟩ = some (.int .i64 ((rd_T50 t511 x8_1).f1)) ∧ w'.cell? ⟨(ad523.add ((x8_1).toNat * 4)).block,(ad523.add ((x8_1).toNat * 4)).off + 2,none⟩ = some (.int .i64 ((rd_T50 t511 x8_1).f2)) ∧ w'.cell? ⟨(ad523.add ((x8_1).toNat * 4)).block,(ad523.add ((x8_1).toNat * 4)).off + 3,none⟩ = some (.int .i64 ((rd_T50 t511 x8_1).f3))) (ds := []) #[F,F,F,F,F,F,F,F,F,F,F,F,F,F,F,F] (by kernel_rfl) rfl rfl ⟨(blk_cell BK507.out 0).trans rfl,(blk_cell BK507.out 1).trans rfl,(blk_cell BK507.out 2).trans rfl,(blk_cell BK507.out 3).trans rfl,(blk_cell BK507.out 4).trans rfl,hx541_0,hx541_1,hx542_0,hx542_1,hx542_2,hx542_3⟩ (fun hHeld => ?_);refine with_tabW regletlaw14_PredictClashes.tab23 regletlaw14_PredictClashes.bits23 (fun HT_ HW_ => ?_)
                         generalize wr.drew = w72 at HO_6 HO_7 HO_11 HO_92 HO_508000 HO_508001 HO_508004 BK507 HB HL541_1 HR541_1 hx541_0 hx541_1 hx542_0 hx542_1 hx542_2 hx542_3 hHeld ⊢
                         refine pure_ (i:=0) (N:=some 139) (v:=?_) (a' := ?_) #[T,F,F,F,F,F,F,F,F,F,F,F,F,F,F,F] rfl rfl (any_of HT_.out (by kernel_rfl)) (fun _ _ _ h => h) (Or.inl ⟨by rfl,?_⟩) ?_ ?_
                         rotate_left;(intro w';go_simp;with_reducible rfl);rotate_left;(simp only [pq];rfl)
                         refine pure_ (i:=1) (N:=some 140) (v:=?_) (a' := ?_) #[T,T,F,F,F,F,F,F,F,F,F,F,F,F,F,F] rfl rfl (any_of HT_.out (by kernel_rfl)) (fun _ _ _ h => h) (Or.inl ⟨by rfl,?_⟩) ?_ ?_
                         rotate_left;(intro w';go_simp;with_reducible rfl);rotate_left;(simp only [pq];rfl)
                         refine pure_ (i:=2) (N:=some 141) (v:=?_) (a' := ?_) #[T,T,T,F,F,F,F,F,F,F,F,F,F,F,F,F] rfl rfl (any_of HT_.out (by kernel_rfl)) (fun _ _ _ h => h) (Or.inl ⟨by rfl,?_⟩) ?_ ?_
                         rotate_left;(intro w';go_simp;with_reducible rfl);rotate_left;(simp only [pq];rfl)
                         refine pure_ (i:=3) (N:=some 142) (v:=?_) (a' := ?_) #[T,T,T,T,F,F,F,F,F,F,F,F,F,F,F,F] rfl rfl (any_of HT_.out (by kernel_rfl)) (fun _ _ _ h => h) (Or.inl ⟨by rfl,?_⟩) ?_ ?_
                         rotate_left;(intro w';go_simp;with_reducible rfl);rotate_left;(simp only [pq];rfl)
                         refine pure_ (i:=5) (N:=some 144) (v:=?_) (a' := ?_) #[T,T,T,T,F,T,F,F,F,F,F,F,F,F,F,F] rfl rfl (any_of HT_.out (by kernel_rfl)) (fun _ _ _ h => h) (Or.inl ⟨by rfl,?_⟩) ?_ ?_
                         rotate_left;(intro w';go_simp;with_reducible rfl);rotate_left;(simp only [pq];rfl)
                         refine pure_ (i:=9) (N:=some 148) (v:=?_) (a' := ?_) #[T,T,T,T,F,T,F,F,F,T,F,F,F,F,F,F] rfl rfl (any_of HT_.out (by kernel_rfl)) (fun _ _ _ h => h) (Or.inl ⟨by rfl,?_⟩) ?_ ?_
                         rotate_left;(intro w';go_simp;with_reducible rfl);rotate_left;(simp only [pq];rfl)
                         refine pure_ (i:=10) (N:=some 149) (v:=?_) (a' := ?_) #[T,T,T,T,F,T,F,F,F,T,T,F,F,F,F,F] rfl rfl (any_of HT_.out (by kernel_rfl)) (fun _ _ _ h => h) (Or.inl ⟨by rfl,?_⟩) ?_ ?_
                         rotate_left;(intro w';go_simp;with_reducible rfl);rotate_left;(simp only [pq];rfl)
                         refine pure_ (i:=11) (N:=some 150) (v:=?_) (a' := ?_) #[T,T,T,T,F,T,F,F,F,T,T,T,F,F,F,F] rfl rfl (any_of HT_.out (by kernel_rfl)) (fun _ _ _ h => h) (Or.inl ⟨by rfl,?_⟩) ?_ ?_
                         rotate_left;(intro w';go_simp;with_reducible rfl);rotate_left;(simp only [pq];rfl)
                         refine pure_ (i:=12) (N:=some 151) (v:=?_) (a' := ?_) #[T,T,T,T,F,T,F,F,F,T,T,T,T,F,F,F] rfl rfl (any_of HT_.out (by kernel_rfl)) (fun _ _ _ h => h) (Or.inl ⟨by rfl,?_⟩) ?_ ?_
                         rotate_left;(intro w';go_simp;with_reducible rfl);rotate_left;(simp only [pq];rfl)
                         refine take_ (i:=4) (N:=some 143) (v:=?_) (a' := ?_) #[T,T,T,T,T,T,F,F,F,T,T,T,T,F,F,F] rfl rfl (take_ofW HT_.out HW_.out (by kernel_rfl)) (fun _ _ _ h => h) (Or.inl ⟨by rfl,?_⟩) hHeld ?_ ?_
                         rotate_left
                         · rintro w' ⟨s0,s1,s2,s3,s4,s5,s6,s7,s8,s9,s10⟩
                           go_simp
                           with_reducible rfl
                         rotate_left
                         · simp only [pq]
                           rfl
                         refine pure_ (i:=6) (N:=some 145) (v:=?_) (a' := ?_) #[T,T,T,T,T,T,T,F,F,T,T,T,T,F,F,F] rfl rfl (any_of HT_.out (by kernel_rfl)) (fun _ _ _ h => h) (Or.inl ⟨by rfl,?_⟩) ?_ ?_
                         rotate_left;(intro w';go_simp;with_reducible rfl);rotate_left;(simp only [pq];rfl)
                         refine pure_ (i:=7) (N:=some 146) (v:=?_) (a' := ?_) #[T,T,T,T,T,T,T,T,F,T,T,T,T,F,F,F] rfl rfl (any_of HT_.out (by kernel_rfl)) (fun _ _ _ h => h) (Or.inl ⟨by rfl,?_⟩) ?_ ?_
                         rotate_left;(intro w';go_simp;with_reducible rfl);rotate_left;(simp only [pq];rfl)
                         refine take_ (i:=8) (N:=some 147) (v:=?_) (a' := ?_) #[T,T,T,T,T,T,T,T,T,T,T,T,T,F,F,F] rfl rfl (take_ofW HT_.out HW_.out (by kernel_rfl)) (fun _ _ _ h => h) (Or.inl ⟨by rfl,?_⟩) hHeld ?_ ?_
                         rotate_left
                         · rintro w' ⟨s0,s1,s2,s3,s4,s5,s6,s7,s8,s9,s10⟩
                           go_simp
                           with_reducible rfl
                         rotate_left
                         · simp only [pq]
                           rfl
                         refine take_ (i:=13) (N:=some 152) (v:=?_) (a' := ?_) #[T,T,T,T,T,T,T,T,T,T,T,T,T,T,F,F] rfl rfl (take_ofW HT_.out HW_.out (by kernel_rfl)) (fun _ _ _ h => h) (Or.inl ⟨by rfl,?_⟩) hHeld ?_ ?_
                         rotate_left
                         · rintro w' ⟨s0,s1,s2,s3,s4,s5,s6,s7,s8,s9,s10⟩
                           go_simp
                           with_reducible rfl
                         rotate_left
                         · simp only [pq]
                           rfl
                         refine pure_ (i:=14) (N:=some 153) (v:=?_) (a' := ?_) #[T,T,T,T,T,T,T,T,T,T,T,T,T,T,T,F] rfl rfl (any_of HT_.out (by kernel_rfl)) (fun _ _ _ h => h) (Or.inl ⟨by rfl,?_⟩) ?_ ?_
                         rotate_left;(intro w';go_simp;with_reducible rfl);rotate_left;(simp only [pq];rfl)
                         refine pure_ (i:=15) (N:=some 154) (v:=?_) (a' := ?_) #[T,T,T,T,T,T,T,T,T,T,T,T,T,T,T,T] rfl rfl (any_of HT_.out (by kernel_rfl)) (fun _ _ _ h => h) (Or.inl ⟨by rfl,?_⟩) ?_ ?_
                         rotate_left;(intro w';go_simp;with_reducible rfl);rotate_left;(simp only [pq];rfl)
                         refine done_ (done_of HT_.out (by kernel_rfl)) ?_
                         try go_wp2
                         go_ret
                         exact ⟨by first | rfl | (simp [errW_none,errW_some] <;> rfl) | (simp [*,errW_none,errW_some] <;> rfl),by repeat (first | (with_reducible first | exact HB.out | apply below_alloc | apply pw_below_drewN | apply below_drew1 | refine below_set ?_ GE507.out) | exact HB.out)⟩
                     · replace c63:=Bool.eq_false_iff.mpr c63
                       subst c63
                       have H1 : (some false) = some r:=by rw [if_neg (show ¬ (false = true) by decide)] at H;exact H
                       clear H
                       have H:=H1
                       clear H1
                       obtain rfl:=Option.some.inj H
                       obtain ⟨Ao73,co73,eo73⟩ := Kd.R_slice HO_11.out
                       subst eo73
                       try go_wp2
                       have n0_:=Aside0.mk (Kd.R_drew HO_6.out)
                       have n1_:=Aside0.mk (Kd.S_drew HO_7.out)
                       have n2_:=Aside0.mk (Kd.R_drew HO_11.out)
                       have n3_:=Aside0.mk (Kd.R_drew HO_92.out)
                       have n4_:=Aside0.mk (Kd.R_drew HO_508000.out)
                       have n5_:=Aside0.mk (Kd.R_drew HO_508001.out)
                       have n6_:=Aside0.mk (Kd.S_drew HO_508004.out)
                       have n7_:=Aside0.mk (blk_drew BK507.out)
                       have n8_:=Aside0.mk (below_drew1 HB.out)
                       clear HO_6
                       clear HO_7
                       clear HO_11
                       clear HO_92
                       clear HO_508000
                       clear HO_508001
                       clear HO_508004
                       clear BK507
                       clear HB
                       have HO_6:=n0_
                       have HO_7:=n1_
                       have HO_11:=n2_
                       have HO_92:=n3_
                       have HO_508000:=n4_
                       have HO_508001:=n5_
                       have HO_508004:=n6_
                       have BK507:=n7_
                       have HB:=n8_
                       clear n0_ n1_ n2_ n3_ n4_ n5_ n6_ n7_ n8_
                       refine start_ (n:=16) (S:=fun w' => True) (ds := []) #[F,F,F,F,F,F,F,F,F,F,F,F,F,F,F,F] (by kernel_rfl) rfl rfl trivial (fun hHeld => ?_);refine with_tabW regletlaw14_PredictClashes.tab23 regletlaw14_PredictClashes.bits23 (fun HT_ HW_ => ?_)
                       generalize wr.drew = w74 at HO_6 HO_7 HO_11 HO_92 HO_508000 HO_508001 HO_508004 BK507 HB hHeld ⊢
                       refine pure_ (i:=0) (N:=some 139) (v:=?_) (a' := ?_) #[T,F,F,F,F,F,F,F,F,F,F,F,F,F,F,F] rfl rfl (any_of HT_.out (by kernel_rfl)) (fun _ _ _ h => h) (Or.inl ⟨by rfl,?_⟩) ?_ ?_
                       rotate_left;(intro w';go_simp;with_reducible rfl);rotate_left;(simp only [pq];rfl)
                       refine pure_ (i:=1) (N:=some 140) (v:=?_) (a' := ?_) #[T,T,F,F,F,F,F,F,F,F,F,F,F,F,F,F] rfl rfl (any_of HT_.out (by kernel_rfl)) (fun _ _ _ h => h) (Or.inl ⟨by rfl,?_⟩) ?_ ?_
                       rotate_left;(intro w';go_simp;with_reducible rfl);rotate_left;(simp only [pq];rfl)
                       refine pure_ (i:=2) (N:=some 141) (v:=?_) (a' := ?_) #[T,T,T,F,F,F,F,F,F,F,F,F,F,F,F,F] rfl rfl (any_of HT_.out (by kernel_rfl)) (fun _ _ _ h => h) (Or.inl ⟨by rfl,?_⟩) ?_ ?_
                       rotate_left;(intro w';go_simp;with_reducible rfl);rotate_left;(simp only [pq];rfl)
                       refine pure_ (i:=3) (N:=some 142) (v:=undef) (a' := ?_) #[T,T,T,T,F,F,F,F,F,F,F,F,F,F,F,F] rfl rfl (any_of HT_.out (by kernel_rfl)) (fun _ _ _ h => h) (Or.inr ⟨by rfl,rfl⟩) ?_ ?_
                       rotate_left
                       · simp only [pq]
                         rfl
                       refine pure_ (i:=4) (N:=some 143) (v:=undef) (a' := ?_) #[T,T,T,T,T,F,F,F,F,F,F,F,F,F,F,F] rfl rfl (any_of HT_.out (by kernel_rfl)) (fun _ _ _ h => h) (Or.inr ⟨by rfl,rfl⟩) ?_ ?_
                       rotate_left
                       · simp only [pq]
                         rfl
                       refine pure_ (i:=5) (N:=some 144) (v:=undef) (a' := ?_) #[T,T,T,T,T,T,F,F,F,F,F,F,F,F,F,F] rfl rfl (any_of HT_.out (by kernel_rfl)) (fun _ _ _ h => h) (Or.inr ⟨by rfl,rfl⟩) ?_ ?_
                       rotate_left
                       · simp only [pq]
                         rfl
                       refine pure_ (i:=6) (N:=some 145) (v:=undef) (a' := ?_) #[T,T,T,T,T,T,T,F,F,F,F,F,F,F,F,F] rfl rfl (any_of HT_.out (by kernel_rfl)) (fun _ _ _ h => h) (Or.inr ⟨by rfl,rfl⟩) ?_ ?_
                       rotate_left
                       · simp only [pq]
                         rfl
                       refine pure_ (i:=7) (N:=some 146) (v:=undef) (a' := ?_) #[T,T,T,T,T,T,T,T,F,F,F,F,F,F,F,F] rfl rfl (any_of HT_.out (by kernel_rfl)) (fun _ _ _ h => h) (Or.inr ⟨by rfl,rfl⟩) ?_ ?_
                       rotate_left
                       · simp only [pq]
                         rfl
                       refine pure_ (i:=8) (N:=some 147) (v:=undef) (a' := ?_) #[T,T,T,T,T,T,T,T,T,F,F,F,F,F,F,F] rfl rfl (any_of HT_.out (by kernel_rfl)) (fun _ _ _ h => h) (Or.inr ⟨by rfl,rfl⟩) ?_ ?_
                       rotate_left
                       · simp only [pq]
                         rfl
                       refine pure_ (i:=9) (N:=some 148) (v:=undef) (a' := ?_) #[T,T,T,T,T,T,T,T,T,T,F,F,F,F,F,F] rfl rfl (any_of HT_.out (by kernel_rfl)) (fun _ _ _ h => h) (Or.inr ⟨by rfl,rfl⟩) ?_ ?_
                       rotate_left
                       · simp only [pq]
                         rfl
                       refine pure_ (i:=10) (N:=some 149) (v:=undef) (a' := ?_) #[T,T,T,T,T,T,T,T,T,T,T,F,F,F,F,F] rfl rfl (any_of HT_.out (by kernel_rfl)) (fun _ _ _ h => h) (Or.inr ⟨by rfl,rfl⟩) ?_ ?_
                       rotate_left
                       · simp only [pq]
                         rfl
                       refine pure_ (i:=11) (N:=some 150) (v:=undef) (a' := ?_) #[T,T,T,T,T,T,T,T,T,T,T,T,F,F,F,F] rfl rfl (any_of HT_.out (by kernel_rfl)) (fun _ _ _ h => h) (Or.inr ⟨by rfl,rfl⟩) ?_ ?_
                       rotate_left
                       · simp only [pq]
                         rfl
                       refine pure_ (i:=12) (N:=some 151) (v:=undef) (a' := ?_) #[T,T,T,T,T,T,T,T,T,T,T,T,T,F,F,F] rfl rfl (any_of HT_.out (by kernel_rfl)) (fun _ _ _ h => h) (Or.inr ⟨by rfl,rfl⟩) ?_ ?_
                       rotate_left
                       · simp only [pq]
                         rfl
                       refine pure_ (i:=13) (N:=some 152) (v:=undef) (a' := ?_) #[T,T,T,T,T,T,T,T,T,T,T,T,T,T,F,F] rfl rfl (any_of HT_.out (by kernel_rfl)) (fun _ _ _ h => h) (Or.inr ⟨by rfl,rfl⟩) ?_ ?_
                       rotate_left
                       · simp only [pq]
                         rfl
                       refine pure_ (i:=14) (N:=some 153) (v:=undef) (a' := ?_) #[T,T,T,T,T,T,T,T,T,T,T,T,T,T,T,F] rfl rfl (any_of HT_.out (by kernel_rfl)) (fun _ _ _ h => h) (Or.inr ⟨by rfl,rfl⟩) ?_ ?_
                       rotate_left
                       · simp only [pq]
                         rfl
                       refine pure_ (i:=15) (N:=some 154) (v:=?_) (a' := ?_) #[T,T,T,T,T,T,T,T,T,T,T,T,T,T,T,T] rfl rfl (any_of HT_.out (by kernel_rfl)) (fun _ _ _ h => h) (Or.inl ⟨by rfl,?_⟩) ?_ ?_
                       rotate_left;(intro w';go_simp;with_reducible rfl);rotate_left;(simp only [pq];rfl)
                       refine done_ (done_of HT_.out (by kernel_rfl)) ?_
                       try go_wp2
                       go_ret
                       exact ⟨by first | rfl | (simp [errW_none,errW_some] <;> rfl) | (simp [*,errW_none,errW_some] <;> rfl),by repeat (first | (with_reducible first | exact HB.out | apply below_alloc | apply pw_below_drewN | apply below_drew1 | refine below_set ?_ GE507.out) | exact HB.out)⟩
             · rw [if_neg c37] at H
               have c37b0 : decide (x94_3 < (y525.length : Int)) = false:=decide_eq_false c37
               clear c37
               have H' := Aside0.mk H
               clear H
               go_wp2
               go_roundg k3
               case measure => have:=HK1.out;have:=HJ17.out;have:=HK3.out;omega
               case rel => exact ⟨(wrap64 (x8_1 + 1)),(by first | rfl | (simp;done) | (simp [*];done)),H',⟨by have:=HK1.out;have:=HJ17.out;have:=HK3.out;omega⟩,⟨by (with_reducible repeat (first | apply Kd.R_alloc | apply Kd.R_drewN | apply Kd.R_drew));exact HO_6.out⟩,⟨by (with_reducible repeat (first | apply Kd.S_alloc | apply Kd.S_drewN | apply Kd.S_drew));exact Kd.S_mono HO_7.out (fun _ hk => trivial)⟩,⟨by (with_reducible repeat (first | apply Kd.R_alloc | apply Kd.R_drewN | apply Kd.R_drew));exact HO_508000.out⟩,⟨by (with_reducible repeat (first | apply Kd.R_alloc | apply Kd.R_drewN | apply Kd.R_drew));exact Kd.R_mono HO_508001.out (fun _ hk => trivial)⟩,⟨by (with_reducible repeat (first | apply Kd.S_alloc | apply Kd.S_drewN | apply Kd.S_drew));exact HO_508004.out⟩,⟨by (with_reducible repeat (first | refine blk_drewN ?_ _ | refine blk_drew ?_ | refine blk_alloc ?_ _));exact BK507.out⟩,⟨by repeat (first | (with_reducible first | exact HB.out | apply below_alloc | apply pw_below_drewN | apply below_drew1 | refine below_set ?_ GE507.out) | exact HB.out)⟩⟩
     · rw [if_neg c17] at H
       have c17b0 : decide (x8_1 < (t511.length : Int)) = false:=decide_eq_false c17
       clear c17
       obtain rfl:=Option.some.inj H
       obtain ⟨Ao75,co75,eo75⟩ := Kd.R_slice HO_6.out
       subst eo75
       go_wp2
       go_ret
       exact ⟨by first | rfl | (simp [errW_none,errW_some] <;> rfl) | (simp [*,errW_none,errW_some] <;> rfl),by repeat (first | (with_reducible first | exact HB.out | apply below_alloc | apply pw_below_drewN | apply below_drew1 | refine below_set ?_ GE507.out) | exact HB.out)⟩
 · replace c3:=Bool.eq_false_iff.mpr c3
   subst c3
   have H1 : (some false) = some r:=by rw [if_neg (show ¬ (false = true) by decide)] at H;exact H
   clear H
   have H:=H1
   clear H1
   obtain rfl:=Option.some.inj H
   go_enter Try.func7,Try.ntmps7
   go_wp2_with (first | ((with_reducible refine gate_callee (f:=9) rfl ?_);refine goesL_ (some 15) rfl rfl Try.func9 (by kernel_rfl) rfl #[] rfl (by (try simp only [List.map_toArray,List.map_cons,List.map_nil]);first | done | rfl | (simp only [List.length_drop,List.length_take];rfl)) ?_;(with_reducible refine (regletlaw14_awake.calls k  false _ A2.out).mono ?_);rintro e w76 ⟨rfl,hb⟩;refine ⟨_,rfl,?_⟩;have n0_:=Aside0.mk (below_step (by repeat (first | (with_reducible first | exact HB.out | apply below_alloc | apply pw_below_drewN | apply below_drew1) | exact HB.out)) hb);clear HB;have HB:=n0_;clear n0_;(try clear hb);(try clear hb2);(try clear hk);(try clear hi)))
   go_ret
   exact ⟨by first | rfl | (simp [errW_none,errW_some] <;> rfl) | (simp [*,errW_none,errW_some] <;> rfl),by repeat (first | (with_reducible first | exact HB.out | apply below_alloc | apply pw_below_drewN | apply below_drew1) | exact HB.out)⟩
def regletlaw14_PredictClashes.Pure : Prop := ∀ (l0 : List Int),l0.length ≤ maxLen → l0.length * 1 ≤ 140737488351232 → (∀ x ∈ l0,(Lit.int .u8 x).wf = true) → ∃ k,regletlaw14_PredictClashes.f k l0 = some true
theorem regletlaw14_PredictClashes.walk (P : regletlaw14_PredictClashes.Pure) (a0 : Option Addr) (len0 cap0 : Nat) (z0 : List Int) (w : World) (w0 : (a0 = none ∧ len0 = 0 ∧ cap0 = 0 ∧ z0 = []) ∨ ∃ x,a0 = some x ∧ len0 ≤ cap0 ∧ cap0 ≤ maxLen ∧ z0.length = cap0 ∧ (∀ i,i < z0.length → w.cell? (x.add i) = some (.int .u8 (z0.getD i 0))) ∧ ∀ n ∈ z0,(Lit.int .u8 n).wf = true) (y0 : len0 * 1 ≤ 140737488351232) :
    Calls Try.prog 7 #[.slice a0 len0 cap0] w fun e w' => e = .returned (.bool true) ∧ Below w.heap.size w w' := by
 obtain ⟨l0,rfl,hr0,hm0,hw0,hc0⟩ := ReadsInt.ofRowC w0
 obtain ⟨k,h⟩ := P l0 hm0 y0 hw0
 refine (regletlaw14_PredictClashes.calls k _ _ l0 true w (Kd.C_of_reads (d:=(0 : Int)) (h1:=fun _ => rfl) hr0) hc0 h).mono ?_
 rintro e w' ⟨rfl,hd⟩
 exact ⟨rfl,hd⟩
end Go.Proofs.Ytfdcfihcfegekaa.P
end
