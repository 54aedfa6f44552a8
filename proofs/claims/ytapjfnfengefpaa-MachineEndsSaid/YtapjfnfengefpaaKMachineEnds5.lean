/- Packed texts of this claim: the walks of the functions, and their plain laws; see the claim's last text. -/
import Derived.Below
import Derived.WalkKit
import Derived.Deep.LoopGhost
import Derived.Shelf.Abstract
import Derived.WalkMore
import Derived.Deep.RegionHeld3
import Derived.Lib.SliceRun
import Derived.RangeFuncNested
import Derived.RangeFuncBound
import Derived.RangeFuncCalls
import Derived.RangeFuncLeaves
import Derived.OwnWalkIn
import Derived.TacticsInMore
import Derived.LoopNIn
import Derived.LoopIn
import Derived.Maps.OwnIn
import Derived.OrdersIn
import Derived.Test.YtapjfnfengefpaaKMachineEnds4
section
namespace Go.Proofs.Ytapjfnfengefpaa.P
open Go.RowKit Go.Proofs.YtapjfnfengefpaaW.PrintWords Go.Proofs.YtapjfnfengefpaaW.PrintLast Go.Proofs.YtapjfnfengefpaaW.PrintMore
attribute [local go_sem] max2_int min2_int max_two min_two max_three min_three max_four min_four   -- for this text's walks alone
set_option linter.unusedVariables false
set_option linter.unusedSimpArgs false
mutual
def regletref14_Predict.l0:Nat→List (List Int)→List (List Int)→Int→List ByteArray→List (S72)→Int→Int→List (S35)→Option ((List (List Int))×(List (S78)))
 |0,_,_,_,_,_,_,_,_=>none
 |k+1,x4,x5,x6,x397000,x397001,x397002,x397003,x397004=>if x6<(x397004.length:Int) then(if 0≤x6 then((regletref13_Of.f k x397000 x397001 x397002 x397003 x397004 ((rd_T35 x397004 x6).f1)).bind fun bt402=>(if bt402.2=true then(if 0≤((rd_T35 x397004 x6).f0) then(if((rd_T35 x397004 x6).f0)<(x5.length:Int) then(if bt402.1.length+(rd_L5 x5 ((rd_T35 x397004 x6).f0)).length<17592186044416 then(if x4.length<5864062014805 then(regletref14_Predict.l0 k (x4++ [(bt402.1++(rd_L5 x5 ((rd_T35 x397004 x6).f0)))]) x5 (wrap64 (x6+1)) x397000 x397001 x397002 x397003 x397004) else(none)) else(none)) else(none)) else(none)) else(if x4.length<5864062014805 then(regletref14_Predict.l0 k (x4++ [bt402.1]) x5 (wrap64 (x6+1)) x397000 x397001 x397002 x397003 x397004) else(none)))) else(none)) else(regletref14_Predict.l1 k x4 ([]:List (List Int)) ([]:List (S78)) 0 x397000 x397001 x397002 x397003 x397004)
def regletref14_Predict.l1:Nat→List (List Int)→List (List Int)→List (S78)→Int→List ByteArray→List (S72)→Int→Int→List (S35)→Option ((List (List Int))×(List (S78)))
 |0,_,_,_,_,_,_,_,_,_=>none
 |k+1,x4,x9,x10,x11,x397000,x397001,x397002,x397003,x397004=>if x11<(x397000.length:Int) then(regletref14_Predict.l2 k x4 x9 x10 x11 ([]:List Int) 0 x397000 x397001 x397002 x397003 x397004) else(some (x9,x10))
def regletref14_Predict.l2:Nat→List (List Int)→List (List Int)→List (S78)→Int→List Int→Int→List ByteArray→List (S72)→Int→Int→List (S35)→Option ((List (List Int))×(List (S78)))
 |0,_,_,_,_,_,_,_,_,_,_,_=>none
 |k+1,x4,x9,x10,x11,x12,x13,x397000,x397001,x397002,x397003,x397004=>if x13≤(x397001.length:Int) then(regletref14_Predict.l3 k x4 x9 x10 x11 x12 x13 (-1) 0 x397000 x397001 x397002 x397003 x397004) else(if x9.length<5864062014805 then(regletref14_Predict.l1 k x4 (x9++ [x12]) x10 (wrap64 (x11+1)) x397000 x397001 x397002 x397003 x397004) else(none))
def regletref14_Predict.l3:Nat→List (List Int)→List (List Int)→List (S78)→Int→List Int→Int→Int→Int→List ByteArray→List (S72)→Int→Int→List (S35)→Option ((List (List Int))×(List (S78)))
 |0,_,_,_,_,_,_,_,_,_,_,_,_,_=>none
 |k+1,x4,x9,x10,x11,x12,x13,x14,x15,x397000,x397001,x397002,x397003,x397004=>if x15<(x397004.length:Int) then(if 0≤x15 then(if((rd_T35 x397004 x15).f0)=x11 then(if x15<(x4.length:Int) then((regletref14_has.f k (rd_L5 x4 x15) x13).bind fun t425=>(regletref14_Predict.j4 k x4 x9 x10 x11 x12 x13 x14 x15 (!t425) x397000 x397001 x397002 x397003 x397004)) else(none)) else(regletref14_Predict.j4 k x4 x9 x10 x11 x12 x13 x14 x15 true x397000 x397001 x397002 x397003 x397004)) else(none)) else(if x12.length<17592186044416 then(regletref14_Predict.l2 k x4 x9 x10 x11 (x12++ [x14]) (wrap64 (x13+1)) x397000 x397001 x397002 x397003 x397004) else(none))
def regletref14_Predict.j4:Nat→List (List Int)→List (List Int)→List (S78)→Int→List Int→Int→Int→Int→Bool→List ByteArray→List (S72)→Int→Int→List (S35)→Option ((List (List Int))×(List (S78)))
 |0,_,_,_,_,_,_,_,_,_,_,_,_,_,_=>none
 |k+1,x4,x9,x10,x11,x12,x13,x14,x15,x92,x397000,x397001,x397002,x397003,x397004=>if x92=true then(regletref14_Predict.l3 k x4 x9 x10 x11 x12 x13 x14 (wrap64 (x15+1)) x397000 x397001 x397002 x397003 x397004) else(if x14<0 then(regletref14_Predict.l3 k x4 x9 x10 x11 x12 x13 x15 (wrap64 (x15+1)) x397000 x397001 x397002 x397003 x397004) else(if x10.length<4398046511104 then(regletref14_Predict.l3 k x4 x9 (x10++ [(⟨x11,x13,x14,x15⟩:S78)]) x11 x12 x13 x14 (wrap64 (x15+1)) x397000 x397001 x397002 x397003 x397004) else(none)))
end
def regletref14_Predict.f (k:Nat) (l0_0:List ByteArray) (l0_1:List (S72)) (a0_2:Int) (a0_3:Int) (l0_4:List (S35)):Option ((List (List Int))×(List (S78))):=(regletref13_Right.f k l0_0 l0_1 a0_2 a0_3 l0_4).bind fun t397=>(if t397=true then((regletref13_Follow.f k l0_0 l0_1 a0_2 a0_3 l0_4).bind fun t398=>(regletref14_Predict.l0 k ([]:List (List Int)) t398 0 l0_0 l0_1 a0_2 a0_3 l0_4)) else(some (([]:List (List Int)),([]:List (S78)))))
def regletref14_Predict.T8:Bool×List (List Nat×List Nat):=(true,[([],[]),([],[]),([1],[1]),([],[]),([2,3],[2,3]),([4],[4]),([5],[5]),([0,6],[0,6]),([7],[7]),([8],[8]),([8],[8]),([9,7,0,1,2,3,4,5,6,7,8,9],[9]),([10,11,0,1,2,3,4,5,6,7,8,9,10,11],[10])])
def regletref14_Predict.B8:List Nat:= [0,0,2,0,14,30,62,127,255,511,511,1023,4095]
theorem regletref14_Predict.tab8:rtab .any (opsOf Try.f20 8)=regletref14_Predict.T8:=by kernel_rfl
theorem regletref14_Predict.bits8:waitsOk regletref14_Predict.T8.2 regletref14_Predict.B8=true:=by kernel_rfl
set_option maxHeartbeats 8000000 in
set_option maxRecDepth 100000 in
theorem regletref14_Predict.calls (k:Nat) (A0_0:Option Addr) (c0_0:Nat) (l0_0:List ByteArray) (A0_1:Option Addr) (c0_1:Nat) (l0_1:List (S72)) (a0_2:Int) (a0_3:Int) (A0_4:Option Addr) (c0_4:Nat) (l0_4:List (S35)) (r1:List (List Int)) (r2:List (S78)) (w:World) (hr0_0:Kd.C Kd.string w A0_0 l0_0.length l0_0) (hc0_0:l0_0.length≤c0_0) (hr0_1:Kd.C k72 w A0_1 l0_1.length l0_1) (hc0_1:l0_1.length≤c0_1) (hr0_4:Kd.C k35 w A0_4 l0_4.length l0_4) (hc0_4:l0_4.length≤c0_4) (h:regletref14_Predict.f k l0_0 l0_1 a0_2 a0_3 l0_4=some (r1,r2)):
 Calls Try.prog 20 #[.agg #[.slice A0_0 l0_0.length c0_0,.slice A0_1 l0_1.length c0_1,.int .i64 a0_2,.int .i64 a0_3,.slice A0_4 l0_4.length c0_4]] w fun e w'=>∃v0_ v1_:Value,e= .returned (.tuple #[v0_,v1_])∧Kd.S (Kd.slice 3 (Kd.int .i64)) 32 w' w.heap.size (fun _=>True) v0_ r1∧Kd.R k78 78 w' w.heap.size (fun _=>True) v1_ r2∧Below w.heap.size w w':=by
 have hu26:=Try.underlying26
 have hu78:=Try.underlying78
 have HR0_0:=aM hr0_0
 have HC0_0:=aM hc0_0
 clear hr0_0 hc0_0
 have HR0_1:=aM hr0_1
 have HC0_1:=aM hc0_1
 clear hr0_1 hc0_1
 have HR0_4:=aM hr0_4
 have HC0_4:=aM hc0_4
 clear hr0_4 hc0_4
 have HB:=aM (Below.refl w.heap.size w)
 have H:((regletref13_Right.f k l0_0 l0_1 a0_2 a0_3 l0_4).bind fun t397=>(if t397=true then((regletref13_Follow.f k l0_0 l0_1 a0_2 a0_3 l0_4).bind fun t398=>(regletref14_Predict.l0 k ([]:List (List Int)) t398 0 l0_0 l0_1 a0_2 a0_3 l0_4)) else(some (([]:List (List Int)),([]:List (S78))))))=some (r1,r2):=h
 clear h
 replace H:=Option.bind_eq_some_iff.mp H
 obtain⟨t397,A20,H⟩:=H
 replace H:(if t397=true then((regletref13_Follow.f k l0_0 l0_1 a0_2 a0_3 l0_4).bind fun t398=>(regletref14_Predict.l0 k ([]:List (List Int)) t398 0 l0_0 l0_1 a0_2 a0_3 l0_4)) else(some (([]:List (List Int)),([]:List (S78)))))=some (r1,r2):=H
 have A2:=aM A20
 clear A20
 by_cases c3:t397=true
 ·subst c3
  have H1:((regletref13_Follow.f k l0_0 l0_1 a0_2 a0_3 l0_4).bind fun t398=>(regletref14_Predict.l0 k ([]:List (List Int)) t398 0 l0_0 l0_1 a0_2 a0_3 l0_4))=some (r1,r2):=by rw [if_pos rfl] at H;exact H
  clear H
  have H:=H1
  clear H1
  replace H:=Option.bind_eq_some_iff.mp H
  obtain⟨t398,A40,H⟩:=H
  replace H:(regletref14_Predict.l0 k ([]:List (List Int)) t398 0 l0_0 l0_1 a0_2 a0_3 l0_4)=some (r1,r2):=H
  have A4:=aM A40
  clear A40
  have H':=aM H
  clear H
  go_enter Try.func20,Try.ntmps20
  go_wp2_with (first|((with_reducible refine bJ (N:=1) rfl ?_);refine box_event ?hg (N:=1) ?hd (cs:=#[.slice A0_0 l0_0.length c0_0,.slice A0_1 l0_1.length c0_1,.int .i64 a0_2,.int .i64 a0_3,.slice A0_4 l0_4.length c0_4]) (t:=26) ?hr ?_;(case hd=>rfl);(case hg=>rfl);(case hr=>first|(go_simp;done)|(go_simp;rfl));intro gb396 hg w5 hbox hb;have n0_:=aM (bG (by repeat(first|(with_reducible first|exact HB.out|apply aN|apply aP|apply aO)|exact HB.out)) hb);have n1_:=aM (hbox);have n2_:=aM ((by rw [hg];exact(bH (by repeat(first|(with_reducible first|exact HB.out|apply aN|apply aP|apply aO)|exact HB.out))):w.heap.size≤gb396));have n3_:=aM ((by rw [hg];exact(bH (by repeat(first|(with_reducible first|exact HB.out|apply aN|apply aP|apply aO)|exact HB.out))):w.heap.size≤gb396));clear HB;have HB:=n0_;have BK396:=n1_;have GW396:=n2_;have GE396:=n3_;clear n0_ n1_ n2_ n3_;clear hb hbox hg;have hcz6_0:w5.cell? ⟨gb396,0,none⟩=some (.slice A0_0 l0_0.length c0_0):=(aG BK396.out 0).trans rfl;have hcz6_1:w5.cell? ⟨gb396,1,none⟩=some (.slice A0_1 l0_1.length c0_1):=(aG BK396.out 1).trans rfl;have hcz6_2:w5.cell? ⟨gb396,2,none⟩=some (.int .i64 a0_2):=(aG BK396.out 2).trans rfl;have hcz6_3:w5.cell? ⟨gb396,3,none⟩=some (.int .i64 a0_3):=(aG BK396.out 3).trans rfl;have hcz6_4:w5.cell? ⟨gb396,4,none⟩=some (.slice A0_4 l0_4.length c0_4):=(aG BK396.out 4).trans rfl;have hfz6_0:=aH BK396.out 0;have hfz6_1:=aH BK396.out 1;have hfz6_2:=aH BK396.out 2;have hfz6_3:=aH BK396.out 3;have hfz6_4:=aH BK396.out 4)|((with_reducible refine bI (f:=30) rfl ?_);refine goesL_ (some 17) rfl rfl Try.func30 (by kernel_rfl) rfl #[.agg #[.slice A0_0 l0_0.length c0_0,.slice A0_1 l0_1.length c0_1,.int .i64 a0_2,.int .i64 a0_3,.slice A0_4 l0_4.length c0_4]] rfl (by(try simp only [List.map_toArray,List.map_cons,List.map_nil]);first|done|rfl|(simp only [List.length_drop,List.length_take];rfl)) ?_;(with_reducible refine(regletref13_Right.calls k _ _ l0_0 _ _ l0_1 a0_2 a0_3 _ _ l0_4 true _ ?side1 ?side2 ?side3 ?side4 ?side5 ?side6 A2.out).mono ?_);(case side1=>repeat(first|exact(bD HR0_0.out HB.out)|(with_reducible refine Kd.C_alloc ?_ _)|(with_reducible refine Kd.C_drewN ?_ _)|(with_reducible refine bC ?_)));(case side2=>exact HC0_0.out);(case side3=>repeat(first|exact(bD HR0_1.out HB.out)|(with_reducible refine Kd.C_alloc ?_ _)|(with_reducible refine Kd.C_drewN ?_ _)|(with_reducible refine bC ?_)));(case side4=>exact HC0_1.out);(case side5=>repeat(first|exact(bD HR0_4.out HB.out)|(with_reducible refine Kd.C_alloc ?_ _)|(with_reducible refine Kd.C_drewN ?_ _)|(with_reducible refine bC ?_)));(case side6=>exact HC0_4.out);rintro e w7 ⟨rfl,hb⟩;refine⟨_,rfl,?_⟩;have n0_:=aM (bF (g:=gb396) (o:= .cells #[.slice A0_0 l0_0.length c0_0,.slice A0_1 l0_1.length c0_1,.int .i64 a0_2,.int .i64 a0_3,.slice A0_4 l0_4.length c0_4] 26 (0,0)) (by(with_reducible repeat(first|refine aJ ?_ _|refine aK ?_|refine aI ?_ _));exact BK396.out) hb);have n1_:=aM (bG (by repeat(first|(with_reducible first|exact HB.out|apply aN|apply aP|apply aO|refine aL ?_ GE396.out)|exact HB.out)) hb);clear BK396;clear HB;have BK396:=n0_;have HB:=n1_;clear n0_ n1_;(try clear hb);(try clear hb2);(try clear hk);(try clear hi);have hcz8_0:w7.cell? ⟨gb396,0,none⟩=some (.slice A0_0 l0_0.length c0_0):=(aG BK396.out 0).trans rfl;have hcz8_1:w7.cell? ⟨gb396,1,none⟩=some (.slice A0_1 l0_1.length c0_1):=(aG BK396.out 1).trans rfl;have hcz8_2:w7.cell? ⟨gb396,2,none⟩=some (.int .i64 a0_2):=(aG BK396.out 2).trans rfl;have hcz8_3:w7.cell? ⟨gb396,3,none⟩=some (.int .i64 a0_3):=(aG BK396.out 3).trans rfl;have hcz8_4:w7.cell? ⟨gb396,4,none⟩=some (.slice A0_4 l0_4.length c0_4):=(aG BK396.out 4).trans rfl;have hfz8_0:=aH BK396.out 0;have hfz8_1:=aH BK396.out 1;have hfz8_2:=aH BK396.out 2;have hfz8_3:=aH BK396.out 3;have hfz8_4:=aH BK396.out 4)|((with_reducible refine bI (f:=31) rfl ?_);refine goesL_ (some 20) rfl rfl Try.func31 (by kernel_rfl) rfl #[.agg #[.slice A0_0 l0_0.length c0_0,.slice A0_1 l0_1.length c0_1,.int .i64 a0_2,.int .i64 a0_3,.slice A0_4 l0_4.length c0_4]] rfl (by(try simp only [List.map_toArray,List.map_cons,List.map_nil]);first|done|rfl|(simp only [List.length_drop,List.length_take];rfl)) ?_;(with_reducible refine(regletref13_Follow.calls k _ _ l0_0 _ _ l0_1 a0_2 a0_3 _ _ l0_4 t398 _ ?side1 ?side2 ?side3 ?side4 ?side5 ?side6 A4.out).mono ?_);(case side1=>repeat(first|exact(bD HR0_0.out HB.out)|(with_reducible refine Kd.C_alloc ?_ _)|(with_reducible refine Kd.C_drewN ?_ _)|(with_reducible refine bC ?_)));(case side2=>exact HC0_0.out);(case side3=>repeat(first|exact(bD HR0_1.out HB.out)|(with_reducible refine Kd.C_alloc ?_ _)|(with_reducible refine Kd.C_drewN ?_ _)|(with_reducible refine bC ?_)));(case side4=>exact HC0_1.out);(case side5=>repeat(first|exact(bD HR0_4.out HB.out)|(with_reducible refine Kd.C_alloc ?_ _)|(with_reducible refine Kd.C_drewN ?_ _)|(with_reducible refine bC ?_)));(case side6=>exact HC0_4.out);rintro e w9 ⟨v399,rfl,ho0,hb⟩;refine⟨_,rfl,?_⟩;have n0_:=aM (Kd.S_lower ho0 (bH (by repeat(first|(with_reducible first|exact HB.out|apply aN|apply aP|apply aO|refine aL ?_ GE396.out)|exact HB.out))));have n1_:=aM (bF (g:=gb396) (o:= .cells #[.slice A0_0 l0_0.length c0_0,.slice A0_1 l0_1.length c0_1,.int .i64 a0_2,.int .i64 a0_3,.slice A0_4 l0_4.length c0_4] 26 (0,0)) (by(with_reducible repeat(first|refine aJ ?_ _|refine aK ?_|refine aI ?_ _));exact BK396.out) hb);have n2_:=aM (bG (by repeat(first|(with_reducible first|exact HB.out|apply aN|apply aP|apply aO|refine aL ?_ GE396.out)|exact HB.out)) hb);clear BK396;clear HB;have HO400:=n0_;have BK396:=n1_;have HB:=n2_;clear n0_ n1_ n2_;(try clear hb);(try clear hb2);(try clear hk);(try clear hi);(try clear ho0)))
  go_loopg [4,6] k (fun kq v4 v6 w'=>∃(x4_1:List (List Int)) (x6_1:Int),v6= .int .i64 x6_1∧Aside0 (regletref14_Predict.l0 kq x4_1 t398 x6_1 l0_0 l0_1 a0_2 a0_3 l0_4=some (r1,r2))∧Aside0 (kq≤k)∧Aside0 (Kd.S (Kd.slice 3 (Kd.int .i64)) 32 w' w.heap.size (fun k_=>some k_≠(v399:Value).ownBlock) v4 x4_1)∧Aside0 (Kd.S (Kd.slice 3 (Kd.int .i64)) 32 w' w.heap.size (fun k_=>some k_≠(v4:Value).ownBlock) v399 t398)∧Aside0 (w'.heap[gb396]?=some (.cells #[(.slice A0_0 l0_0.length c0_0),(.slice A0_1 l0_1.length c0_1),.int .i64 a0_2,.int .i64 a0_3,(.slice A0_4 l0_4.length c0_4)] 26 (0,0)))∧Aside0 (Below w.heap.size w w'))
  case atStart=>exact⟨(([]:List (List Int))),(0),(by first|rfl|(simp;done)|(simp [*];done)),H',⟨Nat.le_refl _⟩,⟨by first|exact Kd.S_nil _ _ _ _ _|exact Kd.N_nil _ _ _ _ _|exact Kd.V_nil _ _ _ _ _|exact Kd.Q_nil _ _ _ _ _|exact Kd.R_nil _ _ _ _ _⟩,⟨by(with_reducible repeat(first|apply Kd.S_alloc|apply aV|apply aW));exact Kd.S_mono HO400.out (fun _ hk=>(by simp [Value.ownBlock]))⟩,⟨by(with_reducible repeat(first|refine aJ ?_ _|refine aK ?_|refine aI ?_ _));exact BK396.out⟩,⟨by repeat(first|(with_reducible first|exact HB.out|apply aN|apply aP|apply aO|refine aL ?_ GE396.out)|exact HB.out)⟩⟩
  case round=>
   clear H'
   (try clear c2);(try clear p2);(try clear c3);(try clear hcz6_0);(try clear hcz6_1);(try clear hcz6_2);(try clear hcz6_3);(try clear hcz6_4);(try clear hcz8_0);(try clear hcz8_1);(try clear hcz8_2);(try clear hcz8_3);(try clear hcz8_4);(try clear hfz6_0);(try clear hfz6_1);(try clear hfz6_2);(try clear hfz6_3);(try clear hfz6_4);(try clear hfz8_0);(try clear hfz8_1);(try clear hfz8_2);(try clear hfz8_3)
   (try clear hfz8_4)
   obtain⟨x4_1,x6_1,rfl,HA,HK1,HO_4,HO_5,BK396,HB⟩:=hrel
   cases gk with
   |zero=>exact absurd HA.out (by simp [regletref14_Predict.l0])
   |succ k1=>
    have H:=HA.out
    clear HA
    simp only [regletref14_Predict.l0] at H
    by_cases c10:x6_1<(l0_4.length:Int)
    ·rw [if_pos c10] at H
     have c10b0:decide (x6_1<(l0_4.length:Int))=true:=decide_eq_true c10
     clear c10
     by_cases c11:0≤x6_1
     rotate_left
     ·rw [if_neg c11] at H
      exact absurd H (by simp)
     rw [if_pos c11] at H
     have c11b0:decide (0≤x6_1)=true:=decide_eq_true c11
     clear c11
     replace H:=Option.bind_eq_some_iff.mp H
     obtain⟨⟨t402,t405⟩,A120,H⟩:=H
     replace H:(if t405=true then(if 0≤((rd_T35 l0_4 x6_1).f0) then(if((rd_T35 l0_4 x6_1).f0)<(t398.length:Int) then(if t402.length+(rd_L5 t398 ((rd_T35 l0_4 x6_1).f0)).length<17592186044416 then(if x4_1.length<5864062014805 then(regletref14_Predict.l0 k1 (x4_1++ [(t402++(rd_L5 t398 ((rd_T35 l0_4 x6_1).f0)))]) t398 (wrap64 (x6_1+1)) l0_0 l0_1 a0_2 a0_3 l0_4) else(none)) else(none)) else(none)) else(none)) else(if x4_1.length<5864062014805 then(regletref14_Predict.l0 k1 (x4_1++ [t402]) t398 (wrap64 (x6_1+1)) l0_0 l0_1 a0_2 a0_3 l0_4) else(none)))=some (r1,r2):=H
     have A12:=aM A120
     clear A120
     by_cases c13:t405=true
     ·subst c13
      have H1:(if 0≤((rd_T35 l0_4 x6_1).f0) then(if((rd_T35 l0_4 x6_1).f0)<(t398.length:Int) then(if t402.length+(rd_L5 t398 ((rd_T35 l0_4 x6_1).f0)).length<17592186044416 then(if x4_1.length<5864062014805 then(regletref14_Predict.l0 k1 (x4_1++ [(t402++(rd_L5 t398 ((rd_T35 l0_4 x6_1).f0)))]) t398 (wrap64 (x6_1+1)) l0_0 l0_1 a0_2 a0_3 l0_4) else(none)) else(none)) else(none)) else(none))=some (r1,r2):=by rw [if_pos rfl] at H;exact H
      clear H
      have H:=H1
      clear H1
      by_cases c14:0≤((rd_T35 l0_4 x6_1).f0)
      rotate_left
      ·rw [if_neg c14] at H
       exact absurd H (by simp)
      rw [if_pos c14] at H
      have c14b0:decide (0≤((rd_T35 l0_4 x6_1).f0))=true:=decide_eq_true c14
      clear c14
      by_cases c15:((rd_T35 l0_4 x6_1).f0)<(t398.length:Int)
      rotate_left
      ·rw [if_neg c15] at H
       exact absurd H (by simp)
      rw [if_pos c15] at H
      have c15b0:decide (((rd_T35 l0_4 x6_1).f0)<(t398.length:Int))=true:=decide_eq_true c15
      clear c15
      by_cases c16:t402.length+(rd_L5 t398 ((rd_T35 l0_4 x6_1).f0)).length<17592186044416
      rotate_left
      ·rw [if_neg c16] at H
       exact absurd H (by simp)
      rw [if_pos c16] at H
      have LMc16:=aM c16
      clear c16
      obtain⟨y408,hy408⟩:∃y_:List Int,y_=(t402++(rd_L5 t398 ((rd_T35 l0_4 x6_1).f0))):=⟨_,rfl⟩
      replace H:(if x4_1.length<5864062014805 then(regletref14_Predict.l0 k1 (x4_1++ [y408]) t398 (wrap64 (x6_1+1)) l0_0 l0_1 a0_2 a0_3 l0_4) else(none))=some (r1,r2):=by first|(rw [hy408];with_reducible exact H)|(have H2_:=(Option.bind_some _ _).symm.trans H;rw [hy408];with_reducible exact H2_)|(have H2_:=(Option.bind_some _ _).symm.trans H;with_reducible exact H2_)|with_reducible exact H|(rw [hy408];exact H)|exact H
      have Ny408:=aM hy408
      clear hy408
      by_cases c17:x4_1.length<5864062014805
      rotate_left
      ·rw [if_neg c17] at H
       exact absurd H (by simp)
      rw [if_pos c17] at H
      have LMc17:=aM c17
      clear c17
      obtain⟨y411,hy411⟩:∃y_:List (List Int),y_=(x4_1++ [y408]):=⟨_,rfl⟩
      replace H:(regletref14_Predict.l0 k1 y411 t398 (wrap64 (x6_1+1)) l0_0 l0_1 a0_2 a0_3 l0_4)=some (r1,r2):=by first|(rw [hy411];with_reducible exact H)|(have H2_:=(Option.bind_some _ _).symm.trans H;rw [hy411];with_reducible exact H2_)|(have H2_:=(Option.bind_some _ _).symm.trans H;with_reducible exact H2_)|with_reducible exact H|(rw [hy411];exact H)|exact H
      have Ny411:=aM hy411
      clear hy411
      have H':=aM H
      clear H
      have hcz18_0:wr.cell? ⟨gb396,0,none⟩=some (.slice A0_0 l0_0.length c0_0):=(aG BK396.out 0).trans rfl
      have hcz18_1:wr.cell? ⟨gb396,1,none⟩=some (.slice A0_1 l0_1.length c0_1):=(aG BK396.out 1).trans rfl
      have hcz18_2:wr.cell? ⟨gb396,2,none⟩=some (.int .i64 a0_2):=(aG BK396.out 2).trans rfl
      have hcz18_3:wr.cell? ⟨gb396,3,none⟩=some (.int .i64 a0_3):=(aG BK396.out 3).trans rfl
      have hcz18_4:wr.cell? ⟨gb396,4,none⟩=some (.slice A0_4 l0_4.length c0_4):=(aG BK396.out 4).trans rfl
      have hfz18_0:=aH BK396.out 0
      have hfz18_1:=aH BK396.out 1
      have hfz18_2:=aH BK396.out 2
      have hfz18_3:=aH BK396.out 3
      have hfz18_4:=aH BK396.out 4
      try go_wp2
      have n0_:=aM (aW HO_4.out)
      have n1_:=aM (aW HO_5.out)
      have n2_:=aM (aK BK396.out)
      have n3_:=aM (aO HB.out)
      clear HO_4
      clear HO_5
      clear BK396
      clear HB
      have HO_4:=n0_
      have HO_5:=n1_
      have BK396:=n2_
      have HB:=n3_
      clear n0_ n1_ n2_ n3_
      have p401:0≤(x6_1:Int):=of_decide_eq_true (by first|(with_reducible assumption)|assumption)
      have q401:x6_1<(l0_4.length:Int):=of_decide_eq_true (by first|(with_reducible assumption)|assumption)
      obtain⟨ad401,A401_1,c401_1,e401,hx401_0,hx401_1,hl401_1,hi401_1⟩:=at_T35 HR0_4.out x6_1 p401 q401
      have hw401_1:=hx401_1
      have hw401_0:=hx401_0
      cases e401
      replace hx401_0:=(HB.out.cell (World.block_lt_of_cell? w _ hx401_0)).trans hx401_0
      replace hx401_1:=(HB.out.cell (World.block_lt_of_cell? w _ hx401_1)).trans hx401_1
      have HR401_1:=aM hi401_1
      have HC401_1:=aM hl401_1
      clear hi401_1 hl401_1
      replace p401:=eq_true p401
      replace q401:=eq_true q401
      refine start_ (n:=13) (S:=fun w'=>w'.cell? ⟨gb396,0,none⟩=some (.slice A0_0 l0_0.length c0_0)∧w'.cell? ⟨gb396,1,none⟩=some (.slice A0_1 l0_1.length c0_1)∧w'.cell? ⟨gb396,2,none⟩=some (.int .i64 a0_2)∧w'.cell? ⟨gb396,3,none⟩=some (.int .i64 a0_3)∧w'.cell? ⟨gb396,4,none⟩=some (.slice (some ad401) l0_4.length c0_4)∧w'.cell? (ad401.add ((x6_1).toNat * 2))=some (.int .i64 ((rd_T35 l0_4 x6_1).f0))∧w'.cell? ⟨(ad401.add ((x6_1).toNat * 2)).block,(ad401.add ((x6_1).toNat * 2)).off+1,none⟩=some (.slice A401_1 ((rd_T35 l0_4 x6_1).f1).length c401_1)) (ds:= []) #[F,F,F,F,F,F,F,F,F,F,F,F,F] (by kernel_rfl) rfl rfl ⟨(aG BK396.out 0).trans rfl,(aG BK396.out 1).trans rfl,(aG BK396.out 2).trans rfl,(aG BK396.out 3).trans rfl,(aG BK396.out 4).trans rfl,((HB.out.cell (World.block_lt_of_cell? w _ hw401_0)).trans hw401_0),((HB.out.cell (World.block_lt_of_cell? w _ hw401_1)).trans hw401_1)⟩ (fun hHeld=>?_);refine with_tabW regletref14_Predict.tab8 regletref14_Predict.bits8 (fun HT_ HW_=>?_)
      generalize wr.drew=w19 at HO_4 HO_5 BK396 HB HR401_1 hx401_0 hx401_1 hHeld ⊢
      refine pure_ (i:=1) (N:=some 30) (v:=?_) (a':=?_) #[F,T,F,F,F,F,F,F,F,F,F,F,F] rfl rfl (any_of HT_.out (by kernel_rfl)) (fun _ _ _ h=>h) (Or.inl ⟨by rfl,?_⟩) ?_ ?_
      rotate_left;(intro w';go_simp;with_reducible rfl);rotate_left;(simp only [pq];rfl)
      refine pure_ (i:=3) (N:=some 32) (v:=?_) (a':=?_) #[F,T,F,T,F,F,F,F,F,F,F,F,F] rfl rfl (any_of HT_.out (by kernel_rfl)) (fun _ _ _ h=>h) (Or.inl ⟨by rfl,?_⟩) ?_ ?_
      rotate_left;(intro w';go_simp;with_reducible rfl);rotate_left;(simp only [pq];rfl)
      refine take_ (i:=0) (N:=some 29) (v:=?_) (a':=?_) #[T,T,F,T,F,F,F,F,F,F,F,F,F] rfl rfl (take_ofW HT_.out HW_.out (by kernel_rfl)) (fun _ _ _ h=>h) (Or.inl ⟨by rfl,?_⟩) hHeld ?_ ?_
      rotate_left
      ·rintro w' ⟨s0,s1,s2,s3,s4,s5,s6⟩
       go_simp
       with_reducible rfl
      rotate_left
      ·simp only [pq]
       rfl
      refine take_ (i:=2) (N:=some 31) (v:=?_) (a':=?_) #[T,T,T,T,F,F,F,F,F,F,F,F,F] rfl rfl (take_ofW HT_.out HW_.out (by kernel_rfl)) (fun _ _ _ h=>h) (Or.inl ⟨by rfl,?_⟩) hHeld ?_ ?_
      rotate_left
      ·rintro w' ⟨s0,s1,s2,s3,s4,s5,s6⟩
       go_simp
       with_reducible rfl
      rotate_left
      ·simp only [pq]
       rfl
      refine pure_ (i:=4) (N:=some 33) (v:=?_) (a':=?_) #[T,T,T,T,T,F,F,F,F,F,F,F,F] rfl rfl (any_of HT_.out (by kernel_rfl)) (fun _ _ _ h=>h) (Or.inl ⟨by rfl,?_⟩) ?_ ?_
      rotate_left;(intro w';go_simp;with_reducible rfl);rotate_left;(simp only [pq];rfl)
      refine pure_ (i:=5) (N:=some 34) (v:=?_) (a':=?_) #[T,T,T,T,T,T,F,F,F,F,F,F,F] rfl rfl (any_of HT_.out (by kernel_rfl)) (fun _ _ _ h=>h) (Or.inl ⟨by rfl,?_⟩) ?_ ?_
      rotate_left;(intro w';go_simp;with_reducible rfl);rotate_left;(simp only [pq];rfl)
      refine take_ (i:=6) (N:=some 35) (v:=?_) (a':=?_) #[T,T,T,T,T,T,T,F,F,F,F,F,F] rfl rfl (take_ofW HT_.out HW_.out (by kernel_rfl)) (fun _ _ _ h=>h) (Or.inl ⟨by rfl,?_⟩) hHeld ?_ ?_
      rotate_left
      ·rintro w' ⟨s0,s1,s2,s3,s4,s5,s6⟩
       go_simp
       with_reducible rfl
      rotate_left
      ·simp only [pq]
       rfl
      refine one_ (i:=7) (N:=some 36) #[T,T,T,T,T,T,T,T,F,F,F,F,F] rfl rfl (one_of HT_.out (by kernel_rfl)) (by decide) (fun K hK=>?_)
      refine goes_ Try.func32 (by kernel_rfl) rfl #[.agg #[.slice A0_0 l0_0.length c0_0,.slice A0_1 l0_1.length c0_1,.int .i64 a0_2,.int .i64 a0_3,.slice (some ad401) l0_4.length c0_4],.slice A401_1 ((rd_T35 l0_4 x6_1).f1).length c401_1] (by rfl) rfl rfl (by(try simp only [List.map_toArray,List.map_cons,List.map_nil]);first|done|rfl|(simp only [List.length_drop,List.length_take];rfl)) ?_
      with_reducible refine(regletref13_Of.calls k1 _ _ l0_0 _ _ l0_1 a0_2 a0_3 _ _ l0_4 _ _ ((rd_T35 l0_4 x6_1).f1) t402 true _ ?side1 ?side2 ?side3 ?side4 ?side5 ?side6 ?side7 ?side8 A12.out).mono ?_
      (case side1=>repeat(first|exact(bD HR0_0.out HB.out)|(with_reducible refine Kd.C_alloc ?_ _)|(with_reducible refine Kd.C_drewN ?_ _)|(with_reducible refine bC ?_)))
      (case side2=>exact HC0_0.out)
      (case side3=>repeat(first|exact(bD HR0_1.out HB.out)|(with_reducible refine Kd.C_alloc ?_ _)|(with_reducible refine Kd.C_drewN ?_ _)|(with_reducible refine bC ?_)))
      (case side4=>exact HC0_1.out)
      (case side5=>repeat(first|exact(bD HR0_4.out HB.out)|(with_reducible refine Kd.C_alloc ?_ _)|(with_reducible refine Kd.C_drewN ?_ _)|(with_reducible refine bC ?_)))
      (case side6=>exact HC0_4.out)
      (case side7=>repeat(first|exact(bD HR401_1.out HB.out)|(with_reducible refine Kd.C_alloc ?_ _)|(with_reducible refine Kd.C_drewN ?_ _)|(with_reducible refine bC ?_)))
      (case side8=>exact HC401_1.out)
      rintro e w20 ⟨v403,rfl,ho0,hb⟩
      refine⟨_,rfl,?_⟩
      have n0_:=aM (Kd.S_elder' (by(with_reducible repeat(first|apply Kd.S_alloc|apply aV|apply aW));exact HO_4.out) (Kd.R_base ho0) hb)
      have n1_:=aM (Kd.S_elder' (by(with_reducible repeat(first|apply Kd.S_alloc|apply aV|apply aW));exact HO_5.out) (Kd.R_base ho0) hb)
      have n2_:=aM (bL ho0 (bH (by repeat(first|(with_reducible first|exact HB.out|apply aN|apply aP|apply aO|refine aL ?_ GE396.out)|exact HB.out))))
      have n3_:=aM (bF (g:=gb396) (o:= .cells #[.slice A0_0 l0_0.length c0_0,.slice A0_1 l0_1.length c0_1,.int .i64 a0_2,.int .i64 a0_3,.slice (some ad401) l0_4.length c0_4] 26 (0,0)) (by(with_reducible repeat(first|refine aJ ?_ _|refine aK ?_|refine aI ?_ _));exact BK396.out) hb)
      have n4_:=aM (bG (by repeat(first|(with_reducible first|exact HB.out|apply aN|apply aP|apply aO|refine aL ?_ GE396.out)|exact HB.out)) hb)
      clear HO_4
      clear HO_5
      clear BK396
      clear HB
      have HO_4:=n0_
      have HO_5:=n1_
      have HO404:=n2_
      have BK396:=n3_
      have HB:=n4_
      clear n0_ n1_ n2_ n3_ n4_
      (try have HR401_1:=aM (bD HR401_1.out hb))
      (try clear hb);(try clear hb2);(try clear hk);(try clear hi);(try clear ho0)
      refine hK.out _ _ ⟨(aG BK396.out 0).trans rfl,(aG BK396.out 1).trans rfl,(aG BK396.out 2).trans rfl,(aG BK396.out 3).trans rfl,(aG BK396.out 4).trans rfl,((HB.out.cell (World.block_lt_of_cell? w _ hw401_0)).trans hw401_0),((HB.out.cell (World.block_lt_of_cell? w _ hw401_1)).trans hw401_1)⟩ (fun hHeld=>?_)
      clear hK K
      refine norm_ (a':=?_) ?_ ?_
      rotate_left
      ·show Act.put _ (some 36) _=_
       simp only [pq]
       rfl
      refine pure_ (i:=8) (N:=some 28) (v:=?_) (a':=?_) #[T,T,T,T,T,T,T,T,T,F,F,F,F] rfl rfl (any_of HT_.out (by kernel_rfl)) (fun _ _ _ h=>h) (Or.inl ⟨by rfl,?_⟩) ?_ ?_
      rotate_left;(intro w';go_simp;with_reducible rfl);rotate_left;(simp only [pq];rfl)
      refine pure_ (i:=9) (N:=some 37) (v:=?_) (a':=?_) #[T,T,T,T,T,T,T,T,T,T,F,F,F] rfl rfl (any_of HT_.out (by kernel_rfl)) (fun _ _ _ h=>h) (Or.inl ⟨by rfl,?_⟩) ?_ ?_
      rotate_left;(intro w';go_simp;with_reducible rfl);rotate_left;(simp only [pq];rfl)
      refine pure_ (i:=10) (N:=some 38) (v:=?_) (a':=?_) #[T,T,T,T,T,T,T,T,T,T,T,F,F] rfl rfl (any_of HT_.out (by kernel_rfl)) (fun _ _ _ h=>h) (Or.inl ⟨by rfl,?_⟩) ?_ ?_
      rotate_left;(intro w';go_simp;with_reducible rfl);rotate_left;(simp only [pq];rfl)
      refine pure_ (i:=11) (N:=some 7) (v:=?_) (a':=?_) #[T,T,T,T,T,T,T,T,T,T,T,T,F] rfl rfl (any_of HT_.out (by kernel_rfl)) (fun _ _ _ h=>h) (Or.inl ⟨by rfl,?_⟩) ?_ ?_
      rotate_left;(intro w';go_simp;with_reducible rfl);rotate_left;(simp only [pq];rfl)
      refine pure_ (i:=12) (N:=some 8) (v:=?_) (a':=?_) #[T,T,T,T,T,T,T,T,T,T,T,T,T] rfl rfl (any_of HT_.out (by kernel_rfl)) (fun _ _ _ h=>h) (Or.inl ⟨by rfl,?_⟩) ?_ ?_
      rotate_left;(intro w';go_simp;with_reducible rfl);rotate_left;(simp only [pq];rfl)
      refine done_ (done_of HT_.out (by kernel_rfl)) ?_
      have hcz21_0:w20.cell? ⟨gb396,0,none⟩=some (.slice A0_0 l0_0.length c0_0):=(aG BK396.out 0).trans rfl
      have hcz21_1:w20.cell? ⟨gb396,1,none⟩=some (.slice A0_1 l0_1.length c0_1):=(aG BK396.out 1).trans rfl
      have hcz21_2:w20.cell? ⟨gb396,2,none⟩=some (.int .i64 a0_2):=(aG BK396.out 2).trans rfl
      have hcz21_3:w20.cell? ⟨gb396,3,none⟩=some (.int .i64 a0_3):=(aG BK396.out 3).trans rfl
      have hcz21_4:w20.cell? ⟨gb396,4,none⟩=some (.slice (some ad401) l0_4.length c0_4):=(aG BK396.out 4).trans rfl
      have hfz21_0:=aH BK396.out 0
      have hfz21_1:=aH BK396.out 1
      have hfz21_2:=aH BK396.out 2
      have hfz21_3:=aH BK396.out 3
      have hfz21_4:=aH BK396.out 4
      have p406:0≤(x6_1:Int):=of_decide_eq_true (by first|(with_reducible assumption)|assumption)
      have q406:x6_1<(l0_4.length:Int):=of_decide_eq_true (by first|(with_reducible assumption)|assumption)
      obtain⟨ad406,A406_1,c406_1,e406,hx406_0,hx406_1,hl406_1,hi406_1⟩:=at_T35 HR0_4.out x6_1 p406 q406
      obtain rfl:ad401=ad406:=(by injection e406)
      replace hx406_0:=(HB.out.cell (World.block_lt_of_cell? w _ hx406_0)).trans hx406_0
      replace hx406_1:=(HB.out.cell (World.block_lt_of_cell? w _ hx406_1)).trans hx406_1
      have HR406_1:=aM hi406_1
      have HC406_1:=aM hl406_1
      clear hi406_1 hl406_1
      replace p406:=eq_true p406
      replace q406:=eq_true q406
      obtain⟨Ao22,co22,eo22⟩:=Kd.S_slice HO_5.out
      subst eo22
      have p407:0≤(((rd_T35 l0_4 x6_1).f0):Int):=of_decide_eq_true (by first|(with_reducible assumption)|assumption)
      have q407:((rd_T35 l0_4 x6_1).f0)<(t398.length:Int):=of_decide_eq_true (by first|(with_reducible assumption)|assumption)
      obtain⟨ad407,A407_0,c407_0,e407,hx407_0,hl407_0,hi407_0⟩:=at_L5 (Kd.S_reads' HO_5.out).2.2 ((rd_T35 l0_4 x6_1).f0) p407 q407
      cases e407
      obtain⟨ce407,hce407,hMe407,hcc407⟩:=Kd.S_get HO_5.out [] ((rd_T35 l0_4 x6_1).f0) p407 (by first|exact q407|exact of_decide_eq_true (by first|(with_reducible assumption)|assumption)|(have e_:=(Kd.S_reads' HO_5.out).1;omega))
      obtain⟨ve407_0,rfl,ge407_0⟩:=hMe407
      have hv407_0:=hcc407 0 _ rfl
      rw [Nat.add_zero,show((Kd.slice 3 (Kd.int .i64))).sz=1 from rfl,Nat.mul_one] at hv407_0
      replace hv407_0:=Option.some.inj (hv407_0.symm.trans hx407_0)
      rw [hv407_0] at ge407_0
      have HL407_0:=aM (show Kd.R (Kd.int .i64) 3 _ _ _ _ (rd_L5 t398 ((rd_T35 l0_4 x6_1).f0)) from ge407_0)
      clear hv407_0 ge407_0
      clear hcc407 hce407
      have HR407_0:=aM hi407_0
      have HC407_0:=aM hl407_0
      clear hi407_0 hl407_0
      replace p407:=eq_true p407
      replace q407:=eq_true q407
      try go_wp2_with (first|((with_reducible refine gate_builtin (b:= .append) (xs:=#[.tmp 40,.tmp 49]) rfl ?_);at_builtin;refine Kd.R_append_rows (Kd.int .i64) (w0:=w) w.heap.size rfl (.tmp 40) (.tmp 49) 32 3 (.int .i64 0) 8 rfl Try.underlying32 info3 rfl (by decide) (by omega) v403 t402 (rd_L5 t398 ((rd_T35 l0_4 x6_1).f0)) _ _ _ (fun _=>True) (fun _=>False) rfl rfl ?aO ?aR (fun _ _ h=>h) (fun _ h=>h.elim) ?aF ?aB ?aS ?aL ?_;(case aR=>repeat(first|exact(by repeat(first|(with_reducible exact HR407_0.out)|(with_reducible refine Kd.C_alloc ?_ _)|(with_reducible refine Kd.C_drewN ?_ _)|(with_reducible refine bC ?_)|exact HR407_0.out))|(with_reducible refine Kd.C_alloc ?_ _)|(with_reducible refine Kd.C_drewN ?_ _)|(with_reducible refine bC ?_)));(case aB=>exact(by repeat(first|(with_reducible first|exact HB.out|apply aN|apply aP|apply aO|refine aL ?_ GE396.out)|exact HB.out)));(case aF=>exact(fun _ _=>trivial));(case aO=>exact(by(with_reducible repeat(first|apply aA|apply aB|apply aC));exact HO404.out));(case aS=>exact(bH (by repeat(first|(with_reducible first|exact HB.out|apply aN|apply aP|apply aO|refine aL ?_ GE396.out)|exact HB.out))));(case aL=>have:=LMc16.out;omega);intro v409 w23 ho hb hg hat;rw [←Ny408.out] at ho;have n0_:=aM (Kd.S_after (ok:=(fun k_=>some k_≠(.slice (some ad407) t398.length co22:Value).ownBlock)) (by(with_reducible repeat(first|apply Kd.S_alloc|apply aV|apply aW));exact HO_4.out) hg hat);have n1_:=aM (Kd.S_after (ok:=(fun k_=>some k_≠(u4:Value).ownBlock)) (by(with_reducible repeat(first|apply Kd.S_alloc|apply aV|apply aW));exact HO_5.out) hg hat);have n2_:=aM (blk_grown (g:=gb396) (o:= .cells #[.slice A0_0 l0_0.length c0_0,.slice A0_1 l0_1.length c0_1,.int .i64 a0_2,.int .i64 a0_3,.slice (some ad401) l0_4.length c0_4] 26 (0,0)) (by(with_reducible repeat(first|refine aJ ?_ _|refine aK ?_|refine aI ?_ _));exact BK396.out) hg (Kd.R_ne HO404.out BK396.out (by decide)));have n3_:=aM (Kd.R_after (ok:=(fun k_=>some k_≠(u4:Value).ownBlock∧some k_≠(.slice (some ad407) t398.length co22:Value).ownBlock)) (by(with_reducible repeat(first|apply aA|apply aB|apply aC));exact Kd.R_mono HL407_0.out (fun _ hk=>⟨⟨hk.1.1,hk.2⟩,hk.1.2⟩)) hg hat);have n4_:=aM (hb);have n5_:=aM (ho);clear HO_4;clear HO_5;clear BK396;clear HL407_0;clear HB;clear HO404;have HO_4:=n0_;have HO_5:=n1_;have BK396:=n2_;have HL407_0:=n3_;have HB:=n4_;have HO410:=n5_;clear n0_ n1_ n2_ n3_ n4_ n5_;clear ho hb hg hat;obtain⟨Ao25,co25,eo25⟩:=Kd.R_slice HO410.out;subst eo25)|((with_reducible refine gate_builtin (b:= .append) (xs:=#[.tmp 51,.tmp 53]) rfl ?_);at_builtin;refine Kd.S_append (Kd.slice 3 (Kd.int .i64)) (w0:=w) w.heap.size rfl (.tmp 51) (.tmp 53) 27 32 (.slice none 0 0) 24 rfl Try.underlying27 info32 rfl (by decide) (by omega) u4 x4_1 y408 [.slice Ao25 y408.length co25] (fun k_=>some k_≠(.slice (some ad407) t398.length co22:Value).ownBlock) (fun k_=>some k_=(.slice Ao25 y408.length co25:Value).ownBlock) rfl rfl ?aP (fun k_ hk_=>((Kd.R_mono (ok':=fun k_=>((fun k_=>some k_≠(.slice (some ad407) t398.length co22:Value).ownBlock)) k_∧some k_≠(u4:Value).ownBlock) (Kd.R_apart' (Kd.R_apart' (HO410.out) (Kd.S_typed HO_5.out) (by decide)) (Kd.S_typed HO_4.out) (by decide)) (fun k_ hk=>⟨hk.1.2,hk.2⟩))).1 k_ hk_.symm) ?aF ?aO ?aB ?aS ?aL ?_;(case aP=>exact Kd.M_row (Kd.R_mono (Kd.R_tight rfl (Kd.R_mono (ok':=fun k_=>((fun k_=>some k_≠(.slice (some ad407) t398.length co22:Value).ownBlock)) k_∧some k_≠(u4:Value).ownBlock) (Kd.R_apart' (Kd.R_apart' (HO410.out) (Kd.S_typed HO_5.out) (by decide)) (Kd.S_typed HO_4.out) (by decide)) (fun k_ hk=>⟨hk.1.2,hk.2⟩))) (fun _ h_=>h_)));(case aB=>exact(by repeat(first|(with_reducible first|exact HB.out|apply aN|apply aP|apply aO|refine aL ?_ GE396.out)|exact HB.out)));(case aF=>exact(fun k_ hk=>Kd.fresh' (Kd.S_lt (by(with_reducible repeat(first|apply Kd.S_alloc|apply aV|apply aW));exact HO_5.out)) k_ hk));(case aO=>exact(by(with_reducible repeat(first|apply Kd.S_alloc|apply aV|apply aW));exact Kd.S_mono HO_4.out (fun k_ hk=>⟨hk.1,fun e_=>hk.2 e_⟩)));(case aS=>exact(bH (by repeat(first|(with_reducible first|exact HB.out|apply aN|apply aP|apply aO|refine aL ?_ GE396.out)|exact HB.out))));(case aL=>have:=LMc17.out;omega);intro v412 w24 ho hb hg hat;rw [←Ny411.out] at ho;have n0_:=aM (Kd.S_after (ok:=(fun k_=>some k_≠(.slice Ao25 y408.length co25:Value).ownBlock)) (by(with_reducible repeat(first|apply Kd.S_alloc|apply aV|apply aW));exact Kd.S_mono HO_5.out (fun _ hk=>⟨hk.2,hk.1⟩)) hg hat);have n1_:=aM (blk_grown (g:=gb396) (o:= .cells #[.slice A0_0 l0_0.length c0_0,.slice A0_1 l0_1.length c0_1,.int .i64 a0_2,.int .i64 a0_3,.slice (some ad401) l0_4.length c0_4] 26 (0,0)) (by(with_reducible repeat(first|refine aJ ?_ _|refine aK ?_|refine aI ?_ _));exact BK396.out) hg (Kd.S_ne HO_4.out BK396.out (by decide)));have n2_:=aM (Kd.R_after (ok:=(fun k_=>some k_≠(.slice (some ad407) t398.length co22:Value).ownBlock∧some k_≠(.slice Ao25 y408.length co25:Value).ownBlock)) (by(with_reducible repeat(first|apply aA|apply aB|apply aC));exact Kd.R_mono HL407_0.out (fun _ hk=>⟨⟨hk.1.2,hk.2⟩,hk.1.1⟩)) hg hat);have n3_:=aM (hb);have n4_:=aM (ho);clear HO_5;clear BK396;clear HL407_0;clear HB;clear HO_4;clear HO410;have HO_5:=n0_;have BK396:=n1_;have HL407_0:=n2_;have HB:=n3_;have HO413:=n4_;clear n0_ n1_ n2_ n3_ n4_;clear ho hb hg hat))
      go_roundg k1
      case measure=>have:=HK1.out;omega
      case rel=>exact⟨(y411),(wrap64 (x6_1+1)),(by first|rfl|(simp;done)|(simp [*];done)),H',⟨by have:=HK1.out;omega⟩,⟨by(with_reducible repeat(first|apply Kd.S_alloc|apply aV|apply aW));exact HO413.out⟩,⟨by(with_reducible repeat(first|apply Kd.S_alloc|apply aV|apply aW));exact Kd.S_mono HO_5.out (fun _ hk=>hk.2)⟩,⟨by(with_reducible repeat(first|refine aJ ?_ _|refine aK ?_|refine aI ?_ _));exact BK396.out⟩,⟨by repeat(first|(with_reducible first|exact HB.out|apply aN|apply aP|apply aO|refine aL ?_ GE396.out)|exact HB.out)⟩⟩
     ·replace c13:=Bool.eq_false_iff.mpr c13
      subst c13
      have H1:(if x4_1.length<5864062014805 then(regletref14_Predict.l0 k1 (x4_1++ [t402]) t398 (wrap64 (x6_1+1)) l0_0 l0_1 a0_2 a0_3 l0_4) else(none))=some (r1,r2):=by rw [if_neg (show ¬(false=true) by decide)] at H;exact H
      clear H
      have H:=H1
      clear H1
      by_cases c26:x4_1.length<5864062014805
      rotate_left
      ·rw [if_neg c26] at H
       exact absurd H (by simp)
      rw [if_pos c26] at H
      have LMc26:=aM c26
      clear c26
      obtain⟨y414,hy414⟩:∃y_:List (List Int),y_=(x4_1++ [t402]):=⟨_,rfl⟩
      replace H:(regletref14_Predict.l0 k1 y414 t398 (wrap64 (x6_1+1)) l0_0 l0_1 a0_2 a0_3 l0_4)=some (r1,r2):=by first|(rw [hy414];with_reducible exact H)|(have H2_:=(Option.bind_some _ _).symm.trans H;rw [hy414];with_reducible exact H2_)|(have H2_:=(Option.bind_some _ _).symm.trans H;with_reducible exact H2_)|with_reducible exact H|(rw [hy414];exact H)|exact H
      have Ny414:=aM hy414
      clear hy414
      have H':=aM H
      clear H
      have hcz27_0:wr.cell? ⟨gb396,0,none⟩=some (.slice A0_0 l0_0.length c0_0):=(aG BK396.out 0).trans rfl
      have hcz27_1:wr.cell? ⟨gb396,1,none⟩=some (.slice A0_1 l0_1.length c0_1):=(aG BK396.out 1).trans rfl
      have hcz27_2:wr.cell? ⟨gb396,2,none⟩=some (.int .i64 a0_2):=(aG BK396.out 2).trans rfl
      have hcz27_3:wr.cell? ⟨gb396,3,none⟩=some (.int .i64 a0_3):=(aG BK396.out 3).trans rfl
      have hcz27_4:wr.cell? ⟨gb396,4,none⟩=some (.slice A0_4 l0_4.length c0_4):=(aG BK396.out 4).trans rfl
      have hfz27_0:=aH BK396.out 0
      have hfz27_1:=aH BK396.out 1
      have hfz27_2:=aH BK396.out 2
      have hfz27_3:=aH BK396.out 3
      have hfz27_4:=aH BK396.out 4
      try go_wp2
      have n0_:=aM (aW HO_4.out)
      have n1_:=aM (aW HO_5.out)
      have n2_:=aM (aK BK396.out)
      have n3_:=aM (aO HB.out)
      clear HO_4
      clear HO_5
      clear BK396
      clear HB
      have HO_4:=n0_
      have HO_5:=n1_
      have BK396:=n2_
      have HB:=n3_
      clear n0_ n1_ n2_ n3_
      have p401:0≤(x6_1:Int):=of_decide_eq_true (by first|(with_reducible assumption)|assumption)
      have q401:x6_1<(l0_4.length:Int):=of_decide_eq_true (by first|(with_reducible assumption)|assumption)
      obtain⟨ad401,A401_1,c401_1,e401,hx401_0,hx401_1,hl401_1,hi401_1⟩:=at_T35 HR0_4.out x6_1 p401 q401
      have hw401_1:=hx401_1
      have hw401_0:=hx401_0
      cases e401
      replace hx401_0:=(HB.out.cell (World.block_lt_of_cell? w _ hx401_0)).trans hx401_0
      replace hx401_1:=(HB.out.cell (World.block_lt_of_cell? w _ hx401_1)).trans hx401_1
      have HR401_1:=aM hi401_1
      have HC401_1:=aM hl401_1
      clear hi401_1 hl401_1
      replace p401:=eq_true p401
      replace q401:=eq_true q401
      refine start_ (n:=13) (S:=fun w'=>w'.cell? ⟨gb396,0,none⟩=some (.slice A0_0 l0_0.length c0_0)∧w'.cell? ⟨gb396,1,none⟩=some (.slice A0_1 l0_1.length c0_1)∧w'.cell? ⟨gb396,2,none⟩=some (.int .i64 a0_2)∧w'.cell? ⟨gb396,3,none⟩=some (.int .i64 a0_3)∧w'.cell? ⟨gb396,4,none⟩=some (.slice (some ad401) l0_4.length c0_4)∧w'.cell? (ad401.add ((x6_1).toNat * 2))=some (.int .i64 ((rd_T35 l0_4 x6_1).f0))∧w'.cell? ⟨(ad401.add ((x6_1).toNat * 2)).block,(ad401.add ((x6_1).toNat * 2)).off+1,none⟩=some (.slice A401_1 ((rd_T35 l0_4 x6_1).f1).length c401_1)) (ds:= []) #[F,F,F,F,F,F,F,F,F,F,F,F,F] (by kernel_rfl) rfl rfl ⟨(aG BK396.out 0).trans rfl,(aG BK396.out 1).trans rfl,(aG BK396.out 2).trans rfl,(aG BK396.out 3).trans rfl,(aG BK396.out 4).trans rfl,((HB.out.cell (World.block_lt_of_cell? w _ hw401_0)).trans hw401_0),((HB.out.cell (World.block_lt_of_cell? w _ hw401_1)).trans hw401_1)⟩ (fun hHeld=>?_);refine with_tabW regletref14_Predict.tab8 regletref14_Predict.bits8 (fun HT_ HW_=>?_)
      generalize wr.drew=w28 at HO_4 HO_5 BK396 HB HR401_1 hx401_0 hx401_1 hHeld ⊢
      refine pure_ (i:=1) (N:=some 30) (v:=?_) (a':=?_) #[F,T,F,F,F,F,F,F,F,F,F,F,F] rfl rfl (any_of HT_.out (by kernel_rfl)) (fun _ _ _ h=>h) (Or.inl ⟨by rfl,?_⟩) ?_ ?_
      rotate_left;(intro w';go_simp;with_reducible rfl);rotate_left;(simp only [pq];rfl)
      refine pure_ (i:=3) (N:=some 32) (v:=?_) (a':=?_) #[F,T,F,T,F,F,F,F,F,F,F,F,F] rfl rfl (any_of HT_.out (by kernel_rfl)) (fun _ _ _ h=>h) (Or.inl ⟨by rfl,?_⟩) ?_ ?_
      rotate_left;(intro w';go_simp;with_reducible rfl);rotate_left;(simp only [pq];rfl)
      refine take_ (i:=0) (N:=some 29) (v:=?_) (a':=?_) #[T,T,F,T,F,F,F,F,F,F,F,F,F] rfl rfl (take_ofW HT_.out HW_.out (by kernel_rfl)) (fun _ _ _ h=>h) (Or.inl ⟨by rfl,?_⟩) hHeld ?_ ?_
      rotate_left
      ·rintro w' ⟨s0,s1,s2,s3,s4,s5,s6⟩
       go_simp
       with_reducible rfl
      rotate_left
      ·simp only [pq]
       rfl
      refine take_ (i:=2) (N:=some 31) (v:=?_) (a':=?_) #[T,T,T,T,F,F,F,F,F,F,F,F,F] rfl rfl (take_ofW HT_.out HW_.out (by kernel_rfl)) (fun _ _ _ h=>h) (Or.inl ⟨by rfl,?_⟩) hHeld ?_ ?_
      rotate_left
      ·rintro w' ⟨s0,s1,s2,s3,s4,s5,s6⟩
       go_simp
       with_reducible rfl
      rotate_left
      ·simp only [pq]
       rfl
      refine pure_ (i:=4) (N:=some 33) (v:=?_) (a':=?_) #[T,T,T,T,T,F,F,F,F,F,F,F,F] rfl rfl (any_of HT_.out (by kernel_rfl)) (fun _ _ _ h=>h) (Or.inl ⟨by rfl,?_⟩) ?_ ?_
      rotate_left;(intro w';go_simp;with_reducible rfl);rotate_left;(simp only [pq];rfl)
      refine pure_ (i:=5) (N:=some 34) (v:=?_) (a':=?_) #[T,T,T,T,T,T,F,F,F,F,F,F,F] rfl rfl (any_of HT_.out (by kernel_rfl)) (fun _ _ _ h=>h) (Or.inl ⟨by rfl,?_⟩) ?_ ?_
      rotate_left;(intro w';go_simp;with_reducible rfl);rotate_left;(simp only [pq];rfl)
      refine take_ (i:=6) (N:=some 35) (v:=?_) (a':=?_) #[T,T,T,T,T,T,T,F,F,F,F,F,F] rfl rfl (take_ofW HT_.out HW_.out (by kernel_rfl)) (fun _ _ _ h=>h) (Or.inl ⟨by rfl,?_⟩) hHeld ?_ ?_
      rotate_left
      ·rintro w' ⟨s0,s1,s2,s3,s4,s5,s6⟩
       go_simp
       with_reducible rfl
      rotate_left
      ·simp only [pq]
       rfl
      refine one_ (i:=7) (N:=some 36) #[T,T,T,T,T,T,T,T,F,F,F,F,F] rfl rfl (one_of HT_.out (by kernel_rfl)) (by decide) (fun K hK=>?_)
      refine goes_ Try.func32 (by kernel_rfl) rfl #[.agg #[.slice A0_0 l0_0.length c0_0,.slice A0_1 l0_1.length c0_1,.int .i64 a0_2,.int .i64 a0_3,.slice (some ad401) l0_4.length c0_4],.slice A401_1 ((rd_T35 l0_4 x6_1).f1).length c401_1] (by rfl) rfl rfl (by(try simp only [List.map_toArray,List.map_cons,List.map_nil]);first|done|rfl|(simp only [List.length_drop,List.length_take];rfl)) ?_
      with_reducible refine(regletref13_Of.calls k1 _ _ l0_0 _ _ l0_1 a0_2 a0_3 _ _ l0_4 _ _ ((rd_T35 l0_4 x6_1).f1) t402 false _ ?side1 ?side2 ?side3 ?side4 ?side5 ?side6 ?side7 ?side8 A12.out).mono ?_
      (case side1=>repeat(first|exact(bD HR0_0.out HB.out)|(with_reducible refine Kd.C_alloc ?_ _)|(with_reducible refine Kd.C_drewN ?_ _)|(with_reducible refine bC ?_)))
      (case side2=>exact HC0_0.out)
      (case side3=>repeat(first|exact(bD HR0_1.out HB.out)|(with_reducible refine Kd.C_alloc ?_ _)|(with_reducible refine Kd.C_drewN ?_ _)|(with_reducible refine bC ?_)))
      (case side4=>exact HC0_1.out)
      (case side5=>repeat(first|exact(bD HR0_4.out HB.out)|(with_reducible refine Kd.C_alloc ?_ _)|(with_reducible refine Kd.C_drewN ?_ _)|(with_reducible refine bC ?_)))
      (case side6=>exact HC0_4.out)
      (case side7=>repeat(first|exact(bD HR401_1.out HB.out)|(with_reducible refine Kd.C_alloc ?_ _)|(with_reducible refine Kd.C_drewN ?_ _)|(with_reducible refine bC ?_)))
      (case side8=>exact HC401_1.out)
      rintro e w29 ⟨v403,rfl,ho0,hb⟩
      refine⟨_,rfl,?_⟩
      have n0_:=aM (Kd.S_elder' (by(with_reducible repeat(first|apply Kd.S_alloc|apply aV|apply aW));exact HO_4.out) (Kd.R_base ho0) hb)
      have n1_:=aM (Kd.S_elder' (by(with_reducible repeat(first|apply Kd.S_alloc|apply aV|apply aW));exact HO_5.out) (Kd.R_base ho0) hb)
      have n2_:=aM (bL ho0 (bH (by repeat(first|(with_reducible first|exact HB.out|apply aN|apply aP|apply aO|refine aL ?_ GE396.out)|exact HB.out))))
      have n3_:=aM (bF (g:=gb396) (o:= .cells #[.slice A0_0 l0_0.length c0_0,.slice A0_1 l0_1.length c0_1,.int .i64 a0_2,.int .i64 a0_3,.slice (some ad401) l0_4.length c0_4] 26 (0,0)) (by(with_reducible repeat(first|refine aJ ?_ _|refine aK ?_|refine aI ?_ _));exact BK396.out) hb)
      have n4_:=aM (bG (by repeat(first|(with_reducible first|exact HB.out|apply aN|apply aP|apply aO|refine aL ?_ GE396.out)|exact HB.out)) hb)
      clear HO_4
      clear HO_5
      clear BK396
      clear HB
      have HO_4:=n0_
      have HO_5:=n1_
      have HO404:=n2_
      have BK396:=n3_
      have HB:=n4_
      clear n0_ n1_ n2_ n3_ n4_
      (try have HR401_1:=aM (bD HR401_1.out hb))
      (try clear hb);(try clear hb2);(try clear hk);(try clear hi);(try clear ho0)
      refine hK.out _ _ ⟨(aG BK396.out 0).trans rfl,(aG BK396.out 1).trans rfl,(aG BK396.out 2).trans rfl,(aG BK396.out 3).trans rfl,(aG BK396.out 4).trans rfl,((HB.out.cell (World.block_lt_of_cell? w _ hw401_0)).trans hw401_0),((HB.out.cell (World.block_lt_of_cell? w _ hw401_1)).trans hw401_1)⟩ (fun hHeld=>?_)
      clear hK K
      refine norm_ (a':=?_) ?_ ?_
      rotate_left
      ·show Act.put _ (some 36) _=_
       simp only [pq]
       rfl
      refine pure_ (i:=8) (N:=some 28) (v:=?_) (a':=?_) #[T,T,T,T,T,T,T,T,T,F,F,F,F] rfl rfl (any_of HT_.out (by kernel_rfl)) (fun _ _ _ h=>h) (Or.inl ⟨by rfl,?_⟩) ?_ ?_
      rotate_left;(intro w';go_simp;with_reducible rfl);rotate_left;(simp only [pq];rfl)
      refine pure_ (i:=9) (N:=some 37) (v:=?_) (a':=?_) #[T,T,T,T,T,T,T,T,T,T,F,F,F] rfl rfl (any_of HT_.out (by kernel_rfl)) (fun _ _ _ h=>h) (Or.inl ⟨by rfl,?_⟩) ?_ ?_
      rotate_left;(intro w';go_simp;with_reducible rfl);rotate_left;(simp only [pq];rfl)
      refine pure_ (i:=10) (N:=some 38) (v:=?_) (a':=?_) #[T,T,T,T,T,T,T,T,T,T,T,F,F] rfl rfl (any_of HT_.out (by kernel_rfl)) (fun _ _ _ h=>h) (Or.inl ⟨by rfl,?_⟩) ?_ ?_
      rotate_left;(intro w';go_simp;with_reducible rfl);rotate_left;(simp only [pq];rfl)
      refine pure_ (i:=11) (N:=some 7) (v:=?_) (a':=?_) #[T,T,T,T,T,T,T,T,T,T,T,T,F] rfl rfl (any_of HT_.out (by kernel_rfl)) (fun _ _ _ h=>h) (Or.inl ⟨by rfl,?_⟩) ?_ ?_
      rotate_left;(intro w';go_simp;with_reducible rfl);rotate_left;(simp only [pq];rfl)
      refine pure_ (i:=12) (N:=some 8) (v:=?_) (a':=?_) #[T,T,T,T,T,T,T,T,T,T,T,T,T] rfl rfl (any_of HT_.out (by kernel_rfl)) (fun _ _ _ h=>h) (Or.inl ⟨by rfl,?_⟩) ?_ ?_
      rotate_left;(intro w';go_simp;with_reducible rfl);rotate_left;(simp only [pq];rfl)
      refine done_ (done_of HT_.out (by kernel_rfl)) ?_
      obtain⟨Ao31,co31,eo31⟩:=Kd.R_slice HO404.out
      subst eo31
      try go_wp2_with (first|((with_reducible refine gate_builtin (b:= .append) (xs:=#[.tmp 51,.tmp 53]) rfl ?_);at_builtin;refine Kd.S_append (Kd.slice 3 (Kd.int .i64)) (w0:=w) w.heap.size rfl (.tmp 51) (.tmp 53) 27 32 (.slice none 0 0) 24 rfl Try.underlying27 info32 rfl (by decide) (by omega) u4 x4_1 t402 [.slice Ao31 t402.length co31] (fun k_=>some k_≠(v399:Value).ownBlock) (fun k_=>some k_=(.slice Ao31 t402.length co31:Value).ownBlock) rfl rfl ?aP (fun k_ hk_=>((Kd.R_mono (ok':=fun k_=>((fun k_=>some k_≠(v399:Value).ownBlock)) k_∧some k_≠(u4:Value).ownBlock) (Kd.R_apart' (Kd.R_apart' (HO404.out) (Kd.S_typed HO_5.out) (by decide)) (Kd.S_typed HO_4.out) (by decide)) (fun k_ hk=>⟨hk.1.2,hk.2⟩))).1 k_ hk_.symm) ?aF ?aO ?aB ?aS ?aL ?_;(case aP=>exact Kd.M_row (Kd.R_mono (Kd.R_tight rfl (Kd.R_mono (ok':=fun k_=>((fun k_=>some k_≠(v399:Value).ownBlock)) k_∧some k_≠(u4:Value).ownBlock) (Kd.R_apart' (Kd.R_apart' (HO404.out) (Kd.S_typed HO_5.out) (by decide)) (Kd.S_typed HO_4.out) (by decide)) (fun k_ hk=>⟨hk.1.2,hk.2⟩))) (fun _ h_=>h_)));(case aB=>exact(by repeat(first|(with_reducible first|exact HB.out|apply aN|apply aP|apply aO|refine aL ?_ GE396.out)|exact HB.out)));(case aF=>exact(fun k_ hk=>Kd.fresh' (Kd.S_lt (by(with_reducible repeat(first|apply Kd.S_alloc|apply aV|apply aW));exact HO_5.out)) k_ hk));(case aO=>exact(by(with_reducible repeat(first|apply Kd.S_alloc|apply aV|apply aW));exact Kd.S_mono HO_4.out (fun k_ hk=>⟨hk.1,fun e_=>hk.2 e_⟩)));(case aS=>exact(bH (by repeat(first|(with_reducible first|exact HB.out|apply aN|apply aP|apply aO|refine aL ?_ GE396.out)|exact HB.out))));(case aL=>have:=LMc26.out;omega);intro v415 w30 ho hb hg hat;rw [←Ny414.out] at ho;have n0_:=aM (Kd.S_after (ok:=(fun k_=>some k_≠(.slice Ao31 t402.length co31:Value).ownBlock)) (by(with_reducible repeat(first|apply Kd.S_alloc|apply aV|apply aW));exact Kd.S_mono HO_5.out (fun _ hk=>⟨hk.2,hk.1⟩)) hg hat);have n1_:=aM (blk_grown (g:=gb396) (o:= .cells #[.slice A0_0 l0_0.length c0_0,.slice A0_1 l0_1.length c0_1,.int .i64 a0_2,.int .i64 a0_3,.slice (some ad401) l0_4.length c0_4] 26 (0,0)) (by(with_reducible repeat(first|refine aJ ?_ _|refine aK ?_|refine aI ?_ _));exact BK396.out) hg (Kd.S_ne HO_4.out BK396.out (by decide)));have n2_:=aM (hb);have n3_:=aM (ho);clear HO_5;clear BK396;clear HB;clear HO_4;clear HO404;have HO_5:=n0_;have BK396:=n1_;have HB:=n2_;have HO416:=n3_;clear n0_ n1_ n2_ n3_;clear ho hb hg hat))
      go_roundg k1
      case measure=>have:=HK1.out;omega
      case rel=>exact⟨(y414),(wrap64 (x6_1+1)),(by first|rfl|(simp;done)|(simp [*];done)),H',⟨by have:=HK1.out;omega⟩,⟨by(with_reducible repeat(first|apply Kd.S_alloc|apply aV|apply aW));exact HO416.out⟩,⟨by(with_reducible repeat(first|apply Kd.S_alloc|apply aV|apply aW));exact Kd.S_mono HO_5.out (fun _ hk=>hk.2)⟩,⟨by(with_reducible repeat(first|refine aJ ?_ _|refine aK ?_|refine aI ?_ _));exact BK396.out⟩,⟨by repeat(first|(with_reducible first|exact HB.out|apply aN|apply aP|apply aO|refine aL ?_ GE396.out)|exact HB.out)⟩⟩
    ·rw [if_neg c10] at H
     have c10b0:decide (x6_1<(l0_4.length:Int))=false:=decide_eq_false c10
     clear c10
     have H':=aM H
     clear H
     have hcz32_0:wr.cell? ⟨gb396,0,none⟩=some (.slice A0_0 l0_0.length c0_0):=(aG BK396.out 0).trans rfl
     have hcz32_1:wr.cell? ⟨gb396,1,none⟩=some (.slice A0_1 l0_1.length c0_1):=(aG BK396.out 1).trans rfl
     have hcz32_2:wr.cell? ⟨gb396,2,none⟩=some (.int .i64 a0_2):=(aG BK396.out 2).trans rfl
     have hcz32_3:wr.cell? ⟨gb396,3,none⟩=some (.int .i64 a0_3):=(aG BK396.out 3).trans rfl
     have hcz32_4:wr.cell? ⟨gb396,4,none⟩=some (.slice A0_4 l0_4.length c0_4):=(aG BK396.out 4).trans rfl
     have hfz32_0:=aH BK396.out 0
     have hfz32_1:=aH BK396.out 1
     have hfz32_2:=aH BK396.out 2
     have hfz32_3:=aH BK396.out 3
     have hfz32_4:=aH BK396.out 4
     go_wp2
     go_loopg [9,10,11] k1 (fun kq v9 v10 v11 w'=>∃(x9_2:List (List Int)) (x10_2:List (S78)) (x11_2:Int),v11= .int .i64 x11_2∧Aside0 (regletref14_Predict.l1 kq x4_1 x9_2 x10_2 x11_2 l0_0 l0_1 a0_2 a0_3 l0_4=some (r1,r2))∧Aside0 (kq≤k1)∧Aside0 (Kd.S (Kd.slice 3 (Kd.int .i64)) 32 w' w.heap.size (fun k_=>some k_≠(v9:Value).ownBlock) u4 x4_1)∧Aside0 (Kd.S (Kd.slice 3 (Kd.int .i64)) 32 w' w.heap.size (fun k_=>some k_≠(u4:Value).ownBlock) v9 x9_2)∧Aside0 (Kd.R k78 78 w' w.heap.size (fun _=>True) v10 x10_2)∧Aside0 (w'.heap[gb396]?=some (.cells #[(.slice A0_0 l0_0.length c0_0),(.slice A0_1 l0_1.length c0_1),.int .i64 a0_2,.int .i64 a0_3,(.slice A0_4 l0_4.length c0_4)] 26 (0,0)))∧Aside0 (Below w.heap.size w w'))
     case atStart=>exact⟨(([]:List (List Int))),(([]:List (S78))),(0),(by first|rfl|(simp;done)|(simp [*];done)),H',⟨Nat.le_refl _⟩,⟨by(with_reducible repeat(first|apply Kd.S_alloc|apply aV|apply aW));exact Kd.S_mono HO_4.out (fun _ hk=>(by simp [Value.ownBlock]))⟩,⟨by first|exact Kd.S_nil _ _ _ _ _|exact Kd.N_nil _ _ _ _ _|exact Kd.V_nil _ _ _ _ _|exact Kd.Q_nil _ _ _ _ _|exact Kd.R_nil _ _ _ _ _⟩,⟨by first|exact Kd.R_nil _ _ _ _ _|exact Kd.N_nil _ _ _ _ _|exact Kd.V_nil _ _ _ _ _|exact Kd.Q_nil _ _ _ _ _|exact Kd.S_nil _ _ _ _ _⟩,⟨by(with_reducible repeat(first|refine aJ ?_ _|refine aK ?_|refine aI ?_ _));exact BK396.out⟩,⟨by repeat(first|(with_reducible first|exact HB.out|apply aN|apply aP|apply aO|refine aL ?_ GE396.out)|exact HB.out)⟩⟩
     case round=>
      clear H'
      (try clear c1);(try clear c2);(try clear p2);(try clear c3);(try clear c4);(try clear p4);(try clear q4);(try clear hx4);(try clear p6);(try clear c10);(try clear c10b0);(try clear c11);(try clear c11b0);(try clear c13);(try clear c14);(try clear c14b0);(try clear c15);(try clear c15b0);(try clear c16);(try clear c17);(try clear c20);(try clear c26);(try clear c30);(try clear c31);(try clear c32);(try clear hcz18_0)
      (try clear hcz18_1);(try clear hcz18_2);(try clear hcz18_3);(try clear hcz18_4);(try clear hcz21_0);(try clear hcz21_1);(try clear hcz21_2);(try clear hcz21_3);(try clear hcz21_4);(try clear hcz27_0);(try clear hcz27_1);(try clear hcz27_2);(try clear hcz27_3);(try clear hcz27_4);(try clear hcz32_0);(try clear hcz32_1);(try clear hcz32_2);(try clear hcz32_3);(try clear hcz32_4);(try clear hcz6_0);(try clear hcz6_1)
      (try clear hcz6_2);(try clear hcz6_3);(try clear hcz6_4);(try clear hcz8_0);(try clear hcz8_1);(try clear hcz8_2);(try clear hcz8_3);(try clear hcz8_4);(try clear hfz18_0);(try clear hfz18_1);(try clear hfz18_2);(try clear hfz18_3);(try clear hfz18_4);(try clear hfz21_0);(try clear hfz21_1);(try clear hfz21_2);(try clear hfz21_3);(try clear hfz21_4);(try clear hfz27_0);(try clear hfz27_1);(try clear hfz27_2)
      (try clear hfz27_3);(try clear hfz27_4);(try clear hfz32_0);(try clear hfz32_1);(try clear hfz32_2);(try clear hfz32_3);(try clear hfz32_4);(try clear hfz6_0);(try clear hfz6_1);(try clear hfz6_2);(try clear hfz6_3);(try clear hfz6_4);(try clear hfz8_0);(try clear hfz8_1);(try clear hfz8_2);(try clear hfz8_3);(try clear hfz8_4);(try clear hx401_0);(try clear hx401_1);(try clear hx406_0);(try clear hx406_1)
      (try clear hx407_0);(try clear p2);(try clear p401);(try clear p406);(try clear p407);(try clear q401);(try clear q406);(try clear q407)
      obtain⟨x9_2,x10_2,x11_2,rfl,HA,HK2,HO_4,HO_9,HO_10,BK396,HB⟩:=hrel
      cases gk with
      |zero=>exact absurd HA.out (by simp [regletref14_Predict.l1])
      |succ k2=>
       have H:=HA.out
       clear HA
       simp only [regletref14_Predict.l1] at H
       by_cases c33:x11_2<(l0_0.length:Int)
       ·rw [if_pos c33] at H
        have c33b0:decide (x11_2<(l0_0.length:Int))=true:=decide_eq_true c33
        clear c33
        have H':=aM H
        clear H
        have hcz34_0:wr.cell? ⟨gb396,0,none⟩=some (.slice A0_0 l0_0.length c0_0):=(aG BK396.out 0).trans rfl
        have hcz34_1:wr.cell? ⟨gb396,1,none⟩=some (.slice A0_1 l0_1.length c0_1):=(aG BK396.out 1).trans rfl
        have hcz34_2:wr.cell? ⟨gb396,2,none⟩=some (.int .i64 a0_2):=(aG BK396.out 2).trans rfl
        have hcz34_3:wr.cell? ⟨gb396,3,none⟩=some (.int .i64 a0_3):=(aG BK396.out 3).trans rfl
        have hcz34_4:wr.cell? ⟨gb396,4,none⟩=some (.slice A0_4 l0_4.length c0_4):=(aG BK396.out 4).trans rfl
        have hfz34_0:=aH BK396.out 0
        have hfz34_1:=aH BK396.out 1
        have hfz34_2:=aH BK396.out 2
        have hfz34_3:=aH BK396.out 3
        have hfz34_4:=aH BK396.out 4
        go_wp2
        go_loopg [10,12,13] k2 (fun kq v10 v12 v13 w'=>∃(x10_3:List (S78)) (x12_3:List Int) (x13_3:Int),v13= .int .i64 x13_3∧Aside0 (regletref14_Predict.l2 kq x4_1 x9_2 x10_3 x11_2 x12_3 x13_3 l0_0 l0_1 a0_2 a0_3 l0_4=some (r1,r2))∧Aside0 (kq≤k2)∧Aside0 (Kd.S (Kd.slice 3 (Kd.int .i64)) 32 w' w.heap.size (fun k_=>some k_≠(u9:Value).ownBlock∧some k_≠(v12:Value).ownBlock) u4 x4_1)∧Aside0 (Kd.S (Kd.slice 3 (Kd.int .i64)) 32 w' w.heap.size (fun k_=>some k_≠(u4:Value).ownBlock∧some k_≠(v12:Value).ownBlock) u9 x9_2)∧Aside0 (Kd.R k78 78 w' w.heap.size (fun _=>True) v10 x10_3)∧Aside0 (Kd.R (Kd.int .i64) 3 w' w.heap.size (fun _=>True) v12 x12_3)∧Aside0 (w'.heap[gb396]?=some (.cells #[(.slice A0_0 l0_0.length c0_0),(.slice A0_1 l0_1.length c0_1),.int .i64 a0_2,.int .i64 a0_3,(.slice A0_4 l0_4.length c0_4)] 26 (0,0)))∧Aside0 (Below w.heap.size w w'))
        case atStart=>exact⟨(x10_2),(([]:List Int)),(0),(by first|rfl|(simp;done)|(simp [*];done)),H',⟨Nat.le_refl _⟩,⟨by(with_reducible repeat(first|apply Kd.S_alloc|apply aV|apply aW));exact Kd.S_mono HO_4.out (fun _ hk=>⟨hk,(by simp [Value.ownBlock])⟩)⟩,⟨by(with_reducible repeat(first|apply Kd.S_alloc|apply aV|apply aW));exact Kd.S_mono HO_9.out (fun _ hk=>⟨hk,(by simp [Value.ownBlock])⟩)⟩,⟨by(with_reducible repeat(first|apply aA|apply aB|apply aC));exact HO_10.out⟩,⟨by first|exact Kd.R_nil _ _ _ _ _|exact Kd.N_nil _ _ _ _ _|exact Kd.V_nil _ _ _ _ _|exact Kd.Q_nil _ _ _ _ _|exact Kd.S_nil _ _ _ _ _⟩,⟨by(with_reducible repeat(first|refine aJ ?_ _|refine aK ?_|refine aI ?_ _));exact BK396.out⟩,⟨by repeat(first|(with_reducible first|exact HB.out|apply aN|apply aP|apply aO|refine aL ?_ GE396.out)|exact HB.out)⟩⟩
        case round=>
         clear H'
         (try clear c1);(try clear c2);(try clear p2);(try clear c3);(try clear c4);(try clear p4);(try clear q4);(try clear hx4);(try clear p6);(try clear c10);(try clear c10b0);(try clear c11);(try clear c11b0);(try clear c13);(try clear c14);(try clear c14b0);(try clear c15);(try clear c15b0);(try clear c16);(try clear c17);(try clear c20);(try clear c26);(try clear c30);(try clear c31);(try clear c32);(try clear c33)
         (try clear c33b0);(try clear hcz18_0);(try clear hcz18_1);(try clear hcz18_2);(try clear hcz18_3);(try clear hcz18_4);(try clear hcz21_0);(try clear hcz21_1);(try clear hcz21_2);(try clear hcz21_3);(try clear hcz21_4);(try clear hcz27_0);(try clear hcz27_1);(try clear hcz27_2);(try clear hcz27_3);(try clear hcz27_4);(try clear hcz32_0);(try clear hcz32_1);(try clear hcz32_2);(try clear hcz32_3);(try clear hcz32_4)
         (try clear hcz34_0);(try clear hcz34_1);(try clear hcz34_2);(try clear hcz34_3);(try clear hcz34_4);(try clear hcz6_0);(try clear hcz6_1);(try clear hcz6_2);(try clear hcz6_3);(try clear hcz6_4);(try clear hcz8_0);(try clear hcz8_1);(try clear hcz8_2);(try clear hcz8_3);(try clear hcz8_4);(try clear hfz18_0);(try clear hfz18_1);(try clear hfz18_2);(try clear hfz18_3);(try clear hfz18_4);(try clear hfz21_0)
         (try clear hfz21_1);(try clear hfz21_2);(try clear hfz21_3);(try clear hfz21_4);(try clear hfz27_0);(try clear hfz27_1);(try clear hfz27_2);(try clear hfz27_3);(try clear hfz27_4);(try clear hfz32_0);(try clear hfz32_1);(try clear hfz32_2);(try clear hfz32_3);(try clear hfz32_4);(try clear hfz34_0);(try clear hfz34_1);(try clear hfz34_2);(try clear hfz34_3);(try clear hfz34_4);(try clear hfz6_0);(try clear hfz6_1)
         (try clear hfz6_2);(try clear hfz6_3);(try clear hfz6_4);(try clear hfz8_0);(try clear hfz8_1);(try clear hfz8_2);(try clear hfz8_3);(try clear hfz8_4);(try clear hx401_0);(try clear hx401_1);(try clear hx406_0);(try clear hx406_1);(try clear hx407_0);(try clear p2);(try clear p4);(try clear p401);(try clear p406);(try clear p407);(try clear p6);(try clear q4);(try clear q401);(try clear q406);(try clear q407)
         obtain⟨x10_3,x12_3,x13_3,rfl,HA,HK3,HO_4,HO_9,HO_10,HO_12,BK396,HB⟩:=hrel
         cases gk with
         |zero=>exact absurd HA.out (by simp [regletref14_Predict.l2])
         |succ k3=>
          have H:=HA.out
          clear HA
          simp only [regletref14_Predict.l2] at H
          by_cases c35:x13_3≤(l0_1.length:Int)
          ·rw [if_pos c35] at H
           have c35b0:decide (x13_3≤(l0_1.length:Int))=true:=decide_eq_true c35
           clear c35
           have H':=aM H
           clear H
           have hcz36_0:wr.cell? ⟨gb396,0,none⟩=some (.slice A0_0 l0_0.length c0_0):=(aG BK396.out 0).trans rfl
           have hcz36_1:wr.cell? ⟨gb396,1,none⟩=some (.slice A0_1 l0_1.length c0_1):=(aG BK396.out 1).trans rfl
           have hcz36_2:wr.cell? ⟨gb396,2,none⟩=some (.int .i64 a0_2):=(aG BK396.out 2).trans rfl
           have hcz36_3:wr.cell? ⟨gb396,3,none⟩=some (.int .i64 a0_3):=(aG BK396.out 3).trans rfl
           have hcz36_4:wr.cell? ⟨gb396,4,none⟩=some (.slice A0_4 l0_4.length c0_4):=(aG BK396.out 4).trans rfl
           have hfz36_0:=aH BK396.out 0
           have hfz36_1:=aH BK396.out 1
           have hfz36_2:=aH BK396.out 2
           have hfz36_3:=aH BK396.out 3
           have hfz36_4:=aH BK396.out 4
           go_wp2
           go_loopg [10,14,15] k3 (fun kq v10 v14 v15 w'=>∃(x10_4:List (S78)) (x14_4:Int) (x15_4:Int),v14= .int .i64 x14_4∧v15= .int .i64 x15_4∧Aside0 (regletref14_Predict.l3 kq x4_1 x9_2 x10_4 x11_2 x12_3 x13_3 x14_4 x15_4 l0_0 l0_1 a0_2 a0_3 l0_4=some (r1,r2))∧Aside0 (kq≤k3)∧Aside0 (Kd.S (Kd.slice 3 (Kd.int .i64)) 32 w' w.heap.size (fun k_=>some k_≠(u9:Value).ownBlock∧some k_≠(u12:Value).ownBlock) u4 x4_1)∧Aside0 (Kd.S (Kd.slice 3 (Kd.int .i64)) 32 w' w.heap.size (fun k_=>some k_≠(u4:Value).ownBlock∧some k_≠(u12:Value).ownBlock) u9 x9_2)∧Aside0 (Kd.R k78 78 w' w.heap.size (fun _=>True) v10 x10_4)∧Aside0 (Kd.R (Kd.int .i64) 3 w' w.heap.size (fun _=>True) u12 x12_3)∧Aside0 (w'.heap[gb396]?=some (.cells #[(.slice A0_0 l0_0.length c0_0),(.slice A0_1 l0_1.length c0_1),.int .i64 a0_2,.int .i64 a0_3,(.slice A0_4 l0_4.length c0_4)] 26 (0,0)))∧Aside0 (Below w.heap.size w w'))
           case atStart=>exact⟨(x10_3),((-1)),(0),(by first|rfl|(simp;done)|(simp [*];done)),(by first|rfl|(simp;done)|(simp [*];done)),H',⟨Nat.le_refl _⟩,⟨by(with_reducible repeat(first|apply Kd.S_alloc|apply aV|apply aW));exact HO_4.out⟩,⟨by(with_reducible repeat(first|apply Kd.S_alloc|apply aV|apply aW));exact HO_9.out⟩,⟨by(with_reducible repeat(first|apply aA|apply aB|apply aC));exact HO_10.out⟩,⟨by(with_reducible repeat(first|apply aA|apply aB|apply aC));exact HO_12.out⟩,⟨by(with_reducible repeat(first|refine aJ ?_ _|refine aK ?_|refine aI ?_ _));exact BK396.out⟩,⟨by repeat(first|(with_reducible first|exact HB.out|apply aN|apply aP|apply aO|refine aL ?_ GE396.out)|exact HB.out)⟩⟩
           case round=>
            clear H'
            (try clear c1);(try clear c2);(try clear p2);(try clear c3);(try clear c4);(try clear p4);(try clear q4);(try clear hx4);(try clear p6);(try clear c10);(try clear c10b0);(try clear c11);(try clear c11b0);(try clear c13);(try clear c14);(try clear c14b0);(try clear c15);(try clear c15b0);(try clear c16);(try clear c17);(try clear c20);(try clear c26);(try clear c30);(try clear c31);(try clear c32);(try clear c33)
            (try clear c33b0);(try clear c35);(try clear c35b0);(try clear hcz18_0);(try clear hcz18_1);(try clear hcz18_2);(try clear hcz18_3);(try clear hcz18_4);(try clear hcz21_0);(try clear hcz21_1);(try clear hcz21_2);(try clear hcz21_3);(try clear hcz21_4);(try clear hcz27_0);(try clear hcz27_1);(try clear hcz27_2);(try clear hcz27_3);(try clear hcz27_4);(try clear hcz32_0);(try clear hcz32_1);(try clear hcz32_2)
            (try clear hcz32_3);(try clear hcz32_4);(try clear hcz34_0);(try clear hcz34_1);(try clear hcz34_2);(try clear hcz34_3);(try clear hcz34_4);(try clear hcz36_0);(try clear hcz36_1);(try clear hcz36_2);(try clear hcz36_3);(try clear hcz36_4);(try clear hcz6_0);(try clear hcz6_1);(try clear hcz6_2);(try clear hcz6_3);(try clear hcz6_4);(try clear hcz8_0);(try clear hcz8_1);(try clear hcz8_2);(try clear hcz8_3)
            (try clear hcz8_4);(try clear hfz18_0);(try clear hfz18_1);(try clear hfz18_2);(try clear hfz18_3);(try clear hfz18_4);(try clear hfz21_0);(try clear hfz21_1);(try clear hfz21_2);(try clear hfz21_3);(try clear hfz21_4);(try clear hfz27_0);(try clear hfz27_1);(try clear hfz27_2);(try clear hfz27_3);(try clear hfz27_4);(try clear hfz32_0);(try clear hfz32_1);(try clear hfz32_2);(try clear hfz32_3);(try clear hfz32_4)
            (try clear hfz34_0);(try clear hfz34_1);(try clear hfz34_2);(try clear hfz34_3);(try clear hfz34_4);(try clear hfz36_0);(try clear hfz36_1);(try clear hfz36_2);(try clear hfz36_3);(try clear hfz36_4);(try clear hfz6_0);(try clear hfz6_1);(try clear hfz6_2);(try clear hfz6_3);(try clear hfz6_4);(try clear hfz8_0);(try clear hfz8_1);(try clear hfz8_2);(try clear hfz8_3);(try clear hfz8_4);(try clear hx401_0)
            (try clear hx401_1);(try clear hx406_0);(try clear hx406_1);(try clear hx407_0);(try clear p2);(try clear p4);(try clear p401);(try clear p406);(try clear p407);(try clear p6);(try clear q4);(try clear q401);(try clear q406);(try clear q407)
            obtain⟨x10_4,x14_4,x15_4,rfl,rfl,HA,HK4,HO_4,HO_9,HO_10,HO_12,BK396,HB⟩:=hrel
            cases gk with
            |zero=>exact absurd HA.out (by simp [regletref14_Predict.l3])
            |succ k4=>
             have H:=HA.out
             clear HA
             simp only [regletref14_Predict.l3] at H
             by_cases c37:x15_4<(l0_4.length:Int)
             ·rw [if_pos c37] at H
              have c37b0:decide (x15_4<(l0_4.length:Int))=true:=decide_eq_true c37
              clear c37
              have HC38:=aM H
              clear H
              have hcz39_0:wr.cell? ⟨gb396,0,none⟩=some (.slice A0_0 l0_0.length c0_0):=(aG BK396.out 0).trans rfl
              have hcz39_1:wr.cell? ⟨gb396,1,none⟩=some (.slice A0_1 l0_1.length c0_1):=(aG BK396.out 1).trans rfl
              have hcz39_2:wr.cell? ⟨gb396,2,none⟩=some (.int .i64 a0_2):=(aG BK396.out 2).trans rfl
              have hcz39_3:wr.cell? ⟨gb396,3,none⟩=some (.int .i64 a0_3):=(aG BK396.out 3).trans rfl
              have hcz39_4:wr.cell? ⟨gb396,4,none⟩=some (.slice A0_4 l0_4.length c0_4):=(aG BK396.out 4).trans rfl
              have hfz39_0:=aH BK396.out 0
              have hfz39_1:=aH BK396.out 1
              have hfz39_2:=aH BK396.out 2
              have hfz39_3:=aH BK396.out 3
              have hfz39_4:=aH BK396.out 4
              go_upto_region 25 with(fail)
              go_cut [92] (fun v92 wc=>∃(kq:Nat) (x92_37:Bool),v92= .bool x92_37∧Aside0 (regletref14_Predict.j4 kq x4_1 x9_2 x10_4 x11_2 x12_3 x13_3 x14_4 x15_4 x92_37 l0_0 l0_1 a0_2 a0_3 l0_4=some (r1,r2))∧Aside0 (kq≤k4)∧Aside0 (Kd.S (Kd.slice 3 (Kd.int .i64)) 32 wc w.heap.size (fun k_=>some k_≠(u9:Value).ownBlock∧some k_≠(u12:Value).ownBlock) u4 x4_1)∧Aside0 (Kd.S (Kd.slice 3 (Kd.int .i64)) 32 wc w.heap.size (fun k_=>some k_≠(u4:Value).ownBlock∧some k_≠(u12:Value).ownBlock) u9 x9_2)∧Aside0 (Kd.R k78 78 wc w.heap.size (fun _=>True) u10 x10_4)∧Aside0 (Kd.R (Kd.int .i64) 3 wc w.heap.size (fun _=>True) u12 x12_3)∧Aside0 (wc.heap[gb396]?=some (.cells #[(.slice A0_0 l0_0.length c0_0),(.slice A0_1 l0_1.length c0_1),.int .i64 a0_2,.int .i64 a0_3,(.slice A0_4 l0_4.length c0_4)] 26 (0,0)))∧Aside0 (Below w.heap.size w wc))
              case first=>
               have H:=HC38.out
               clear HC38
               by_cases c40:0≤x15_4
               rotate_left
               ·rw [if_neg c40] at H
                exact absurd H (by simp)
               rw [if_pos c40] at H
               have c40b0:decide (0≤x15_4)=true:=decide_eq_true c40
               clear c40
               (first|rw [c40b0]|(simp only [i64_w,i32_w];rw [c40b0])|skip)
               by_cases c41:((rd_T35 l0_4 x15_4).f0)=x11_2
               ·rw [if_pos c41] at H
                have c41b0:(((rd_T35 l0_4 x15_4).f0)==x11_2)=true:=beq_iff_eq.mpr c41
                have c41b1:(((rd_T35 l0_4 x15_4).f0) !=x11_2)=false:=bne_eq_false_iff_eq.mpr c41
                clear c41
                by_cases c42:x15_4<(x4_1.length:Int)
                rotate_left
                ·rw [if_neg c42] at H
                 exact absurd H (by simp)
                rw [if_pos c42] at H
                have c42b0:decide (x15_4<(x4_1.length:Int))=true:=decide_eq_true c42
                clear c42
                replace H:=Option.bind_eq_some_iff.mp H
                obtain⟨t425,A430,H⟩:=H
                replace H:(regletref14_Predict.j4 k4 x4_1 x9_2 x10_4 x11_2 x12_3 x13_3 x14_4 x15_4 (!t425) l0_0 l0_1 a0_2 a0_3 l0_4)=some (r1,r2):=H
                have A43:=aM A430
                clear A430
                have H':=aM H
                clear H
                have hcz44_0:wr.cell? ⟨gb396,0,none⟩=some (.slice A0_0 l0_0.length c0_0):=(aG BK396.out 0).trans rfl
                have hcz44_1:wr.cell? ⟨gb396,1,none⟩=some (.slice A0_1 l0_1.length c0_1):=(aG BK396.out 1).trans rfl
                have hcz44_2:wr.cell? ⟨gb396,2,none⟩=some (.int .i64 a0_2):=(aG BK396.out 2).trans rfl
                have hcz44_3:wr.cell? ⟨gb396,3,none⟩=some (.int .i64 a0_3):=(aG BK396.out 3).trans rfl
                have hcz44_4:wr.cell? ⟨gb396,4,none⟩=some (.slice A0_4 l0_4.length c0_4):=(aG BK396.out 4).trans rfl
                have hfz44_0:=aH BK396.out 0
                have hfz44_1:=aH BK396.out 1
                have hfz44_2:=aH BK396.out 2
                have hfz44_3:=aH BK396.out 3
                have hfz44_4:=aH BK396.out 4
                have p423:0≤(x15_4:Int):=of_decide_eq_true (by first|(with_reducible assumption)|assumption)
                have q423:x15_4<(l0_4.length:Int):=of_decide_eq_true (by first|(with_reducible assumption)|assumption)
                obtain⟨ad423,A423_1,c423_1,e423,hx423_0,hx423_1,hl423_1,hi423_1⟩:=at_T35 HR0_4.out x15_4 p423 q423
                cases e423
                replace hx423_0:=(HB.out.cell (World.block_lt_of_cell? w _ hx423_0)).trans hx423_0
                replace hx423_1:=(HB.out.cell (World.block_lt_of_cell? w _ hx423_1)).trans hx423_1
                have HR423_1:=aM hi423_1
                have HC423_1:=aM hl423_1
                clear hi423_1 hl423_1
                replace p423:=eq_true p423
                replace q423:=eq_true q423
                obtain⟨Ao45,co45,eo45⟩:=Kd.S_slice HO_4.out
                subst eo45
                have p424:0≤(x15_4:Int):=of_decide_eq_true (by first|(with_reducible assumption)|assumption)
                have q424:x15_4<(x4_1.length:Int):=of_decide_eq_true (by first|(with_reducible assumption)|assumption)
                obtain⟨ad424,A424_0,c424_0,e424,hx424_0,hl424_0,hi424_0⟩:=at_L5 (Kd.S_reads' HO_4.out).2.2 x15_4 p424 q424
                cases e424
                obtain⟨ce424,hce424,hMe424,hcc424⟩:=Kd.S_get HO_4.out [] x15_4 p424 (by first|exact q424|exact of_decide_eq_true (by first|(with_reducible assumption)|assumption)|(have e_:=(Kd.S_reads' HO_4.out).1;omega))
                obtain⟨ve424_0,rfl,ge424_0⟩:=hMe424
                have hv424_0:=hcc424 0 _ rfl
                rw [Nat.add_zero,show((Kd.slice 3 (Kd.int .i64))).sz=1 from rfl,Nat.mul_one] at hv424_0
                replace hv424_0:=Option.some.inj (hv424_0.symm.trans hx424_0)
                rw [hv424_0] at ge424_0
                have HL424_0:=aM (show Kd.R (Kd.int .i64) 3 _ _ _ _ (rd_L5 x4_1 x15_4) from ge424_0)
                clear hv424_0 ge424_0
                clear hcc424 hce424
                have HR424_0:=aM hi424_0
                have HC424_0:=aM hl424_0
                clear hi424_0 hl424_0
                replace p424:=eq_true p424
                replace q424:=eq_true q424
                go_wp2_with (first|(go_at_call 33;(with_reducible refine(regletref14_has.calls k4 _ _ (rd_L5 x4_1 x15_4) x13_3 t425 _ ?side1 ?side2 A43.out).mono ?_);(case side1=>repeat(first|exact(by repeat(first|(with_reducible exact HR424_0.out)|(with_reducible refine Kd.C_alloc ?_ _)|(with_reducible refine Kd.C_drewN ?_ _)|(with_reducible refine bC ?_)|exact HR424_0.out))|(with_reducible refine Kd.C_alloc ?_ _)|(with_reducible refine Kd.C_drewN ?_ _)|(with_reducible refine bC ?_)));(case side2=>exact HC424_0.out);rintro e w' ⟨rfl,⟨nd,rfl⟩⟩))
                go_meet
                case rel=>exact⟨_,(!t425),(by first|rfl|(simp;done)|(simp [*];done)),H',⟨by have:=HK1.out;have:=HK2.out;have:=HK3.out;have:=HK4.out;first|omega|exact Nat.le_refl _⟩,⟨by(with_reducible repeat(first|apply Kd.S_alloc|apply aV|apply aW));exact HO_4.out⟩,⟨by(with_reducible repeat(first|apply Kd.S_alloc|apply aV|apply aW));exact HO_9.out⟩,⟨by(with_reducible repeat(first|apply aA|apply aB|apply aC));exact HO_10.out⟩,⟨by(with_reducible repeat(first|apply aA|apply aB|apply aC));exact HO_12.out⟩,⟨by(with_reducible repeat(first|refine aJ ?_ _|refine aK ?_|refine aI ?_ _));exact BK396.out⟩,⟨by repeat(first|(with_reducible first|exact HB.out|apply aN|apply aP|apply aO|refine aL ?_ GE396.out)|exact HB.out)⟩⟩
               ·rw [if_neg c41] at H
                have c41b0:(((rd_T35 l0_4 x15_4).f0)==x11_2)=false:=beq_eq_false_iff_ne.mpr c41
                have c41b1:(((rd_T35 l0_4 x15_4).f0) !=x11_2)=true:=bne_iff_ne.mpr c41
                have H':=aM H
                clear H
                have hcz46_0:wr.cell? ⟨gb396,0,none⟩=some (.slice A0_0 l0_0.length c0_0):=(aG BK396.out 0).trans rfl
                have hcz46_1:wr.cell? ⟨gb396,1,none⟩=some (.slice A0_1 l0_1.length c0_1):=(aG BK396.out 1).trans rfl
                have hcz46_2:wr.cell? ⟨gb396,2,none⟩=some (.int .i64 a0_2):=(aG BK396.out 2).trans rfl
                have hcz46_3:wr.cell? ⟨gb396,3,none⟩=some (.int .i64 a0_3):=(aG BK396.out 3).trans rfl
                have hcz46_4:wr.cell? ⟨gb396,4,none⟩=some (.slice A0_4 l0_4.length c0_4):=(aG BK396.out 4).trans rfl
                have hfz46_0:=aH BK396.out 0
                have hfz46_1:=aH BK396.out 1
                have hfz46_2:=aH BK396.out 2
                have hfz46_3:=aH BK396.out 3
                have hfz46_4:=aH BK396.out 4
                have p423:0≤(x15_4:Int):=of_decide_eq_true (by first|(with_reducible assumption)|assumption)
                have q423:x15_4<(l0_4.length:Int):=of_decide_eq_true (by first|(with_reducible assumption)|assumption)
                obtain⟨ad423,A423_1,c423_1,e423,hx423_0,hx423_1,hl423_1,hi423_1⟩:=at_T35 HR0_4.out x15_4 p423 q423
                cases e423
                replace hx423_0:=(HB.out.cell (World.block_lt_of_cell? w _ hx423_0)).trans hx423_0
                replace hx423_1:=(HB.out.cell (World.block_lt_of_cell? w _ hx423_1)).trans hx423_1
                have HR423_1:=aM hi423_1
                have HC423_1:=aM hl423_1
                clear hi423_1 hl423_1
                replace p423:=eq_true p423
                replace q423:=eq_true q423
                go_wp2
                go_meet
                case rel=>exact⟨_,(true),(by first|rfl|(simp;done)|(simp [*];done)),H',⟨by have:=HK1.out;have:=HK2.out;have:=HK3.out;have:=HK4.out;first|omega|exact Nat.le_refl _⟩,⟨by(with_reducible repeat(first|apply Kd.S_alloc|apply aV|apply aW));exact HO_4.out⟩,⟨by(with_reducible repeat(first|apply Kd.S_alloc|apply aV|apply aW));exact HO_9.out⟩,⟨by(with_reducible repeat(first|apply aA|apply aB|apply aC));exact HO_10.out⟩,⟨by(with_reducible repeat(first|apply aA|apply aB|apply aC));exact HO_12.out⟩,⟨by(with_reducible repeat(first|refine aJ ?_ _|refine aK ?_|refine aI ?_ _));exact BK396.out⟩,⟨by repeat(first|(with_reducible first|exact HB.out|apply aN|apply aP|apply aO|refine aL ?_ GE396.out)|exact HB.out)⟩⟩
              case rest=>
               clear HC38
               (try clear c1);(try clear c2);(try clear p2);(try clear c3);(try clear c4);(try clear p4);(try clear q4);(try clear hx4);(try clear p6);(try clear c10);(try clear c10b0);(try clear c11);(try clear c11b0);(try clear c13);(try clear c14);(try clear c14b0);(try clear c15);(try clear c15b0);(try clear c16);(try clear c17);(try clear c20);(try clear c26);(try clear c30);(try clear c31);(try clear c32);(try clear c33)
               (try clear c33b0);(try clear c35);(try clear c35b0);(try clear c37);(try clear c37b0);(try clear c40);(try clear c40b0);(try clear p40);(try clear q40);(try clear hx40);(try clear c41);(try clear c41b0);(try clear c41b1);(try clear c42);(try clear c42b0);(try clear p42);(try clear q42);(try clear hx42);(try clear hcz18_0);(try clear hcz18_1);(try clear hcz18_2);(try clear hcz18_3);(try clear hcz18_4)
               (try clear hcz21_0);(try clear hcz21_1);(try clear hcz21_2);(try clear hcz21_3);(try clear hcz21_4);(try clear hcz27_0);(try clear hcz27_1);(try clear hcz27_2);(try clear hcz27_3);(try clear hcz27_4);(try clear hcz32_0);(try clear hcz32_1);(try clear hcz32_2);(try clear hcz32_3);(try clear hcz32_4);(try clear hcz34_0);(try clear hcz34_1);(try clear hcz34_2);(try clear hcz34_3);(try clear hcz34_4);(try clear hcz36_0)
               (try clear hcz36_1);(try clear hcz36_2);(try clear hcz36_3);(try clear hcz36_4);(try clear hcz39_0);(try clear hcz39_1);(try clear hcz39_2);(try clear hcz39_3);(try clear hcz39_4);(try clear hcz44_0);(try clear hcz44_1);(try clear hcz44_2);(try clear hcz44_3);(try clear hcz44_4);(try clear hcz46_0);(try clear hcz46_1);(try clear hcz46_2);(try clear hcz46_3);(try clear hcz46_4);(try clear hcz6_0);(try clear hcz6_1)
               (try clear hcz6_2);(try clear hcz6_3);(try clear hcz6_4);(try clear hcz8_0);(try clear hcz8_1);(try clear hcz8_2);(try clear hcz8_3);(try clear hcz8_4);(try clear hfz18_0);(try clear hfz18_1);(try clear hfz18_2);(try clear hfz18_3);(try clear hfz18_4);(try clear hfz21_0);(try clear hfz21_1);(try clear hfz21_2);(try clear hfz21_3);(try clear hfz21_4);(try clear hfz27_0);(try clear hfz27_1);(try clear hfz27_2)
               (try clear hfz27_3);(try clear hfz27_4);(try clear hfz32_0);(try clear hfz32_1);(try clear hfz32_2);(try clear hfz32_3);(try clear hfz32_4);(try clear hfz34_0);(try clear hfz34_1);(try clear hfz34_2);(try clear hfz34_3);(try clear hfz34_4);(try clear hfz36_0);(try clear hfz36_1);(try clear hfz36_2);(try clear hfz36_3);(try clear hfz36_4);(try clear hfz39_0);(try clear hfz39_1);(try clear hfz39_2);(try clear hfz39_3)
               (try clear hfz39_4);(try clear hfz44_0);(try clear hfz44_1);(try clear hfz44_2);(try clear hfz44_3);(try clear hfz44_4);(try clear hfz46_0);(try clear hfz46_1);(try clear hfz46_2);(try clear hfz46_3);(try clear hfz46_4);(try clear hfz6_0);(try clear hfz6_1);(try clear hfz6_2);(try clear hfz6_3);(try clear hfz6_4);(try clear hfz8_0);(try clear hfz8_1);(try clear hfz8_2);(try clear hfz8_3);(try clear hfz8_4)
               (try clear hx401_0);(try clear hx401_1);(try clear hx406_0);(try clear hx406_1);(try clear hx407_0);(try clear hx423_0);(try clear hx423_1);(try clear hx424_0);(try clear p2);(try clear p4);(try clear p401);(try clear p406);(try clear p407);(try clear p423);(try clear p424);(try clear p6);(try clear q4);(try clear q401);(try clear q406);(try clear q407);(try clear q423);(try clear q424)
               obtain⟨kq,x92_37,rfl,HA,HJ37,HO_4,HO_9,HO_10,HO_12,BK396,HB⟩:=hcut
               cases kq with
               |zero=>exact absurd HA.out (by simp [regletref14_Predict.j4])
               |succ kj37=>
                have H:=HA.out
                clear HA
                simp only [regletref14_Predict.j4] at H
                by_cases c47:x92_37=true
                ·subst c47
                 have H1:(regletref14_Predict.l3 kj37 x4_1 x9_2 x10_4 x11_2 x12_3 x13_3 x14_4 (wrap64 (x15_4+1)) l0_0 l0_1 a0_2 a0_3 l0_4)=some (r1,r2):=by rw [if_pos rfl] at H;exact H
                 clear H
                 have H:=H1
                 clear H1
                 have H':=aM H
                 clear H
                 go_wp2
                 go_roundg kj37
                 case measure=>have:=HK1.out;have:=HK2.out;have:=HK3.out;have:=HK4.out;have:=HJ37.out;omega
                 case rel=>exact⟨(x10_4),(x14_4),(wrap64 (x15_4+1)),(by first|rfl|(simp;done)|(simp [*];done)),(by first|rfl|(simp;done)|(simp [*];done)),H',⟨by have:=HK1.out;have:=HK2.out;have:=HK3.out;have:=HK4.out;have:=HJ37.out;omega⟩,⟨by(with_reducible repeat(first|apply Kd.S_alloc|apply aV|apply aW));exact HO_4.out⟩,⟨by(with_reducible repeat(first|apply Kd.S_alloc|apply aV|apply aW));exact HO_9.out⟩,⟨by(with_reducible repeat(first|apply aA|apply aB|apply aC));exact HO_10.out⟩,⟨by(with_reducible repeat(first|apply aA|apply aB|apply aC));exact HO_12.out⟩,⟨by(with_reducible repeat(first|refine aJ ?_ _|refine aK ?_|refine aI ?_ _));exact BK396.out⟩,⟨by repeat(first|(with_reducible first|exact HB.out|apply aN|apply aP|apply aO|refine aL ?_ GE396.out)|exact HB.out)⟩⟩
                ·replace c47:=Bool.eq_false_iff.mpr c47
                 subst c47
                 have H1:(if x14_4<0 then(regletref14_Predict.l3 kj37 x4_1 x9_2 x10_4 x11_2 x12_3 x13_3 x15_4 (wrap64 (x15_4+1)) l0_0 l0_1 a0_2 a0_3 l0_4) else(if x10_4.length<4398046511104 then(regletref14_Predict.l3 kj37 x4_1 x9_2 (x10_4++ [(⟨x11_2,x13_3,x14_4,x15_4⟩:S78)]) x11_2 x12_3 x13_3 x14_4 (wrap64 (x15_4+1)) l0_0 l0_1 a0_2 a0_3 l0_4) else(none)))=some (r1,r2):=by rw [if_neg (show ¬(false=true) by decide)] at H;exact H
                 clear H
                 have H:=H1
                 clear H1
                 by_cases c48:x14_4<0
                 ·rw [if_pos c48] at H
                  have c48b0:decide (x14_4<0)=true:=decide_eq_true c48
                  clear c48
                  have H':=aM H
                  clear H
                  go_wp2
                  go_roundg kj37
                  case measure=>have:=HK1.out;have:=HK2.out;have:=HK3.out;have:=HK4.out;have:=HJ37.out;omega
                  case rel=>exact⟨(x10_4),(x15_4),(wrap64 (x15_4+1)),(by first|rfl|(simp;done)|(simp [*];done)),(by first|rfl|(simp;done)|(simp [*];done)),H',⟨by have:=HK1.out;have:=HK2.out;have:=HK3.out;have:=HK4.out;have:=HJ37.out;omega⟩,⟨by(with_reducible repeat(first|apply Kd.S_alloc|apply aV|apply aW));exact HO_4.out⟩,⟨by(with_reducible repeat(first|apply Kd.S_alloc|apply aV|apply aW));exact HO_9.out⟩,⟨by(with_reducible repeat(first|apply aA|apply aB|apply aC));exact HO_10.out⟩,⟨by(with_reducible repeat(first|apply aA|apply aB|apply aC));exact HO_12.out⟩,⟨by(with_reducible repeat(first|refine aJ ?_ _|refine aK ?_|refine aI ?_ _));exact BK396.out⟩,⟨by repeat(first|(with_reducible first|exact HB.out|apply aN|apply aP|apply aO|refine aL ?_ GE396.out)|exact HB.out)⟩⟩
                 ·rw [if_neg c48] at H
                  have c48b0:decide (x14_4<0)=false:=decide_eq_false c48
                  clear c48
                  by_cases c49:x10_4.length<4398046511104
                  rotate_left
                  ·rw [if_neg c49] at H
                   exact absurd H (by simp)
                  rw [if_pos c49] at H
                  have LMc49:=aM c49
                  clear c49
                  obtain⟨y426,hy426⟩:∃y_:List (S78),y_=(x10_4++ [(⟨x11_2,x13_3,x14_4,x15_4⟩:S78)]):=⟨_,rfl⟩
                  replace H:(regletref14_Predict.l3 kj37 x4_1 x9_2 y426 x11_2 x12_3 x13_3 x14_4 (wrap64 (x15_4+1)) l0_0 l0_1 a0_2 a0_3 l0_4)=some (r1,r2):=by first|(rw [hy426];with_reducible exact H)|(have H2_:=(Option.bind_some _ _).symm.trans H;rw [hy426];with_reducible exact H2_)|(have H2_:=(Option.bind_some _ _).symm.trans H;with_reducible exact H2_)|with_reducible exact H|(rw [hy426];exact H)|exact H
                  have Ny426:=aM hy426
                  clear hy426
                  have H':=aM H
                  clear H
                  go_wp2_with (first|((with_reducible refine gate_builtin (b:= .append) (xs:=#[.tmp 96,.tmp 102]) rfl ?_);at_builtin;refine Kd.R_append k78 (w0:=w) w.heap.size rfl (.tmp 96) (.tmp 102) 48 78 (.agg #[(.int .i64 0),(.int .i64 0),(.int .i64 0),(.int .i64 0)]) 32 rfl Try.underlying48 info78 rfl (by decide) (by omega) u10 x10_4 (⟨x11_2,x13_3,x14_4,x15_4⟩:S78) [.int .i64 x11_2,.int .i64 x13_3,.int .i64 x14_4,.int .i64 x15_4] (fun _=>True) (fun _=>False) rfl rfl ?aP (fun _ hk=>hk.elim) ?aF ?aO ?aB ?aS ?aL ?_;(case aP=>exact k78_mkM _ _ _ (⟨x11_2,x13_3,x14_4,x15_4⟩:S78));(case aB=>exact(by repeat(first|(with_reducible first|exact HB.out|apply aN|apply aP|apply aO|refine aL ?_ GE396.out)|exact HB.out)));(case aF=>exact(fun _ _=>trivial));(case aO=>exact(by(with_reducible repeat(first|apply aA|apply aB|apply aC));exact HO_10.out));(case aS=>exact(bH (by repeat(first|(with_reducible first|exact HB.out|apply aN|apply aP|apply aO|refine aL ?_ GE396.out)|exact HB.out))));(case aL=>have:=LMc49.out;omega);intro v427 w50 ho hb hg hat;rw [←Ny426.out] at ho;have n0_:=aM (Kd.S_over' (by(with_reducible repeat(first|apply Kd.S_alloc|apply aV|apply aW));exact HO_4.out) (Kd.R_typed (by(with_reducible repeat(first|apply aA|apply aB|apply aC));exact HO_10.out)) (by decide) hg);have n1_:=aM (Kd.S_over' (by(with_reducible repeat(first|apply Kd.S_alloc|apply aV|apply aW));exact HO_9.out) (Kd.R_typed (by(with_reducible repeat(first|apply aA|apply aB|apply aC));exact HO_10.out)) (by decide) hg);have n2_:=aM (Kd.R_over' (by(with_reducible repeat(first|apply aA|apply aB|apply aC));exact HO_12.out) (Kd.R_typed (by(with_reducible repeat(first|apply aA|apply aB|apply aC));exact HO_10.out)) (by decide) hg);have n3_:=aM (blk_grown (g:=gb396) (o:= .cells #[.slice A0_0 l0_0.length c0_0,.slice A0_1 l0_1.length c0_1,.int .i64 a0_2,.int .i64 a0_3,.slice A0_4 l0_4.length c0_4] 26 (0,0)) (by(with_reducible repeat(first|refine aJ ?_ _|refine aK ?_|refine aI ?_ _));exact BK396.out) hg (Kd.R_ne HO_10.out BK396.out (by decide)));have n4_:=aM (hb);have n5_:=aM (ho);clear HO_4;clear HO_9;clear HO_12;clear BK396;clear HB;clear HO_10;have HO_4:=n0_;have HO_9:=n1_;have HO_12:=n2_;have BK396:=n3_;have HB:=n4_;have HO428:=n5_;clear n0_ n1_ n2_ n3_ n4_ n5_;clear ho hb hg hat))
                  go_roundg kj37
                  case measure=>have:=HK1.out;have:=HK2.out;have:=HK3.out;have:=HK4.out;have:=HJ37.out;omega
                  case rel=>exact⟨(y426),(x14_4),(wrap64 (x15_4+1)),(by first|rfl|(simp;done)|(simp [*];done)),(by first|rfl|(simp;done)|(simp [*];done)),H',⟨by have:=HK1.out;have:=HK2.out;have:=HK3.out;have:=HK4.out;have:=HJ37.out;omega⟩,⟨by(with_reducible repeat(first|apply Kd.S_alloc|apply aV|apply aW));exact HO_4.out⟩,⟨by(with_reducible repeat(first|apply Kd.S_alloc|apply aV|apply aW));exact HO_9.out⟩,⟨by(with_reducible repeat(first|apply aA|apply aB|apply aC));exact HO428.out⟩,⟨by(with_reducible repeat(first|apply aA|apply aB|apply aC));exact HO_12.out⟩,⟨by(with_reducible repeat(first|refine aJ ?_ _|refine aK ?_|refine aI ?_ _));exact BK396.out⟩,⟨by repeat(first|(with_reducible first|exact HB.out|apply aN|apply aP|apply aO|refine aL ?_ GE396.out)|exact HB.out)⟩⟩
             ·rw [if_neg c37] at H
              have c37b0:decide (x15_4<(l0_4.length:Int))=false:=decide_eq_false c37
              clear c37
              by_cases c51:x12_3.length<17592186044416
              rotate_left
              ·rw [if_neg c51] at H
               exact absurd H (by simp)
              rw [if_pos c51] at H
              have LMc51:=aM c51
              clear c51
              obtain⟨y420,hy420⟩:∃y_:List Int,y_=(x12_3++ [x14_4]):=⟨_,rfl⟩
              replace H:(regletref14_Predict.l2 k4 x4_1 x9_2 x10_4 x11_2 y420 (wrap64 (x13_3+1)) l0_0 l0_1 a0_2 a0_3 l0_4)=some (r1,r2):=by first|(rw [hy420];with_reducible exact H)|(have H2_:=(Option.bind_some _ _).symm.trans H;rw [hy420];with_reducible exact H2_)|(have H2_:=(Option.bind_some _ _).symm.trans H;with_reducible exact H2_)|with_reducible exact H|(rw [hy420];exact H)|exact H
              have Ny420:=aM hy420
              clear hy420
              have H':=aM H
              clear H
              have hcz52_0:wr.cell? ⟨gb396,0,none⟩=some (.slice A0_0 l0_0.length c0_0):=(aG BK396.out 0).trans rfl
              have hcz52_1:wr.cell? ⟨gb396,1,none⟩=some (.slice A0_1 l0_1.length c0_1):=(aG BK396.out 1).trans rfl
              have hcz52_2:wr.cell? ⟨gb396,2,none⟩=some (.int .i64 a0_2):=(aG BK396.out 2).trans rfl
              have hcz52_3:wr.cell? ⟨gb396,3,none⟩=some (.int .i64 a0_3):=(aG BK396.out 3).trans rfl
              have hcz52_4:wr.cell? ⟨gb396,4,none⟩=some (.slice A0_4 l0_4.length c0_4):=(aG BK396.out 4).trans rfl
              have hfz52_0:=aH BK396.out 0
              have hfz52_1:=aH BK396.out 1
              have hfz52_2:=aH BK396.out 2
              have hfz52_3:=aH BK396.out 3
              have hfz52_4:=aH BK396.out 4
              go_wp2_with (first|((with_reducible refine gate_builtin (b:= .append) (xs:=#[.tmp 104,.tmp 106]) rfl ?_);at_builtin;refine Kd.R_append (Kd.int .i64) (w0:=w) w.heap.size rfl (.tmp 104) (.tmp 106) 32 3 (.int .i64 0) 8 rfl Try.underlying32 info3 rfl (by decide) (by omega) u12 x12_3 x14_4 [.int .i64 x14_4] (fun _=>True) (fun _=>False) rfl rfl ?aP (fun _ hk=>hk.elim) ?aF ?aO ?aB ?aS ?aL ?_;(case aP=>exact rfl);(case aB=>exact(by repeat(first|(with_reducible first|exact HB.out|apply aN|apply aP|apply aO|refine aL ?_ GE396.out)|exact HB.out)));(case aF=>exact(fun _ _=>trivial));(case aO=>exact(by(with_reducible repeat(first|apply aA|apply aB|apply aC));exact HO_12.out));(case aS=>exact(bH (by repeat(first|(with_reducible first|exact HB.out|apply aN|apply aP|apply aO|refine aL ?_ GE396.out)|exact HB.out))));(case aL=>have:=LMc51.out;omega);intro v421 w53 ho hb hg hat;rw [←Ny420.out] at ho;have n0_:=aM (Kd.S_after (ok:=(fun k_=>some k_≠(u9:Value).ownBlock)) (by(with_reducible repeat(first|apply Kd.S_alloc|apply aV|apply aW));exact HO_4.out) hg hat);have n1_:=aM (Kd.S_after (ok:=(fun k_=>some k_≠(u4:Value).ownBlock)) (by(with_reducible repeat(first|apply Kd.S_alloc|apply aV|apply aW));exact HO_9.out) hg hat);have n2_:=aM (Kd.R_over' (by(with_reducible repeat(first|apply aA|apply aB|apply aC));exact HO_10.out) (Kd.R_typed (by(with_reducible repeat(first|apply aA|apply aB|apply aC));exact HO_12.out)) (by decide) hg);have n3_:=aM (blk_grown (g:=gb396) (o:= .cells #[.slice A0_0 l0_0.length c0_0,.slice A0_1 l0_1.length c0_1,.int .i64 a0_2,.int .i64 a0_3,.slice A0_4 l0_4.length c0_4] 26 (0,0)) (by(with_reducible repeat(first|refine aJ ?_ _|refine aK ?_|refine aI ?_ _));exact BK396.out) hg (Kd.R_ne HO_12.out BK396.out (by decide)));have n4_:=aM (hb);have n5_:=aM (ho);clear HO_4;clear HO_9;clear HO_10;clear BK396;clear HB;clear HO_12;have HO_4:=n0_;have HO_9:=n1_;have HO_10:=n2_;have BK396:=n3_;have HB:=n4_;have HO422:=n5_;clear n0_ n1_ n2_ n3_ n4_ n5_;clear ho hb hg hat))
              go_roundg k4
              case measure=>have:=HK1.out;have:=HK2.out;have:=HK3.out;have:=HK4.out;omega
              case rel=>exact⟨(x10_4),(y420),(wrap64 (x13_3+1)),(by first|rfl|(simp;done)|(simp [*];done)),H',⟨by have:=HK1.out;have:=HK2.out;have:=HK3.out;have:=HK4.out;omega⟩,⟨by(with_reducible repeat(first|apply Kd.S_alloc|apply aV|apply aW));exact HO_4.out⟩,⟨by(with_reducible repeat(first|apply Kd.S_alloc|apply aV|apply aW));exact HO_9.out⟩,⟨by(with_reducible repeat(first|apply aA|apply aB|apply aC));exact HO_10.out⟩,⟨by(with_reducible repeat(first|apply aA|apply aB|apply aC));exact HO422.out⟩,⟨by(with_reducible repeat(first|refine aJ ?_ _|refine aK ?_|refine aI ?_ _));exact BK396.out⟩,⟨by repeat(first|(with_reducible first|exact HB.out|apply aN|apply aP|apply aO|refine aL ?_ GE396.out)|exact HB.out)⟩⟩
          ·rw [if_neg c35] at H
           have c35b0:decide (x13_3≤(l0_1.length:Int))=false:=decide_eq_false c35
           clear c35
           by_cases c54:x9_2.length<5864062014805
           rotate_left
           ·rw [if_neg c54] at H
            exact absurd H (by simp)
           rw [if_pos c54] at H
           have LMc54:=aM c54
           clear c54
           obtain⟨y417,hy417⟩:∃y_:List (List Int),y_=(x9_2++ [x12_3]):=⟨_,rfl⟩
           replace H:(regletref14_Predict.l1 k3 x4_1 y417 x10_3 (wrap64 (x11_2+1)) l0_0 l0_1 a0_2 a0_3 l0_4)=some (r1,r2):=by first|(rw [hy417];with_reducible exact H)|(have H2_:=(Option.bind_some _ _).symm.trans H;rw [hy417];with_reducible exact H2_)|(have H2_:=(Option.bind_some _ _).symm.trans H;with_reducible exact H2_)|with_reducible exact H|(rw [hy417];exact H)|exact H
           have Ny417:=aM hy417
           clear hy417
           have H':=aM H
           clear H
           have hcz55_0:wr.cell? ⟨gb396,0,none⟩=some (.slice A0_0 l0_0.length c0_0):=(aG BK396.out 0).trans rfl
           have hcz55_1:wr.cell? ⟨gb396,1,none⟩=some (.slice A0_1 l0_1.length c0_1):=(aG BK396.out 1).trans rfl
           have hcz55_2:wr.cell? ⟨gb396,2,none⟩=some (.int .i64 a0_2):=(aG BK396.out 2).trans rfl
           have hcz55_3:wr.cell? ⟨gb396,3,none⟩=some (.int .i64 a0_3):=(aG BK396.out 3).trans rfl
           have hcz55_4:wr.cell? ⟨gb396,4,none⟩=some (.slice A0_4 l0_4.length c0_4):=(aG BK396.out 4).trans rfl
           have hfz55_0:=aH BK396.out 0
           have hfz55_1:=aH BK396.out 1
           have hfz55_2:=aH BK396.out 2
           have hfz55_3:=aH BK396.out 3
           have hfz55_4:=aH BK396.out 4
           obtain⟨Ao57,co57,eo57⟩:=Kd.R_slice HO_12.out
           subst eo57
           go_wp2_with (first|((with_reducible refine gate_builtin (b:= .append) (xs:=#[.tmp 108,.tmp 110]) rfl ?_);at_builtin;refine Kd.S_append (Kd.slice 3 (Kd.int .i64)) (w0:=w) w.heap.size rfl (.tmp 108) (.tmp 110) 28 32 (.slice none 0 0) 24 rfl Try.underlying28 info32 rfl (by decide) (by omega) u9 x9_2 x12_3 [.slice Ao57 x12_3.length co57] (fun k_=>some k_≠(u4:Value).ownBlock) (fun k_=>some k_=(.slice Ao57 x12_3.length co57:Value).ownBlock) rfl rfl ?aP (fun k_ hk_=>((Kd.R_mono (ok':=fun k_=>((fun k_=>some k_≠(u4:Value).ownBlock)) k_∧some k_≠(u9:Value).ownBlock) (Kd.R_apart' (Kd.R_apart' (HO_12.out) (Kd.S_typed HO_4.out) (by decide)) (Kd.S_typed HO_9.out) (by decide)) (fun k_ hk=>⟨hk.1.2,hk.2⟩))).1 k_ hk_.symm) ?aF ?aO ?aB ?aS ?aL ?_;(case aP=>exact Kd.M_row (Kd.R_mono (Kd.R_tight rfl (Kd.R_mono (ok':=fun k_=>((fun k_=>some k_≠(u4:Value).ownBlock)) k_∧some k_≠(u9:Value).ownBlock) (Kd.R_apart' (Kd.R_apart' (HO_12.out) (Kd.S_typed HO_4.out) (by decide)) (Kd.S_typed HO_9.out) (by decide)) (fun k_ hk=>⟨hk.1.2,hk.2⟩))) (fun _ h_=>h_)));(case aB=>exact(by repeat(first|(with_reducible first|exact HB.out|apply aN|apply aP|apply aO|refine aL ?_ GE396.out)|exact HB.out)));(case aF=>exact(fun k_ hk=>Kd.fresh' (Kd.S_lt (by(with_reducible repeat(first|apply Kd.S_alloc|apply aV|apply aW));exact HO_4.out)) k_ hk));(case aO=>exact(by(with_reducible repeat(first|apply Kd.S_alloc|apply aV|apply aW));exact Kd.S_mono HO_9.out (fun k_ hk=>⟨hk.1,fun e_=>hk.2 e_⟩)));(case aS=>exact(bH (by repeat(first|(with_reducible first|exact HB.out|apply aN|apply aP|apply aO|refine aL ?_ GE396.out)|exact HB.out))));(case aL=>have:=LMc54.out;omega);intro v418 w56 ho hb hg hat;rw [←Ny417.out] at ho;have n0_:=aM (Kd.S_after (ok:=(fun k_=>some k_≠(.slice Ao57 x12_3.length co57:Value).ownBlock)) (by(with_reducible repeat(first|apply Kd.S_alloc|apply aV|apply aW));exact Kd.S_mono HO_4.out (fun _ hk=>⟨hk.2,hk.1⟩)) hg hat);have n1_:=aM (Kd.R_over' (by(with_reducible repeat(first|apply aA|apply aB|apply aC));exact HO_10.out) (Kd.S_typed (by(with_reducible repeat(first|apply Kd.S_alloc|apply aV|apply aW));exact HO_9.out)) (by decide) hg);have n2_:=aM (blk_grown (g:=gb396) (o:= .cells #[.slice A0_0 l0_0.length c0_0,.slice A0_1 l0_1.length c0_1,.int .i64 a0_2,.int .i64 a0_3,.slice A0_4 l0_4.length c0_4] 26 (0,0)) (by(with_reducible repeat(first|refine aJ ?_ _|refine aK ?_|refine aI ?_ _));exact BK396.out) hg (Kd.S_ne HO_9.out BK396.out (by decide)));have n3_:=aM (hb);have n4_:=aM (ho);clear HO_4;clear HO_10;clear BK396;clear HB;clear HO_9;clear HO_12;have HO_4:=n0_;have HO_10:=n1_;have BK396:=n2_;have HB:=n3_;have HO419:=n4_;clear n0_ n1_ n2_ n3_ n4_;clear ho hb hg hat))
           go_roundg k3
           case measure=>have:=HK1.out;have:=HK2.out;have:=HK3.out;omega
           case rel=>exact⟨(y417),(x10_3),(wrap64 (x11_2+1)),(by first|rfl|(simp;done)|(simp [*];done)),H',⟨by have:=HK1.out;have:=HK2.out;have:=HK3.out;omega⟩,⟨by(with_reducible repeat(first|apply Kd.S_alloc|apply aV|apply aW));exact Kd.S_mono HO_4.out (fun _ hk=>hk.2)⟩,⟨by(with_reducible repeat(first|apply Kd.S_alloc|apply aV|apply aW));exact HO419.out⟩,⟨by(with_reducible repeat(first|apply aA|apply aB|apply aC));exact HO_10.out⟩,⟨by(with_reducible repeat(first|refine aJ ?_ _|refine aK ?_|refine aI ?_ _));exact BK396.out⟩,⟨by repeat(first|(with_reducible first|exact HB.out|apply aN|apply aP|apply aO|refine aL ?_ GE396.out)|exact HB.out)⟩⟩
       ·rw [if_neg c33] at H
        have c33b0:decide (x11_2<(l0_0.length:Int))=false:=decide_eq_false c33
        clear c33
        simp only [Option.some.injEq,Prod.mk.injEq] at H
        obtain⟨rfl,rfl⟩:=H
        have hcz58_0:wr.cell? ⟨gb396,0,none⟩=some (.slice A0_0 l0_0.length c0_0):=(aG BK396.out 0).trans rfl
        have hcz58_1:wr.cell? ⟨gb396,1,none⟩=some (.slice A0_1 l0_1.length c0_1):=(aG BK396.out 1).trans rfl
        have hcz58_2:wr.cell? ⟨gb396,2,none⟩=some (.int .i64 a0_2):=(aG BK396.out 2).trans rfl
        have hcz58_3:wr.cell? ⟨gb396,3,none⟩=some (.int .i64 a0_3):=(aG BK396.out 3).trans rfl
        have hcz58_4:wr.cell? ⟨gb396,4,none⟩=some (.slice A0_4 l0_4.length c0_4):=(aG BK396.out 4).trans rfl
        have hfz58_0:=aH BK396.out 0
        have hfz58_1:=aH BK396.out 1
        have hfz58_2:=aH BK396.out 2
        have hfz58_3:=aH BK396.out 3
        have hfz58_4:=aH BK396.out 4
        go_wp2
        go_ret2
        exact⟨_,_,by first|rfl|(simp [errW_none,errW_some]<;>rfl)|(simp [*,errW_none,errW_some]<;>rfl),by(with_reducible repeat(first|apply Kd.S_alloc|apply aV|apply aW));exact Kd.S_mono HO_9.out (fun _ hk=>trivial),by(with_reducible repeat(first|apply aA|apply aB|apply aC));exact HO_10.out,by repeat(first|(with_reducible first|exact HB.out|apply aN|apply aP|apply aO|refine aL ?_ GE396.out)|exact HB.out)⟩
 ·replace c3:=Bool.eq_false_iff.mpr c3
  subst c3
  have H1:(some (([]:List (List Int)),([]:List (S78))))=some (r1,r2):=by rw [if_neg (show ¬(false=true) by decide)] at H;exact H
  clear H
  have H:=H1
  clear H1
  simp only [Option.some.injEq,Prod.mk.injEq] at H
  obtain⟨rfl,rfl⟩:=H
  go_enter Try.func20,Try.ntmps20
  go_wp2_with (first|((with_reducible refine bJ (N:=1) rfl ?_);refine box_event ?hg (N:=1) ?hd (cs:=#[.slice A0_0 l0_0.length c0_0,.slice A0_1 l0_1.length c0_1,.int .i64 a0_2,.int .i64 a0_3,.slice A0_4 l0_4.length c0_4]) (t:=26) ?hr ?_;(case hd=>rfl);(case hg=>rfl);(case hr=>first|(go_simp;done)|(go_simp;rfl));intro gb396 hg w59 hbox hb;have n0_:=aM (bG (by repeat(first|(with_reducible first|exact HB.out|apply aN|apply aP|apply aO)|exact HB.out)) hb);have n1_:=aM (hbox);have n2_:=aM ((by rw [hg];exact(bH (by repeat(first|(with_reducible first|exact HB.out|apply aN|apply aP|apply aO)|exact HB.out))):w.heap.size≤gb396));have n3_:=aM ((by rw [hg];exact(bH (by repeat(first|(with_reducible first|exact HB.out|apply aN|apply aP|apply aO)|exact HB.out))):w.heap.size≤gb396));clear HB;have HB:=n0_;have BK396:=n1_;have GW396:=n2_;have GE396:=n3_;clear n0_ n1_ n2_ n3_;clear hb hbox hg;have hcz60_0:w59.cell? ⟨gb396,0,none⟩=some (.slice A0_0 l0_0.length c0_0):=(aG BK396.out 0).trans rfl;have hcz60_1:w59.cell? ⟨gb396,1,none⟩=some (.slice A0_1 l0_1.length c0_1):=(aG BK396.out 1).trans rfl;have hcz60_2:w59.cell? ⟨gb396,2,none⟩=some (.int .i64 a0_2):=(aG BK396.out 2).trans rfl;have hcz60_3:w59.cell? ⟨gb396,3,none⟩=some (.int .i64 a0_3):=(aG BK396.out 3).trans rfl;have hcz60_4:w59.cell? ⟨gb396,4,none⟩=some (.slice A0_4 l0_4.length c0_4):=(aG BK396.out 4).trans rfl;have hfz60_0:=aH BK396.out 0;have hfz60_1:=aH BK396.out 1;have hfz60_2:=aH BK396.out 2;have hfz60_3:=aH BK396.out 3;have hfz60_4:=aH BK396.out 4)|((with_reducible refine bI (f:=30) rfl ?_);refine goesL_ (some 17) rfl rfl Try.func30 (by kernel_rfl) rfl #[.agg #[.slice A0_0 l0_0.length c0_0,.slice A0_1 l0_1.length c0_1,.int .i64 a0_2,.int .i64 a0_3,.slice A0_4 l0_4.length c0_4]] rfl (by(try simp only [List.map_toArray,List.map_cons,List.map_nil]);first|done|rfl|(simp only [List.length_drop,List.length_take];rfl)) ?_;(with_reducible refine(regletref13_Right.calls k _ _ l0_0 _ _ l0_1 a0_2 a0_3 _ _ l0_4 false _ ?side1 ?side2 ?side3 ?side4 ?side5 ?side6 A2.out).mono ?_);(case side1=>repeat(first|exact(bD HR0_0.out HB.out)|(with_reducible refine Kd.C_alloc ?_ _)|(with_reducible refine Kd.C_drewN ?_ _)|(with_reducible refine bC ?_)));(case side2=>exact HC0_0.out);(case side3=>repeat(first|exact(bD HR0_1.out HB.out)|(with_reducible refine Kd.C_alloc ?_ _)|(with_reducible refine Kd.C_drewN ?_ _)|(with_reducible refine bC ?_)));(case side4=>exact HC0_1.out);(case side5=>repeat(first|exact(bD HR0_4.out HB.out)|(with_reducible refine Kd.C_alloc ?_ _)|(with_reducible refine Kd.C_drewN ?_ _)|(with_reducible refine bC ?_)));(case side6=>exact HC0_4.out);rintro e w61 ⟨rfl,hb⟩;refine⟨_,rfl,?_⟩;have n0_:=aM (bF (g:=gb396) (o:= .cells #[.slice A0_0 l0_0.length c0_0,.slice A0_1 l0_1.length c0_1,.int .i64 a0_2,.int .i64 a0_3,.slice A0_4 l0_4.length c0_4] 26 (0,0)) (by(with_reducible repeat(first|refine aJ ?_ _|refine aK ?_|refine aI ?_ _));exact BK396.out) hb);have n1_:=aM (bG (by repeat(first|(with_reducible first|exact HB.out|apply aN|apply aP|apply aO|refine aL ?_ GE396.out)|exact HB.out)) hb);clear BK396;clear HB;have BK396:=n0_;have HB:=n1_;clear n0_ n1_;(try clear hb);(try clear hb2);(try clear hk);(try clear hi)))
  go_ret2
  exact⟨_,_,by first|rfl|(simp [errW_none,errW_some]<;>rfl)|(simp [*,errW_none,errW_some]<;>rfl),by first|exact Kd.S_nil _ _ _ _ _|exact Kd.N_nil _ _ _ _ _|exact Kd.V_nil _ _ _ _ _|exact Kd.Q_nil _ _ _ _ _|exact Kd.R_nil _ _ _ _ _,by first|exact Kd.R_nil _ _ _ _ _|exact Kd.N_nil _ _ _ _ _|exact Kd.V_nil _ _ _ _ _|exact Kd.Q_nil _ _ _ _ _|exact Kd.S_nil _ _ _ _ _,by repeat(first|(with_reducible first|exact HB.out|apply aN|apply aP|apply aO|refine aL ?_ GE396.out)|exact HB.out)⟩
attribute [local go_sem] max2_int min2_int max_two min_two max_three min_three max_four min_four   -- for this text's walks alone
set_option linter.unusedVariables false
set_option linter.unusedSimpArgs false
def regletlaw16_table.f (k:Nat) (l0_0:List ByteArray) (l0_1:List (S72)) (a0_2:Int) (a0_3:Int) (l0_4:List (S35)) (a1:Int) (a2:Int):Option ((List (List Int))):=(regletref14_Predict.f k l0_0 l0_1 a0_2 a0_3 l0_4).bind fun bt430=>(if a1<200 then(if(bt430.1.length:Int)>0 then(if(bt430.1.length:Int)=0 then(none) else(if 0≤(Int.tmod (wrap64 (a1)) (bt430.1.length:Int)) then(if(Int.tmod (wrap64 (a1)) (bt430.1.length:Int))<(bt430.1.length:Int) then(if((rd_L5 bt430.1 (Int.tmod (wrap64 (a1)) (bt430.1.length:Int))).length:Int)=0 then(none) else(if(wrap64 ((l0_4.length:Int)+2))=0 then(none) else(if 0≤(Int.tmod (wrap64 (Int.tdiv (wrap64 (a1)) 8)) ((rd_L5 bt430.1 (Int.tmod (wrap64 (a1)) (bt430.1.length:Int))).length:Int)) then(if(Int.tmod (wrap64 (Int.tdiv (wrap64 (a1)) 8)) ((rd_L5 bt430.1 (Int.tmod (wrap64 (a1)) (bt430.1.length:Int))).length:Int))<((rd_L5 bt430.1 (Int.tmod (wrap64 (a1)) (bt430.1.length:Int))).length:Int) then(some (bt430.1.set ((Int.tmod (wrap64 (a1)) (bt430.1.length:Int)):Int).toNat ((rd_L5 bt430.1 (Int.tmod (wrap64 (a1)) (bt430.1.length:Int))).set ((Int.tmod (wrap64 (Int.tdiv (wrap64 (a1)) 8)) ((rd_L5 bt430.1 (Int.tmod (wrap64 (a1)) (bt430.1.length:Int))).length:Int)):Int).toNat (wrap64 ((Int.tmod (wrap64 (a2)) (wrap64 ((l0_4.length:Int)+2))) - 1))))) else(none)) else(none)))) else(none)) else(none))) else(some bt430.1)) else(some bt430.1))
set_option maxHeartbeats 8000000 in
set_option maxRecDepth 100000 in
theorem regletlaw16_table.calls (k:Nat) (A0_0:Option Addr) (c0_0:Nat) (l0_0:List ByteArray) (A0_1:Option Addr) (c0_1:Nat) (l0_1:List (S72)) (a0_2:Int) (a0_3:Int) (A0_4:Option Addr) (c0_4:Nat) (l0_4:List (S35)) (a1:Int) (a2:Int) (r:List (List Int)) (w:World) (hr0_0:Kd.C Kd.string w A0_0 l0_0.length l0_0) (hc0_0:l0_0.length≤c0_0) (hr0_1:Kd.C k72 w A0_1 l0_1.length l0_1) (hc0_1:l0_1.length≤c0_1) (hr0_4:Kd.C k35 w A0_4 l0_4.length l0_4) (hc0_4:l0_4.length≤c0_4) (h:regletlaw16_table.f k l0_0 l0_1 a0_2 a0_3 l0_4 a1 a2=some r):
 Calls Try.prog 14 #[.agg #[.slice A0_0 l0_0.length c0_0,.slice A0_1 l0_1.length c0_1,.int .i64 a0_2,.int .i64 a0_3,.slice A0_4 l0_4.length c0_4],.int .u8 a1,.int .u8 a2] w fun e w'=>∃v0_:Value,e= .returned (v0_)∧Kd.S (Kd.slice 3 (Kd.int .i64)) 32 w' w.heap.size (fun _=>True) v0_ r∧Below w.heap.size w w':=by
 have hu26:=Try.underlying26
 have HR0_0:=aM hr0_0
 have HC0_0:=aM hc0_0
 clear hr0_0 hc0_0
 have HR0_1:=aM hr0_1
 have HC0_1:=aM hc0_1
 clear hr0_1 hc0_1
 have HR0_4:=aM hr0_4
 have HC0_4:=aM hc0_4
 clear hr0_4 hc0_4
 have HB:=aM (Below.refl w.heap.size w)
 have H:((regletref14_Predict.f k l0_0 l0_1 a0_2 a0_3 l0_4).bind fun bt430=>(if a1<200 then(if(bt430.1.length:Int)>0 then(if(bt430.1.length:Int)=0 then(none) else(if 0≤(Int.tmod (wrap64 (a1)) (bt430.1.length:Int)) then(if(Int.tmod (wrap64 (a1)) (bt430.1.length:Int))<(bt430.1.length:Int) then(if((rd_L5 bt430.1 (Int.tmod (wrap64 (a1)) (bt430.1.length:Int))).length:Int)=0 then(none) else(if(wrap64 ((l0_4.length:Int)+2))=0 then(none) else(if 0≤(Int.tmod (wrap64 (Int.tdiv (wrap64 (a1)) 8)) ((rd_L5 bt430.1 (Int.tmod (wrap64 (a1)) (bt430.1.length:Int))).length:Int)) then(if(Int.tmod (wrap64 (Int.tdiv (wrap64 (a1)) 8)) ((rd_L5 bt430.1 (Int.tmod (wrap64 (a1)) (bt430.1.length:Int))).length:Int))<((rd_L5 bt430.1 (Int.tmod (wrap64 (a1)) (bt430.1.length:Int))).length:Int) then(some (bt430.1.set ((Int.tmod (wrap64 (a1)) (bt430.1.length:Int)):Int).toNat ((rd_L5 bt430.1 (Int.tmod (wrap64 (a1)) (bt430.1.length:Int))).set ((Int.tmod (wrap64 (Int.tdiv (wrap64 (a1)) 8)) ((rd_L5 bt430.1 (Int.tmod (wrap64 (a1)) (bt430.1.length:Int))).length:Int)):Int).toNat (wrap64 ((Int.tmod (wrap64 (a2)) (wrap64 ((l0_4.length:Int)+2))) - 1))))) else(none)) else(none)))) else(none)) else(none))) else(some bt430.1)) else(some bt430.1)))=some r:=h
 clear h
 replace H:=Option.bind_eq_some_iff.mp H
 obtain⟨⟨t430,t433⟩,A40,H⟩:=H
 replace H:(if a1<200 then(if(t430.length:Int)>0 then(if(t430.length:Int)=0 then(none) else(if 0≤(Int.tmod (wrap64 (a1)) (t430.length:Int)) then(if(Int.tmod (wrap64 (a1)) (t430.length:Int))<(t430.length:Int) then(if((rd_L5 t430 (Int.tmod (wrap64 (a1)) (t430.length:Int))).length:Int)=0 then(none) else(if(wrap64 ((l0_4.length:Int)+2))=0 then(none) else(if 0≤(Int.tmod (wrap64 (Int.tdiv (wrap64 (a1)) 8)) ((rd_L5 t430 (Int.tmod (wrap64 (a1)) (t430.length:Int))).length:Int)) then(if(Int.tmod (wrap64 (Int.tdiv (wrap64 (a1)) 8)) ((rd_L5 t430 (Int.tmod (wrap64 (a1)) (t430.length:Int))).length:Int))<((rd_L5 t430 (Int.tmod (wrap64 (a1)) (t430.length:Int))).length:Int) then(some (t430.set ((Int.tmod (wrap64 (a1)) (t430.length:Int)):Int).toNat ((rd_L5 t430 (Int.tmod (wrap64 (a1)) (t430.length:Int))).set ((Int.tmod (wrap64 (Int.tdiv (wrap64 (a1)) 8)) ((rd_L5 t430 (Int.tmod (wrap64 (a1)) (t430.length:Int))).length:Int)):Int).toNat (wrap64 ((Int.tmod (wrap64 (a2)) (wrap64 ((l0_4.length:Int)+2))) - 1))))) else(none)) else(none)))) else(none)) else(none))) else(some t430)) else(some t430))=some r:=H
 have A4:=aM A40
 clear A40
 by_cases c5:a1<200
 ·rw [if_pos c5] at H
  have c5b0:decide (a1<200)=true:=decide_eq_true c5
  clear c5
  by_cases c6:(t430.length:Int)>0
  ·rw [if_pos c6] at H
   have c6b0:decide (0<(t430.length:Int))=true:=decide_eq_true c6
   have c6b1:decide (0<t430.length)=true:=decide_eq_true (by omega)
   clear c6
   by_cases c7:(t430.length:Int)=0
   ·rw [if_pos c7] at H
    exact absurd H (by simp)
   rw [if_neg c7] at H
   have c7b0:((t430.length:Int)==0)=false:=beq_eq_false_iff_ne.mpr c7
   have c7b1:((t430.length:Int) !=0)=true:=bne_iff_ne.mpr c7
   have c7b2:¬(t430= []):=fun h_=>c7 (by rw [h_];rfl)
   obtain⟨ji8,hji8⟩:∃j_:Int,(Int.tmod (wrap64 (a1)) (t430.length:Int))=j_:=⟨_,rfl⟩
   replace H:(if 0≤(ji8) then(if(ji8)<(t430.length:Int) then(if((rd_L5 t430 (ji8)).length:Int)=0 then(none) else(if(wrap64 ((l0_4.length:Int)+2))=0 then(none) else(if 0≤(Int.tmod (wrap64 (Int.tdiv (wrap64 (a1)) 8)) ((rd_L5 t430 (ji8)).length:Int)) then(if(Int.tmod (wrap64 (Int.tdiv (wrap64 (a1)) 8)) ((rd_L5 t430 (ji8)).length:Int))<((rd_L5 t430 (ji8)).length:Int) then(some (t430.set ((ji8):Int).toNat ((rd_L5 t430 (ji8)).set ((Int.tmod (wrap64 (Int.tdiv (wrap64 (a1)) 8)) ((rd_L5 t430 (ji8)).length:Int)):Int).toNat (wrap64 ((Int.tmod (wrap64 (a2)) (wrap64 ((l0_4.length:Int)+2))) - 1))))) else(none)) else(none)))) else(none)) else(none))=some r:=by first|(rw [hji8] at H;exact H)|(simp only [hji8] at H ⊢;exact H)
   (try rw [hji8] at A4)
   by_cases c9:0≤(ji8)
   rotate_left
   ·rw [if_neg c9] at H
    exact absurd H (by simp)
   rw [if_pos c9] at H
   have c9b0:decide (0≤(ji8))=true:=decide_eq_true c9
   clear c9
   by_cases c10:(ji8)<(t430.length:Int)
   rotate_left
   ·rw [if_neg c10] at H
    exact absurd H (by simp)
   rw [if_pos c10] at H
   have c10b0:decide ((ji8)<(t430.length:Int))=true:=decide_eq_true c10
   clear c10
   by_cases c11:((rd_L5 t430 (ji8)).length:Int)=0
   ·rw [if_pos c11] at H
    exact absurd H (by simp)
   rw [if_neg c11] at H
   have c11b0:(((rd_L5 t430 (ji8)).length:Int)==0)=false:=beq_eq_false_iff_ne.mpr c11
   have c11b1:(((rd_L5 t430 (ji8)).length:Int) !=0)=true:=bne_iff_ne.mpr c11
   have c11b2:¬((rd_L5 t430 (ji8))= []):=fun h_=>c11 (by rw [h_];rfl)
   by_cases c12:(wrap64 ((l0_4.length:Int)+2))=0
   ·rw [if_pos c12] at H
    exact absurd H (by simp)
   rw [if_neg c12] at H
   have c12b0:((wrap64 ((l0_4.length:Int)+2))==0)=false:=beq_eq_false_iff_ne.mpr c12
   have c12b1:((wrap64 ((l0_4.length:Int)+2)) !=0)=true:=bne_iff_ne.mpr c12
   obtain⟨ji13,hji13⟩:∃j_:Int,(Int.tmod (wrap64 (Int.tdiv (wrap64 (a1)) 8)) ((rd_L5 t430 (ji8)).length:Int))=j_:=⟨_,rfl⟩
   replace H:(if 0≤(ji13) then(if(ji13)<((rd_L5 t430 (ji8)).length:Int) then(some (t430.set ((ji8):Int).toNat ((rd_L5 t430 (ji8)).set ((ji13):Int).toNat (wrap64 ((Int.tmod (wrap64 (a2)) (wrap64 ((l0_4.length:Int)+2))) - 1))))) else(none)) else(none))=some r:=by first|(rw [hji13] at H;exact H)|(simp only [hji13] at H ⊢;exact H)
   (try rw [hji13] at A4)
   by_cases c14:0≤(ji13)
   rotate_left
   ·rw [if_neg c14] at H
    exact absurd H (by simp)
   rw [if_pos c14] at H
   have c14b0:decide (0≤(ji13))=true:=decide_eq_true c14
   clear c14
   by_cases c15:(ji13)<((rd_L5 t430 (ji8)).length:Int)
   rotate_left
   ·rw [if_neg c15] at H
    exact absurd H (by simp)
   rw [if_pos c15] at H
   have c15b0:decide ((ji13)<((rd_L5 t430 (ji8)).length:Int))=true:=decide_eq_true c15
   clear c15
   obtain⟨y437,hy437⟩:∃y_:List Int,y_=((rd_L5 t430 (ji8)).set ((ji13):Int).toNat (wrap64 ((Int.tmod (wrap64 (a2)) (wrap64 ((l0_4.length:Int)+2))) - 1))):=⟨_,rfl⟩
   replace H:(some (t430.set ((ji8):Int).toNat y437))=some r:=by first|(rw [hy437];with_reducible exact H)|(have H2_:=(Option.bind_some _ _).symm.trans H;rw [hy437];with_reducible exact H2_)|(have H2_:=(Option.bind_some _ _).symm.trans H;with_reducible exact H2_)|with_reducible exact H|(rw [hy437];exact H)|exact H
   have Ny437:=aM hy437
   clear hy437
   obtain⟨y439,hy439⟩:∃y_:List (List Int),y_=(t430.set ((ji8):Int).toNat y437):=⟨_,rfl⟩
   replace H:(some y439)=some r:=by first|(rw [hy439];with_reducible exact H)|(have H2_:=(Option.bind_some _ _).symm.trans H;rw [hy439];with_reducible exact H2_)|(have H2_:=(Option.bind_some _ _).symm.trans H;with_reducible exact H2_)|with_reducible exact H|(rw [hy439];exact H)|exact H
   have Ny439:=aM hy439
   clear hy439
   obtain rfl:=Option.some.inj H
   go_enter Try.func14,Try.ntmps14
   go_wp2_with (first|((with_reducible refine bJ (N:=3) rfl ?_);(try(refine gate_guard (by rfl) ?_;dsimp only));refine box_event ?hg (N:=3) ?hd (cs:=#[.slice A0_0 l0_0.length c0_0,.slice A0_1 l0_1.length c0_1,.int .i64 a0_2,.int .i64 a0_3,.slice A0_4 l0_4.length c0_4]) (t:=26) ?hr ?_;(case hd=>rfl);(case hg=>rfl);(case hr=>first|(go_simp;done)|(go_simp;rfl));intro gb429 hg w17 hbox hb;have n0_:=aM (bG (by repeat(first|(with_reducible first|exact HB.out|apply aN|apply aP|apply aO)|exact HB.out)) hb);have n1_:=aM (hbox);have n2_:=aM ((by rw [hg];exact(bH (by repeat(first|(with_reducible first|exact HB.out|apply aN|apply aP|apply aO)|exact HB.out))):w.heap.size≤gb429));have n3_:=aM ((by rw [hg];exact(bH (by repeat(first|(with_reducible first|exact HB.out|apply aN|apply aP|apply aO)|exact HB.out))):w.heap.size≤gb429));clear HB;have HB:=n0_;have BK429:=n1_;have GW429:=n2_;have GE429:=n3_;clear n0_ n1_ n2_ n3_;clear hb hbox hg;have hcz18_0:w17.cell? ⟨gb429,0,none⟩=some (.slice A0_0 l0_0.length c0_0):=(aG BK429.out 0).trans rfl;have hcz18_1:w17.cell? ⟨gb429,1,none⟩=some (.slice A0_1 l0_1.length c0_1):=(aG BK429.out 1).trans rfl;have hcz18_2:w17.cell? ⟨gb429,2,none⟩=some (.int .i64 a0_2):=(aG BK429.out 2).trans rfl;have hcz18_3:w17.cell? ⟨gb429,3,none⟩=some (.int .i64 a0_3):=(aG BK429.out 3).trans rfl;have hcz18_4:w17.cell? ⟨gb429,4,none⟩=some (.slice A0_4 l0_4.length c0_4):=(aG BK429.out 4).trans rfl;have hfz18_0:=aH BK429.out 0;have hfz18_1:=aH BK429.out 1;have hfz18_2:=aH BK429.out 2;have hfz18_3:=aH BK429.out 3;have hfz18_4:=aH BK429.out 4)|((with_reducible refine bI (f:=20) rfl ?_);refine goesL_ (some 13) rfl rfl Try.func20 (by kernel_rfl) rfl #[.agg #[.slice A0_0 l0_0.length c0_0,.slice A0_1 l0_1.length c0_1,.int .i64 a0_2,.int .i64 a0_3,.slice A0_4 l0_4.length c0_4]] rfl (by(try simp only [List.map_toArray,List.map_cons,List.map_nil]);first|done|rfl|(simp only [List.length_drop,List.length_take];rfl)) ?_;(with_reducible refine(regletref14_Predict.calls k _ _ l0_0 _ _ l0_1 a0_2 a0_3 _ _ l0_4 t430 t433 _ ?side1 ?side2 ?side3 ?side4 ?side5 ?side6 A4.out).mono ?_);(case side1=>repeat(first|exact(bD HR0_0.out HB.out)|(with_reducible refine Kd.C_alloc ?_ _)|(with_reducible refine Kd.C_drewN ?_ _)|(with_reducible refine bC ?_)));(case side2=>exact HC0_0.out);(case side3=>repeat(first|exact(bD HR0_1.out HB.out)|(with_reducible refine Kd.C_alloc ?_ _)|(with_reducible refine Kd.C_drewN ?_ _)|(with_reducible refine bC ?_)));(case side4=>exact HC0_1.out);(case side5=>repeat(first|exact(bD HR0_4.out HB.out)|(with_reducible refine Kd.C_alloc ?_ _)|(with_reducible refine Kd.C_drewN ?_ _)|(with_reducible refine bC ?_)));(case side6=>exact HC0_4.out);rintro e w19 ⟨v431,v434,rfl,ho0,ho1,hb⟩;refine⟨_,rfl,?_⟩;have n0_:=aM (Kd.S_lower ho0 (bH (by repeat(first|(with_reducible first|exact HB.out|apply aN|apply aP|apply aO|refine aL ?_ GE429.out)|exact HB.out))));have n1_:=aM (bL ho1 (bH (by repeat(first|(with_reducible first|exact HB.out|apply aN|apply aP|apply aO|refine aL ?_ GE429.out)|exact HB.out))));have n2_:=aM (bF (g:=gb429) (o:= .cells #[.slice A0_0 l0_0.length c0_0,.slice A0_1 l0_1.length c0_1,.int .i64 a0_2,.int .i64 a0_3,.slice A0_4 l0_4.length c0_4] 26 (0,0)) (by(with_reducible repeat(first|refine aJ ?_ _|refine aK ?_|refine aI ?_ _));exact BK429.out) hb);have n3_:=aM (bG (by repeat(first|(with_reducible first|exact HB.out|apply aN|apply aP|apply aO|refine aL ?_ GE429.out)|exact HB.out)) hb);clear BK429;clear HB;have HO432:=n0_;have HO435:=n1_;have BK429:=n2_;have HB:=n3_;clear n0_ n1_ n2_ n3_;(try clear hb);(try clear hb2);(try clear hk);(try clear hi);(try clear ho0);(try clear ho1);obtain⟨Ao20,co20,eo20⟩:=Kd.S_slice HO432.out;subst eo20;have p436:0≤((ji8):Int):=of_decide_eq_true (by first|(with_reducible assumption)|assumption);have q436:(ji8)<(t430.length:Int):=of_decide_eq_true (by first|(with_reducible assumption)|assumption);obtain⟨ad436,A436_0,c436_0,e436,hx436_0,hl436_0,hi436_0⟩:=at_L5 (Kd.S_reads' HO432.out).2.2 (ji8) p436 q436;cases e436;obtain⟨ce436,hce436,hMe436,hcc436⟩:=Kd.S_get HO432.out [] (ji8) p436 (by first|exact q436|exact of_decide_eq_true (by first|(with_reducible assumption)|assumption)|(have e_:=(Kd.S_reads' HO432.out).1;omega));obtain⟨ve436_0,rfl,ge436_0⟩:=hMe436;have hv436_0:=hcc436 0 _ rfl;rw [Nat.add_zero,show((Kd.slice 3 (Kd.int .i64))).sz=1 from rfl,Nat.mul_one] at hv436_0;replace hv436_0:=Option.some.inj (hv436_0.symm.trans hx436_0);rw [hv436_0] at ge436_0;have HL436_0:=aM (show Kd.R (Kd.int .i64) 3 _ _ _ _ (rd_L5 t430 (ji8)) from ge436_0);clear hv436_0 ge436_0;have HX436_0:=aM hx436_0;clear hcc436 hce436;have HR436_0:=aM hi436_0;have HC436_0:=aM hl436_0;clear hi436_0 hl436_0;replace p436:=eq_true p436;replace q436:=eq_true q436;have hcz21_0:w19.cell? ⟨gb429,0,none⟩=some (.slice A0_0 l0_0.length c0_0):=(aG BK429.out 0).trans rfl;have hcz21_1:w19.cell? ⟨gb429,1,none⟩=some (.slice A0_1 l0_1.length c0_1):=(aG BK429.out 1).trans rfl;have hcz21_2:w19.cell? ⟨gb429,2,none⟩=some (.int .i64 a0_2):=(aG BK429.out 2).trans rfl;have hcz21_3:w19.cell? ⟨gb429,3,none⟩=some (.int .i64 a0_3):=(aG BK429.out 3).trans rfl;have hcz21_4:w19.cell? ⟨gb429,4,none⟩=some (.slice A0_4 l0_4.length c0_4):=(aG BK429.out 4).trans rfl;have hfz21_0:=aH BK429.out 0;have hfz21_1:=aH BK429.out 1;have hfz21_2:=aH BK429.out 2;have hfz21_3:=aH BK429.out 3;have hfz21_4:=aH BK429.out 4;have p16:0≤((ji13):Int):=of_decide_eq_true (by first|(with_reducible assumption)|assumption);have q16:((ji13):Int)<(((rd_L5 t430 (ji8)).length:Int):Int):=of_decide_eq_true (by first|(with_reducible assumption)|assumption);obtain⟨go16,co16,eo16,gb16,gl16,cl16,HG16⟩:=Kd.R_form HL436_0.out (by omega);(first|cases eo16|(injection eo16 with ea_ en_ ec_;(first|subst ea_|(injection ea_ with ea_;subst ea_));subst ec_;clear en_));have GB16:=aM gb16;have GG16:=aM HG16;clear gb16 gl16 HG16;obtain⟨hx16_0,hf16_0⟩:=Kd.R_celln 0 HL436_0.out ((ji13):Int) p16 q16;replace p16:=eq_true p16;replace q16:=eq_true q16;have hq22:((ji8):Int)<(t430.length:Int):=(by have h_:((ji8):Int)<((t430.length:Int):Int):=of_decide_eq_true (by first|(with_reducible assumption)|assumption);first|exact h_|(have e_:=(Kd.S_reads' HO432.out).1;omega)|simpa only [List.length_set,List.length_set] using h_);obtain⟨oki22,ce22,hcl22,hM22,hcc22,hok22,hbk22⟩:=Kd.S_borrow HO432.out [] ((ji8):Int) (of_decide_eq_true (by first|(with_reducible assumption)|assumption)) hq22;obtain⟨ve22_0,rfl,ge22_0⟩:=hM22;have hv22:=hcc22 0 _ rfl;rw [Nat.add_zero,show((Kd.slice 3 (Kd.int .i64))).sz=1 from rfl,Nat.mul_one] at hv22;replace hv22:=Option.some.inj (hv22.symm.trans HX436_0.out);subst hv22;clear hcc22 hcl22;replace ge22_0:=(show Kd.R (Kd.int .i64) 3 _ _ _ _ (rd_L5 t430 (ji8)) from ge22_0);have HP22:=Kd.R_putg ge22_0 ((ji13):Int) (wrap64 ((Int.tmod (wrap64 (a2)) (wrap64 ((l0_4.length:Int)+2))) - 1)))|((with_reducible refine gate_store (t:=3) (p:=47) rfl ?_);refine store_event (t:=3) (p:=47) (v:=?vo_w23) (w1:=(w19.setCell ⟨go16,((ji13):Int).toNat,none⟩ (.int .i64 (wrap64 ((Int.tmod (wrap64 (a2)) (wrap64 ((l0_4.length:Int)+2))) - 1))))) ?hg ?ho ?hn ?hr ?_;(case ho=>rfl);(case hg=>rfl);(case hn=>rfl);(case hr=>first|(go_simp;done)|(go_simp;rfl));intro w23 hw;have hg:w19.grownBy w23 (some go16):=(by rw [hw];exact HP22.2);have hz_:Kd.R (Kd.int .i64) 3 w23 w.heap.size oki22 (.slice (some ⟨go16,0,none⟩) (rd_L5 t430 (ji8)).length c436_0) y437:=(by rw [hw,Ny437.out];exact HP22.1);have hp_:Kd.S (Kd.slice 3 (Kd.int .i64)) 32 w23 w.heap.size (fun _=>True) (.slice (some ad436) t430.length co20) y439:=(by rw [Ny439.out];exact hbk22 hg (fun k_ e_=>by injection e_ with e_;subst e_;exact ge22_0.1 _ rfl) (Kd.M_row hz_));have hm_:=Kd.R_mono hz_ hok22;clear HP22 hbk22;have n0_:=aM (blk_grown (g:=gb429) (o:= .cells #[.slice A0_0 l0_0.length c0_0,.slice A0_1 l0_1.length c0_1,.int .i64 a0_2,.int .i64 a0_3,.slice A0_4 l0_4.length c0_4] 26 (0,0)) (by(with_reducible repeat(first|refine aJ ?_ _|refine aK ?_|refine aI ?_ _));exact BK429.out) hg (Kd.R_ne HL436_0.out BK429.out (by decide)));have n1_:=aM (hp_);have n2_:=aM (Kd.R_over' (v:=(.slice (some ⟨go16,0,none⟩) (rd_L5 t430 (ji8)).length c436_0)) (by(with_reducible repeat(first|apply aA|apply aB|apply aC));exact HO435.out) (Kd.R_typed HL436_0.out) (by decide) hg);have n3_:=aM ((by rw [hw];exact aL (HB.out) GB16.out:Below w.heap.size w w23));have n4_:=aM (hm_);have n5_:=aM ((aF hm_).2.1);clear BK429;clear HO432;clear HO435;clear HB;clear HL436_0;have BK429:=n0_;have HO432:=n1_;have HO435:=n2_;have HB:=n3_;have HL440:=n4_;have HC438:=n5_;clear n0_ n1_ n2_ n3_ n4_ n5_;clear hg hw hp_ hz_ hm_ hok22))
   go_ret
   exact⟨_,by first|rfl|(simp [errW_none,errW_some]<;>rfl)|(simp only [←hji8,←hji13];first|rfl|(simp [errW_none,errW_some]<;>rfl))|(simp [*,errW_none,errW_some]<;>rfl),by(with_reducible repeat(first|apply Kd.S_alloc|apply aV|apply aW));exact HO432.out,by repeat(first|(with_reducible first|exact HB.out|apply aN|apply aP|apply aO|refine aL ?_ GE429.out)|exact HB.out)⟩
  ·rw [if_neg c6] at H
   have c6b0:decide (0<(t430.length:Int))=false:=decide_eq_false c6
   have c6b1:decide (0<t430.length)=false:=decide_eq_false (by omega)
   clear c6
   obtain rfl:=Option.some.inj H
   go_enter Try.func14,Try.ntmps14
   go_wp2_with (first|((with_reducible refine bJ (N:=3) rfl ?_);(try(refine gate_guard (by rfl) ?_;dsimp only));refine box_event ?hg (N:=3) ?hd (cs:=#[.slice A0_0 l0_0.length c0_0,.slice A0_1 l0_1.length c0_1,.int .i64 a0_2,.int .i64 a0_3,.slice A0_4 l0_4.length c0_4]) (t:=26) ?hr ?_;(case hd=>rfl);(case hg=>rfl);(case hr=>first|(go_simp;done)|(go_simp;rfl));intro gb429 hg w24 hbox hb;have n0_:=aM (bG (by repeat(first|(with_reducible first|exact HB.out|apply aN|apply aP|apply aO)|exact HB.out)) hb);have n1_:=aM (hbox);have n2_:=aM ((by rw [hg];exact(bH (by repeat(first|(with_reducible first|exact HB.out|apply aN|apply aP|apply aO)|exact HB.out))):w.heap.size≤gb429));have n3_:=aM ((by rw [hg];exact(bH (by repeat(first|(with_reducible first|exact HB.out|apply aN|apply aP|apply aO)|exact HB.out))):w.heap.size≤gb429));clear HB;have HB:=n0_;have BK429:=n1_;have GW429:=n2_;have GE429:=n3_;clear n0_ n1_ n2_ n3_;clear hb hbox hg;have hcz25_0:w24.cell? ⟨gb429,0,none⟩=some (.slice A0_0 l0_0.length c0_0):=(aG BK429.out 0).trans rfl;have hcz25_1:w24.cell? ⟨gb429,1,none⟩=some (.slice A0_1 l0_1.length c0_1):=(aG BK429.out 1).trans rfl;have hcz25_2:w24.cell? ⟨gb429,2,none⟩=some (.int .i64 a0_2):=(aG BK429.out 2).trans rfl;have hcz25_3:w24.cell? ⟨gb429,3,none⟩=some (.int .i64 a0_3):=(aG BK429.out 3).trans rfl;have hcz25_4:w24.cell? ⟨gb429,4,none⟩=some (.slice A0_4 l0_4.length c0_4):=(aG BK429.out 4).trans rfl;have hfz25_0:=aH BK429.out 0;have hfz25_1:=aH BK429.out 1;have hfz25_2:=aH BK429.out 2;have hfz25_3:=aH BK429.out 3;have hfz25_4:=aH BK429.out 4)|((with_reducible refine bI (f:=20) rfl ?_);refine goesL_ (some 13) rfl rfl Try.func20 (by kernel_rfl) rfl #[.agg #[.slice A0_0 l0_0.length c0_0,.slice A0_1 l0_1.length c0_1,.int .i64 a0_2,.int .i64 a0_3,.slice A0_4 l0_4.length c0_4]] rfl (by(try simp only [List.map_toArray,List.map_cons,List.map_nil]);first|done|rfl|(simp only [List.length_drop,List.length_take];rfl)) ?_;(with_reducible refine(regletref14_Predict.calls k _ _ l0_0 _ _ l0_1 a0_2 a0_3 _ _ l0_4 t430 t433 _ ?side1 ?side2 ?side3 ?side4 ?side5 ?side6 A4.out).mono ?_);(case side1=>repeat(first|exact(bD HR0_0.out HB.out)|(with_reducible refine Kd.C_alloc ?_ _)|(with_reducible refine Kd.C_drewN ?_ _)|(with_reducible refine bC ?_)));(case side2=>exact HC0_0.out);(case side3=>repeat(first|exact(bD HR0_1.out HB.out)|(with_reducible refine Kd.C_alloc ?_ _)|(with_reducible refine Kd.C_drewN ?_ _)|(with_reducible refine bC ?_)));(case side4=>exact HC0_1.out);(case side5=>repeat(first|exact(bD HR0_4.out HB.out)|(with_reducible refine Kd.C_alloc ?_ _)|(with_reducible refine Kd.C_drewN ?_ _)|(with_reducible refine bC ?_)));(case side6=>exact HC0_4.out);rintro e w26 ⟨v431,v434,rfl,ho0,ho1,hb⟩;refine⟨_,rfl,?_⟩;have n0_:=aM (Kd.S_lower ho0 (bH (by repeat(first|(with_reducible first|exact HB.out|apply aN|apply aP|apply aO|refine aL ?_ GE429.out)|exact HB.out))));have n1_:=aM (bL ho1 (bH (by repeat(first|(with_reducible first|exact HB.out|apply aN|apply aP|apply aO|refine aL ?_ GE429.out)|exact HB.out))));have n2_:=aM (bF (g:=gb429) (o:= .cells #[.slice A0_0 l0_0.length c0_0,.slice A0_1 l0_1.length c0_1,.int .i64 a0_2,.int .i64 a0_3,.slice A0_4 l0_4.length c0_4] 26 (0,0)) (by(with_reducible repeat(first|refine aJ ?_ _|refine aK ?_|refine aI ?_ _));exact BK429.out) hb);have n3_:=aM (bG (by repeat(first|(with_reducible first|exact HB.out|apply aN|apply aP|apply aO|refine aL ?_ GE429.out)|exact HB.out)) hb);clear BK429;clear HB;have HO432:=n0_;have HO435:=n1_;have BK429:=n2_;have HB:=n3_;clear n0_ n1_ n2_ n3_;(try clear hb);(try clear hb2);(try clear hk);(try clear hi);(try clear ho0);(try clear ho1);obtain⟨Ao27,co27,eo27⟩:=Kd.S_slice HO432.out;subst eo27))
   go_ret
   exact⟨_,by first|rfl|(simp [errW_none,errW_some]<;>rfl)|(simp [*,errW_none,errW_some]<;>rfl),by(with_reducible repeat(first|apply Kd.S_alloc|apply aV|apply aW));exact HO432.out,by repeat(first|(with_reducible first|exact HB.out|apply aN|apply aP|apply aO|refine aL ?_ GE429.out)|exact HB.out)⟩
 ·rw [if_neg c5] at H
  have c5b0:decide (a1<200)=false:=decide_eq_false c5
  clear c5
  obtain rfl:=Option.some.inj H
  go_enter Try.func14,Try.ntmps14
  go_wp2_with (first|((with_reducible refine bJ (N:=3) rfl ?_);(try(refine gate_guard (by rfl) ?_;dsimp only));refine box_event ?hg (N:=3) ?hd (cs:=#[.slice A0_0 l0_0.length c0_0,.slice A0_1 l0_1.length c0_1,.int .i64 a0_2,.int .i64 a0_3,.slice A0_4 l0_4.length c0_4]) (t:=26) ?hr ?_;(case hd=>rfl);(case hg=>rfl);(case hr=>first|(go_simp;done)|(go_simp;rfl));intro gb429 hg w28 hbox hb;have n0_:=aM (bG (by repeat(first|(with_reducible first|exact HB.out|apply aN|apply aP|apply aO)|exact HB.out)) hb);have n1_:=aM (hbox);have n2_:=aM ((by rw [hg];exact(bH (by repeat(first|(with_reducible first|exact HB.out|apply aN|apply aP|apply aO)|exact HB.out))):w.heap.size≤gb429));have n3_:=aM ((by rw [hg];exact(bH (by repeat(first|(with_reducible first|exact HB.out|apply aN|apply aP|apply aO)|exact HB.out))):w.heap.size≤gb429));clear HB;have HB:=n0_;have BK429:=n1_;have GW429:=n2_;have GE429:=n3_;clear n0_ n1_ n2_ n3_;clear hb hbox hg;have hcz29_0:w28.cell? ⟨gb429,0,none⟩=some (.slice A0_0 l0_0.length c0_0):=(aG BK429.out 0).trans rfl;have hcz29_1:w28.cell? ⟨gb429,1,none⟩=some (.slice A0_1 l0_1.length c0_1):=(aG BK429.out 1).trans rfl;have hcz29_2:w28.cell? ⟨gb429,2,none⟩=some (.int .i64 a0_2):=(aG BK429.out 2).trans rfl;have hcz29_3:w28.cell? ⟨gb429,3,none⟩=some (.int .i64 a0_3):=(aG BK429.out 3).trans rfl;have hcz29_4:w28.cell? ⟨gb429,4,none⟩=some (.slice A0_4 l0_4.length c0_4):=(aG BK429.out 4).trans rfl;have hfz29_0:=aH BK429.out 0;have hfz29_1:=aH BK429.out 1;have hfz29_2:=aH BK429.out 2;have hfz29_3:=aH BK429.out 3;have hfz29_4:=aH BK429.out 4)|((with_reducible refine bI (f:=20) rfl ?_);refine goesL_ (some 13) rfl rfl Try.func20 (by kernel_rfl) rfl #[.agg #[.slice A0_0 l0_0.length c0_0,.slice A0_1 l0_1.length c0_1,.int .i64 a0_2,.int .i64 a0_3,.slice A0_4 l0_4.length c0_4]] rfl (by(try simp only [List.map_toArray,List.map_cons,List.map_nil]);first|done|rfl|(simp only [List.length_drop,List.length_take];rfl)) ?_;(with_reducible refine(regletref14_Predict.calls k _ _ l0_0 _ _ l0_1 a0_2 a0_3 _ _ l0_4 t430 t433 _ ?side1 ?side2 ?side3 ?side4 ?side5 ?side6 A4.out).mono ?_);(case side1=>repeat(first|exact(bD HR0_0.out HB.out)|(with_reducible refine Kd.C_alloc ?_ _)|(with_reducible refine Kd.C_drewN ?_ _)|(with_reducible refine bC ?_)));(case side2=>exact HC0_0.out);(case side3=>repeat(first|exact(bD HR0_1.out HB.out)|(with_reducible refine Kd.C_alloc ?_ _)|(with_reducible refine Kd.C_drewN ?_ _)|(with_reducible refine bC ?_)));(case side4=>exact HC0_1.out);(case side5=>repeat(first|exact(bD HR0_4.out HB.out)|(with_reducible refine Kd.C_alloc ?_ _)|(with_reducible refine Kd.C_drewN ?_ _)|(with_reducible refine bC ?_)));(case side6=>exact HC0_4.out);rintro e w30 ⟨v431,v434,rfl,ho0,ho1,hb⟩;refine⟨_,rfl,?_⟩;have n0_:=aM (Kd.S_lower ho0 (bH (by repeat(first|(with_reducible first|exact HB.out|apply aN|apply aP|apply aO|refine aL ?_ GE429.out)|exact HB.out))));have n1_:=aM (bL ho1 (bH (by repeat(first|(with_reducible first|exact HB.out|apply aN|apply aP|apply aO|refine aL ?_ GE429.out)|exact HB.out))));have n2_:=aM (bF (g:=gb429) (o:= .cells #[.slice A0_0 l0_0.length c0_0,.slice A0_1 l0_1.length c0_1,.int .i64 a0_2,.int .i64 a0_3,.slice A0_4 l0_4.length c0_4] 26 (0,0)) (by(with_reducible repeat(first|refine aJ ?_ _|refine aK ?_|refine aI ?_ _));exact BK429.out) hb);have n3_:=aM (bG (by repeat(first|(with_reducible first|exact HB.out|apply aN|apply aP|apply aO|refine aL ?_ GE429.out)|exact HB.out)) hb);clear BK429;clear HB;have HO432:=n0_;have HO435:=n1_;have BK429:=n2_;have HB:=n3_;clear n0_ n1_ n2_ n3_;(try clear hb);(try clear hb2);(try clear hk);(try clear hi);(try clear ho0);(try clear ho1)))
  go_ret
  exact⟨_,by first|rfl|(simp [errW_none,errW_some]<;>rfl)|(simp [*,errW_none,errW_some]<;>rfl),by(with_reducible repeat(first|apply Kd.S_alloc|apply aV|apply aW));exact HO432.out,by repeat(first|(with_reducible first|exact HB.out|apply aN|apply aP|apply aO|refine aL ?_ GE429.out)|exact HB.out)⟩
end Go.Proofs.Ytapjfnfengefpaa.P
end

section
namespace Go.Proofs.Ytapjfnfengefpaa.P
open Go.RowKit Go.Proofs.YtapjfnfengefpaaW.PrintWords Go.Proofs.YtapjfnfengefpaaW.PrintLast Go.Proofs.YtapjfnfengefpaaW.PrintMore
set_option linter.unusedVariables false
set_option linter.unusedSimpArgs false
def okSym (nn nt:Nat) (x:S43):Bool:=decide (0≤x.f1) && (if x.f0=true then decide (x.f1<(nt:Int)) else decide (x.f1<(nn:Int)))
def okProd (nn nt:Nat) (x:S35):Bool:=decide (0≤x.f0) && decide (x.f0<(nn:Int)) && x.f1.all (okSym nn nt)
theorem symbols1_any (x:S43) (B:Nat) (W:World) (A0 A1:Option Addr) (n0 n1 c0 c1:Nat)
 (h0:W.cell? ⟨B,0,none⟩=some (.slice A0 n0 c0)) (h1:W.cell? ⟨B,1,none⟩=some (.slice A1 n1 c1)) (hB:B<W.heap.size):
 Calls Try.prog 61 #[.agg #[.bool x.f0,.int .i64 x.f1],.pointer (some ⟨B,0,none⟩)] W fun e w'=>e= .returned (.bool (!okSym n0 n1 x))∧Below W.heap.size W w':=by
 have hne:B≠W.heap.size:=by omega
 obtain⟨b,n⟩:=x
 unfold okSym
 by_cases c0:n<0
 ·have d0:decide (n<0)=true:=decide_eq_true c0
  have d1:decide (0≤n)=false:=decide_eq_false (by omega)
  cases b<;>(go_enter Try.func61,Try.ntmps61;go_wp2;go_ret;exact⟨rfl,(Below.refl _ W).alloc (Nat.le_refl _) _⟩)
 have d0:decide (n<0)=false:=decide_eq_false c0
 have d1:decide (0≤n)=true:=decide_eq_true (by omega)
 cases b with
 |true=>
  by_cases c2:(n1:Int)≤n
  ·have d2:decide ((n1:Int)≤n)=true:=decide_eq_true c2
   have d3:decide (n<(n1:Int))=false:=decide_eq_false (by omega)
   go_enter Try.func61,Try.ntmps61
   go_wp2
   go_ret
   exact⟨rfl,(Below.refl _ W).alloc (Nat.le_refl _) _⟩
  ·have d2:decide ((n1:Int)≤n)=false:=decide_eq_false c2
   have d3:decide (n<(n1:Int))=true:=decide_eq_true (by omega)
   go_enter Try.func61,Try.ntmps61
   go_wp2
   go_ret
   exact⟨rfl,(Below.refl _ W).alloc (Nat.le_refl _) _⟩
 |false=>
  by_cases c2:(n0:Int)≤n
  ·have d2:decide ((n0:Int)≤n)=true:=decide_eq_true c2
   have d3:decide (n<(n0:Int))=false:=decide_eq_false (by omega)
   go_enter Try.func61,Try.ntmps61
   go_wp2
   go_ret
   exact⟨rfl,(Below.refl _ W).alloc (Nat.le_refl _) _⟩
  ·have d2:decide ((n0:Int)≤n)=false:=decide_eq_false c2
   have d3:decide (n<(n0:Int))=true:=decide_eq_true (by omega)
   go_enter Try.func61,Try.ntmps61
   go_wp2
   go_ret
   exact⟨rfl,(Below.refl _ W).alloc (Nat.le_refl _) _⟩
theorem indexSym_any (p:S43→Bool) (g:Nat) (lb:Array Value) (eg:∀args w,(callFunc g args).run Try.prog w= .ok (.enter g args) w) (A:Option Addr) (c:Nat) (zs:List S43) (w:World)
 (hr:Kd.C k43 w A zs.length zs) (hbig:zs.length≤9223372036854775807) (hp:∀(W:World) (x:S43),x∈zs→Below w.heap.size w W→Calls Try.prog g (#[.agg #[.bool x.f0,.int .i64 x.f1]]++lb) W fun e w'=>e= .returned (.bool (p x))∧Below w.heap.size w w'):
 Calls Try.prog 58 #[.slice A zs.length c,.func (.func g) #[] lb] w fun e w'=>(∃n:Int,e= .returned (.int .i64 n)∧Aside0 (decide (0≤n)=zs.any p))∧Below w.heap.size w w':=by
 go_enter Try.func58,Try.ntmps58
 go_wp2
 go_loopg [5,8] zs.length (fun gg _ s8 wr=>∃kk:Nat,kk≤zs.length∧zs.length - kk≤gg∧s8= .int .i64 kk∧Aside0 (Below w.heap.size w wr)∧Aside0 ((zs.take kk).any p=false))
 case atStart=>exact⟨0,Nat.zero_le _,by omega,rfl,⟨Below.refl _ w⟩,⟨by simp⟩⟩
 case round=>
  obtain⟨kk,hkk,hg,rfl,BW,PA⟩:=hrel
  by_cases hlt:kk<zs.length
  ·have hltz:(kk:Int)<(zs.length:Int):=by omega
   have hrd:rd_T43 zs (kk:Int)=zs[kk]:=by simp [rd_T43,hlt]
   obtain⟨ad,e,l0,l1⟩:=at_T43 (bD hr BW.out) (kk:Int) (by omega) (by omega)
   have hcall:=hp wr zs[kk] (List.getElem_mem hlt) BW.out
   rw [hrd,Int.toNat_natCast] at l0 l1
   subst e
   have PB:Aside0 ((zs.take (kk+1)).any p=p zs[kk]):=⟨by rw [List.take_succ_eq_append_getElem hlt,List.any_append,PA.out];simp⟩
   have PC:Aside0 (zs.any p=(p zs[kk]||(zs.drop (kk+1)).any p)):=⟨by
    conv=>lhs;rw [←List.take_append_drop (kk+1) zs]
    rw [List.any_append,PB.out]⟩
   clear hp hr hrd
   generalize zs[kk]=y at l0 l1 hcall PB PC
   cases hq:p y with
   |true=>
    rw [hq] at hcall
    have PD:Aside0 (zs.any p=true):=⟨by rw [PC.out,hq];simp⟩
    clear PA PB PC hq
    go_wp2_with (go_at_fn g;refine hcall.mono ?_;rintro e w' ⟨rfl,hb'⟩)
    go_ret
    exact⟨⟨_,rfl,⟨by rw [PD.out];simp⟩⟩,hb'⟩
   |false=>
    rw [hq] at hcall
    have PD:Aside0 ((zs.take (kk+1)).any p=false):=⟨by rw [PB.out,hq]⟩
    clear PA PB PC hq
    go_wp2_with (go_at_fn g;refine hcall.mono ?_;rintro e w' ⟨rfl,hb'⟩)
    go_roundg (zs.length - (kk+1))
    case measure=>omega
    case rel=>exact⟨kk+1,by omega,by omega,by go_num,⟨hb'⟩,PD⟩
  ·have hltz:¬(kk:Int)<(zs.length:Int):=by omega
   have:kk=zs.length:=by omega
   subst this
   have PD:Aside0 (zs.any p=false):=⟨by have:=PA.out;rwa [List.take_length] at this⟩
   clear PA hp hr
   go_wp2
   go_ret
   exact⟨⟨-1,rfl,⟨by rw [PD.out];simp⟩⟩,BW.out⟩
theorem containsSym_any (p:S43→Bool) (g:Nat) (lb:Array Value) (eg:∀args w,(callFunc g args).run Try.prog w= .ok (.enter g args) w) (A:Option Addr) (c:Nat) (zs:List S43) (w:World)
 (hr:Kd.C k43 w A zs.length zs) (hbig:zs.length≤9223372036854775807) (hp:∀(W:World) (x:S43),x∈zs→Below w.heap.size w W→Calls Try.prog g (#[.agg #[.bool x.f0,.int .i64 x.f1]]++lb) W fun e w'=>e= .returned (.bool (p x))∧Below w.heap.size w w'):
 Calls Try.prog 51 #[.slice A zs.length c,.func (.func g) #[] lb] w fun e w'=>e= .returned (.bool (zs.any p))∧Below w.heap.size w w':=by
 have hcon:=indexSym_any p g lb eg A c zs w hr hbig hp
 have e6:∀args w,(callFunc 58 args).run Try.prog w= .ok (.enter 58 args) w:=enters_of Try.func58 (by kernel_rfl) rfl
 clear hp hr
 go_enter Try.func51,Try.ntmps51
 go_wp2_with (go_at_fn 58;refine hcon.mono ?_;rintro e w' ⟨⟨nn_,rfl,hn_⟩,hb'⟩)
 go_ret
 exact⟨by rw [←hn_.out];rfl,hb'⟩
theorem any_not {α:Type}(p:α→Bool) (l:List α):(!l.any fun x=>!p x)=l.all p:=by
 induction l with
 |nil=>rfl
 |cons a l ih=>simp only [List.any_cons,List.all_cons,←ih];cases p a<;>simp
def firsts_symbols.f (l0_0:List ByteArray) (l0_1:List (S72)) (a0_2:Int) (a0_3:Int) (l0_4:List (S35)) (l1:List (S43)):Option Bool:=if l1.length≤9223372036854775807 then some (l1.all (okSym l0_0.length l0_1.length)) else none
theorem firsts_symbols.calls (A0_0:Option Addr) (c0_0:Nat) (l0_0:List ByteArray) (A0_1:Option Addr) (c0_1:Nat) (l0_1:List (S72)) (a0_2:Int) (a0_3:Int) (A0_4:Option Addr) (c0_4:Nat) (l0_4:List (S35)) (A1:Option Addr) (c1:Nat) (l1:List (S43)) (r:Bool) (w:World)
 (hr0_0:Kd.C Kd.string w A0_0 l0_0.length l0_0) (hc0_0:l0_0.length≤c0_0) (hr0_1:Kd.C k72 w A0_1 l0_1.length l0_1) (hc0_1:l0_1.length≤c0_1) (hr0_4:Kd.C k35 w A0_4 l0_4.length l0_4) (hc0_4:l0_4.length≤c0_4) (hr1:Kd.C k43 w A1 l1.length l1) (hc1:l1.length≤c1)
 (h:firsts_symbols.f l0_0 l0_1 a0_2 a0_3 l0_4 l1=some r):
 Calls Try.prog 56 #[.agg #[.slice A0_0 l0_0.length c0_0,.slice A0_1 l0_1.length c0_1,.int .i64 a0_2,.int .i64 a0_3,.slice A0_4 l0_4.length c0_4],.slice A1 l1.length c1] w fun e w'=>e= .returned (.bool r)∧Below w.heap.size w w':=by
 unfold firsts_symbols.f at h
 split at h
 case isFalse=>simp at h
 rename_i hbig
 obtain rfl:=Option.some.inj h
 clear h
 have eg:∀args w,(callFunc 61 args).run Try.prog w= .ok (.enter 61 args) w:=enters_of Try.func61 (by kernel_rfl) rfl
 have e6:∀args w,(callFunc 51 args).run Try.prog w= .ok (.enter 51 args) w:=enters_of Try.func51 (by kernel_rfl) rfl
 have HW:Aside0 (Below w.heap.size w (w.alloc (.cells #[.slice A0_0 l0_0.length c0_0,.slice A0_1 l0_1.length c0_1,.int .i64 a0_2,.int .i64 a0_3,.slice A0_4 l0_4.length c0_4] 26))):=⟨(Below.refl _ w).alloc (Nat.le_refl _) _⟩
 have hcon:=containsSym_any (fun x=>!okSym l0_0.length l0_1.length x) 61 #[.pointer (some ⟨w.heap.size,0,none⟩)] eg A1 c1 l1 (w.alloc (.cells #[.slice A0_0 l0_0.length c0_0,.slice A0_1 l0_1.length c0_1,.int .i64 a0_2,.int .i64 a0_3,.slice A0_4 l0_4.length c0_4] 26)) (bD hr1 HW.out) hbig (fun W x _ hb=>by
  have hlt:w.heap.size<(w.alloc (.cells #[.slice A0_0 l0_0.length c0_0,.slice A0_1 l0_1.length c0_1,.int .i64 a0_2,.int .i64 a0_3,.slice A0_4 l0_4.length c0_4] 26)).heap.size:=by simp
  refine(symbols1_any x w.heap.size W A0_0 A0_1 l0_0.length l0_1.length c0_0 c0_1 ?_ ?_ (Nat.lt_of_lt_of_le hlt hb.size)).mono ?_
  ·exact(hb.cell (p:=⟨w.heap.size,0,none⟩) hlt).trans (by simp)
  ·exact(hb.cell (p:=⟨w.heap.size,1,none⟩) hlt).trans (by simp)
  ·rintro e w' ⟨he,hb'⟩
   exact⟨he,hb.trans (hb'.mono hb.size)⟩)
 clear hr0_0 hr0_1 hr0_4 hr1
 rw [←any_not]
 generalize (l1.any fun x=>!okSym l0_0.length l0_1.length x)=rr at hcon ⊢
 go_enter Try.func56,Try.ntmps56
 go_wp2_with (go_at_fn 51;refine hcon.mono ?_;rintro e w' ⟨rfl,hb'⟩)
 go_ret
 exact⟨rfl,HW.out.trans (hb'.mono (by simp))⟩
theorem indexProd_any (p:S35→Bool) (g:Nat) (lb:Array Value) (eg:∀args w,(callFunc g args).run Try.prog w= .ok (.enter g args) w) (A:Option Addr) (c:Nat) (zs:List S35) (w:World)
 (hr:Kd.C k35 w A zs.length zs) (hbig:zs.length≤9223372036854775807) (hp:∀(W:World) (x:S35) (A1:Option Addr) (c1:Nat),x∈zs→Below w.heap.size w W→x.f1.length≤c1→Kd.C k43 W A1 x.f1.length x.f1→Calls Try.prog g (#[.agg #[.int .i64 x.f0,.slice A1 x.f1.length c1]]++lb) W fun e w'=>e= .returned (.bool (p x))∧Below w.heap.size w w'):
 Calls Try.prog 60 #[.slice A zs.length c,.func (.func g) #[] lb] w fun e w'=>(∃n:Int,e= .returned (.int .i64 n)∧Aside0 (decide (0≤n)=zs.any p))∧Below w.heap.size w w':=by
 go_enter Try.func60,Try.ntmps60
 go_wp2
 go_loopg [5,8] zs.length (fun gg _ s8 wr=>∃kk:Nat,kk≤zs.length∧zs.length - kk≤gg∧s8= .int .i64 kk∧Aside0 (Below w.heap.size w wr)∧Aside0 ((zs.take kk).any p=false))
 case atStart=>exact⟨0,Nat.zero_le _,by omega,rfl,⟨Below.refl _ w⟩,⟨by simp⟩⟩
 case round=>
  obtain⟨kk,hkk,hg,rfl,BW,PA⟩:=hrel
  by_cases hlt:kk<zs.length
  ·have hltz:(kk:Int)<(zs.length:Int):=by omega
   have hrd:rd_T35 zs (kk:Int)=zs[kk]:=by simp [rd_T35,hlt]
   obtain⟨ad,A1,c1,e,l0,l1,hle1,hC1⟩:=at_T35 (bD hr BW.out) (kk:Int) (by omega) (by omega)
   have hcall:=hp wr zs[kk] A1 c1 (List.getElem_mem hlt) BW.out (by rw [←hrd];exact hle1) (by rw [←hrd];exact hC1)
   rw [hrd,Int.toNat_natCast] at l0 l1
   subst e
   have PB:Aside0 ((zs.take (kk+1)).any p=p zs[kk]):=⟨by rw [List.take_succ_eq_append_getElem hlt,List.any_append,PA.out];simp⟩
   have PC:Aside0 (zs.any p=(p zs[kk]||(zs.drop (kk+1)).any p)):=⟨by
    conv=>lhs;rw [←List.take_append_drop (kk+1) zs]
    rw [List.any_append,PB.out]⟩
   clear hp hr hrd hle1 hC1
   generalize zs[kk]=y at l0 l1 hcall PB PC
   cases hq:p y with
   |true=>
    rw [hq] at hcall
    have PD:Aside0 (zs.any p=true):=⟨by rw [PC.out,hq];simp⟩
    clear PA PB PC hq
    go_wp2_with (go_at_fn g;refine hcall.mono ?_;rintro e w' ⟨rfl,hb'⟩)
    go_ret
    exact⟨⟨_,rfl,⟨by rw [PD.out];simp⟩⟩,hb'⟩
   |false=>
    rw [hq] at hcall
    have PD:Aside0 ((zs.take (kk+1)).any p=false):=⟨by rw [PB.out,hq]⟩
    clear PA PB PC hq
    go_wp2_with (go_at_fn g;refine hcall.mono ?_;rintro e w' ⟨rfl,hb'⟩)
    go_roundg (zs.length - (kk+1))
    case measure=>omega
    case rel=>exact⟨kk+1,by omega,by omega,by go_num,⟨hb'⟩,PD⟩
  ·have hltz:¬(kk:Int)<(zs.length:Int):=by omega
   have:kk=zs.length:=by omega
   subst this
   have PD:Aside0 (zs.any p=false):=⟨by have:=PA.out;rwa [List.take_length] at this⟩
   clear PA hp hr
   go_wp2
   go_ret
   exact⟨⟨-1,rfl,⟨by rw [PD.out];simp⟩⟩,BW.out⟩
theorem containsProd_any (p:S35→Bool) (g:Nat) (lb:Array Value) (eg:∀args w,(callFunc g args).run Try.prog w= .ok (.enter g args) w) (A:Option Addr) (c:Nat) (zs:List S35) (w:World)
 (hr:Kd.C k35 w A zs.length zs) (hbig:zs.length≤9223372036854775807) (hp:∀(W:World) (x:S35) (A1:Option Addr) (c1:Nat),x∈zs→Below w.heap.size w W→x.f1.length≤c1→Kd.C k43 W A1 x.f1.length x.f1→Calls Try.prog g (#[.agg #[.int .i64 x.f0,.slice A1 x.f1.length c1]]++lb) W fun e w'=>e= .returned (.bool (p x))∧Below w.heap.size w w'):
 Calls Try.prog 54 #[.slice A zs.length c,.func (.func g) #[] lb] w fun e w'=>e= .returned (.bool (zs.any p))∧Below w.heap.size w w':=by
 have hcon:=indexProd_any p g lb eg A c zs w hr hbig hp
 have e6:∀args w,(callFunc 60 args).run Try.prog w= .ok (.enter 60 args) w:=enters_of Try.func60 (by kernel_rfl) rfl
 clear hp hr
 go_enter Try.func54,Try.ntmps54
 go_wp2_with (go_at_fn 60;refine hcon.mono ?_;rintro e w' ⟨⟨nn_,rfl,hn_⟩,hb'⟩)
 go_ret
 exact⟨by rw [←hn_.out];rfl,hb'⟩
theorem Right1_any (x:S35) (A1:Option Addr) (c1:Nat) (B:Nat) (W:World) (A0_0:Option Addr) (c0_0:Nat) (l0_0:List ByteArray) (A0_1:Option Addr) (c0_1:Nat) (l0_1:List (S72)) (a0_2:Int) (a0_3:Int) (A0_4:Option Addr) (c0_4:Nat) (l0_4:List (S35))
 (hr0_0:Kd.C Kd.string W A0_0 l0_0.length l0_0) (hc0_0:l0_0.length≤c0_0) (hr0_1:Kd.C k72 W A0_1 l0_1.length l0_1) (hc0_1:l0_1.length≤c0_1) (hr0_4:Kd.C k35 W A0_4 l0_4.length l0_4) (hc0_4:l0_4.length≤c0_4)
 (hb:W.heap[B]?=some (.cells #[.slice A0_0 l0_0.length c0_0,.slice A0_1 l0_1.length c0_1,.int .i64 a0_2,.int .i64 a0_3,.slice A0_4 l0_4.length c0_4] 26 (0,0)))
 (hle:x.f1.length≤c1) (hbig:x.f1.length≤9223372036854775807) (hC:Kd.C k43 W A1 x.f1.length x.f1):
 Calls Try.prog 55 #[.agg #[.int .i64 x.f0,.slice A1 x.f1.length c1],.pointer (some ⟨B,0,none⟩)] W fun e w'=>e= .returned (.bool (!okProd l0_0.length l0_1.length x))∧Below W.heap.size W w':=by
 have hB:=bN hb
 have hne:B≠W.heap.size:=by omega
 have q0:W.cell? ⟨B,0,none⟩=some (.slice A0_0 l0_0.length c0_0):=(aG hb 0).trans rfl
 have q1:W.cell? ⟨B,1,none⟩=some (.slice A0_1 l0_1.length c0_1):=(aG hb 1).trans rfl
 have q2:W.cell? ⟨B,2,none⟩=some (.int .i64 a0_2):=(aG hb 2).trans rfl
 have q3:W.cell? ⟨B,3,none⟩=some (.int .i64 a0_3):=(aG hb 3).trans rfl
 have q4:W.cell? ⟨B,4,none⟩=some (.slice A0_4 l0_4.length c0_4):=(aG hb 4).trans rfl
 clear hb
 obtain⟨n,l⟩:=x
 simp only at hle hbig hC ⊢
 have hcon:=firsts_symbols.calls A0_0 c0_0 l0_0 A0_1 c0_1 l0_1 a0_2 a0_3 A0_4 c0_4 l0_4 A1 c1 l (l.all (okSym l0_0.length l0_1.length)) (W.alloc (.cells #[.int .i64 n,.slice A1 l.length c1] 35))
  (bD hr0_0 ((Below.refl _ W).alloc (Nat.le_refl _) _)) hc0_0 (bD hr0_1 ((Below.refl _ W).alloc (Nat.le_refl _) _)) hc0_1 (bD hr0_4 ((Below.refl _ W).alloc (Nat.le_refl _) _)) hc0_4 (bD hC ((Below.refl _ W).alloc (Nat.le_refl _) _)) hle (by unfold firsts_symbols.f;rw [if_pos hbig])
 unfold okProd
 generalize l.all (okSym l0_0.length l0_1.length)=rr at hcon ⊢
 clear hr0_0 hr0_1 hr0_4 hC
 by_cases d0:n<0
 ·have e0:decide (n<0)=true:=decide_eq_true d0
  have e1:decide (0≤n)=false:=decide_eq_false (by omega)
  go_enter Try.func55,Try.ntmps55
  go_wp2
  go_ret
  exact⟨by first|rfl|(rw [e1];rfl),(Below.refl _ W).alloc (Nat.le_refl _) _⟩
 ·have e0:decide (n<0)=false:=decide_eq_false d0
  have e1:decide (0≤n)=true:=decide_eq_true (by omega)
  by_cases d2:(l0_0.length:Int)≤n
  ·have e2:decide ((l0_0.length:Int)≤n)=true:=decide_eq_true d2
   have e3:decide (n<(l0_0.length:Int))=false:=decide_eq_false (by omega)
   go_enter Try.func55,Try.ntmps55
   go_wp2
   go_ret
   exact⟨by first|rfl|(rw [e1,e3];rfl),(Below.refl _ W).alloc (Nat.le_refl _) _⟩
  ·have e2:decide ((l0_0.length:Int)≤n)=false:=decide_eq_false d2
   have e3:decide (n<(l0_0.length:Int))=true:=decide_eq_true (by omega)
   go_enter Try.func55,Try.ntmps55
   go_wp2_with (go_at_call 56;refine hcon.mono ?_;rintro e w' ⟨rfl,hb'⟩)
   go_ret
   exact⟨by first|(rw [e1,e3];simp;done)|simp,((Below.refl _ W).alloc (Nat.le_refl _) _).trans (hb'.mono (by simp))⟩
def firsts_Right.f (l0_0:List ByteArray) (l0_1:List (S72)) (a0_2:Int) (a0_3:Int) (l0_4:List (S35)):Option Bool:=if l0_4.length≤9223372036854775807∧l0_4.all (fun p=>decide (p.f1.length≤9223372036854775807))=true then some (l0_4.all (okProd l0_0.length l0_1.length)) else none
theorem firsts_Right.calls (A0_0:Option Addr) (c0_0:Nat) (l0_0:List ByteArray) (A0_1:Option Addr) (c0_1:Nat) (l0_1:List (S72)) (a0_2:Int) (a0_3:Int) (A0_4:Option Addr) (c0_4:Nat) (l0_4:List (S35)) (r:Bool) (w:World)
 (hr0_0:Kd.C Kd.string w A0_0 l0_0.length l0_0) (hc0_0:l0_0.length≤c0_0) (hr0_1:Kd.C k72 w A0_1 l0_1.length l0_1) (hc0_1:l0_1.length≤c0_1) (hr0_4:Kd.C k35 w A0_4 l0_4.length l0_4) (hc0_4:l0_4.length≤c0_4)
 (h:firsts_Right.f l0_0 l0_1 a0_2 a0_3 l0_4=some r):
 Calls Try.prog 39 #[.agg #[.slice A0_0 l0_0.length c0_0,.slice A0_1 l0_1.length c0_1,.int .i64 a0_2,.int .i64 a0_3,.slice A0_4 l0_4.length c0_4]] w fun e w'=>e= .returned (.bool r)∧Below w.heap.size w w':=by
 unfold firsts_Right.f at h
 split at h
 case isFalse=>simp at h
 rename_i hbig
 obtain⟨hbig,hrow⟩:=hbig
 obtain rfl:=Option.some.inj h
 clear h
 have eg:∀args w,(callFunc 55 args).run Try.prog w= .ok (.enter 55 args) w:=enters_of Try.func55 (by kernel_rfl) rfl
 have e6:∀args w,(callFunc 54 args).run Try.prog w= .ok (.enter 54 args) w:=enters_of Try.func54 (by kernel_rfl) rfl
 have HW:Aside0 (Below w.heap.size w (w.alloc (.cells #[.slice A0_0 l0_0.length c0_0,.slice A0_1 l0_1.length c0_1,.int .i64 a0_2,.int .i64 a0_3,.slice A0_4 l0_4.length c0_4] 26))):=⟨(Below.refl _ w).alloc (Nat.le_refl _) _⟩
 have hcon:=containsProd_any (fun x=>!okProd l0_0.length l0_1.length x) 55 #[.pointer (some ⟨w.heap.size,0,none⟩)] eg A0_4 c0_4 l0_4 (w.alloc (.cells #[.slice A0_0 l0_0.length c0_0,.slice A0_1 l0_1.length c0_1,.int .i64 a0_2,.int .i64 a0_3,.slice A0_4 l0_4.length c0_4] 26)) (bD hr0_4 HW.out) hbig (fun W x A1 c1 hx hb hle hC=>by
  have hlt:w.heap.size<(w.alloc (.cells #[.slice A0_0 l0_0.length c0_0,.slice A0_1 l0_1.length c0_1,.int .i64 a0_2,.int .i64 a0_3,.slice A0_4 l0_4.length c0_4] 26)).heap.size:=by simp
  have hall:=HW.out.trans (hb.mono (by simp))
  refine(Right1_any x A1 c1 w.heap.size W A0_0 c0_0 l0_0 A0_1 c0_1 l0_1 a0_2 a0_3 A0_4 c0_4 l0_4 (bD hr0_0 hall) hc0_0 (bD hr0_1 hall) hc0_1 (bD hr0_4 hall) hc0_4 ((hb.block _ hlt).trans (by simpa using heap_alloc_new w _)) hle (of_decide_eq_true (List.all_eq_true.1 hrow x hx)) hC).mono ?_
  rintro e w' ⟨he,hb'⟩
  exact⟨he,hb.trans (hb'.mono hb.size)⟩)
 clear hr0_0 hr0_1 hr0_4
 rw [←any_not]
 generalize (l0_4.any fun x=>!okProd l0_0.length l0_1.length x)=rr at hcon ⊢
 go_enter Try.func39,Try.ntmps39
 go_wp2_with (go_at_fn 54;refine hcon.mono ?_;rintro e w' ⟨rfl,hb'⟩)
 go_ret
 exact⟨rfl,HW.out.trans (hb'.mono (by simp))⟩
theorem indexInt_any (p:Int→Bool) (g:Nat) (lb:Array Value) (eg:∀args w,(callFunc g args).run Try.prog w= .ok (.enter g args) w) (A:Option Addr) (c:Nat) (zs:List Int) (w:World)
 (hr:Kd.C (Kd.int .i64) w A zs.length zs) (hbig:zs.length≤9223372036854775807) (hp:∀(W:World) (x:Int),x∈zs→Below w.heap.size w W→Calls Try.prog g (#[.int .i64 x]++lb) W fun e w'=>e= .returned (.bool (p x))∧Below w.heap.size w w'):
 Calls Try.prog 57 #[.slice A zs.length c,.func (.func g) #[] lb] w fun e w'=>(∃n:Int,e= .returned (.int .i64 n)∧Aside0 (decide (0≤n)=zs.any p))∧Below w.heap.size w w':=by
 go_enter Try.func57,Try.ntmps57
 go_wp2
 go_loopg [5,8] zs.length (fun gg _ s8 wr=>∃kk:Nat,kk≤zs.length∧zs.length - kk≤gg∧s8= .int .i64 kk∧Aside0 (Below w.heap.size w wr)∧Aside0 ((zs.take kk).any p=false))
 case atStart=>exact⟨0,Nat.zero_le _,by omega,rfl,⟨Below.refl _ w⟩,⟨by simp⟩⟩
 case round=>
  obtain⟨kk,hkk,hg,rfl,BW,PA⟩:=hrel
  by_cases hlt:kk<zs.length
  ·have hltz:(kk:Int)<(zs.length:Int):=by omega
   have hrd:rd zs (kk:Int)=zs[kk]:=by simp [rd,hlt]
   obtain⟨ad,e,l0⟩:=Kd.at_int (bD hr BW.out) (kk:Int) (by omega) (by omega)
   have hcall:=hp wr zs[kk] (List.getElem_mem hlt) BW.out
   rw [hrd,Int.toNat_natCast] at l0
   subst e
   have PB:Aside0 ((zs.take (kk+1)).any p=p zs[kk]):=⟨by rw [List.take_succ_eq_append_getElem hlt,List.any_append,PA.out];simp⟩
   have PC:Aside0 (zs.any p=(p zs[kk]||(zs.drop (kk+1)).any p)):=⟨by
    conv=>lhs;rw [←List.take_append_drop (kk+1) zs]
    rw [List.any_append,PB.out]⟩
   clear hp hr hrd
   generalize zs[kk]=y at l0 hcall PB PC
   cases hq:p y with
   |true=>
    rw [hq] at hcall
    have PD:Aside0 (zs.any p=true):=⟨by rw [PC.out,hq];simp⟩
    clear PA PB PC hq
    go_wp2_with (go_at_fn g;refine hcall.mono ?_;rintro e w' ⟨rfl,hb'⟩)
    go_ret
    exact⟨⟨_,rfl,⟨by rw [PD.out];simp⟩⟩,hb'⟩
   |false=>
    rw [hq] at hcall
    have PD:Aside0 ((zs.take (kk+1)).any p=false):=⟨by rw [PB.out,hq]⟩
    clear PA PB PC hq
    go_wp2_with (go_at_fn g;refine hcall.mono ?_;rintro e w' ⟨rfl,hb'⟩)
    go_roundg (zs.length - (kk+1))
    case measure=>omega
    case rel=>exact⟨kk+1,by omega,by omega,by go_num,⟨hb'⟩,PD⟩
  ·have hltz:¬(kk:Int)<(zs.length:Int):=by omega
   have:kk=zs.length:=by omega
   subst this
   have PD:Aside0 (zs.any p=false):=⟨by have:=PA.out;rwa [List.take_length] at this⟩
   clear PA hp hr
   go_wp2
   go_ret
   exact⟨⟨-1,rfl,⟨by rw [PD.out];simp⟩⟩,BW.out⟩
theorem containsInt_any (p:Int→Bool) (g:Nat) (lb:Array Value) (eg:∀args w,(callFunc g args).run Try.prog w= .ok (.enter g args) w) (A:Option Addr) (c:Nat) (zs:List Int) (w:World)
 (hr:Kd.C (Kd.int .i64) w A zs.length zs) (hbig:zs.length≤9223372036854775807) (hp:∀(W:World) (x:Int),x∈zs→Below w.heap.size w W→Calls Try.prog g (#[.int .i64 x]++lb) W fun e w'=>e= .returned (.bool (p x))∧Below w.heap.size w w'):
 Calls Try.prog 41 #[.slice A zs.length c,.func (.func g) #[] lb] w fun e w'=>e= .returned (.bool (zs.any p))∧Below w.heap.size w w':=by
 have hcon:=indexInt_any p g lb eg A c zs w hr hbig hp
 have e6:∀args w,(callFunc 57 args).run Try.prog w= .ok (.enter 57 args) w:=enters_of Try.func57 (by kernel_rfl) rfl
 clear hp hr
 go_enter Try.func41,Try.ntmps41
 go_wp2_with (go_at_fn 57;refine hcon.mono ?_;rintro e w' ⟨⟨nn_,rfl,hn_⟩,hb'⟩)
 go_ret
 exact⟨by rw [←hn_.out];rfl,hb'⟩
def okEnt (ps:List S35) (r p:Int):Bool:=decide (-1≤p) && decide (p<(ps.length:Int)) && (decide (p<0)||decide ((rd_T35 ps p).f0=r))
theorem mright1_any (p r:Int) (ps:List S35) (SB RB:Nat) (W:World) (A4:Option Addr) (c4:Nat) (hp:Kd.C k35 W A4 ps.length ps)
 (hS:W.cell? ⟨SB,4,none⟩=some (.slice A4 ps.length c4)) (hr:W.cell? ⟨RB,0,none⟩=some (.int .i64 r)):
 Calls Try.prog 40 #[.int .i64 p,.pointer (some ⟨SB,0,none⟩),.pointer (some ⟨RB,0,none⟩)] W fun e w'=>e= .returned (.bool (!okEnt ps r p))∧Below W.heap.size W w':=by
 have h4:=aM hS
 have hR:=aM hr
 unfold okEnt
 by_cases c0:p< -1
 ·have d0:decide (p< -1)=true:=decide_eq_true c0
  have d1:decide (-1≤p)=false:=decide_eq_false (by omega)
  rw [d1]
  generalize ps.length=n4 at h4
  clear hp hS hr
  go_enter Try.func40,Try.ntmps40
  go_upto_region 1 with fail
  refine start_ (n:=24) (S:=fun w'=>w'.cell? ⟨SB,4,none⟩=some (.slice A4 n4 c4)) (ds:= []) #[F,F,F,F,F,F,F,F,F,F,F,F,F,F,F,F,F,F,F,F,F,F,F,F] (by kernel_rfl) rfl rfl (h4.out) (fun hHeld=>?_)
  refine pure_ (i:=0) (N:=some 5) (v:=?_) (a':=?_) #[T,F,F,F,F,F,F,F,F,F,F,F,F,F,F,F,F,F,F,F,F,F,F,F] rfl rfl (by kernel_rfl) (fun _ _ _ h=>h) (Or.inl ⟨by rfl,?_⟩) ?_ ?_
  rotate_left;(intro w';go_simp;with_reducible rfl);rotate_left;(simp only [pq];rfl)
  refine pure_ (i:=1) (N:=some 6) (v:=?_) (a':=?_) #[T,T,F,F,F,F,F,F,F,F,F,F,F,F,F,F,F,F,F,F,F,F,F,F] rfl rfl (by kernel_rfl) (fun _ _ _ h=>h) (Or.inl ⟨by rfl,?_⟩) ?_ ?_
  rotate_left;(intro w';go_simp;with_reducible rfl);rotate_left;(simp only [pq];rfl)
  refine pure_ (i:=2) (N:=some 7) (v:=?_) (a':=?_) #[T,T,T,F,F,F,F,F,F,F,F,F,F,F,F,F,F,F,F,F,F,F,F,F] rfl rfl (by kernel_rfl) (fun _ _ _ h=>h) (Or.inl ⟨by rfl,?_⟩) ?_ ?_
  rotate_left;(intro w';go_simp;with_reducible rfl);rotate_left;(simp only [pq];rfl)
  refine pure_ (i:=3) (N:=some 8) (v:=undef) (a':=?_) #[T,T,T,T,F,F,F,F,F,F,F,F,F,F,F,F,F,F,F,F,F,F,F,F] rfl rfl (by kernel_rfl) (fun _ _ _ h=>h) (Or.inr ⟨by rfl,rfl⟩) ?_ ?_
  rotate_left
  ·simp only [pq]
   rfl
  refine pure_ (i:=4) (N:=some 9) (v:=undef) (a':=?_) #[T,T,T,T,T,F,F,F,F,F,F,F,F,F,F,F,F,F,F,F,F,F,F,F] rfl rfl (by kernel_rfl) (fun _ _ _ h=>h) (Or.inr ⟨by rfl,rfl⟩) ?_ ?_
  rotate_left
  ·simp only [pq]
   rfl
  refine pure_ (i:=5) (N:=some 10) (v:=undef) (a':=?_) #[T,T,T,T,T,T,F,F,F,F,F,F,F,F,F,F,F,F,F,F,F,F,F,F] rfl rfl (by kernel_rfl) (fun _ _ _ h=>h) (Or.inr ⟨by rfl,rfl⟩) ?_ ?_
  rotate_left
  ·simp only [pq]
   rfl
  refine pure_ (i:=6) (N:=some 11) (v:=undef) (a':=?_) #[T,T,T,T,T,T,T,F,F,F,F,F,F,F,F,F,F,F,F,F,F,F,F,F] rfl rfl (by kernel_rfl) (fun _ _ _ h=>h) (Or.inr ⟨by rfl,rfl⟩) ?_ ?_
  rotate_left
  ·simp only [pq]
   rfl
  refine pure_ (i:=7) (N:=some 12) (v:=undef) (a':=?_) #[T,T,T,T,T,T,T,T,F,F,F,F,F,F,F,F,F,F,F,F,F,F,F,F] rfl rfl (by kernel_rfl) (fun _ _ _ h=>h) (Or.inr ⟨by rfl,rfl⟩) ?_ ?_
  rotate_left
  ·simp only [pq]
   rfl
  refine pure_ (i:=8) (N:=some 13) (v:=?_) (a':=?_) #[T,T,T,T,T,T,T,T,T,F,F,F,F,F,F,F,F,F,F,F,F,F,F,F] rfl rfl (by kernel_rfl) (fun _ _ _ h=>h) (Or.inl ⟨by rfl,?_⟩) ?_ ?_
  rotate_left;(intro w';go_simp;with_reducible rfl);rotate_left;(simp only [pq];rfl)
  refine pure_ (i:=9) (N:=some 14) (v:=?_) (a':=?_) #[T,T,T,T,T,T,T,T,T,T,F,F,F,F,F,F,F,F,F,F,F,F,F,F] rfl rfl (by kernel_rfl) (fun _ _ _ h=>h) (Or.inl ⟨by rfl,?_⟩) ?_ ?_
  rotate_left;(intro w';go_simp;with_reducible rfl);rotate_left;(simp only [pq];rfl)
  refine pure_ (i:=10) (N:=some 15) (v:=undef) (a':=?_) #[T,T,T,T,T,T,T,T,T,T,T,F,F,F,F,F,F,F,F,F,F,F,F,F] rfl rfl (by kernel_rfl) (fun _ _ _ h=>h) (Or.inr ⟨by rfl,rfl⟩) ?_ ?_
  rotate_left
  ·simp only [pq]
   rfl
  refine pure_ (i:=11) (N:=some 16) (v:=undef) (a':=?_) #[T,T,T,T,T,T,T,T,T,T,T,T,F,F,F,F,F,F,F,F,F,F,F,F] rfl rfl (by kernel_rfl) (fun _ _ _ h=>h) (Or.inr ⟨by rfl,rfl⟩) ?_ ?_
  rotate_left
  ·simp only [pq]
   rfl
  refine pure_ (i:=12) (N:=some 17) (v:=undef) (a':=?_) #[T,T,T,T,T,T,T,T,T,T,T,T,T,F,F,F,F,F,F,F,F,F,F,F] rfl rfl (by kernel_rfl) (fun _ _ _ h=>h) (Or.inr ⟨by rfl,rfl⟩) ?_ ?_
  rotate_left
  ·simp only [pq]
   rfl
  refine pure_ (i:=13) (N:=some 18) (v:=undef) (a':=?_) #[T,T,T,T,T,T,T,T,T,T,T,T,T,T,F,F,F,F,F,F,F,F,F,F] rfl rfl (by kernel_rfl) (fun _ _ _ h=>h) (Or.inr ⟨by rfl,rfl⟩) ?_ ?_
  rotate_left
  ·simp only [pq]
   rfl
  refine pure_ (i:=14) (N:=some 19) (v:=undef) (a':=?_) #[T,T,T,T,T,T,T,T,T,T,T,T,T,T,T,F,F,F,F,F,F,F,F,F] rfl rfl (by kernel_rfl) (fun _ _ _ h=>h) (Or.inr ⟨by rfl,rfl⟩) ?_ ?_
  rotate_left
  ·simp only [pq]
   rfl
  refine pure_ (i:=15) (N:=some 20) (v:=undef) (a':=?_) #[T,T,T,T,T,T,T,T,T,T,T,T,T,T,T,T,F,F,F,F,F,F,F,F] rfl rfl (by kernel_rfl) (fun _ _ _ h=>h) (Or.inr ⟨by rfl,rfl⟩) ?_ ?_
  rotate_left
  ·simp only [pq]
   rfl
  refine pure_ (i:=16) (N:=some 21) (v:=undef) (a':=?_) #[T,T,T,T,T,T,T,T,T,T,T,T,T,T,T,T,T,F,F,F,F,F,F,F] rfl rfl (by kernel_rfl) (fun _ _ _ h=>h) (Or.inr ⟨by rfl,rfl⟩) ?_ ?_
  rotate_left
  ·simp only [pq]
   rfl
  refine pure_ (i:=17) (N:=some 22) (v:=undef) (a':=?_) #[T,T,T,T,T,T,T,T,T,T,T,T,T,T,T,T,T,T,F,F,F,F,F,F] rfl rfl (by kernel_rfl) (fun _ _ _ h=>h) (Or.inr ⟨by rfl,rfl⟩) ?_ ?_
  rotate_left
  ·simp only [pq]
   rfl
  refine pure_ (i:=18) (N:=some 23) (v:=undef) (a':=?_) #[T,T,T,T,T,T,T,T,T,T,T,T,T,T,T,T,T,T,T,F,F,F,F,F] rfl rfl (by kernel_rfl) (fun _ _ _ h=>h) (Or.inr ⟨by rfl,rfl⟩) ?_ ?_
  rotate_left
  ·simp only [pq]
   rfl
  refine pure_ (i:=19) (N:=some 24) (v:=undef) (a':=?_) #[T,T,T,T,T,T,T,T,T,T,T,T,T,T,T,T,T,T,T,T,F,F,F,F] rfl rfl (by kernel_rfl) (fun _ _ _ h=>h) (Or.inr ⟨by rfl,rfl⟩) ?_ ?_
  rotate_left
  ·simp only [pq]
   rfl
  refine pure_ (i:=20) (N:=some 25) (v:=undef) (a':=?_) #[T,T,T,T,T,T,T,T,T,T,T,T,T,T,T,T,T,T,T,T,T,F,F,F] rfl rfl (by kernel_rfl) (fun _ _ _ h=>h) (Or.inr ⟨by rfl,rfl⟩) ?_ ?_
  rotate_left
  ·simp only [pq]
   rfl
  refine pure_ (i:=21) (N:=some 26) (v:=undef) (a':=?_) #[T,T,T,T,T,T,T,T,T,T,T,T,T,T,T,T,T,T,T,T,T,T,F,F] rfl rfl (by kernel_rfl) (fun _ _ _ h=>h) (Or.inr ⟨by rfl,rfl⟩) ?_ ?_
  rotate_left
  ·simp only [pq]
   rfl
  refine pure_ (i:=22) (N:=some 27) (v:=?_) (a':=?_) #[T,T,T,T,T,T,T,T,T,T,T,T,T,T,T,T,T,T,T,T,T,T,T,F] rfl rfl (by kernel_rfl) (fun _ _ _ h=>h) (Or.inl ⟨by rfl,?_⟩) ?_ ?_
  rotate_left;(intro w';go_simp;with_reducible rfl);rotate_left;(simp only [pq];rfl)
  refine pure_ (i:=23) (N:=some 4) (v:=?_) (a':=?_) #[T,T,T,T,T,T,T,T,T,T,T,T,T,T,T,T,T,T,T,T,T,T,T,T] rfl rfl (by kernel_rfl) (fun _ _ _ h=>h) (Or.inl ⟨by rfl,?_⟩) ?_ ?_
  rotate_left;(intro w';go_simp;with_reducible rfl);rotate_left;(simp only [pq];rfl)
  refine done_ (by kernel_rfl) ?_
  go_wp2
  go_ret
  exact⟨rfl,aO (Below.refl _ W)⟩
 ·have d0:decide (p< -1)=false:=decide_eq_false c0
  have d1:decide (-1≤p)=true:=decide_eq_true (by omega)
  rw [d1]
  by_cases c1:(ps.length:Int)≤p
  ·have d2:decide ((ps.length:Int)≤p)=true:=decide_eq_true c1
   have d3:decide (p<(ps.length:Int))=false:=decide_eq_false (by omega)
   rw [d3]
   generalize ps.length=n4 at h4 d2
   clear hp hS hr c0 c1 d3
   go_enter Try.func40,Try.ntmps40
   go_upto_region 1 with fail
   refine start_ (n:=24) (S:=fun w'=>w'.cell? ⟨SB,4,none⟩=some (.slice A4 n4 c4)) (ds:= []) #[F,F,F,F,F,F,F,F,F,F,F,F,F,F,F,F,F,F,F,F,F,F,F,F] (by kernel_rfl) rfl rfl (h4.out) (fun hHeld=>?_)
   refine pure_ (i:=0) (N:=some 5) (v:=?_) (a':=?_) #[T,F,F,F,F,F,F,F,F,F,F,F,F,F,F,F,F,F,F,F,F,F,F,F] rfl rfl (by kernel_rfl) (fun _ _ _ h=>h) (Or.inl ⟨by rfl,?_⟩) ?_ ?_
   rotate_left;(intro w';go_simp;with_reducible rfl);rotate_left;(simp only [pq];rfl)
   refine pure_ (i:=1) (N:=some 6) (v:=?_) (a':=?_) #[T,T,F,F,F,F,F,F,F,F,F,F,F,F,F,F,F,F,F,F,F,F,F,F] rfl rfl (by kernel_rfl) (fun _ _ _ h=>h) (Or.inl ⟨by rfl,?_⟩) ?_ ?_
   rotate_left;(intro w';go_simp;with_reducible rfl);rotate_left;(simp only [pq];rfl)
   refine pure_ (i:=2) (N:=some 7) (v:=?_) (a':=?_) #[T,T,T,F,F,F,F,F,F,F,F,F,F,F,F,F,F,F,F,F,F,F,F,F] rfl rfl (by kernel_rfl) (fun _ _ _ h=>h) (Or.inl ⟨by rfl,?_⟩) ?_ ?_
   rotate_left;(intro w';go_simp;with_reducible rfl);rotate_left;(simp only [pq];rfl)
   refine pure_ (i:=3) (N:=some 8) (v:=?_) (a':=?_) #[T,T,T,T,F,F,F,F,F,F,F,F,F,F,F,F,F,F,F,F,F,F,F,F] rfl rfl (by kernel_rfl) (fun _ _ _ h=>h) (Or.inl ⟨by rfl,?_⟩) ?_ ?_
   rotate_left;(intro w';go_simp;with_reducible rfl);rotate_left;(simp only [pq];rfl)
   refine pure_ (i:=4) (N:=some 9) (v:=?_) (a':=?_) #[T,T,T,T,T,F,F,F,F,F,F,F,F,F,F,F,F,F,F,F,F,F,F,F] rfl rfl (by kernel_rfl) (fun _ _ _ h=>h) (Or.inl ⟨by rfl,?_⟩) ?_ ?_
   rotate_left;(intro w';go_simp;with_reducible rfl);rotate_left;(simp only [pq];rfl)
   refine take_ (i:=5) (N:=some 10) (v:=?_) (a':=?_) #[T,T,T,T,T,T,F,F,F,F,F,F,F,F,F,F,F,F,F,F,F,F,F,F] rfl rfl (by kernel_rfl) (fun _ _ _ h=>h) (Or.inl ⟨by rfl,?_⟩) hHeld ?_ ?_
   rotate_left
   ·intro w' s0
    go_simp
    with_reducible rfl
   rotate_left
   ·simp only [pq]
    rfl
   refine pure_ (i:=6) (N:=some 11) (v:=?_) (a':=?_) #[T,T,T,T,T,T,T,F,F,F,F,F,F,F,F,F,F,F,F,F,F,F,F,F] rfl rfl (by kernel_rfl) (fun _ _ _ h=>h) (Or.inl ⟨by rfl,?_⟩) ?_ ?_
   rotate_left;(intro w';go_simp;with_reducible rfl);rotate_left;(simp only [pq];rfl)
   refine pure_ (i:=7) (N:=some 12) (v:=?_) (a':=?_) #[T,T,T,T,T,T,T,T,F,F,F,F,F,F,F,F,F,F,F,F,F,F,F,F] rfl rfl (by kernel_rfl) (fun _ _ _ h=>h) (Or.inl ⟨by rfl,?_⟩) ?_ ?_
   rotate_left;(intro w';go_simp;with_reducible rfl);rotate_left;(simp only [pq];rfl)
   refine pure_ (i:=8) (N:=some 13) (v:=?_) (a':=?_) #[T,T,T,T,T,T,T,T,T,F,F,F,F,F,F,F,F,F,F,F,F,F,F,F] rfl rfl (by kernel_rfl) (fun _ _ _ h=>h) (Or.inl ⟨by rfl,?_⟩) ?_ ?_
   rotate_left;(intro w';go_simp;with_reducible rfl);rotate_left;(simp only [pq];rfl)
   refine pure_ (i:=9) (N:=some 14) (v:=?_) (a':=?_) #[T,T,T,T,T,T,T,T,T,T,F,F,F,F,F,F,F,F,F,F,F,F,F,F] rfl rfl (by kernel_rfl) (fun _ _ _ h=>h) (Or.inl ⟨by rfl,?_⟩) ?_ ?_
   rotate_left;(intro w';go_simp;with_reducible rfl);rotate_left;(simp only [pq];rfl)
   refine pure_ (i:=10) (N:=some 15) (v:=undef) (a':=?_) #[T,T,T,T,T,T,T,T,T,T,T,F,F,F,F,F,F,F,F,F,F,F,F,F] rfl rfl (by kernel_rfl) (fun _ _ _ h=>h) (Or.inr ⟨by rfl,rfl⟩) ?_ ?_
   rotate_left
   ·simp only [pq]
    rfl
   refine pure_ (i:=11) (N:=some 16) (v:=undef) (a':=?_) #[T,T,T,T,T,T,T,T,T,T,T,T,F,F,F,F,F,F,F,F,F,F,F,F] rfl rfl (by kernel_rfl) (fun _ _ _ h=>h) (Or.inr ⟨by rfl,rfl⟩) ?_ ?_
   rotate_left
   ·simp only [pq]
    rfl
   refine pure_ (i:=12) (N:=some 17) (v:=undef) (a':=?_) #[T,T,T,T,T,T,T,T,T,T,T,T,T,F,F,F,F,F,F,F,F,F,F,F] rfl rfl (by kernel_rfl) (fun _ _ _ h=>h) (Or.inr ⟨by rfl,rfl⟩) ?_ ?_
   rotate_left
   ·simp only [pq]
    rfl
   refine pure_ (i:=13) (N:=some 18) (v:=undef) (a':=?_) #[T,T,T,T,T,T,T,T,T,T,T,T,T,T,F,F,F,F,F,F,F,F,F,F] rfl rfl (by kernel_rfl) (fun _ _ _ h=>h) (Or.inr ⟨by rfl,rfl⟩) ?_ ?_
   rotate_left
   ·simp only [pq]
    rfl
   refine pure_ (i:=14) (N:=some 19) (v:=undef) (a':=?_) #[T,T,T,T,T,T,T,T,T,T,T,T,T,T,T,F,F,F,F,F,F,F,F,F] rfl rfl (by kernel_rfl) (fun _ _ _ h=>h) (Or.inr ⟨by rfl,rfl⟩) ?_ ?_
   rotate_left
   ·simp only [pq]
    rfl
   refine pure_ (i:=15) (N:=some 20) (v:=undef) (a':=?_) #[T,T,T,T,T,T,T,T,T,T,T,T,T,T,T,T,F,F,F,F,F,F,F,F] rfl rfl (by kernel_rfl) (fun _ _ _ h=>h) (Or.inr ⟨by rfl,rfl⟩) ?_ ?_
   rotate_left
   ·simp only [pq]
    rfl
   refine pure_ (i:=16) (N:=some 21) (v:=undef) (a':=?_) #[T,T,T,T,T,T,T,T,T,T,T,T,T,T,T,T,T,F,F,F,F,F,F,F] rfl rfl (by kernel_rfl) (fun _ _ _ h=>h) (Or.inr ⟨by rfl,rfl⟩) ?_ ?_
   rotate_left
   ·simp only [pq]
    rfl
   refine pure_ (i:=17) (N:=some 22) (v:=undef) (a':=?_) #[T,T,T,T,T,T,T,T,T,T,T,T,T,T,T,T,T,T,F,F,F,F,F,F] rfl rfl (by kernel_rfl) (fun _ _ _ h=>h) (Or.inr ⟨by rfl,rfl⟩) ?_ ?_
   rotate_left
   ·simp only [pq]
    rfl
   refine pure_ (i:=18) (N:=some 23) (v:=undef) (a':=?_) #[T,T,T,T,T,T,T,T,T,T,T,T,T,T,T,T,T,T,T,F,F,F,F,F] rfl rfl (by kernel_rfl) (fun _ _ _ h=>h) (Or.inr ⟨by rfl,rfl⟩) ?_ ?_
   rotate_left
   ·simp only [pq]
    rfl
   refine pure_ (i:=19) (N:=some 24) (v:=undef) (a':=?_) #[T,T,T,T,T,T,T,T,T,T,T,T,T,T,T,T,T,T,T,T,F,F,F,F] rfl rfl (by kernel_rfl) (fun _ _ _ h=>h) (Or.inr ⟨by rfl,rfl⟩) ?_ ?_
   rotate_left
   ·simp only [pq]
    rfl
   refine pure_ (i:=20) (N:=some 25) (v:=undef) (a':=?_) #[T,T,T,T,T,T,T,T,T,T,T,T,T,T,T,T,T,T,T,T,T,F,F,F] rfl rfl (by kernel_rfl) (fun _ _ _ h=>h) (Or.inr ⟨by rfl,rfl⟩) ?_ ?_
   rotate_left
   ·simp only [pq]
    rfl
   refine pure_ (i:=21) (N:=some 26) (v:=undef) (a':=?_) #[T,T,T,T,T,T,T,T,T,T,T,T,T,T,T,T,T,T,T,T,T,T,F,F] rfl rfl (by kernel_rfl) (fun _ _ _ h=>h) (Or.inr ⟨by rfl,rfl⟩) ?_ ?_
   rotate_left
   ·simp only [pq]
    rfl
   refine pure_ (i:=22) (N:=some 27) (v:=?_) (a':=?_) #[T,T,T,T,T,T,T,T,T,T,T,T,T,T,T,T,T,T,T,T,T,T,T,F] rfl rfl (by kernel_rfl) (fun _ _ _ h=>h) (Or.inl ⟨by rfl,?_⟩) ?_ ?_
   rotate_left;(intro w';go_simp;with_reducible rfl);rotate_left;(simp only [pq];rfl)
   refine pure_ (i:=23) (N:=some 4) (v:=?_) (a':=?_) #[T,T,T,T,T,T,T,T,T,T,T,T,T,T,T,T,T,T,T,T,T,T,T,T] rfl rfl (by kernel_rfl) (fun _ _ _ h=>h) (Or.inl ⟨by rfl,?_⟩) ?_ ?_
   rotate_left;(intro w';go_simp;with_reducible rfl);rotate_left;(simp only [pq];rfl)
   refine done_ (by kernel_rfl) ?_
   go_wp2
   go_ret
   exact⟨rfl,aO (Below.refl _ W)⟩
  ·have d2:decide ((ps.length:Int)≤p)=false:=decide_eq_false c1
   have d3:decide (p<(ps.length:Int))=true:=decide_eq_true (by omega)
   rw [d3]
   by_cases c2:p<0
   ·have d4:decide (p<0)=true:=decide_eq_true c2
    have d5:decide (0≤p)=false:=decide_eq_false (by omega)
    rw [d4]
    generalize ps.length=n4 at h4 d2
    clear hp hS hr c0 c1 d3 c2 d4
    go_enter Try.func40,Try.ntmps40
    go_upto_region 1 with fail
    refine start_ (n:=24) (S:=fun w'=>w'.cell? ⟨SB,4,none⟩=some (.slice A4 n4 c4)) (ds:= []) #[F,F,F,F,F,F,F,F,F,F,F,F,F,F,F,F,F,F,F,F,F,F,F,F] (by kernel_rfl) rfl rfl (h4.out) (fun hHeld=>?_)
    refine pure_ (i:=0) (N:=some 5) (v:=?_) (a':=?_) #[T,F,F,F,F,F,F,F,F,F,F,F,F,F,F,F,F,F,F,F,F,F,F,F] rfl rfl (by kernel_rfl) (fun _ _ _ h=>h) (Or.inl ⟨by rfl,?_⟩) ?_ ?_
    rotate_left;(intro w';go_simp;with_reducible rfl);rotate_left;(simp only [pq];rfl)
    refine pure_ (i:=1) (N:=some 6) (v:=?_) (a':=?_) #[T,T,F,F,F,F,F,F,F,F,F,F,F,F,F,F,F,F,F,F,F,F,F,F] rfl rfl (by kernel_rfl) (fun _ _ _ h=>h) (Or.inl ⟨by rfl,?_⟩) ?_ ?_
    rotate_left;(intro w';go_simp;with_reducible rfl);rotate_left;(simp only [pq];rfl)
    refine pure_ (i:=2) (N:=some 7) (v:=?_) (a':=?_) #[T,T,T,F,F,F,F,F,F,F,F,F,F,F,F,F,F,F,F,F,F,F,F,F] rfl rfl (by kernel_rfl) (fun _ _ _ h=>h) (Or.inl ⟨by rfl,?_⟩) ?_ ?_
    rotate_left;(intro w';go_simp;with_reducible rfl);rotate_left;(simp only [pq];rfl)
    refine pure_ (i:=3) (N:=some 8) (v:=?_) (a':=?_) #[T,T,T,T,F,F,F,F,F,F,F,F,F,F,F,F,F,F,F,F,F,F,F,F] rfl rfl (by kernel_rfl) (fun _ _ _ h=>h) (Or.inl ⟨by rfl,?_⟩) ?_ ?_
    rotate_left;(intro w';go_simp;with_reducible rfl);rotate_left;(simp only [pq];rfl)
    refine pure_ (i:=4) (N:=some 9) (v:=?_) (a':=?_) #[T,T,T,T,T,F,F,F,F,F,F,F,F,F,F,F,F,F,F,F,F,F,F,F] rfl rfl (by kernel_rfl) (fun _ _ _ h=>h) (Or.inl ⟨by rfl,?_⟩) ?_ ?_
    rotate_left;(intro w';go_simp;with_reducible rfl);rotate_left;(simp only [pq];rfl)
    refine take_ (i:=5) (N:=some 10) (v:=?_) (a':=?_) #[T,T,T,T,T,T,F,F,F,F,F,F,F,F,F,F,F,F,F,F,F,F,F,F] rfl rfl (by kernel_rfl) (fun _ _ _ h=>h) (Or.inl ⟨by rfl,?_⟩) hHeld ?_ ?_
    rotate_left
    ·intro w' s0
     go_simp
     with_reducible rfl
    rotate_left
    ·simp only [pq]
     rfl
    refine pure_ (i:=6) (N:=some 11) (v:=?_) (a':=?_) #[T,T,T,T,T,T,T,F,F,F,F,F,F,F,F,F,F,F,F,F,F,F,F,F] rfl rfl (by kernel_rfl) (fun _ _ _ h=>h) (Or.inl ⟨by rfl,?_⟩) ?_ ?_
    rotate_left;(intro w';go_simp;with_reducible rfl);rotate_left;(simp only [pq];rfl)
    refine pure_ (i:=7) (N:=some 12) (v:=?_) (a':=?_) #[T,T,T,T,T,T,T,T,F,F,F,F,F,F,F,F,F,F,F,F,F,F,F,F] rfl rfl (by kernel_rfl) (fun _ _ _ h=>h) (Or.inl ⟨by rfl,?_⟩) ?_ ?_
    rotate_left;(intro w';go_simp;with_reducible rfl);rotate_left;(simp only [pq];rfl)
    refine pure_ (i:=8) (N:=some 13) (v:=?_) (a':=?_) #[T,T,T,T,T,T,T,T,T,F,F,F,F,F,F,F,F,F,F,F,F,F,F,F] rfl rfl (by kernel_rfl) (fun _ _ _ h=>h) (Or.inl ⟨by rfl,?_⟩) ?_ ?_
    rotate_left;(intro w';go_simp;with_reducible rfl);rotate_left;(simp only [pq];rfl)
    refine pure_ (i:=9) (N:=some 14) (v:=?_) (a':=?_) #[T,T,T,T,T,T,T,T,T,T,F,F,F,F,F,F,F,F,F,F,F,F,F,F] rfl rfl (by kernel_rfl) (fun _ _ _ h=>h) (Or.inl ⟨by rfl,?_⟩) ?_ ?_
    rotate_left;(intro w';go_simp;with_reducible rfl);rotate_left;(simp only [pq];rfl)
    refine pure_ (i:=10) (N:=some 15) (v:=?_) (a':=?_) #[T,T,T,T,T,T,T,T,T,T,T,F,F,F,F,F,F,F,F,F,F,F,F,F] rfl rfl (by kernel_rfl) (fun _ _ _ h=>h) (Or.inl ⟨by rfl,?_⟩) ?_ ?_
    rotate_left;(intro w';go_simp;with_reducible rfl);rotate_left;(simp only [pq];rfl)
    refine pure_ (i:=11) (N:=some 16) (v:=?_) (a':=?_) #[T,T,T,T,T,T,T,T,T,T,T,T,F,F,F,F,F,F,F,F,F,F,F,F] rfl rfl (by kernel_rfl) (fun _ _ _ h=>h) (Or.inl ⟨by rfl,?_⟩) ?_ ?_
    rotate_left;(intro w';go_simp;with_reducible rfl);rotate_left;(simp only [pq];rfl)
    refine pure_ (i:=12) (N:=some 17) (v:=?_) (a':=?_) #[T,T,T,T,T,T,T,T,T,T,T,T,T,F,F,F,F,F,F,F,F,F,F,F] rfl rfl (by kernel_rfl) (fun _ _ _ h=>h) (Or.inl ⟨by rfl,?_⟩) ?_ ?_
    rotate_left;(intro w';go_simp;with_reducible rfl);rotate_left;(simp only [pq];rfl)
    refine pure_ (i:=13) (N:=some 18) (v:=undef) (a':=?_) #[T,T,T,T,T,T,T,T,T,T,T,T,T,T,F,F,F,F,F,F,F,F,F,F] rfl rfl (by kernel_rfl) (fun _ _ _ h=>h) (Or.inr ⟨by rfl,rfl⟩) ?_ ?_
    rotate_left
    ·simp only [pq]
     rfl
    refine pure_ (i:=14) (N:=some 19) (v:=undef) (a':=?_) #[T,T,T,T,T,T,T,T,T,T,T,T,T,T,T,F,F,F,F,F,F,F,F,F] rfl rfl (by kernel_rfl) (fun _ _ _ h=>h) (Or.inr ⟨by rfl,rfl⟩) ?_ ?_
    rotate_left
    ·simp only [pq]
     rfl
    refine pure_ (i:=15) (N:=some 20) (v:=undef) (a':=?_) #[T,T,T,T,T,T,T,T,T,T,T,T,T,T,T,T,F,F,F,F,F,F,F,F] rfl rfl (by kernel_rfl) (fun _ _ _ h=>h) (Or.inr ⟨by rfl,rfl⟩) ?_ ?_
    rotate_left
    ·simp only [pq]
     rfl
    refine pure_ (i:=16) (N:=some 21) (v:=undef) (a':=?_) #[T,T,T,T,T,T,T,T,T,T,T,T,T,T,T,T,T,F,F,F,F,F,F,F] rfl rfl (by kernel_rfl) (fun _ _ _ h=>h) (Or.inr ⟨by rfl,rfl⟩) ?_ ?_
    rotate_left
    ·simp only [pq]
     rfl
    refine pure_ (i:=17) (N:=some 22) (v:=undef) (a':=?_) #[T,T,T,T,T,T,T,T,T,T,T,T,T,T,T,T,T,T,F,F,F,F,F,F] rfl rfl (by kernel_rfl) (fun _ _ _ h=>h) (Or.inr ⟨by rfl,rfl⟩) ?_ ?_
    rotate_left
    ·simp only [pq]
     rfl
    refine pure_ (i:=18) (N:=some 23) (v:=undef) (a':=?_) #[T,T,T,T,T,T,T,T,T,T,T,T,T,T,T,T,T,T,T,F,F,F,F,F] rfl rfl (by kernel_rfl) (fun _ _ _ h=>h) (Or.inr ⟨by rfl,rfl⟩) ?_ ?_
    rotate_left
    ·simp only [pq]
     rfl
    refine pure_ (i:=19) (N:=some 24) (v:=undef) (a':=?_) #[T,T,T,T,T,T,T,T,T,T,T,T,T,T,T,T,T,T,T,T,F,F,F,F] rfl rfl (by kernel_rfl) (fun _ _ _ h=>h) (Or.inr ⟨by rfl,rfl⟩) ?_ ?_
    rotate_left
    ·simp only [pq]
     rfl
    refine pure_ (i:=20) (N:=some 25) (v:=undef) (a':=?_) #[T,T,T,T,T,T,T,T,T,T,T,T,T,T,T,T,T,T,T,T,T,F,F,F] rfl rfl (by kernel_rfl) (fun _ _ _ h=>h) (Or.inr ⟨by rfl,rfl⟩) ?_ ?_
    rotate_left
    ·simp only [pq]
     rfl
    refine pure_ (i:=21) (N:=some 26) (v:=?_) (a':=?_) #[T,T,T,T,T,T,T,T,T,T,T,T,T,T,T,T,T,T,T,T,T,T,F,F] rfl rfl (by kernel_rfl) (fun _ _ _ h=>h) (Or.inl ⟨by rfl,?_⟩) ?_ ?_
    rotate_left;(intro w';go_simp;with_reducible rfl);rotate_left;(simp only [pq];rfl)
    refine pure_ (i:=22) (N:=some 27) (v:=?_) (a':=?_) #[T,T,T,T,T,T,T,T,T,T,T,T,T,T,T,T,T,T,T,T,T,T,T,F] rfl rfl (by kernel_rfl) (fun _ _ _ h=>h) (Or.inl ⟨by rfl,?_⟩) ?_ ?_
    rotate_left;(intro w';go_simp;with_reducible rfl);rotate_left;(simp only [pq];rfl)
    refine pure_ (i:=23) (N:=some 4) (v:=?_) (a':=?_) #[T,T,T,T,T,T,T,T,T,T,T,T,T,T,T,T,T,T,T,T,T,T,T,T] rfl rfl (by kernel_rfl) (fun _ _ _ h=>h) (Or.inl ⟨by rfl,?_⟩) ?_ ?_
    rotate_left;(intro w';go_simp;with_reducible rfl);rotate_left;(simp only [pq];rfl)
    refine done_ (by kernel_rfl) ?_
    go_wp2
    go_ret
    exact⟨rfl,aO (Below.refl _ W)⟩
   ·have d4:decide (p<0)=false:=decide_eq_false c2
    have d5:decide (0≤p)=true:=decide_eq_true (by omega)
    rw [d4]
    have b0:(0≤p)=True:=eq_true (by omega)
    have b1:(p<(ps.length:Int))=True:=eq_true (by omega)
    obtain⟨ad,A1,c1_,e,e0,_,_,_⟩:=at_T35 hp p (by omega) (by omega)
    generalize (rd_T35 ps p).f0=pl at e0 ⊢
    have E0:=aM e0
    subst e
    generalize ps.length=n4 at h4 d2 b1
    clear hp hS hr c0 c1 d3 c2 d4 e0
    go_enter Try.func40,Try.ntmps40
    go_upto_region 1 with fail
    refine start_ (n:=24) (S:=fun w'=>w'.cell? ⟨SB,4,none⟩=some (.slice (some ad) n4 c4)∧w'.cell? ⟨RB,0,none⟩=some (.int .i64 r)∧w'.cell? (ad.add (p.toNat * 2))=some (.int .i64 pl)) (ds:= []) #[F,F,F,F,F,F,F,F,F,F,F,F,F,F,F,F,F,F,F,F,F,F,F,F] (by kernel_rfl) rfl rfl ⟨h4.out,hR.out,E0.out⟩ (fun hHeld=>?_)
    refine pure_ (i:=0) (N:=some 5) (v:=?_) (a':=?_) #[T,F,F,F,F,F,F,F,F,F,F,F,F,F,F,F,F,F,F,F,F,F,F,F] rfl rfl (by kernel_rfl) (fun _ _ _ h=>h) (Or.inl ⟨by rfl,?_⟩) ?_ ?_
    rotate_left;(intro w';go_simp;with_reducible rfl);rotate_left;(simp only [pq];rfl)
    refine pure_ (i:=1) (N:=some 6) (v:=?_) (a':=?_) #[T,T,F,F,F,F,F,F,F,F,F,F,F,F,F,F,F,F,F,F,F,F,F,F] rfl rfl (by kernel_rfl) (fun _ _ _ h=>h) (Or.inl ⟨by rfl,?_⟩) ?_ ?_
    rotate_left;(intro w';go_simp;with_reducible rfl);rotate_left;(simp only [pq];rfl)
    refine pure_ (i:=2) (N:=some 7) (v:=?_) (a':=?_) #[T,T,T,F,F,F,F,F,F,F,F,F,F,F,F,F,F,F,F,F,F,F,F,F] rfl rfl (by kernel_rfl) (fun _ _ _ h=>h) (Or.inl ⟨by rfl,?_⟩) ?_ ?_
    rotate_left;(intro w';go_simp;with_reducible rfl);rotate_left;(simp only [pq];rfl)
    refine pure_ (i:=3) (N:=some 8) (v:=?_) (a':=?_) #[T,T,T,T,F,F,F,F,F,F,F,F,F,F,F,F,F,F,F,F,F,F,F,F] rfl rfl (by kernel_rfl) (fun _ _ _ h=>h) (Or.inl ⟨by rfl,?_⟩) ?_ ?_
    rotate_left;(intro w';go_simp;with_reducible rfl);rotate_left;(simp only [pq];rfl)
    refine pure_ (i:=4) (N:=some 9) (v:=?_) (a':=?_) #[T,T,T,T,T,F,F,F,F,F,F,F,F,F,F,F,F,F,F,F,F,F,F,F] rfl rfl (by kernel_rfl) (fun _ _ _ h=>h) (Or.inl ⟨by rfl,?_⟩) ?_ ?_
    rotate_left;(intro w';go_simp;with_reducible rfl);rotate_left;(simp only [pq];rfl)
    refine take_ (i:=5) (N:=some 10) (v:=?_) (a':=?_) #[T,T,T,T,T,T,F,F,F,F,F,F,F,F,F,F,F,F,F,F,F,F,F,F] rfl rfl (by kernel_rfl) (fun _ _ _ h=>h) (Or.inl ⟨by rfl,?_⟩) hHeld ?_ ?_
    rotate_left
    ·rintro w' ⟨s0,s1,s2⟩
     go_simp
     with_reducible rfl
    rotate_left
    ·simp only [pq]
     rfl
    refine pure_ (i:=6) (N:=some 11) (v:=?_) (a':=?_) #[T,T,T,T,T,T,T,F,F,F,F,F,F,F,F,F,F,F,F,F,F,F,F,F] rfl rfl (by kernel_rfl) (fun _ _ _ h=>h) (Or.inl ⟨by rfl,?_⟩) ?_ ?_
    rotate_left;(intro w';go_simp;with_reducible rfl);rotate_left;(simp only [pq];rfl)
    refine pure_ (i:=7) (N:=some 12) (v:=?_) (a':=?_) #[T,T,T,T,T,T,T,T,F,F,F,F,F,F,F,F,F,F,F,F,F,F,F,F] rfl rfl (by kernel_rfl) (fun _ _ _ h=>h) (Or.inl ⟨by rfl,?_⟩) ?_ ?_
    rotate_left;(intro w';go_simp;with_reducible rfl);rotate_left;(simp only [pq];rfl)
    refine pure_ (i:=8) (N:=some 13) (v:=?_) (a':=?_) #[T,T,T,T,T,T,T,T,T,F,F,F,F,F,F,F,F,F,F,F,F,F,F,F] rfl rfl (by kernel_rfl) (fun _ _ _ h=>h) (Or.inl ⟨by rfl,?_⟩) ?_ ?_
    rotate_left;(intro w';go_simp;with_reducible rfl);rotate_left;(simp only [pq];rfl)
    refine pure_ (i:=9) (N:=some 14) (v:=?_) (a':=?_) #[T,T,T,T,T,T,T,T,T,T,F,F,F,F,F,F,F,F,F,F,F,F,F,F] rfl rfl (by kernel_rfl) (fun _ _ _ h=>h) (Or.inl ⟨by rfl,?_⟩) ?_ ?_
    rotate_left;(intro w';go_simp;with_reducible rfl);rotate_left;(simp only [pq];rfl)
    refine pure_ (i:=10) (N:=some 15) (v:=?_) (a':=?_) #[T,T,T,T,T,T,T,T,T,T,T,F,F,F,F,F,F,F,F,F,F,F,F,F] rfl rfl (by kernel_rfl) (fun _ _ _ h=>h) (Or.inl ⟨by rfl,?_⟩) ?_ ?_
    rotate_left;(intro w';go_simp;with_reducible rfl);rotate_left;(simp only [pq];rfl)
    refine pure_ (i:=11) (N:=some 16) (v:=?_) (a':=?_) #[T,T,T,T,T,T,T,T,T,T,T,T,F,F,F,F,F,F,F,F,F,F,F,F] rfl rfl (by kernel_rfl) (fun _ _ _ h=>h) (Or.inl ⟨by rfl,?_⟩) ?_ ?_
    rotate_left;(intro w';go_simp;with_reducible rfl);rotate_left;(simp only [pq];rfl)
    refine pure_ (i:=12) (N:=some 17) (v:=?_) (a':=?_) #[T,T,T,T,T,T,T,T,T,T,T,T,T,F,F,F,F,F,F,F,F,F,F,F] rfl rfl (by kernel_rfl) (fun _ _ _ h=>h) (Or.inl ⟨by rfl,?_⟩) ?_ ?_
    rotate_left;(intro w';go_simp;with_reducible rfl);rotate_left;(simp only [pq];rfl)
    refine pure_ (i:=13) (N:=some 18) (v:=?_) (a':=?_) #[T,T,T,T,T,T,T,T,T,T,T,T,T,T,F,F,F,F,F,F,F,F,F,F] rfl rfl (by kernel_rfl) (fun _ _ _ h=>h) (Or.inl ⟨by rfl,?_⟩) ?_ ?_
    rotate_left;(intro w';go_simp;with_reducible rfl);rotate_left;(simp only [pq];rfl)
    refine pure_ (i:=15) (N:=some 20) (v:=?_) (a':=?_) #[T,T,T,T,T,T,T,T,T,T,T,T,T,T,F,T,F,F,F,F,F,F,F,F] rfl rfl (by kernel_rfl) (fun _ _ _ h=>h) (Or.inl ⟨by rfl,?_⟩) ?_ ?_
    rotate_left;(intro w';go_simp;with_reducible rfl);rotate_left;(simp only [pq];rfl)
    refine take_ (i:=14) (N:=some 19) (v:=?_) (a':=?_) #[T,T,T,T,T,T,T,T,T,T,T,T,T,T,T,T,F,F,F,F,F,F,F,F] rfl rfl (by kernel_rfl) (fun _ _ _ h=>h) (Or.inl ⟨by rfl,?_⟩) hHeld ?_ ?_
    rotate_left
    ·rintro w' ⟨s0,s1,s2⟩
     go_simp
     with_reducible rfl
    rotate_left
    ·simp only [pq]
     rfl
    refine pure_ (i:=16) (N:=some 21) (v:=?_) (a':=?_) #[T,T,T,T,T,T,T,T,T,T,T,T,T,T,T,T,T,F,F,F,F,F,F,F] rfl rfl (by kernel_rfl) (fun _ _ _ h=>h) (Or.inl ⟨by rfl,?_⟩) ?_ ?_
    rotate_left;(intro w';go_simp;with_reducible rfl);rotate_left;(simp only [pq];rfl)
    refine pure_ (i:=17) (N:=some 22) (v:=?_) (a':=?_) #[T,T,T,T,T,T,T,T,T,T,T,T,T,T,T,T,T,T,F,F,F,F,F,F] rfl rfl (by kernel_rfl) (fun _ _ _ h=>h) (Or.inl ⟨by rfl,?_⟩) ?_ ?_
    rotate_left;(intro w';go_simp;with_reducible rfl);rotate_left;(simp only [pq];rfl)
    refine take_ (i:=18) (N:=some 23) (v:=?_) (a':=?_) #[T,T,T,T,T,T,T,T,T,T,T,T,T,T,T,T,T,T,T,F,F,F,F,F] rfl rfl (by kernel_rfl) (fun _ _ _ h=>h) (Or.inl ⟨by rfl,?_⟩) hHeld ?_ ?_
    rotate_left
    ·rintro w' ⟨s0,s1,s2⟩
     go_simp
     with_reducible rfl
    rotate_left
    ·simp only [pq]
     rfl
    refine take_ (i:=19) (N:=some 24) (v:=?_) (a':=?_) #[T,T,T,T,T,T,T,T,T,T,T,T,T,T,T,T,T,T,T,T,F,F,F,F] rfl rfl (by kernel_rfl) (fun _ _ _ h=>h) (Or.inl ⟨by rfl,?_⟩) hHeld ?_ ?_
    rotate_left
    ·rintro w' ⟨s0,s1,s2⟩
     go_simp
     with_reducible rfl
    rotate_left
    ·simp only [pq]
     rfl
    refine pure_ (i:=20) (N:=some 25) (v:=?_) (a':=?_) #[T,T,T,T,T,T,T,T,T,T,T,T,T,T,T,T,T,T,T,T,T,F,F,F] rfl rfl (by kernel_rfl) (fun _ _ _ h=>h) (Or.inl ⟨by rfl,?_⟩) ?_ ?_
    rotate_left;(intro w';go_simp;with_reducible rfl);rotate_left;(simp only [pq];rfl)
    refine pure_ (i:=21) (N:=some 26) (v:=?_) (a':=?_) #[T,T,T,T,T,T,T,T,T,T,T,T,T,T,T,T,T,T,T,T,T,T,F,F] rfl rfl (by kernel_rfl) (fun _ _ _ h=>h) (Or.inl ⟨by rfl,?_⟩) ?_ ?_
    rotate_left;(intro w';go_simp;with_reducible rfl);rotate_left;(simp only [pq];rfl)
    refine pure_ (i:=22) (N:=some 27) (v:=?_) (a':=?_) #[T,T,T,T,T,T,T,T,T,T,T,T,T,T,T,T,T,T,T,T,T,T,T,F] rfl rfl (by kernel_rfl) (fun _ _ _ h=>h) (Or.inl ⟨by rfl,?_⟩) ?_ ?_
    rotate_left;(intro w';go_simp;with_reducible rfl);rotate_left;(simp only [pq];rfl)
    refine pure_ (i:=23) (N:=some 4) (v:=?_) (a':=?_) #[T,T,T,T,T,T,T,T,T,T,T,T,T,T,T,T,T,T,T,T,T,T,T,T] rfl rfl (by kernel_rfl) (fun _ _ _ h=>h) (Or.inl ⟨by rfl,?_⟩) ?_ ?_
    rotate_left;(intro w';go_simp;with_reducible rfl);rotate_left;(simp only [pq];rfl)
    refine done_ (by kernel_rfl) ?_
    go_wp2
    go_ret
    exact⟨by by_cases h:pl=r<;>simp [h],aO (Below.refl _ W)⟩
def rowsOk (nt:Nat) (ps:List S35):Nat→List (List Int)→Bool
 |_,[]=>true
 |r,row::t=>decide (row.length=nt+1) && row.all (okEnt ps (r:Int)) && rowsOk nt ps (r+1) t
def tbRight (nn nt:Nat) (ps:List S35) (tb:List (List Int)):Bool:=ps.all (okProd nn nt) && (!decide (nn=0) && (decide (tb.length=nn) && rowsOk nt ps 0 tb))
theorem at_rowi {w:World}{A:Option Addr}{n:Nat}{xs:List (List Int)}(h:Kd.C (Kd.slice 3 (Kd.int .i64)) w A n xs) (i:Int) (h0:0≤i) (h1:i<n):∃ad A0 c0,A=some ad∧w.cell? (ad.add i.toNat)=some (.slice A0 (xs.getD i.toNat []).length c0)∧(xs.getD i.toNat []).length≤c0∧(Kd.int .i64).C w A0 (xs.getD i.toNat []).length (xs.getD i.toNat []):=by
 obtain⟨ad,c,e,_,hK,hc0⟩:=Kd.C_get h ([]:List Int) i h0 h1
 have hc:∀j u,c[j]?=some u→w.cell? (ad.add (i.toNat * 1+j))=some u:=hc0
 obtain⟨A0,c0,rfl,l0,g0⟩:=hK
 exact⟨ad,A0,c0,e,by have hq:=hc 0 _ rfl;rwa [Nat.mul_one,Nat.add_zero] at hq,l0,g0⟩
theorem any_not' {α:Type}(p:α→Bool) (l:List α):(l.any fun x=>!p x)=!l.all p:=by rw [←any_not];simp
def machine_Right.f (l0_0:List ByteArray) (l0_1:List (S72)) (a0_2:Int) (a0_3:Int) (l0_4:List (S35)) (l1:List (List Int)):Option Bool:=if l0_1.length≤1000000000∧l1.length≤1000000000∧l0_4.length≤1000000000∧l0_4.all (fun p=>decide (p.f1.length≤9223372036854775807))=true∧l1.all (fun p=>decide (p.length≤9223372036854775807))=true then some (tbRight l0_0.length l0_1.length l0_4 l1) else none
set_option maxHeartbeats 4000000 in
set_option maxRecDepth 100000 in
theorem machine_Right.calls (A0_0:Option Addr) (c0_0:Nat) (l0_0:List ByteArray) (A0_1:Option Addr) (c0_1:Nat) (l0_1:List (S72)) (a0_2:Int) (a0_3:Int) (A0_4:Option Addr) (c0_4:Nat) (l0_4:List (S35)) (A1:Option Addr) (c1:Nat) (l1:List (List Int)) (r:Bool) (w:World)
 (hr0_0:Kd.C Kd.string w A0_0 l0_0.length l0_0) (hc0_0:l0_0.length≤c0_0) (hr0_1:Kd.C k72 w A0_1 l0_1.length l0_1) (hc0_1:l0_1.length≤c0_1) (hr0_4:Kd.C k35 w A0_4 l0_4.length l0_4) (hc0_4:l0_4.length≤c0_4) (hr1:Kd.C (Kd.slice 3 (Kd.int .i64)) w A1 l1.length l1) (hc1:l1.length≤c1)
 (h:machine_Right.f l0_0 l0_1 a0_2 a0_3 l0_4 l1=some r):
 Calls Try.prog 25 #[.agg #[.slice A0_0 l0_0.length c0_0,.slice A0_1 l0_1.length c0_1,.int .i64 a0_2,.int .i64 a0_3,.slice A0_4 l0_4.length c0_4],.slice A1 l1.length c1] w fun e w'=>e= .returned (.bool r)∧Below w.heap.size w w':=by
 unfold machine_Right.f at h
 split at h
 case isFalse=>simp at h
 rename_i hbig
 obtain⟨hb1,hb2,hb3,hb4,hb5⟩:=hbig
 obtain rfl:=Option.some.inj h
 clear h
 have HA:Aside0 (Below w.heap.size w (w.alloc (.cells #[.slice A0_0 l0_0.length c0_0,.slice A0_1 l0_1.length c0_1,.int .i64 a0_2,.int .i64 a0_3,.slice A0_4 l0_4.length c0_4] 26))):=⟨(Below.refl _ w).alloc (Nat.le_refl _) _⟩
 have P1:=aM (firsts_Right.calls A0_0 c0_0 l0_0 A0_1 c0_1 l0_1 a0_2 a0_3 A0_4 c0_4 l0_4 _ _ (bD hr0_0 HA.out) hc0_0 (bD hr0_1 HA.out) hc0_1 (bD hr0_4 HA.out) hc0_4 (by unfold firsts_Right.f;rw [if_pos ⟨by omega,hb4⟩]))
 have HBK:Aside0 ((w.alloc (.cells #[.slice A0_0 l0_0.length c0_0,.slice A0_1 l0_1.length c0_1,.int .i64 a0_2,.int .i64 a0_3,.slice A0_4 l0_4.length c0_4] 26)).heap[w.heap.size]?=some (.cells #[.slice A0_0 l0_0.length c0_0,.slice A0_1 l0_1.length c0_1,.int .i64 a0_2,.int .i64 a0_3,.slice A0_4 l0_4.length c0_4] 26 (0,0))):=⟨heap_alloc_new w _⟩
 have HR4:=aM (bD hr0_4 HA.out)
 have HR1:=aM (bD hr1 HA.out)
 have HBIG:=aM (And.intro hb1 (And.intro hb2 hb3))
 have HB5:=aM hb5
 clear hr0_0 hc0_0 hr0_1 hc0_1 hr0_4 hc0_4 hr1 hc1 hb1 hb2 hb3 hb4 hb5
 generalize hrr:tbRight l0_0.length l0_1.length l0_4 l1=rr
 unfold tbRight at hrr
 generalize l0_4.all (okProd l0_0.length l0_1.length)=R1 at P1 hrr
 have HRR:=aM hrr
 clear hrr
 go_enter Try.func25,Try.ntmps25
 go_upto_region 1 with fail
 generalize (w.alloc (.cells #[.slice A0_0 l0_0.length c0_0,.slice A0_1 l0_1.length c0_1,.int .i64 a0_2,.int .i64 a0_3,.slice A0_4 l0_4.length c0_4] 26))=w1 at HA P1 HBK HR4 HR1 ⊢
 have HSB:Aside0 (w.heap.size<w1.heap.size):=⟨bN HBK.out⟩
 have HC:Aside0 (∀W,Below w1.heap.size w1 W→W.cell? ⟨w.heap.size,0,none⟩=some (.slice A0_0 l0_0.length c0_0)∧W.cell? ⟨w.heap.size,1,none⟩=some (.slice A0_1 l0_1.length c0_1)∧W.cell? ⟨w.heap.size,2,none⟩=some (.int .i64 a0_2)∧W.cell? ⟨w.heap.size,3,none⟩=some (.int .i64 a0_3)∧W.cell? ⟨w.heap.size,4,none⟩=some (.slice A0_4 l0_4.length c0_4)):=⟨fun W hW=>by
  have hb:=(hW.block _ (bN HBK.out)).trans HBK.out
  exact⟨(aG hb 0).trans rfl,(aG hb 1).trans rfl,(aG hb 2).trans rfl,(aG hb 3).trans rfl,(aG hb 4).trans rfl⟩⟩
 obtain⟨q0,q1,q2,q3,q4⟩:=HC.out w1 (Below.refl _ _)
 cases R1 with
 |false=>
  go_wp2_with (first|(go_at_call 39;(with_reducible refine P1.out.mono ?_);rintro e w2 ⟨rfl,hb2⟩;have HB2:=aM hb2;clear hb2 P1 q0 q1 q2 q3 q4))
  go_ret
  exact⟨by rw [←HRR.out];rfl,HA.out.trans (HB2.out.mono HA.out.size)⟩
 |true=>
  by_cases hn:l0_0.length=0
  ·have d0:decide (l0_0.length=0)=true:=decide_eq_true hn
   have d1:((l0_0.length:Int)==0)=true:=by simp [hn]
   have HN:=aM hn
   clear hn
   go_wp2_with (first|(go_at_call 39;(with_reducible refine P1.out.mono ?_);rintro e w2 ⟨rfl,hb2⟩;have HB2:=aM hb2;clear hb2 P1 q0 q1 q2 q3 q4;obtain⟨q0,q1,q2,q3,q4⟩:=HC.out w2 HB2.out;have hn:=HN.out))
   go_ret
   exact⟨by rw [←HRR.out,d0];rfl,HA.out.trans (HB2.out.mono HA.out.size)⟩
  ·have d0:decide (l0_0.length=0)=false:=decide_eq_false hn
   have d1:((l0_0.length:Int)==0)=false:=by simp [hn]
   have HN:=aM hn
   by_cases ht:l1.length=l0_0.length
   ·have d2:decide (l1.length=l0_0.length)=true:=decide_eq_true ht
    have HT:=aM ht
    clear hn ht
    go_upto_region 3 with(first|(go_at_call 39;(with_reducible refine P1.out.mono ?_);rintro e w2 ⟨rfl,hb2⟩;have HB2:=aM hb2;clear hb2 P1 q0 q1 q2 q3 q4;obtain⟨q0,q1,q2,q3,q4⟩:=HC.out w2 HB2.out;have hn:=HN.out;have ht:=HT.out;have ht2:((l1.length:Int) !=(l0_0.length:Int))=false:=by simp [HT.out]))
    have HR1':Aside0 ((Kd.slice 3 (Kd.int .i64)).C w1 A1 l0_0.length l1):=⟨HT.out ▸ HR1.out⟩
    have hw1:IntKind.i64.wrap ((l0_1.length:Int)+1)=(l0_1.length:Int)+1:=by rw [IntKind.wrap_i64];have:=HBIG.out.1;omega
    have HNB:Aside0 (l0_0.length≤1000000000):=⟨by have:=HBIG.out.2.1;have:=HT.out;omega⟩
    clear q0 q1 q2 q3 q4 HR1
    go_wp2
    go_loopg [5,6,7,27] l0_0.length (fun gg _ _ _ s27 wr=>∃kk:Nat,kk≤l0_0.length∧l0_0.length - kk≤gg∧s27= .int .i64 kk∧Aside0 (Below w1.heap.size w1 wr)∧Aside0 (rowsOk l0_1.length l0_4 0 l1=rowsOk l0_1.length l0_4 kk (l1.drop kk)))
    case atStart=>exact⟨0,Nat.zero_le _,by omega,rfl,HB2,⟨by simp⟩⟩
    case round=>
     clear HB2
     obtain⟨kk,hkk,hg,rfl,BW,PA⟩:=hrel
     by_cases hlt:kk<l0_0.length
     ·have hltz:decide ((kk:Int)<(l0_0.length:Int))=true:=decide_eq_true (by omega)
      have k0:(0≤(kk:Int))=True:=eq_true (by omega)
      have k1:((kk:Int)<(l0_0.length:Int))=True:=eq_true (by omega)
      have hlt1:kk<l1.length:=by rw [HT.out];exact hlt
      obtain⟨ad,A9,c9,e,l9,_,hC9⟩:=at_rowi (bD HR1'.out BW.out) (kk:Int) (by omega) (by omega)
      rw [Int.toNat_natCast,show l1.getD kk []=l1[kk] by rw [List.getD_eq_getElem?_getD,List.getElem?_eq_getElem hlt1];rfl] at l9 hC9
      have hrow:l1[kk].length≤9223372036854775807:=of_decide_eq_true (List.all_eq_true.1 HB5.out _ (List.getElem_mem hlt1))
      have PB:Aside0 (rowsOk l0_1.length l0_4 0 l1=(decide (l1[kk].length=l0_1.length+1) && l1[kk].all (okEnt l0_4 (kk:Int)) && rowsOk l0_1.length l0_4 (kk+1) (l1.drop (kk+1)))):=⟨by rw [PA.out,List.drop_eq_getElem_cons hlt1,rowsOk]⟩
      generalize l1[kk]=row at l9 hC9 hrow PB
      subst e
      have hwk:IntKind.i64.wrap ((kk:Int)+1)=(kk:Int)+1:=by rw [IntKind.wrap_i64];have:=HNB.out;omega
      obtain⟨n9,hn9⟩:∃n9,n9=row.length:=⟨_,rfl⟩
      rw [←hn9] at l9
      have HN9:=aM hn9
      have HLT:=aM (And.intro hlt hg)
      have HC9:=aM hC9
      have HROW:=aM hrow
      clear hlt hlt1 hkk hg hn9 hC9 hrow PA
      go_upto_region 7 with fail
      have HB4:Aside0 (Below w1.heap.size w1 (wr.alloc (.cells #[.int .i64 (kk:Int)] 3))):=⟨BW.out.trans ((aN (Below.refl _ wr) _).mono BW.out.size)⟩
      have HB4':Aside0 (Below wr.heap.size wr (wr.alloc (.cells #[.int .i64 (kk:Int)] 3))):=⟨aN (Below.refl _ wr) _⟩
      have HRB:Aside0 ((wr.alloc (.cells #[.int .i64 (kk:Int)] 3)).heap[wr.heap.size]?=some (.cells #[.int .i64 (kk:Int)] 3 (0,0))):=⟨heap_alloc_new wr _⟩
      generalize (wr.alloc (.cells #[.int .i64 (kk:Int)] 3))=w4 at HB4 HB4' HRB ⊢
      generalize wr.heap.size=RB at HRB ⊢
      have eg:∀args w,(callFunc 40 args).run Try.prog w= .ok (.enter 40 args) w:=enters_of Try.func40 (by kernel_rfl) rfl
      have hcon:=containsInt_any (fun x=>!okEnt l0_4 (kk:Int) x) 40 #[.pointer (some ⟨w.heap.size,0,none⟩),.pointer (some ⟨RB,0,none⟩)] eg A9 c9 row w4 (bD HC9.out HB4'.out) HROW.out (fun W x _ hb=>by
       refine(mright1_any x (kk:Int) l0_4 w.heap.size RB W A0_4 c0_4 (bD HR4.out (HB4.out.trans (hb.mono HB4.out.size))) (HC.out W (HB4.out.trans (hb.mono HB4.out.size))).2.2.2.2 ((aG (bF HRB.out hb) 0).trans rfl)).mono ?_
       rintro e w' ⟨he,hb'⟩
       exact⟨he,hb.trans (hb'.mono hb.size)⟩)
      rw [any_not',←HN9.out] at hcon
      have PB':Aside0 (rowsOk l0_1.length l0_4 0 l1=(decide (n9=l0_1.length+1) && row.all (okEnt l0_4 (kk:Int)) && rowsOk l0_1.length l0_4 (kk+1) (l1.drop (kk+1)))):=⟨by rw [PB.out,HN9.out]⟩
      generalize row.all (okEnt l0_4 (kk:Int))=R2 at hcon PB'
      have P5:=aM hcon
      obtain⟨q0,q1,q2,q3,q4⟩:=HC.out w4 HB4.out
      clear hcon eg PB BW
      have e6:∀args w,(callFunc 41 args).run Try.prog w= .ok (.enter 41 args) w:=enters_of Try.func41 (by kernel_rfl) rfl
      by_cases h9:n9=l0_1.length+1
      ·have e9:((n9:Int) !=(l0_1.length:Int)+1)=false:=by simp [h9]
       have H9:=aM h9
       have D9:=aM (decide_eq_true h9)
       clear h9
       cases R2 with
       |true=>
        have PC:Aside0 (rowsOk l0_1.length l0_4 0 l1=rowsOk l0_1.length l0_4 (kk+1) (l1.drop (kk+1))):=⟨by rw [PB'.out,D9.out];simp⟩
        go_wp2_with (go_at_fn 41;refine P5.out.mono ?_;rintro e w5 ⟨rfl,hb5⟩;have HB5w:=aM hb5;clear hb5)
        go_roundg (l0_0.length - (kk+1))
        case measure=>have:=HLT.out;omega
        case rel=>exact⟨kk+1,by have:=HLT.out;omega,Nat.le_refl _,by push_cast;rfl,⟨HB4.out.trans (HB5w.out.mono HB4.out.size)⟩,PC⟩
       |false=>
        have PC:Aside0 (rowsOk l0_1.length l0_4 0 l1=false):=⟨by rw [PB'.out];simp⟩
        go_wp2_with (go_at_fn 41;refine P5.out.mono ?_;rintro e w5 ⟨rfl,hb5⟩;have HB5w:=aM hb5;clear hb5)
        go_ret
        exact⟨by rw [←HRR.out,d0,d2,PC.out];rfl,HA.out.trans ((HB4.out.trans (HB5w.out.mono HB4.out.size)).mono HA.out.size)⟩
      ·have e9:((n9:Int) !=(l0_1.length:Int)+1)=true:=by simp;omega
       have PC:Aside0 (rowsOk l0_1.length l0_4 0 l1=false):=⟨by rw [PB'.out,decide_eq_false h9];simp⟩
       clear h9
       go_wp2
       go_ret
       exact⟨by rw [←HRR.out,d0,d2,PC.out];rfl,HA.out.trans (HB4.out.mono HA.out.size)⟩
     ·obtain rfl:kk=l0_0.length:=by omega
      have hltz:decide ((l0_0.length:Int)<(l0_0.length:Int))=false:=decide_eq_false (by omega)
      have PD:Aside0 (rowsOk l0_1.length l0_4 0 l1=true):=⟨by rw [PA.out,←HT.out,List.drop_length];rfl⟩
      clear hlt hkk hg PA
      go_wp2
      go_ret
      exact⟨by rw [←HRR.out,d0,d2,PD.out];rfl,HA.out.trans (BW.out.mono HA.out.size)⟩
   ·have d2:decide (l1.length=l0_0.length)=false:=decide_eq_false ht
    have ht2:((l1.length:Int) !=(l0_0.length:Int))=true:=by simp;omega
    have HT:=aM ht
    clear hn ht
    go_wp2_with (first|(go_at_call 39;(with_reducible refine P1.out.mono ?_);rintro e w2 ⟨rfl,hb2⟩;have HB2:=aM hb2;clear hb2 P1 q0 q1 q2 q3 q4;obtain⟨q0,q1,q2,q3,q4⟩:=HC.out w2 HB2.out;have hn:=HN.out;have ht:=HT.out))
    go_ret
    exact⟨by rw [←HRR.out,d0,d2];rfl,HA.out.trans (HB2.out.mono HA.out.size)⟩
theorem awaits1_any (x:S43) (B:Nat) (W:World) (A0 A1:Option Addr) (n0 n1 c0 c1:Nat)
 (h0:W.cell? ⟨B,0,none⟩=some (.slice A0 n0 c0)) (h1:W.cell? ⟨B,1,none⟩=some (.slice A1 n1 c1)) (hB:B<W.heap.size):
 Calls Try.prog 50 #[.agg #[.bool x.f0,.int .i64 x.f1],.pointer (some ⟨B,0,none⟩)] W fun e w'=>e= .returned (.bool (!okSym n0 n1 x))∧Below W.heap.size W w':=by
 have hne:B≠W.heap.size:=by omega
 obtain⟨b,n⟩:=x
 unfold okSym
 by_cases c0:n<0
 ·have d0:decide (n<0)=true:=decide_eq_true c0
  have d1:decide (0≤n)=false:=decide_eq_false (by omega)
  cases b<;>(go_enter Try.func50,Try.ntmps50;go_wp2;go_ret;exact⟨rfl,(Below.refl _ W).alloc (Nat.le_refl _) _⟩)
 have d0:decide (n<0)=false:=decide_eq_false c0
 have d1:decide (0≤n)=true:=decide_eq_true (by omega)
 cases b with
 |true=>
  by_cases c2:(n1:Int)≤n
  ·have d2:decide ((n1:Int)≤n)=true:=decide_eq_true c2
   have d3:decide (n<(n1:Int))=false:=decide_eq_false (by omega)
   go_enter Try.func50,Try.ntmps50
   go_wp2
   go_ret
   exact⟨rfl,(Below.refl _ W).alloc (Nat.le_refl _) _⟩
  ·have d2:decide ((n1:Int)≤n)=false:=decide_eq_false c2
   have d3:decide (n<(n1:Int))=true:=decide_eq_true (by omega)
   go_enter Try.func50,Try.ntmps50
   go_wp2
   go_ret
   exact⟨rfl,(Below.refl _ W).alloc (Nat.le_refl _) _⟩
 |false=>
  by_cases c2:(n0:Int)≤n
  ·have d2:decide ((n0:Int)≤n)=true:=decide_eq_true c2
   have d3:decide (n<(n0:Int))=false:=decide_eq_false (by omega)
   go_enter Try.func50,Try.ntmps50
   go_wp2
   go_ret
   exact⟨rfl,(Below.refl _ W).alloc (Nat.le_refl _) _⟩
  ·have d2:decide ((n0:Int)≤n)=false:=decide_eq_false c2
   have d3:decide (n<(n0:Int))=true:=decide_eq_true (by omega)
   go_enter Try.func50,Try.ntmps50
   go_wp2
   go_ret
   exact⟨rfl,(Below.refl _ W).alloc (Nat.le_refl _) _⟩
def stAwaits (nn nt:Nat) (l:List S43):Bool:=decide (l.length≤10000) && l.all (okSym nn nt)
set_option maxRecDepth 100000 in
theorem awaits_any (A0_0:Option Addr) (c0_0:Nat) (l0_0:List ByteArray) (A0_1:Option Addr) (c0_1:Nat) (l0_1:List (S72)) (a0_2:Int) (a0_3:Int) (A0_4:Option Addr) (c0_4:Nat) (l0_4:List (S35)) (A1:Option Addr) (c1:Nat) (l1:List (S43)) (w:World)
 (hr1:Kd.C k43 w A1 l1.length l1):
 Calls Try.prog 35 #[.agg #[.slice A0_0 l0_0.length c0_0,.slice A0_1 l0_1.length c0_1,.int .i64 a0_2,.int .i64 a0_3,.slice A0_4 l0_4.length c0_4],.slice A1 l1.length c1] w fun e w'=>e= .returned (.bool (stAwaits l0_0.length l0_1.length l1))∧Below w.heap.size w w':=by
 have HW:Aside0 (Below w.heap.size w (w.alloc (.cells #[.slice A0_0 l0_0.length c0_0,.slice A0_1 l0_1.length c0_1,.int .i64 a0_2,.int .i64 a0_3,.slice A0_4 l0_4.length c0_4] 26))):=⟨(Below.refl _ w).alloc (Nat.le_refl _) _⟩
 unfold stAwaits
 by_cases hl:l1.length≤10000
 ·have eg:∀args w,(callFunc 50 args).run Try.prog w= .ok (.enter 50 args) w:=enters_of Try.func50 (by kernel_rfl) rfl
  have e6:∀args w,(callFunc 51 args).run Try.prog w= .ok (.enter 51 args) w:=enters_of Try.func51 (by kernel_rfl) rfl
  have hcon:=containsSym_any (fun x=>!okSym l0_0.length l0_1.length x) 50 #[.pointer (some ⟨w.heap.size,0,none⟩)] eg A1 c1 l1 (w.alloc (.cells #[.slice A0_0 l0_0.length c0_0,.slice A0_1 l0_1.length c0_1,.int .i64 a0_2,.int .i64 a0_3,.slice A0_4 l0_4.length c0_4] 26)) (bD hr1 HW.out) (by omega) (fun W x _ hb=>by
   have hlt:w.heap.size<(w.alloc (.cells #[.slice A0_0 l0_0.length c0_0,.slice A0_1 l0_1.length c0_1,.int .i64 a0_2,.int .i64 a0_3,.slice A0_4 l0_4.length c0_4] 26)).heap.size:=by simp
   refine(awaits1_any x w.heap.size W A0_0 A0_1 l0_0.length l0_1.length c0_0 c0_1 ?_ ?_ (Nat.lt_of_lt_of_le hlt hb.size)).mono ?_
   ·exact(hb.cell (p:=⟨w.heap.size,0,none⟩) hlt).trans (by simp)
   ·exact(hb.cell (p:=⟨w.heap.size,1,none⟩) hlt).trans (by simp)
   ·rintro e w' ⟨he,hb'⟩
    exact⟨he,hb.trans (hb'.mono hb.size)⟩)
  have HD:=aM (decide_eq_true hl)
  clear hr1
  rw [any_not'] at hcon
  generalize l1.all (okSym l0_0.length l0_1.length)=rr at hcon ⊢
  go_enter Try.func35,Try.ntmps35
  go_wp2_with (go_at_fn 51;refine hcon.mono ?_;rintro e w' ⟨rfl,hb'⟩)
  go_ret
  exact⟨by rw [HD.out];simp,HW.out.trans (hb'.mono (by simp))⟩
 ·have hd:decide (l1.length≤10000)=false:=decide_eq_false hl
  rw [hd]
  clear hr1 hd
  go_enter Try.func35,Try.ntmps35
  go_wp2
  go_ret
  exact⟨rfl,HW.out⟩
theorem R_lit0 {α:Type}(d:Kd α) (e:Nat) (W:World) (ok:Nat→Prop) (h:ok W.heap.size):d.R e (W.alloc (.cells #[] e)) W.heap.size ok (.slice (some ⟨W.heap.size,0,none⟩) 0 0) []:=by
 refine⟨fun k hk=>?_,[],?_,?_⟩
 ·have:W.heap.size=k:=by simpa [Value.ownBlock] using hk
  subst this
  exact h
 ·have h2:=World.ownsRow_lit (base:=W.heap.size) (e:=e) (size:=d.sz) W #[] 0 (Nat.le_refl _) (by decide) (by simp)
  simpa using h2
 ·exact⟨by simp,by simp⟩
set_option maxRecDepth 100000 in
theorem cloneSym_any (A:Option Addr) (c:Nat) (l:List (S43)) (w:World) (hr:Kd.C k43 w A l.length l) (hb:l.length≤1000000000):
 Calls Try.prog 37 #[.slice A l.length c] w fun e w'=>∃v,e= .returned v∧Kd.R k43 43 w' w.heap.size (fun _=>True) v l∧Below w.heap.size w w':=by
 cases A with
 |none=>
  obtain rfl:l= []:=by
   cases l with
   |nil=>rfl
   |cons x l=>obtain⟨ad,c,e,_⟩:=Kd.C_get hr x 0 (by omega) (by simp);cases e
  have heq:=Lib.run_eql_slice_nil (P:=Try.prog) w 29 43 none 0 c 0 0 Try.underlying29
  go_enter Try.func37,Try.ntmps37
  go_wp2
  go_ret
  exact⟨_,rfl,Kd.R_nil _ _ _ _ _,Below.refl _ _⟩
 |some ad=>
  have heq:=Lib.run_eql_slice_nil (P:=Try.prog) w 29 43 (some ad) l.length c 0 0 Try.underlying29
  have HR:=aM hr
  have HB:=aM hb
  clear hr hb
  go_enter Try.func37,Try.ntmps37
  have HW:Aside0 (Below w.heap.size w (w.alloc (.cells #[] 43))):=⟨aN (Below.refl _ w) _⟩
  go_wp2_with (first|((with_reducible refine gate_builtin (b:= .append) (xs:=#[.tmp 5,.tmp 6]) rfl ?_);at_builtin;refine Kd.R_append_rows k43 (w0:=w) w.heap.size rfl (.tmp 5) (.tmp 6) 29 43 (.agg #[(.bool false),(.int .i64 0)]) 16 rfl Try.underlying29 info43 rfl (by decide) (by omega) _ ([]:List S43) l (some ad) l.length c (fun _=>True) (fun _=>False) rfl rfl (R_lit0 _ _ w _ trivial) (bD HR.out HW.out) (fun _ _ h=>h) (fun _ h=>h.elim) (fun _ _=>trivial) HW.out HW.out.size (by have:=HB.out;simp only [List.length_nil];omega) ?_;intro v9 w9 ho hb hg hat;have HO9:=aM ho;have HB9:=aM hb;clear ho hb hg hat))
  go_ret
  exact⟨_,rfl,HO9.out,HB9.out⟩
theorem miInt:(Try.prog.info? 3).map (fun i=>(i.zero,i.size,i.bytes))=some (some (.int .i64 0),1,8):=by kernel_rfl
set_option maxRecDepth 100000 in
theorem cloneInt_any (A:Option Addr) (c:Nat) (l:List (Int)) (w:World) (hr:Kd.C (Kd.int .i64) w A l.length l) (hb:l.length≤1000000000):
 Calls Try.prog 34 #[.slice A l.length c] w fun e w'=>∃v,e= .returned v∧Kd.R (Kd.int .i64) 3 w' w.heap.size (fun _=>True) v l∧Below w.heap.size w w':=by
 cases A with
 |none=>
  obtain rfl:l= []:=by
   cases l with
   |nil=>rfl
   |cons x l=>obtain⟨ad,c,e,_⟩:=Kd.C_get hr x 0 (by omega) (by simp);cases e
  have heq:=Lib.run_eql_slice_nil (P:=Try.prog) w 32 3 none 0 c 0 0 Try.underlying32
  go_enter Try.func34,Try.ntmps34
  go_wp2
  go_ret
  exact⟨_,rfl,Kd.R_nil _ _ _ _ _,Below.refl _ _⟩
 |some ad=>
  have heq:=Lib.run_eql_slice_nil (P:=Try.prog) w 32 3 (some ad) l.length c 0 0 Try.underlying32
  have HR:=aM hr
  have HB:=aM hb
  clear hr hb
  go_enter Try.func34,Try.ntmps34
  have HW:Aside0 (Below w.heap.size w (w.alloc (.cells #[] 3))):=⟨aN (Below.refl _ w) _⟩
  go_wp2_with (first|((with_reducible refine gate_builtin (b:= .append) (xs:=#[.tmp 5,.tmp 6]) rfl ?_);at_builtin;refine Kd.R_append_rows (Kd.int .i64) (w0:=w) w.heap.size rfl (.tmp 5) (.tmp 6) 32 3 (.int .i64 0) 8 rfl Try.underlying32 miInt rfl (by decide) (by omega) _ ([]:List Int) l (some ad) l.length c (fun _=>True) (fun _=>False) rfl rfl (R_lit0 _ _ w _ trivial) (bD HR.out HW.out) (fun _ _ h=>h) (fun _ h=>h.elim) (fun _ _=>trivial) HW.out HW.out.size (by have:=HB.out;simp only [List.length_nil];omega) ?_;intro v9 w9 ho hb hg hat;have HO9:=aM ho;have HB9:=aM hb;clear ho hb hg hat))
  go_ret
  exact⟨_,rfl,HO9.out,HB9.out⟩
def PS (bad:Nat→Prop) (W:World) (base PB:Nat) (st:List S43) (sp:List Int):Prop:=
 ∃vs vt,W.heap[PB]?=some (.cells #[vs,vt] 84 (0,0))∧base≤PB∧Kd.R k43 43 W base (fun k=>¬bad k) vs st.reverse∧Kd.R (Kd.int .i64) 3 W base (fun k=>¬bad k) vt sp
theorem PS.alloc {bad:Nat→Prop}{W:World}{base PB:Nat}{st:List S43}{sp:List Int}(h:PS bad W base PB st sp) (o:Obj):PS bad (W.alloc o) base PB st sp:=by
 obtain⟨vs,vt,h0,h1,h2,h3⟩:=h
 exact⟨vs,vt,aI h0 o,h1,aA h2 o,aA h3 o⟩
theorem PS.drew {bad:Nat→Prop}{W:World}{base PB:Nat}{st:List S43}{sp:List Int}(h:PS bad W base PB st sp):PS bad W.drew base PB st sp:=by
 obtain⟨vs,vt,h0,h1,h2,h3⟩:=h
 exact⟨vs,vt,h0,h1,aC h2,aC h3⟩
theorem PS.stack {bad:Nat→Prop}{W:World}{base PB:Nat}{vs vt vs':Value}{st':List S43}{sp:List Int}(h0:W.heap[PB]?=some (.cells #[vs,vt] 84 (0,0))) (h1:base≤PB) (h2:Kd.R k43 43 W base (fun k=>¬bad k) vs' st'.reverse) (h3:Kd.R (Kd.int .i64) 3 W base (fun k=>¬bad k) vt sp):
 PS bad (W.setCell ⟨PB,0,none⟩ vs') base PB st' sp:=
 ⟨vs',vt,blk_put h0 0 _ rfl,h1,Kd.R_set h2 h0 (by decide) 0 _,Kd.R_set h3 h0 (by decide) 0 _⟩
theorem PS.steps {bad:Nat→Prop}{W:World}{base PB:Nat}{vs vt vt':Value}{st:List S43}{sp':List Int}(h0:W.heap[PB]?=some (.cells #[vs,vt] 84 (0,0))) (h1:base≤PB) (h2:Kd.R k43 43 W base (fun k=>¬bad k) vs st.reverse) (h3:Kd.R (Kd.int .i64) 3 W base (fun k=>¬bad k) vt' sp'):
 PS bad (W.setCell ⟨PB,1,none⟩ vt') base PB st sp':=
 ⟨vs,vt',blk_put h0 1 _ rfl,h1,Kd.R_set h2 h0 (by decide) 1 _,Kd.R_set h3 h0 (by decide) 1 _⟩
theorem PS.mono {bad bad':Nat→Prop}{W:World}{base PB:Nat}{st:List S43}{sp:List Int}(h:PS bad W base PB st sp) (hb:∀k,bad' k→bad k):PS bad' W base PB st sp:=by
 obtain⟨vs,vt,h0,h1,h2,h3⟩:=h
 exact⟨vs,vt,h0,h1,Kd.R_mono h2 (fun k hk hb'=>hk (hb k hb')),Kd.R_mono h3 (fun k hk hb'=>hk (hb k hb'))⟩
theorem PS.bound {bad:Nat→Prop}{W:World}{base PB:Nat}{st:List S43}{sp:List Int}(h:PS bad W base PB st sp):PS (fun k=>bad k∨W.heap.size≤k) W base PB st sp:=by
 obtain⟨vs,vt,h0,h1,h2,h3⟩:=h
 exact⟨vs,vt,h0,h1,Kd.R_mono (Kd.R_bound h2) (fun k hk hb=>by have:=hk.2.2.1;rcases hb with h|h;exact hk.1 h;omega),Kd.R_mono (Kd.R_bound h3) (fun k hk hb=>by have:=hk.2.2.1;rcases hb with h|h;exact hk.1 h;omega)⟩
theorem PS.far {bad:Nat→Prop}{W:World}{base PB:Nat}{st:List S43}{sp:List Int}(h:PS bad W base PB st sp) {p:Addr}(hp:bad p.block) (hne:PB≠p.block) (u:Value):PS bad (W.setCell p u) base PB st sp:=by
 obtain⟨vs,vt,h0,h1,h2,h3⟩:=h
 exact⟨vs,vt,blk_far h0 hne u,h1,aE h2 (fun k hk e=>hk (e ▸ hp)) u,aE h3 (fun k hk e=>hk (e ▸ hp)) u⟩
theorem rev_last {α:Type}(x:α) (l:List α) (d:α):((x::l).reverse).getD l.length d=x:=by
 rw [List.reverse_cons,List.getD_eq_getElem?_getD,List.getElem?_append_right (by simp)];simp
theorem rev_take {α:Type}(x:α) (l:List α):((x::l).reverse).take l.length=l.reverse:=by
 rw [List.reverse_cons,List.take_append_of_le_length (by simp),List.take_of_length_le (by simp)]
set_option maxHeartbeats 4000000 in
set_option maxRecDepth 100000 in
theorem pop_any (bad:Nat→Prop) (x:S43) (st:List S43) (sp:List Int) (base PB:Nat) (W:World) (h:PS bad W base PB (x::st) sp) (hl:st.length≤1000000000):
 Calls Try.prog 52 #[.pointer (some ⟨PB,0,none⟩)] W fun e w'=>e= .returned (.agg #[.bool x.f0,.int .i64 x.f1])∧PS bad w' base PB st sp∧Kept W w' (fun k=>k=PB)∧∀B w0,B≤PB→Below B w0 W→Below B w0 w':=by
 have HW1:Aside0 (PS (fun k=>bad k∨k=W.heap.size) (W.alloc (.cells #[.bool false,.int .i64 0] 43)) base PB (x::st) sp):=⟨(PS.mono h.bound (fun k hk=>hk.imp id (fun e=>by omega))).alloc _⟩
 have HK1:Aside0 (Kept W (W.alloc (.cells #[.bool false,.int .i64 0] 43)) (fun k=>k=PB)):=⟨Kept.alloc (Kept.refl W (fun k=>k=PB)) _⟩
 have HQB:Aside0 ((W.alloc (.cells #[.bool false,.int .i64 0] 43)).heap[W.heap.size]?=some (.cells #[.bool false,.int .i64 0] 43 (0,0))):=⟨heap_alloc_new W _⟩
 have hPB:PB<W.heap.size:=by obtain⟨_,_,h0,_⟩:=h;exact bN h0
 have HBB:Aside0 (∀B w0,B≤PB→Below B w0 W→Below B w0 (W.alloc (.cells #[.bool false,.int .i64 0] 43))):=⟨fun B w0 hB hb=>hb.trans ((aN (Below.refl _ W) _).mono (by omega))⟩
 have HPB:=aM hPB
 have HL:=aM hl
 clear h hl hPB
 go_enter Try.func52,Try.ntmps52
 go_upto_region 1 with fail
 generalize W.alloc (.cells #[.bool false,.int .i64 0] 43)=W1 at HW1 HK1 HQB HBB ⊢
 generalize hQB:W.heap.size=QB at HQB HPB HW1 ⊢
 have HQW:Aside0 (W.heap.size≤QB):=⟨by omega⟩
 clear hQB
 obtain⟨vs,vt,h0,h1,h2,h3⟩:=HW1.out
 obtain⟨A,c,rfl⟩:=Kd.R_slice h2
 obtain⟨_,hle,hC⟩:=aF h2
 obtain⟨n,hn⟩:∃n,n=st.length:=⟨_,rfl⟩
 have hlen:(x::st).reverse.length=n+1:=by rw [hn];simp
 rw [hlen] at h0 h2 hle hC
 obtain⟨ad,ea,e0,e1⟩:=at_T43 hC (n:Int) (by omega) (by omega)
 have hrx:rd_T43 (x::st).reverse (n:Int)=x:=by rw [rd_T43,Int.toNat_natCast,hn];exact rev_last x st _
 rw [hrx,Int.toNat_natCast] at e0 e1
 subst ea
 obtain⟨i0_,hi0_,_⟩:=info_parts (show(Try.prog.info? 43).map (fun i=>(i.zero,i.size,i.bytes))=some (some (.agg #[.bool false,.int .i64 0]),2,16) from by kernel_rfl)
 have hcut:=cut_to (P:=Try.prog) 29 43 .i64 Try.underlying29 hi0_ (some ad) (n+1) c (n:Int) (by omega) (by omega) hle
 rw [Int.toNat_natCast] at hcut
 have q0:W1.cell? ⟨PB,0,none⟩=some (.slice (some ad) (n+1) c):=(aG h0 0).trans rfl
 have i0:(0≤(n:Int))=True:=eq_true (by omega)
 have i1:((n:Int)<(n:Int)+1)=True:=eq_true (by omega)
 have hn8:n≤1000000000:=by have:=HL.out;omega
 have H0:=aM h0
 have H1:=aM h1
 have H2:=aM h2
 have H3:=aM h3
 have HN:=aM hn
 clear h0 h1 h2 h3 hC hrx hle hlen hn hi0_ HW1
 go_upto_region 3 with fail
 have HLT1:Aside0 (QB<W1.heap.size):=⟨bN HQB.out⟩
 have HXB:Aside0 ((W1.alloc (.cells #[.bool x.f0,.int .i64 x.f1] 43)).heap[W1.heap.size]?=some (.cells #[.bool x.f0,.int .i64 x.f1] 43 (0,0))):=⟨heap_alloc_new W1 _⟩
 have H0':=aM (aI H0.out (.cells #[.bool x.f0,.int .i64 x.f1] 43))
 have HQB':=aM (aI HQB.out (.cells #[.bool x.f0,.int .i64 x.f1] 43))
 have H2':Aside0 (Kd.R k43 43 (W1.alloc (.cells #[.bool x.f0,.int .i64 x.f1] 43)) base (fun k=>¬(bad k∨k=QB)) (.slice (some ad) n c) st.reverse):=⟨aA (by have h:=Kd.R_take (m:=n) H2.out (by rw [HN.out];simp);rw [HN.out,rev_take] at h;rw [HN.out];exact h) _⟩
 have H3':=aM (aA H3.out (.cells #[.bool x.f0,.int .i64 x.f1] 43))
 have HK2:Aside0 (Kept W (W1.alloc (.cells #[.bool x.f0,.int .i64 x.f1] 43)) (fun k=>k=PB)):=⟨Kept.alloc HK1.out _⟩
 have HBB2:Aside0 (∀B w0,B≤PB→Below B w0 W→Below B w0 (W1.alloc (.cells #[.bool x.f0,.int .i64 x.f1] 43))):=⟨fun B w0 hB hb=>(HBB.out B w0 hB hb).trans ((aN (Below.refl _ W1) _).mono (by have:=HPB.out;have:=HLT1.out;omega))⟩
 generalize W1.alloc (.cells #[.bool x.f0,.int .i64 x.f1] 43)=W2 at HXB H0' HQB' H2' H3' HK2 HBB2 ⊢
 have HXN:Aside0 (QB≠W1.heap.size∧PB≠W1.heap.size∧PB≠QB):=⟨by have:=HPB.out;have:=HLT1.out;omega⟩
 generalize W1.heap.size=XB at HXB HXN ⊢
 have q0':W2.cell? ⟨PB,0,none⟩=some (.slice (some ad) (n+1) c):=(aG H0'.out 0).trans rfl
 have f0':=aH H0'.out 0
 have ne1:=HXN.out.1
 have ne2:=HXN.out.2.1
 have ne3:=HXN.out.2.2
 clear q0 e0 e1 H0 HQB H2 H3 HK1 HBB HLT1
 go_upto_region 4 with fail
 have HX3:=aM (blk_far HXB.out (p:=⟨PB,0,none⟩) (Ne.symm ne2) (.slice (some ad) n c))
 have HQ3:=aM (blk_far HQB'.out (p:=⟨PB,0,none⟩) (Ne.symm ne3) (.slice (some ad) n c))
 have HP3:Aside0 (PS (fun k=>bad k∨k=QB) (W2.setCell ⟨PB,0,none⟩ (.slice (some ad) n c)) base PB st sp):=⟨PS.stack H0'.out H1.out H2'.out H3'.out⟩
 have HK3:Aside0 (Kept W (W2.setCell ⟨PB,0,none⟩ (.slice (some ad) n c)) (fun k=>k=PB)):=⟨Kept.setCell HK2.out (.inl rfl) _⟩
 have HBB3:Aside0 (∀B w0,B≤PB→Below B w0 W→Below B w0 (W2.setCell ⟨PB,0,none⟩ (.slice (some ad) n c))):=⟨fun B w0 hB hb=>(HBB2.out B w0 hB hb).setCell hB _⟩
 generalize W2.setCell ⟨PB,0,none⟩ (.slice (some ad) n c)=W3 at HX3 HQ3 HP3 HK3 HBB3 ⊢
 have x0:W3.cell? ⟨XB,0,none⟩=some (.bool x.f0):=(aG HX3.out 0).trans rfl
 have x1:W3.cell? ⟨XB,1,none⟩=some (.int .i64 x.f1):=(aG HX3.out 1).trans rfl
 have z0:W3.cell? ⟨QB,0,none⟩=some (.bool false):=(aG HQ3.out 0).trans rfl
 have z1:W3.cell? ⟨QB,1,none⟩=some (.int .i64 0):=(aG HQ3.out 1).trans rfl
 have g0:=aH HQ3.out 0
 have g1:=aH HQ3.out 1
 clear q0' f0' HXB H0' HQB' H2' H3' HK2 HBB2
 go_wp2
 refine bodyPost_ret (results_cell_row rfl _ _ QB 43 #[.bool x.f0,.int .i64 x.f1] (0,0) _ rfl (blk_put (blk_put HQ3.out 0 _ rfl) 1 _ rfl) Try.underlying43 rfl (by kernel_rfl)) rfl ?_
 exact⟨rfl,PS.mono (PS.far (PS.far HP3.out (p:=⟨QB,0,none⟩) (.inr rfl) ne3 _) (p:=⟨QB,1,none⟩) (.inr rfl) ne3 _) (fun k hk=> .inl hk),Kept.setCell (Kept.setCell HK3.out (p:=⟨QB,0,none⟩) (.inr HQW.out) _) (p:=⟨QB,1,none⟩) (.inr HQW.out) _,fun B w0 hB hb=>((HBB3.out B w0 hB hb).setCell (p:=⟨QB,0,none⟩) (by have:=HPB.out;show B≤QB;omega) _).setCell (p:=⟨QB,1,none⟩) (by have:=HPB.out;show B≤QB;omega) _⟩
end Go.Proofs.Ytapjfnfengefpaa.P
end

section
namespace Go.Proofs.Ytapjfnfengefpaa.P
open Go.RowKit Go.Shelf Go.Proofs.YtapjfnfengefpaaW.PrintWords Go.Proofs.YtapjfnfengefpaaW.PrintLast Go.Proofs.YtapjfnfengefpaaW.PrintMore
set_option linter.unusedVariables false
set_option linter.unusedSimpArgs false
attribute [local go_sem] Oper.semAt_some
def dn (zs:List S43) (k:Nat):List (Nat×S43):=(List.range k).map fun j=>(zs.length - 1 - j,zs.getD (zs.length - 1 - j) ⟨false,0⟩)
theorem dn_succ (zs:List S43) (k:Nat):dn zs (k+1)=dn zs k++ [(zs.length - 1 - k,zs.getD (zs.length - 1 - k) ⟨false,0⟩)]:=by simp [dn,List.range_succ]
theorem dn_length (zs:List S43) (k:Nat):(dn zs k).length=k:=by simp [dn]
theorem dn_all (zs:List S43):(dn zs zs.length).map Prod.snd=zs.reverse:=by
 apply List.ext_getElem
 ·simp [dn]
 ·intro i h1 h2
  simp only [List.length_reverse] at h2
  have h3:zs.length - 1 - i<zs.length:=by omega
  simp [dn,List.getElem_reverse,h3]
def backEncs (x:Nat×S43):Array Value:=#[.int .i64 (x.1:Int),.agg #[.bool x.2.f0,.int .i64 x.2.f1]]
def BackK (n₀ Bs:Nat) (W W':World):Prop:=Below n₀ W W'∧(∀o,W.heap[Bs]?=some o→W'.heap[Bs]?=some o)
theorem backK_t {n₀ Bs:Nat}{A B C:World}(h:BackK n₀ Bs A B) (k:BackK n₀ Bs B C):BackK n₀ Bs A C:=⟨h.1.trans k.1,fun o ho=>k.2 o (h.2 o ho)⟩
set_option maxRecDepth 100000 in
set_option maxHeartbeats 2000000 in
theorem back1_in (n:Nat) (hn:1≤n) (l Bs n₀:Nat) (A:Option Addr) (c:Nat) (zs:List S43) (w0:World) (hw0:n₀=w0.heap.size) (hz:Kd.C k43 w0 A zs.length zs) (hbig:zs.length≤1000000000) (J Jx:List (Nat×S43)→World→Prop)
 (hY:∀pre x W,J pre W→pre.length<zs.length→YieldAt Fence.wide (n - 1) Try.prog l (backEncs x) W fun e W'=>
  (e= .returned (.bool true)∧J (pre++ [x]) W'∧BackK n₀ Bs W W')∨(e= .returned (.bool false)∧Jx (pre++ [x]) W'))
 (W:World) (hw:Below n₀ w0 W) (hBs:W.heap[Bs]?=some (.cells #[.slice A zs.length c] 29 (0,0))) (h0:J [] W):
 CallsIn Fence.wide n Try.prog 62 #[.func (.yield l) #[] #[],.pointer (some ⟨Bs,0,none⟩)] W fun e W'=>(∃v,e= .returned v)∧
  ((∃ys,ys.map Prod.snd=zs.reverse∧J ys W')∨(∃pre,True∧Jx pre W')):=by
 subst hw0
 refine callsIn_of_wp Try.func62 rfl trivial ?_ rfl
 simp only [Try.ntmps62,List.size_toArray,List.length_cons,List.length_nil,Nat.reduceAdd,Nat.reduceSub,Array.replicate_succ,Array.replicate_zero,List.push_toArray,List.append_toArray,List.nil_append,List.cons_append]
 have hb0:W.cell? ⟨Bs,0,none⟩=some (.slice A zs.length c):=(aG hBs 0).trans rfl
 have hwz:IntKind.i64.wrap ((zs.length:Int) - 1)=(zs.length:Int) - 1:=by rw [IntKind.wrap_i64];omega
 gi_wp2
 gi_loopw [3] (fun i wr=>∃(k:Nat) (z:Int),k≤zs.length∧i= .int .i64 z∧z=(zs.length:Int) - 1 - k∧J (dn zs k) wr∧Aside0 (Below w0.heap.size w0 wr)∧Aside0 (wr.heap[Bs]?=some (.cells #[.slice A zs.length c] 29 (0,0))))
  (fun i _=>(intOf i+1).toNat)
 case atStart=>exact⟨0,_,Nat.zero_le _,rfl,by omega,h0,⟨hw⟩,⟨hBs⟩⟩
 case round=>
  clear hb0 hwz hBs hw h0
  obtain⟨k,z,hk,rfl,hzz,hJs,BW,BB⟩:=hrel
  by_cases hlt:k<zs.length
  ·obtain⟨j,hj⟩:∃j:Nat,j=zs.length - 1 - k:=⟨_,rfl⟩
   obtain rfl:z=(j:Int):=by omega
   obtain⟨ad,ea,e0,e1⟩:=at_T43 (bD hz BW.out) (j:Int) (by omega) (by omega)
   have hrx:rd_T43 zs (j:Int)=zs.getD j ⟨false,0⟩:=by rw [rd_T43,Int.toNat_natCast];rfl
   rw [hrx,Int.toNat_natCast] at e0 e1
   have hdn:dn zs (k+1)=dn zs k++ [(j,zs.getD j ⟨false,0⟩)]:=by rw [dn_succ,hj]
   generalize zs.getD j ⟨false,0⟩=y at e0 e1 hdn
   obtain⟨fn,tmps,assign,body,hy,hR⟩:=hY _ (j,y) wr hJs (by rw [dn_length];exact hlt)
   dsimp only [backEncs] at hy
   subst ea
   have b0:wr.cell? ⟨Bs,0,none⟩=some (.slice (some ad) zs.length c):=(aG BB.out 0).trans rfl
   have z0:decide ((0:Int)≤(j:Int))=true:=decide_eq_true (by omega)
   have z1:(0≤(j:Int))=True:=eq_true (by omega)
   have z2:((j:Int)<(zs.length:Int))=True:=eq_true (by omega)
   have hwj:IntKind.i64.wrap ((j:Int) - 1)=(j:Int) - 1:=by rw [IntKind.wrap_i64];omega
   have HK:=aM (And.intro hk (And.intro hzz (And.intro hj hlt)))
   clear hk hzz hj hlt hrx hY
   gi_wp2
   refine hR.mono ?_
   rintro e W3 (⟨rfl,hJ3,hk3⟩|⟨rfl,hJx3⟩)
   ·gi_wp2
    go_roundw
    case rel=>exact⟨k+1,_,by have:=HK.out;omega,rfl,by have:=HK.out;push_cast;omega,by rw [hdn];exact hJ3,⟨BW.out.trans hk3.1⟩,⟨hk3.2 _ BB.out⟩⟩
    case measure=>simp [intOf]
   ·gi_wp2
    refine bodyPost_ret (results_none rfl _ _ _) rfl ?_
    exact⟨⟨_,rfl⟩,.inr ⟨_,trivial,hJx3⟩⟩
  ·obtain rfl:k=zs.length:=by omega
   have z0:decide ((0:Int)≤z)=false:=decide_eq_false (by omega)
   clear hY
   gi_wp2
   go_end0
   exact⟨⟨_,rfl⟩,.inl ⟨_,dn_all zs,hJs⟩⟩
theorem back_stops (n:Nat) (hn:1≤n) (Bs n₀:Nat) (A:Option Addr) (c:Nat) (zs:List S43) (w0 w:World) (hw0:n₀=w0.heap.size) (hz:Kd.C k43 w0 A zs.length zs) (hbig:zs.length≤1000000000) (hw:Below n₀ w0 w) (hBs:w.heap[Bs]?=some (.cells #[.slice A zs.length c] 29 (0,0))):
 SeqStopsK Fence.wide n Try.prog 62 #[.pointer (some ⟨Bs,0,none⟩)] backEncs (BackK n₀ Bs) (fun ys=>ys.map Prod.snd=zs.reverse) (fun _=>True) zs.length w:=fun l J Jx W hW _ _ hY h0=>
 back1_in n hn l Bs n₀ A c zs w0 hw0 hz hbig J Jx hY W (hw.trans (hW.mono (by rw [hw0];exact(by have:=hw.size;omega)))) (bF hBs hW) h0
set_option maxHeartbeats 1000000 in
theorem back_in (n:Nat) (A:Option Addr) (len cap:Nat) (w:World):
 CallsIn Fence.wide n Try.prog 59 #[.slice A len cap] w fun e w'=>e= .returned (.func (.func 62) #[] #[.pointer (some ⟨w.heap.size,0,none⟩)])∧w'=w.alloc (.cells #[.slice A len cap] 29):=by
 refine callsIn_of_wp Try.func59 rfl trivial ?_ rfl
 simp only [Try.ntmps59,List.size_toArray,List.length_cons,List.length_nil,Nat.reduceAdd,Nat.reduceSub,Array.replicate_succ,Array.replicate_zero,List.push_toArray,List.append_toArray,List.nil_append,List.cons_append]
 gi_wp2
 go_ret
 exact⟨rfl,rfl⟩
end Go.Proofs.Ytapjfnfengefpaa.P
end

section
namespace Go.Proofs.Ytapjfnfengefpaa.P
open Go.RowKit Go.Proofs.YtapjfnfengefpaaW.PrintWords Go.Proofs.YtapjfnfengefpaaW.PrintLast Go.Proofs.YtapjfnfengefpaaW.PrintMore
set_option linter.unusedVariables false
set_option linter.unusedSimpArgs false
variable {P:Program}{ops:Array Oper}{Q:Exit→Act→World→Prop}{md:Region.Mode}{S:World→Prop}{ds:List Nat}
theorem rowsIn_round (l n:Nat) {row:String}{args:Array Value}{w:World}{R:Value→World→Prop}(h:Rows P row args w R):RowsIn (Fence.wide.inRound l) n P row args w R:=
 fun c cs _=>let⟨v,w',r,s⟩:=h c cs;⟨v,w',r,stepsIn_wide.2 s⟩
theorem wpIn_of_wp_round (l n:Nat) {o:Oper}(hd:∀c,o.op≠ .defer c) {a:Act}{w:World}{K:Act→World→Prop}(h:o.wp P a w K Q):o.wpIn (Fence.wide.inRound l) n P a w K Q:=by
 refine⟨fun _ _=>trivial,?_⟩
 rw [Oper.semAt_plain (Fence.wide.inRound l) _ _ hd]
 unfold Oper.wp at h
 cases hr:(execOp a.eval o).run P w with
 |ok x w'=>
  rw [hr] at h
  cases x with
  |value v=>exact h
  |skip=>exact h
  |defer d=>exact h
  |enter f args=>exact⟨fun hh=>(by cases hh),CallsIn.inRound l (callsIn_wide.2 h)⟩
  |row r args=>exact⟨fun hh=>(by cases hh),rowsIn_round l (n - 1) h⟩
  |_=>exact h.elim
 |halt x w'=>
  rw [hr] at h
  cases x<;>first|exact h|exact h.elim
theorem wpOpIn_of (l n:Nat) (hno:¬LetsOut Q) (hd:∀o,o∈ops.toList→∀c,o.op≠ .defer c) {i:Nat}{K:Act→World→Prop}{a:Act}{w:World}(h:wpOp P ops Q i K a w):wpOpIn (Fence.wide.inRound l) n P ops Q i K a w:=by
 unfold wpOp at h
 unfold wpOpIn
 cases ho:ops[i]? with
 |none=>rw [ho] at h;exact h
 |some o=>
  rw [ho] at h
  have hm:o∈ops.toList:=by
   obtain⟨hi,e⟩:=Array.getElem?_eq_some_iff.1 ho
   rw [←e]
   exact Array.getElem_mem_toList hi
  simp only at h ⊢
  split
  ·rename_i hw
   rw [if_pos hw] at h
   rcases h with h|⟨_,h⟩
   ·exact wpIn_of_wp_round l n (hd o hm) h
   ·exact absurd h hno
  ·rename_i hw
   rw [if_neg hw] at h
   exact⟨fun _ _=>trivial,h⟩
theorem wpAnyIn_of (l n:Nat) (hno:¬LetsOut Q) (hd:∀o,o∈ops.toList→∀c,o.op≠ .defer c):∀(fuel:Nat) (listed:Array Bool) (a:Act) (w:World),wpAny P md ops Q fuel listed a w→wpAnyIn (Fence.wide.inRound l) n P md ops Q fuel listed a w
 |0,listed,a,w,h=>h
 |fuel+1,listed,a,w,h=>by
  refine⟨h.1,fun i hi=>wpOpIn_mono (fun a w=>wpAnyIn_of l n hno hd fuel _ a w) (wpOpIn_of l n hno hd (h.2 i hi))⟩
def noDeferB (ops:Array Oper):Bool:=ops.toList.all fun o=>match o.op with| .defer _=>false|_=>true
theorem noDefer_spec (h:noDeferB ops=true):∀o,o∈ops.toList→∀c,o.op≠ .defer c:=fun o ho c e=>by
 have:=List.all_eq_true.1 h o ho
 rw [e] at this
 cases this
theorem startR_ {l m:Nat}{id n:Nat}{a:Act}{w:World}(l':Array Bool) (hno:¬LetsOut Q) (hd:noDeferB ops=true) (hm:P.follows .mixedOrders=true) (hn:ops.size=n) (hl:Array.replicate n false=l') (hS:S w.drew)
 (h:S w.drew→wpAnyLast P .any ops Q S ds n l' a w.drew):(Code.region id ops true).wpIn (Fence.wide.inRound l) m P Q a w:=by
 subst hn
 subst hl
 exact wpIn_region_any hm (wpAnyIn_of l m hno (noDefer_spec hd) _ _ _ _ (wpAny_of_last _ _ _ _ (h hS)))
end Go.Proofs.Ytapjfnfengefpaa.P
end
