/- Packed texts of this claim: the walks of the functions, and their plain laws; see the claim's last text. -/
import Derived.Below
import Derived.WalkKit
import Derived.Deep.LoopGhost
import Derived.Shelf.Abstract
import Derived.WalkMore
import Derived.Deep.RegionHeld3
import Derived.Lib.SliceRun
import Derived.RangeFuncNested
import Derived.RangeFuncBound
import Derived.RangeFuncCalls
import Derived.RangeFuncLeaves
import Derived.OwnWalkIn
import Derived.TacticsInMore
import Derived.LoopNIn
import Derived.LoopIn
import Derived.Maps.OwnIn
import Derived.Test.YtapjfnfengefpaaKMachineDerives3
section
namespace Go.Proofs.Ytapjfnfengefpaa.P
open Go.RowKit Go.Proofs.YtapjfnfengefpaaW.PrintWords Go.Proofs.YtapjfnfengefpaaW.PrintLast Go.Proofs.YtapjfnfengefpaaW.PrintMore
attribute [local go_sem] max2_int min2_int max_two min_two max_three min_three max_four min_four   -- for this text's walks alone
set_option linter.unusedVariables false
set_option linter.unusedSimpArgs false
mutual
def regletref14_Predict.l0:Nat→List (List Int)→List (List Int)→Int→List ByteArray→List (S72)→Int→Int→List (S35)→Option ((List (List Int))×(List (S78)))
 |0,_,_,_,_,_,_,_,_=>none
 |k+1,x4,x5,x6,x397000,x397001,x397002,x397003,x397004=>if x6<(x397004.length:Int) then(if 0≤x6 then((regletref13_Of.f k x397000 x397001 x397002 x397003 x397004 ((rd_T35 x397004 x6).f1)).bind fun Gb=>(if Gb.2=true then(if 0≤((rd_T35 x397004 x6).f0) then(if((rd_T35 x397004 x6).f0)<(x5.length:Int) then(if Gb.1.length+(rd_L5 x5 ((rd_T35 x397004 x6).f0)).length<17592186044416 then(if x4.length<5864062014805 then(regletref14_Predict.l0 k (x4++ [(Gb.1++(rd_L5 x5 ((rd_T35 x397004 x6).f0)))]) x5 (wrap64 (x6+1)) x397000 x397001 x397002 x397003 x397004) else(none)) else(none)) else(none)) else(none)) else(if x4.length<5864062014805 then(regletref14_Predict.l0 k (x4++ [Gb.1]) x5 (wrap64 (x6+1)) x397000 x397001 x397002 x397003 x397004) else(none)))) else(none)) else(regletref14_Predict.l1 k x4 ([]:List (List Int)) ([]:List (S78)) 0 x397000 x397001 x397002 x397003 x397004)
def regletref14_Predict.l1:Nat→List (List Int)→List (List Int)→List (S78)→Int→List ByteArray→List (S72)→Int→Int→List (S35)→Option ((List (List Int))×(List (S78)))
 |0,_,_,_,_,_,_,_,_,_=>none
 |k+1,x4,x9,x10,x11,x397000,x397001,x397002,x397003,x397004=>if x11<(x397000.length:Int) then(regletref14_Predict.l2 k x4 x9 x10 x11 ([]:List Int) 0 x397000 x397001 x397002 x397003 x397004) else(some (x9,x10))
def regletref14_Predict.l2:Nat→List (List Int)→List (List Int)→List (S78)→Int→List Int→Int→List ByteArray→List (S72)→Int→Int→List (S35)→Option ((List (List Int))×(List (S78)))
 |0,_,_,_,_,_,_,_,_,_,_,_=>none
 |k+1,x4,x9,x10,x11,x12,x13,x397000,x397001,x397002,x397003,x397004=>if x13≤(x397001.length:Int) then(regletref14_Predict.l3 k x4 x9 x10 x11 x12 x13 (-1) 0 x397000 x397001 x397002 x397003 x397004) else(if x9.length<5864062014805 then(regletref14_Predict.l1 k x4 (x9++ [x12]) x10 (wrap64 (x11+1)) x397000 x397001 x397002 x397003 x397004) else(none))
def regletref14_Predict.l3:Nat→List (List Int)→List (List Int)→List (S78)→Int→List Int→Int→Int→Int→List ByteArray→List (S72)→Int→Int→List (S35)→Option ((List (List Int))×(List (S78)))
 |0,_,_,_,_,_,_,_,_,_,_,_,_,_=>none
 |k+1,x4,x9,x10,x11,x12,x13,x14,x15,x397000,x397001,x397002,x397003,x397004=>if x15<(x397004.length:Int) then(if 0≤x15 then(if((rd_T35 x397004 x15).f0)=x11 then(if x15<(x4.length:Int) then((regletref14_has.f k (rd_L5 x4 x15) x13).bind fun t425=>(regletref14_Predict.j4 k x4 x9 x10 x11 x12 x13 x14 x15 (!t425) x397000 x397001 x397002 x397003 x397004)) else(none)) else(regletref14_Predict.j4 k x4 x9 x10 x11 x12 x13 x14 x15 true x397000 x397001 x397002 x397003 x397004)) else(none)) else(if x12.length<17592186044416 then(regletref14_Predict.l2 k x4 x9 x10 x11 (x12++ [x14]) (wrap64 (x13+1)) x397000 x397001 x397002 x397003 x397004) else(none))
def regletref14_Predict.j4:Nat→List (List Int)→List (List Int)→List (S78)→Int→List Int→Int→Int→Int→Bool→List ByteArray→List (S72)→Int→Int→List (S35)→Option ((List (List Int))×(List (S78)))
 |0,_,_,_,_,_,_,_,_,_,_,_,_,_,_=>none
 |k+1,x4,x9,x10,x11,x12,x13,x14,x15,x92,x397000,x397001,x397002,x397003,x397004=>if x92=true then(regletref14_Predict.l3 k x4 x9 x10 x11 x12 x13 x14 (wrap64 (x15+1)) x397000 x397001 x397002 x397003 x397004) else(if x14<0 then(regletref14_Predict.l3 k x4 x9 x10 x11 x12 x13 x15 (wrap64 (x15+1)) x397000 x397001 x397002 x397003 x397004) else(if x10.length<4398046511104 then(regletref14_Predict.l3 k x4 x9 (x10++ [(⟨x11,x13,x14,x15⟩:S78)]) x11 x12 x13 x14 (wrap64 (x15+1)) x397000 x397001 x397002 x397003 x397004) else(none)))
end
def regletref14_Predict.f (k:Nat) (aU:List ByteArray) (aX:List (S72)) (bB:Int) (bK:Int) (aQ:List (S35)):Option ((List (List Int))×(List (S78))):=(regletref13_Right.f k aU aX bB bK aQ).bind fun t397=>(if t397=true then((regletref13_Follow.f k aU aX bB bK aQ).bind fun t398=>(regletref14_Predict.l0 k ([]:List (List Int)) t398 0 aU aX bB bK aQ)) else(some (([]:List (List Int)),([]:List (S78)))))
def regletref14_Predict.T8:Bool×List (List Nat×List Nat):=(true,[([],[]),([],[]),([1],[1]),([],[]),([2,3],[2,3]),([4],[4]),([5],[5]),([0,6],[0,6]),([7],[7]),([8],[8]),([8],[8]),([9,7,0,1,2,3,4,5,6,7,8,9],[9]),([10,11,0,1,2,3,4,5,6,7,8,9,10,11],[10])])
def regletref14_Predict.B8:List Nat:= [0,0,2,0,14,30,62,127,255,511,511,1023,4095]
theorem regletref14_Predict.tab8:rtab .any (opsOf Try.f20 8)=regletref14_Predict.T8:=by kernel_rfl
theorem regletref14_Predict.bits8:waitsOk regletref14_Predict.T8.2 regletref14_Predict.B8=true:=by kernel_rfl
set_option maxHeartbeats 8000000 in
set_option maxRecDepth 100000 in
theorem regletref14_Predict.calls (k:Nat) (bR:Option Addr) (bS:Nat) (aU:List ByteArray) (bU:Option Addr) (bV:Nat) (aX:List (S72)) (bB:Int) (bK:Int) (cC:Option Addr) (bX:Nat) (aQ:List (S35)) (r1:List (List Int)) (r2:List (S78)) (w:World) (dX:Kd.C Kd.string w bR aU.length aU) (dZ:aU.length≤bS) (eB:Kd.C k72 w bU aX.length aX) (eH:aX.length≤bV) (dY:Kd.C k35 w cC aQ.length aQ) (eJ:aQ.length≤bX) (h:regletref14_Predict.f k aU aX bB bK aQ=some (r1,r2)):
 Calls Try.prog 20 #[.agg #[.slice bR aU.length bS,.slice bU aX.length bV,.int .i64 bB,.int .i64 bK,.slice cC aQ.length bX]] w fun e w'=>∃v0_ v1_:Value,e= .returned (.tuple #[v0_,v1_])∧Kd.S (Kd.slice 3 (Kd.int .i64)) 32 w' w.heap.size (fun _=>True) v0_ r1∧Kd.R k78 78 w' w.heap.size (fun _=>True) v1_ r2∧Below w.heap.size w w':=by
 have hu26:=Try.underlying26;have hu78:=Try.underlying78;have jA:=aM dX;have jV:=aM dZ;clear dX dZ;have kL:=aM eB;have kM:=aM eH;clear eB eH;have fP:=aM dY;have kN:=aM eJ;clear dY eJ;have HB:=aM (Below.refl w.heap.size w);have H:((regletref13_Right.f k aU aX bB bK aQ).bind fun t397=>(if t397=true then((regletref13_Follow.f k aU aX bB bK aQ).bind fun t398=>(regletref14_Predict.l0 k ([]:List (List Int)) t398 0 aU aX bB bK aQ)) else(some (([]:List (List Int)),([]:List (S78))))))=some (r1,r2):=h;clear h;replace H:=Option.bind_eq_some_iff.mp H;obtain⟨t397,A20,H⟩:=H;replace H:(if t397=true then((regletref13_Follow.f k aU aX bB bK aQ).bind fun t398=>(regletref14_Predict.l0 k ([]:List (List Int)) t398 0 aU aX bB bK aQ)) else(some (([]:List (List Int)),([]:List (S78)))))=some (r1,r2):=H;have A2:=aM A20;clear A20
 by_cases c3:t397=true
 ·subst c3
  have H1:((regletref13_Follow.f k aU aX bB bK aQ).bind fun t398=>(regletref14_Predict.l0 k ([]:List (List Int)) t398 0 aU aX bB bK aQ))=some (r1,r2):=by rw [if_pos rfl] at H;exact H
  clear H;have H:=H1;clear H1;replace H:=Option.bind_eq_some_iff.mp H;obtain⟨t398,A40,H⟩:=H;replace H:(regletref14_Predict.l0 k ([]:List (List Int)) t398 0 aU aX bB bK aQ)=some (r1,r2):=H;have A4:=aM A40;clear A40;have H':=aM H;clear H;go_enter Try.func20,Try.ntmps20
  go_wp2_with (first|((with_reducible refine bJ (N:=1) rfl ?_);refine box_event ?hg (N:=1) ?hd (cs:=#[.slice bR aU.length bS,.slice bU aX.length bV,.int .i64 bB,.int .i64 bK,.slice cC aQ.length bX]) (t:=26) ?hr ?_;(case hd=>rfl);(case hg=>rfl);(case hr=>first|(go_simp;done)|(go_simp;rfl));intro cY hg w5 hbox hb;have cH:=aM (bG (gW HB.out) hb);have cI:=aM (hbox);have cK:=aM ((by rw [hg];exact(bH (gW HB.out)):w.heap.size≤cY));have cQ:=aM ((by rw [hg];exact(bH (gW HB.out)):w.heap.size≤cY));clear HB;have HB:=cH;have bO:=cI;have GW396:=cK;have Vu:=cQ;clear cH cI cK cQ;clear hb hbox hg;have oN:w5.cell? ⟨cY,0,none⟩=some (.slice bR aU.length bS):=(aG bO.out 0).trans rfl;have oO:w5.cell? ⟨cY,1,none⟩=some (.slice bU aX.length bV):=(aG bO.out 1).trans rfl;have oP:w5.cell? ⟨cY,2,none⟩=some (.int .i64 bB):=(aG bO.out 2).trans rfl;have oQ:w5.cell? ⟨cY,3,none⟩=some (.int .i64 bK):=(aG bO.out 3).trans rfl;have oR:w5.cell? ⟨cY,4,none⟩=some (.slice cC aQ.length bX):=(aG bO.out 4).trans rfl;have oS:=aH bO.out 0;have oT:=aH bO.out 1;have oU:=aH bO.out 2;have oV:=aH bO.out 3;have oW:=aH bO.out 4)|((with_reducible refine bI (f:=30) rfl ?_);refine goesL_ (some 17) rfl rfl Try.func30 (by kernel_rfl) rfl #[.agg #[.slice bR aU.length bS,.slice bU aX.length bV,.int .i64 bB,.int .i64 bK,.slice cC aQ.length bX]] rfl (by(try simp only [List.map_toArray,List.map_cons,List.map_nil]);first|done|rfl|(simp only [List.length_drop,List.length_take];rfl)) ?_;(with_reducible refine(regletref13_Right.calls k _ _ aU _ _ aX bB bK _ _ aQ true _ ?side1 ?side2 ?side3 ?side4 ?side5 ?side6 A2.out).mono ?_);(case side1=>exact gC (bD jA.out HB.out));(case side2=>exact jV.out);(case side3=>exact gC (bD kL.out HB.out));(case side4=>exact kM.out);(case side5=>exact gC (bD fP.out HB.out));(case side6=>exact kN.out);rintro e w7 ⟨rfl,hb⟩;refine⟨_,rfl,?_⟩;have cH:=aM (bF (gB bO.out) hb);have cI:=aM (bG (gW HB.out) hb);clear bO;clear HB;have bO:=cH;have HB:=cI;clear cH cI;(try clear hb);(try clear hb2);(try clear hk);(try clear hi);have jO:w7.cell? ⟨cY,0,none⟩=some (.slice bR aU.length bS):=(aG bO.out 0).trans rfl;have jP:w7.cell? ⟨cY,1,none⟩=some (.slice bU aX.length bV):=(aG bO.out 1).trans rfl;have lR:w7.cell? ⟨cY,2,none⟩=some (.int .i64 bB):=(aG bO.out 2).trans rfl;have lS:w7.cell? ⟨cY,3,none⟩=some (.int .i64 bK):=(aG bO.out 3).trans rfl;have lT:w7.cell? ⟨cY,4,none⟩=some (.slice cC aQ.length bX):=(aG bO.out 4).trans rfl;have jQ:=aH bO.out 0;have jR:=aH bO.out 1;have lU:=aH bO.out 2;have lV:=aH bO.out 3;have lW:=aH bO.out 4)|((with_reducible refine bI (f:=31) rfl ?_);refine goesL_ (some 20) rfl rfl Try.func31 (by kernel_rfl) rfl #[.agg #[.slice bR aU.length bS,.slice bU aX.length bV,.int .i64 bB,.int .i64 bK,.slice cC aQ.length bX]] rfl (by(try simp only [List.map_toArray,List.map_cons,List.map_nil]);first|done|rfl|(simp only [List.length_drop,List.length_take];rfl)) ?_;(with_reducible refine(regletref13_Follow.calls k _ _ aU _ _ aX bB bK _ _ aQ t398 _ ?side1 ?side2 ?side3 ?side4 ?side5 ?side6 A4.out).mono ?_);(case side1=>exact gC (bD jA.out HB.out));(case side2=>exact jV.out);(case side3=>exact gC (bD kL.out HB.out));(case side4=>exact kM.out);(case side5=>exact gC (bD fP.out HB.out));(case side6=>exact kN.out);rintro e w9 ⟨v399,rfl,ho0,hb⟩;refine⟨_,rfl,?_⟩;have cH:=aM (Kd.S_lower ho0 (bH (gW HB.out)));have cI:=aM (bF (gB bO.out) hb);have cK:=aM (bG (gW HB.out) hb);clear bO;clear HB;have Vv:=cH;have bO:=cI;have HB:=cK;clear cH cI cK;(try clear hb);(try clear hb2);(try clear hk);(try clear hi);(try clear ho0)))
  go_loopg [4,6] k (fun kq v4 v6 w'=>∃(bY:List (List Int)) (bW:Int),v6= .int .i64 bW∧Aside0 (regletref14_Predict.l0 kq bY t398 bW aU aX bB bK aQ=some (r1,r2))∧Aside0 (kq≤k)∧Aside0 (Kd.S (Kd.slice 3 (Kd.int .i64)) 32 w' w.heap.size (fun k_=>some k_≠(v399:Value).ownBlock) v4 bY)∧Aside0 (Kd.S (Kd.slice 3 (Kd.int .i64)) 32 w' w.heap.size (fun k_=>some k_≠(v4:Value).ownBlock) v399 t398)∧Aside0 (w'.heap[cY]?=some (.cells #[(.slice bR aU.length bS),(.slice bU aX.length bV),.int .i64 bB,.int .i64 bK,(.slice cC aQ.length bX)] 26 (0,0)))∧Aside0 (Below w.heap.size w w'))
  case atStart=>exact⟨(([]:List (List Int))),(0),(by first|rfl|(simp;done)|(simp [*];done)),H',⟨Nat.le_refl _⟩,⟨by first|exact Kd.S_nil _ _ _ _ _|exact Kd.N_nil _ _ _ _ _|exact Kd.V_nil _ _ _ _ _|exact Kd.Q_nil _ _ _ _ _|exact Kd.R_nil _ _ _ _ _⟩,⟨by(with_reducible repeat(first|apply Kd.S_alloc|apply aV|apply aW));exact Kd.S_mono Vv.out (fun _ hk=>(by simp [Value.ownBlock]))⟩,⟨gB bO.out⟩,⟨gW HB.out⟩⟩
  case round=>
   clear H'
   (try clear c2);(try clear p2);(try clear c3);(try clear oN);(try clear oO);(try clear oP);(try clear oQ);(try clear oR);(try clear jO);(try clear jP);(try clear lR);(try clear lS);(try clear lT);(try clear oS);(try clear oT);(try clear oU);(try clear oV);(try clear oW);(try clear jQ);(try clear jR);(try clear lU);(try clear lV)
   (try clear lW)
   obtain⟨bY,bW,rfl,HA,HK1,fN,eE,bO,HB⟩:=hrel
   cases gk with
   |zero=>exact absurd HA.out (by simp [regletref14_Predict.l0])
   |succ k1=>
    have H:=HA.out;clear HA;simp only [regletref14_Predict.l0] at H
    by_cases c10:bW<(aQ.length:Int)
    ·rw [if_pos c10] at H
     have mL:decide (bW<(aQ.length:Int))=true:=decide_eq_true c10;clear c10
     by_cases c11:0≤bW
     rotate_left
     ·rw [if_neg c11] at H
      exact absurd H (by simp)
     rw [if_pos c11] at H;have pQ:decide (0≤bW)=true:=decide_eq_true c11;clear c11;replace H:=Option.bind_eq_some_iff.mp H;obtain⟨⟨t402,t405⟩,A120,H⟩:=H;replace H:(if t405=true then(if 0≤((rd_T35 aQ bW).f0) then(if((rd_T35 aQ bW).f0)<(t398.length:Int) then(if t402.length+(rd_L5 t398 ((rd_T35 aQ bW).f0)).length<17592186044416 then(if bY.length<5864062014805 then(regletref14_Predict.l0 k1 (bY++ [(t402++(rd_L5 t398 ((rd_T35 aQ bW).f0)))]) t398 (wrap64 (bW+1)) aU aX bB bK aQ) else(none)) else(none)) else(none)) else(none)) else(if bY.length<5864062014805 then(regletref14_Predict.l0 k1 (bY++ [t402]) t398 (wrap64 (bW+1)) aU aX bB bK aQ) else(none)))=some (r1,r2):=H;have A12:=aM A120;clear A120
     by_cases c13:t405=true
     ·subst c13
      have H1:(if 0≤((rd_T35 aQ bW).f0) then(if((rd_T35 aQ bW).f0)<(t398.length:Int) then(if t402.length+(rd_L5 t398 ((rd_T35 aQ bW).f0)).length<17592186044416 then(if bY.length<5864062014805 then(regletref14_Predict.l0 k1 (bY++ [(t402++(rd_L5 t398 ((rd_T35 aQ bW).f0)))]) t398 (wrap64 (bW+1)) aU aX bB bK aQ) else(none)) else(none)) else(none)) else(none))=some (r1,r2):=by rw [if_pos rfl] at H;exact H
      clear H;have H:=H1;clear H1
      by_cases c14:0≤((rd_T35 aQ bW).f0)
      rotate_left
      ·rw [if_neg c14] at H
       exact absurd H (by simp)
      rw [if_pos c14] at H;have vR:decide (0≤((rd_T35 aQ bW).f0))=true:=decide_eq_true c14;clear c14
      by_cases c15:((rd_T35 aQ bW).f0)<(t398.length:Int)
      rotate_left
      ·rw [if_neg c15] at H
       exact absurd H (by simp)
      rw [if_pos c15] at H;have sS:decide (((rd_T35 aQ bW).f0)<(t398.length:Int))=true:=decide_eq_true c15;clear c15
      by_cases c16:t402.length+(rd_L5 t398 ((rd_T35 aQ bW).f0)).length<17592186044416
      rotate_left
      ·rw [if_neg c16] at H
       exact absurd H (by simp)
      rw [if_pos c16] at H;have Vw:=aM c16;clear c16;obtain⟨y408,Bf⟩:∃y_:List Int,y_=(t402++(rd_L5 t398 ((rd_T35 aQ bW).f0))):=⟨_,rfl⟩;replace H:(if bY.length<5864062014805 then(regletref14_Predict.l0 k1 (bY++ [y408]) t398 (wrap64 (bW+1)) aU aX bB bK aQ) else(none))=some (r1,r2):=by first|(rw [Bf];with_reducible exact H)|(have H2_:=(Option.bind_some _ _).symm.trans H;rw [Bf];with_reducible exact H2_)|(have H2_:=(Option.bind_some _ _).symm.trans H;with_reducible exact H2_)|with_reducible exact H|(rw [Bf];exact H)|exact H
      have Vx:=aM Bf;clear Bf
      by_cases c17:bY.length<5864062014805
      rotate_left
      ·rw [if_neg c17] at H
       exact absurd H (by simp)
      rw [if_pos c17] at H;have Vy:=aM c17;clear c17;obtain⟨y411,Bg⟩:∃y_:List (List Int),y_=(bY++ [y408]):=⟨_,rfl⟩;replace H:(regletref14_Predict.l0 k1 y411 t398 (wrap64 (bW+1)) aU aX bB bK aQ)=some (r1,r2):=by first|(rw [Bg];with_reducible exact H)|(have H2_:=(Option.bind_some _ _).symm.trans H;rw [Bg];with_reducible exact H2_)|(have H2_:=(Option.bind_some _ _).symm.trans H;with_reducible exact H2_)|with_reducible exact H|(rw [Bg];exact H)|exact H
      have Vz:=aM Bg;clear Bg;have H':=aM H;clear H;have rM:wr.cell? ⟨cY,0,none⟩=some (.slice bR aU.length bS):=(aG bO.out 0).trans rfl;have rN:wr.cell? ⟨cY,1,none⟩=some (.slice bU aX.length bV):=(aG bO.out 1).trans rfl;have rO:wr.cell? ⟨cY,2,none⟩=some (.int .i64 bB):=(aG bO.out 2).trans rfl;have rP:wr.cell? ⟨cY,3,none⟩=some (.int .i64 bK):=(aG bO.out 3).trans rfl;have rQ:wr.cell? ⟨cY,4,none⟩=some (.slice cC aQ.length bX):=(aG bO.out 4).trans rfl;have rR:=aH bO.out 0;have rS:=aH bO.out 1;have rT:=aH bO.out 2;have rU:=aH bO.out 3;have rV:=aH bO.out 4
      try go_wp2
      have cH:=aM (aW fN.out);have cI:=aM (aW eE.out);have cK:=aM (aK bO.out);have cQ:=aM (aO HB.out);clear fN eE bO HB;have fN:=cH;have eE:=cI;have bO:=cK;have HB:=cQ;clear cH cI cK cQ;have p401:0≤(bW:Int):=of_decide_eq_true (by first|(with_reducible assumption)|assumption);have q401:bW<(aQ.length:Int):=of_decide_eq_true (by first|(with_reducible assumption)|assumption);obtain⟨mX,vS,vT,e401,iB,iC,rW,rX⟩:=at_T35 fP.out bW p401 q401;have hw401_1:=iC;have hw401_0:=iB
      cases e401;replace iB:=(HB.out.cell (World.block_lt_of_cell? w _ iB)).trans iB;replace iC:=(HB.out.cell (World.block_lt_of_cell? w _ iC)).trans iC;have lO:=aM rX;have yK:=aM rW;clear rX rW;replace p401:=eq_true p401;replace q401:=eq_true q401;refine start_ (n:=13) (S:=fun w'=>w'.cell? ⟨cY,0,none⟩=some (.slice bR aU.length bS)∧w'.cell? ⟨cY,1,none⟩=some (.slice bU aX.length bV)∧w'.cell? ⟨cY,2,none⟩=some (.int .i64 bB)∧w'.cell? ⟨cY,3,none⟩=some (.int .i64 bK)∧w'.cell? ⟨cY,4,none⟩=some (.slice (some mX) aQ.length bX)∧w'.cell? (mX.add ((bW).toNat * 2))=some (.int .i64 ((rd_T35 aQ bW).f0))∧w'.cell? ⟨(mX.add ((bW).toNat * 2)).block,(mX.add ((bW).toNat * 2)).off+1,none⟩=some (.slice vS ((rd_T35 aQ bW).f1).length vT)) (ds:= []) #[F,F,F,F,F,F,F,F,F,F,F,F,F] (by kernel_rfl) rfl rfl ⟨(aG bO.out 0).trans rfl,(aG bO.out 1).trans rfl,(aG bO.out 2).trans rfl,(aG bO.out 3).trans rfl,(aG bO.out 4).trans rfl,((HB.out.cell (World.block_lt_of_cell? w _ hw401_0)).trans hw401_0),((HB.out.cell (World.block_lt_of_cell? w _ hw401_1)).trans hw401_1)⟩ (fun hHeld=>?_);refine with_tabW regletref14_Predict.tab8 regletref14_Predict.bits8 (fun HT_ HW_=>?_)
      generalize wr.drew=w19 at fN eE bO HB lO iB iC hHeld ⊢;refine pure_ (i:=1) (N:=some 30) (v:=?_) (a':=?_) #[F,T,F,F,F,F,F,F,F,F,F,F,F] rfl rfl (any_of HT_.out (by kernel_rfl)) (fun _ _ _ h=>h) (Or.inl ⟨by rfl,?_⟩) ?_ ?_
      rotate_left;(intro w';go_simp;with_reducible rfl);rotate_left;(simp only [pq];rfl)
      refine pure_ (i:=3) (N:=some 32) (v:=?_) (a':=?_) #[F,T,F,T,F,F,F,F,F,F,F,F,F] rfl rfl (any_of HT_.out (by kernel_rfl)) (fun _ _ _ h=>h) (Or.inl ⟨by rfl,?_⟩) ?_ ?_
      rotate_left;(intro w';go_simp;with_reducible rfl);rotate_left;(simp only [pq];rfl)
      refine take_ (i:=0) (N:=some 29) (v:=?_) (a':=?_) #[T,T,F,T,F,F,F,F,F,F,F,F,F] rfl rfl (take_ofW HT_.out HW_.out (by kernel_rfl)) (fun _ _ _ h=>h) (Or.inl ⟨by rfl,?_⟩) hHeld ?_ ?_
      rotate_left
      ·rintro w' ⟨s0,s1,s2,s3,s4,s5,s6⟩
       go_simp
       with_reducible rfl
      rotate_left
      ·simp only [pq]
       rfl
      refine take_ (i:=2) (N:=some 31) (v:=?_) (a':=?_) #[T,T,T,T,F,F,F,F,F,F,F,F,F] rfl rfl (take_ofW HT_.out HW_.out (by kernel_rfl)) (fun _ _ _ h=>h) (Or.inl ⟨by rfl,?_⟩) hHeld ?_ ?_
      rotate_left
      ·rintro w' ⟨s0,s1,s2,s3,s4,s5,s6⟩
       go_simp
       with_reducible rfl
      rotate_left
      ·simp only [pq]
       rfl
      refine pure_ (i:=4) (N:=some 33) (v:=?_) (a':=?_) #[T,T,T,T,T,F,F,F,F,F,F,F,F] rfl rfl (any_of HT_.out (by kernel_rfl)) (fun _ _ _ h=>h) (Or.inl ⟨by rfl,?_⟩) ?_ ?_
      rotate_left;(intro w';go_simp;with_reducible rfl);rotate_left;(simp only [pq];rfl)
      refine pure_ (i:=5) (N:=some 34) (v:=?_) (a':=?_) #[T,T,T,T,T,T,F,F,F,F,F,F,F] rfl rfl (any_of HT_.out (by kernel_rfl)) (fun _ _ _ h=>h) (Or.inl ⟨by rfl,?_⟩) ?_ ?_
      rotate_left;(intro w';go_simp;with_reducible rfl);rotate_left;(simp only [pq];rfl)
      refine take_ (i:=6) (N:=some 35) (v:=?_) (a':=?_) #[T,T,T,T,T,T,T,F,F,F,F,F,F] rfl rfl (take_ofW HT_.out HW_.out (by kernel_rfl)) (fun _ _ _ h=>h) (Or.inl ⟨by rfl,?_⟩) hHeld ?_ ?_
      rotate_left
      ·rintro w' ⟨s0,s1,s2,s3,s4,s5,s6⟩
       go_simp
       with_reducible rfl
      rotate_left
      ·simp only [pq]
       rfl
      refine one_ (i:=7) (N:=some 36) #[T,T,T,T,T,T,T,T,F,F,F,F,F] rfl rfl (one_of HT_.out (by kernel_rfl)) (by decide) (fun K hK=>?_)
      refine goes_ Try.func32 (by kernel_rfl) rfl #[.agg #[.slice bR aU.length bS,.slice bU aX.length bV,.int .i64 bB,.int .i64 bK,.slice (some mX) aQ.length bX],.slice vS ((rd_T35 aQ bW).f1).length vT] (by rfl) rfl rfl (by(try simp only [List.map_toArray,List.map_cons,List.map_nil]);first|done|rfl|(simp only [List.length_drop,List.length_take];rfl)) ?_
      with_reducible refine(regletref13_Of.calls k1 _ _ aU _ _ aX bB bK _ _ aQ _ _ ((rd_T35 aQ bW).f1) t402 true _ ?side1 ?side2 ?side3 ?side4 ?side5 ?side6 ?side7 ?side8 A12.out).mono ?_
      (case side1=>exact gC (bD jA.out HB.out))
      (case side2=>exact jV.out)
      (case side3=>exact gC (bD kL.out HB.out))
      (case side4=>exact kM.out)
      (case side5=>exact gC (bD fP.out HB.out))
      (case side6=>exact kN.out)
      (case side7=>exact gC (bD lO.out HB.out))
      (case side8=>exact yK.out)
      rintro e w20 ⟨v403,rfl,ho0,hb⟩
      refine⟨_,rfl,?_⟩
      have cH:=aM (Kd.S_elder' (gS fN.out) (Kd.R_base ho0) hb);have cI:=aM (Kd.S_elder' (gS eE.out) (Kd.R_base ho0) hb);have cK:=aM (bL ho0 (bH (gW HB.out)));have cQ:=aM (bF (gB bO.out) hb);have dI:=aM (bG (gW HB.out) hb);clear fN eE bO HB;have fN:=cH;have eE:=cI;have sT:=cK;have bO:=cQ;have HB:=dI;clear cH cI cK cQ dI
      (try have lO:=aM (bD lO.out hb))
      (try clear hb);(try clear hb2);(try clear hk);(try clear hi);(try clear ho0)
      refine hK.out _ _ ⟨(aG bO.out 0).trans rfl,(aG bO.out 1).trans rfl,(aG bO.out 2).trans rfl,(aG bO.out 3).trans rfl,(aG bO.out 4).trans rfl,((HB.out.cell (World.block_lt_of_cell? w _ hw401_0)).trans hw401_0),((HB.out.cell (World.block_lt_of_cell? w _ hw401_1)).trans hw401_1)⟩ (fun hHeld=>?_)
      clear hK K;refine norm_ (a':=?_) ?_ ?_
      rotate_left
      ·show Act.put _ (some 36) _=_
       simp only [pq];rfl
      refine pure_ (i:=8) (N:=some 28) (v:=?_) (a':=?_) #[T,T,T,T,T,T,T,T,T,F,F,F,F] rfl rfl (any_of HT_.out (by kernel_rfl)) (fun _ _ _ h=>h) (Or.inl ⟨by rfl,?_⟩) ?_ ?_
      rotate_left;(intro w';go_simp;with_reducible rfl);rotate_left;(simp only [pq];rfl)
      refine pure_ (i:=9) (N:=some 37) (v:=?_) (a':=?_) #[T,T,T,T,T,T,T,T,T,T,F,F,F] rfl rfl (any_of HT_.out (by kernel_rfl)) (fun _ _ _ h=>h) (Or.inl ⟨by rfl,?_⟩) ?_ ?_
      rotate_left;(intro w';go_simp;with_reducible rfl);rotate_left;(simp only [pq];rfl)
      refine pure_ (i:=10) (N:=some 38) (v:=?_) (a':=?_) #[T,T,T,T,T,T,T,T,T,T,T,F,F] rfl rfl (any_of HT_.out (by kernel_rfl)) (fun _ _ _ h=>h) (Or.inl ⟨by rfl,?_⟩) ?_ ?_
      rotate_left;(intro w';go_simp;with_reducible rfl);rotate_left;(simp only [pq];rfl)
      refine pure_ (i:=11) (N:=some 7) (v:=?_) (a':=?_) #[T,T,T,T,T,T,T,T,T,T,T,T,F] rfl rfl (any_of HT_.out (by kernel_rfl)) (fun _ _ _ h=>h) (Or.inl ⟨by rfl,?_⟩) ?_ ?_
      rotate_left;(intro w';go_simp;with_reducible rfl);rotate_left;(simp only [pq];rfl)
      refine pure_ (i:=12) (N:=some 8) (v:=?_) (a':=?_) #[T,T,T,T,T,T,T,T,T,T,T,T,T] rfl rfl (any_of HT_.out (by kernel_rfl)) (fun _ _ _ h=>h) (Or.inl ⟨by rfl,?_⟩) ?_ ?_
      rotate_left;(intro w';go_simp;with_reducible rfl);rotate_left;(simp only [pq];rfl)
      refine done_ (done_of HT_.out (by kernel_rfl)) ?_
      have lA:w20.cell? ⟨cY,0,none⟩=some (.slice bR aU.length bS):=(aG bO.out 0).trans rfl;have lB:w20.cell? ⟨cY,1,none⟩=some (.slice bU aX.length bV):=(aG bO.out 1).trans rfl;have lC:w20.cell? ⟨cY,2,none⟩=some (.int .i64 bB):=(aG bO.out 2).trans rfl;have lD:w20.cell? ⟨cY,3,none⟩=some (.int .i64 bK):=(aG bO.out 3).trans rfl;have lE:w20.cell? ⟨cY,4,none⟩=some (.slice (some mX) aQ.length bX):=(aG bO.out 4).trans rfl;have lF:=aH bO.out 0;have lG:=aH bO.out 1;have lH:=aH bO.out 2;have lI:=aH bO.out 3;have lJ:=aH bO.out 4;have p406:0≤(bW:Int):=of_decide_eq_true (by first|(with_reducible assumption)|assumption);have q406:bW<(aQ.length:Int):=of_decide_eq_true (by first|(with_reducible assumption)|assumption);obtain⟨Wa,FU,FV,e406,nY,nZ,Gc,Gd⟩:=at_T35 fP.out bW p406 q406;obtain rfl:mX=Wa:=(by injection e406);replace nY:=(HB.out.cell (World.block_lt_of_cell? w _ nY)).trans nY;replace nZ:=(HB.out.cell (World.block_lt_of_cell? w _ nZ)).trans nZ;have CP:=aM Gd;have CQ:=aM Gc;clear Gd Gc;replace p406:=eq_true p406;replace q406:=eq_true q406;obtain⟨KS,Ig,FW⟩:=Kd.S_slice eE.out;subst FW;have p407:0≤(((rd_T35 aQ bW).f0):Int):=of_decide_eq_true (by first|(with_reducible assumption)|assumption);have q407:((rd_T35 aQ bW).f0)<(t398.length:Int):=of_decide_eq_true (by first|(with_reducible assumption)|assumption);obtain⟨wK,FX,FY,e407,rY,Ge,Gf⟩:=at_L5 (Kd.S_reads' eE.out).2.2 ((rd_T35 aQ bW).f0) p407 q407
      cases e407;obtain⟨ce407,hce407,hMe407,hcc407⟩:=Kd.S_get eE.out [] ((rd_T35 aQ bW).f0) p407 (by first|exact q407|exact of_decide_eq_true (by first|(with_reducible assumption)|assumption)|(have e_:=(Kd.S_reads' eE.out).1;omega));obtain⟨ve407_0,rfl,ge407_0⟩:=hMe407;have hv407_0:=hcc407 0 _ rfl;rw [Nat.add_zero,show((Kd.slice 3 (Kd.int .i64))).sz=1 from rfl,Nat.mul_one] at hv407_0;replace hv407_0:=Option.some.inj (hv407_0.symm.trans rY);rw [hv407_0] at ge407_0;have HL407_0:=aM (show Kd.R (Kd.int .i64) 3 _ _ _ _ (rd_L5 t398 ((rd_T35 aQ bW).f0)) from ge407_0);clear hv407_0 ge407_0 hcc407 hce407;have Gg:=aM Gf;have CR:=aM Ge;clear Gf Ge;replace p407:=eq_true p407;replace q407:=eq_true q407
      try go_wp2_with (first|((with_reducible refine gate_builtin (b:= .append) (xs:=#[.tmp 40,.tmp 49]) rfl ?_);at_builtin;refine Kd.R_append_rows (Kd.int .i64) (w0:=w) w.heap.size rfl (.tmp 40) (.tmp 49) 32 3 (.int .i64 0) 8 rfl Try.underlying32 info3 rfl (by decide) (by omega) v403 t402 (rd_L5 t398 ((rd_T35 aQ bW).f0)) _ _ _ (fun _=>True) (fun _=>False) rfl rfl ?aO ?aR (fun _ _ h=>h) (fun _ h=>h.elim) ?aF ?aB ?aS ?aL ?_;(case aR=>exact gC (by repeat(first|(with_reducible exact Gg.out)|(with_reducible refine Kd.C_alloc ?_ _)|(with_reducible refine Kd.C_drewN ?_ _)|(with_reducible refine bC ?_)|exact Gg.out)));(case aB=>exact(gW HB.out));(case aF=>exact(fun _ _=>trivial));(case aO=>exact(gR sT.out));(case aS=>exact(bH (gW HB.out)));(case aL=>have:=Vw.out;omega);intro v409 w23 ho hb hg hat;rw [←Vx.out] at ho;have cH:=aM (Kd.S_after (ok:=(fun k_=>some k_≠(.slice (some wK) t398.length Ig:Value).ownBlock)) (gS fN.out) hg hat);have cI:=aM (Kd.S_after (ok:=(fun k_=>some k_≠(u4:Value).ownBlock)) (gS eE.out) hg hat);have cK:=aM (blk_grown (gB bO.out) hg (Kd.R_ne sT.out bO.out (by decide)));have cQ:=aM (Kd.R_after (ok:=(fun k_=>some k_≠(u4:Value).ownBlock∧some k_≠(.slice (some wK) t398.length Ig:Value).ownBlock)) (by(with_reducible repeat(first|apply aA|apply aB|apply aC));exact Kd.R_mono HL407_0.out (fun _ hk=>⟨⟨hk.1.1,hk.2⟩,hk.1.2⟩)) hg hat);have dI:=aM (hb);have dR:=aM (ho);clear fN;clear eE;clear bO;clear HL407_0;clear HB;clear sT;have fN:=cH;have eE:=cI;have bO:=cK;have HL407_0:=cQ;have HB:=dI;have Gh:=dR;clear cH cI cK cQ dI dR;clear ho hb hg hat;obtain⟨Ns,Nt,FZ⟩:=Kd.R_slice Gh.out;subst FZ)|((with_reducible refine gate_builtin (b:= .append) (xs:=#[.tmp 51,.tmp 53]) rfl ?_);at_builtin;refine Kd.S_append (Kd.slice 3 (Kd.int .i64)) (w0:=w) w.heap.size rfl (.tmp 51) (.tmp 53) 27 32 (.slice none 0 0) 24 rfl Try.underlying27 info32 rfl (by decide) (by omega) u4 bY y408 [.slice Ns y408.length Nt] (fun k_=>some k_≠(.slice (some wK) t398.length Ig:Value).ownBlock) (fun k_=>some k_=(.slice Ns y408.length Nt:Value).ownBlock) rfl rfl ?aP (fun k_ hk_=>((Kd.R_mono (ok':=fun k_=>((fun k_=>some k_≠(.slice (some wK) t398.length Ig:Value).ownBlock)) k_∧some k_≠(u4:Value).ownBlock) (Kd.R_apart' (Kd.R_apart' (Gh.out) (Kd.S_typed eE.out) (by decide)) (Kd.S_typed fN.out) (by decide)) (fun k_ hk=>⟨hk.1.2,hk.2⟩))).1 k_ hk_.symm) ?aF ?aO ?aB ?aS ?aL ?_;(case aP=>exact Kd.M_row (Kd.R_mono (Kd.R_tight rfl (Kd.R_mono (ok':=fun k_=>((fun k_=>some k_≠(.slice (some wK) t398.length Ig:Value).ownBlock)) k_∧some k_≠(u4:Value).ownBlock) (Kd.R_apart' (Kd.R_apart' (Gh.out) (Kd.S_typed eE.out) (by decide)) (Kd.S_typed fN.out) (by decide)) (fun k_ hk=>⟨hk.1.2,hk.2⟩))) (fun _ h_=>h_)));(case aB=>exact(gW HB.out));(case aF=>exact(fun k_ hk=>Kd.fresh' (Kd.S_lt (gS eE.out)) k_ hk));(case aO=>exact(by(with_reducible repeat(first|apply Kd.S_alloc|apply aV|apply aW));exact Kd.S_mono fN.out (fun k_ hk=>⟨hk.1,fun e_=>hk.2 e_⟩)));(case aS=>exact(bH (gW HB.out)));(case aL=>have:=Vy.out;omega);intro v412 w24 ho hb hg hat;rw [←Vz.out] at ho;have cH:=aM (Kd.S_after (ok:=(fun k_=>some k_≠(.slice Ns y408.length Nt:Value).ownBlock)) (by(with_reducible repeat(first|apply Kd.S_alloc|apply aV|apply aW));exact Kd.S_mono eE.out (fun _ hk=>⟨hk.2,hk.1⟩)) hg hat);have cI:=aM (blk_grown (gB bO.out) hg (Kd.S_ne fN.out bO.out (by decide)));have cK:=aM (Kd.R_after (ok:=(fun k_=>some k_≠(.slice (some wK) t398.length Ig:Value).ownBlock∧some k_≠(.slice Ns y408.length Nt:Value).ownBlock)) (by(with_reducible repeat(first|apply aA|apply aB|apply aC));exact Kd.R_mono HL407_0.out (fun _ hk=>⟨⟨hk.1.2,hk.2⟩,hk.1.1⟩)) hg hat);have cQ:=aM (hb);have dI:=aM (ho);clear eE;clear bO;clear HL407_0;clear HB;clear fN;clear Gh;have eE:=cH;have bO:=cI;have HL407_0:=cK;have HB:=cQ;have Wb:=dI;clear cH cI cK cQ dI;clear ho hb hg hat))
      go_roundg k1
      case measure=>have:=HK1.out;omega
      case rel=>exact⟨(y411),(wrap64 (bW+1)),(by first|rfl|(simp;done)|(simp [*];done)),H',⟨by have:=HK1.out;omega⟩,⟨gS Wb.out⟩,⟨by(with_reducible repeat(first|apply Kd.S_alloc|apply aV|apply aW));exact Kd.S_mono eE.out (fun _ hk=>hk.2)⟩,⟨gB bO.out⟩,⟨gW HB.out⟩⟩
     ·replace c13:=Bool.eq_false_iff.mpr c13
      subst c13;have H1:(if bY.length<5864062014805 then(regletref14_Predict.l0 k1 (bY++ [t402]) t398 (wrap64 (bW+1)) aU aX bB bK aQ) else(none))=some (r1,r2):=by rw [if_neg (show ¬(false=true) by decide)] at H;exact H
      clear H;have H:=H1;clear H1
      by_cases c26:bY.length<5864062014805
      rotate_left
      ·rw [if_neg c26] at H
       exact absurd H (by simp)
      rw [if_pos c26] at H;have Wc:=aM c26;clear c26;obtain⟨y414,Bh⟩:∃y_:List (List Int),y_=(bY++ [t402]):=⟨_,rfl⟩;replace H:(regletref14_Predict.l0 k1 y414 t398 (wrap64 (bW+1)) aU aX bB bK aQ)=some (r1,r2):=by first|(rw [Bh];with_reducible exact H)|(have H2_:=(Option.bind_some _ _).symm.trans H;rw [Bh];with_reducible exact H2_)|(have H2_:=(Option.bind_some _ _).symm.trans H;with_reducible exact H2_)|with_reducible exact H|(rw [Bh];exact H)|exact H
      have We:=aM Bh;clear Bh;have H':=aM H;clear H;have qS:wr.cell? ⟨cY,0,none⟩=some (.slice bR aU.length bS):=(aG bO.out 0).trans rfl;have qT:wr.cell? ⟨cY,1,none⟩=some (.slice bU aX.length bV):=(aG bO.out 1).trans rfl;have uB:wr.cell? ⟨cY,2,none⟩=some (.int .i64 bB):=(aG bO.out 2).trans rfl;have uC:wr.cell? ⟨cY,3,none⟩=some (.int .i64 bK):=(aG bO.out 3).trans rfl;have uD:wr.cell? ⟨cY,4,none⟩=some (.slice cC aQ.length bX):=(aG bO.out 4).trans rfl;have qU:=aH bO.out 0;have qV:=aH bO.out 1;have uE:=aH bO.out 2;have uF:=aH bO.out 3;have uG:=aH bO.out 4
      try go_wp2
      have cH:=aM (aW fN.out);have cI:=aM (aW eE.out);have cK:=aM (aK bO.out);have cQ:=aM (aO HB.out);clear fN eE bO HB;have fN:=cH;have eE:=cI;have bO:=cK;have HB:=cQ;clear cH cI cK cQ;have p401:0≤(bW:Int):=of_decide_eq_true (by first|(with_reducible assumption)|assumption);have q401:bW<(aQ.length:Int):=of_decide_eq_true (by first|(with_reducible assumption)|assumption);obtain⟨mX,vS,vT,e401,iB,iC,rW,rX⟩:=at_T35 fP.out bW p401 q401;have hw401_1:=iC;have hw401_0:=iB
      cases e401;replace iB:=(HB.out.cell (World.block_lt_of_cell? w _ iB)).trans iB;replace iC:=(HB.out.cell (World.block_lt_of_cell? w _ iC)).trans iC;have lO:=aM rX;have yK:=aM rW;clear rX rW;replace p401:=eq_true p401;replace q401:=eq_true q401;refine start_ (n:=13) (S:=fun w'=>w'.cell? ⟨cY,0,none⟩=some (.slice bR aU.length bS)∧w'.cell? ⟨cY,1,none⟩=some (.slice bU aX.length bV)∧w'.cell? ⟨cY,2,none⟩=some (.int .i64 bB)∧w'.cell? ⟨cY,3,none⟩=some (.int .i64 bK)∧w'.cell? ⟨cY,4,none⟩=some (.slice (some mX) aQ.length bX)∧w'.cell? (mX.add ((bW).toNat * 2))=some (.int .i64 ((rd_T35 aQ bW).f0))∧w'.cell? ⟨(mX.add ((bW).toNat * 2)).block,(mX.add ((bW).toNat * 2)).off+1,none⟩=some (.slice vS ((rd_T35 aQ bW).f1).length vT)) (ds:= []) #[F,F,F,F,F,F,F,F,F,F,F,F,F] (by kernel_rfl) rfl rfl ⟨(aG bO.out 0).trans rfl,(aG bO.out 1).trans rfl,(aG bO.out 2).trans rfl,(aG bO.out 3).trans rfl,(aG bO.out 4).trans rfl,((HB.out.cell (World.block_lt_of_cell? w _ hw401_0)).trans hw401_0),((HB.out.cell (World.block_lt_of_cell? w _ hw401_1)).trans hw401_1)⟩ (fun hHeld=>?_);refine with_tabW regletref14_Predict.tab8 regletref14_Predict.bits8 (fun HT_ HW_=>?_)
      generalize wr.drew=w28 at fN eE bO HB lO iB iC hHeld ⊢;refine pure_ (i:=1) (N:=some 30) (v:=?_) (a':=?_) #[F,T,F,F,F,F,F,F,F,F,F,F,F] rfl rfl (any_of HT_.out (by kernel_rfl)) (fun _ _ _ h=>h) (Or.inl ⟨by rfl,?_⟩) ?_ ?_
      rotate_left;(intro w';go_simp;with_reducible rfl);rotate_left;(simp only [pq];rfl)
      refine pure_ (i:=3) (N:=some 32) (v:=?_) (a':=?_) #[F,T,F,T,F,F,F,F,F,F,F,F,F] rfl rfl (any_of HT_.out (by kernel_rfl)) (fun _ _ _ h=>h) (Or.inl ⟨by rfl,?_⟩) ?_ ?_
      rotate_left;(intro w';go_simp;with_reducible rfl);rotate_left;(simp only [pq];rfl)
      refine take_ (i:=0) (N:=some 29) (v:=?_) (a':=?_) #[T,T,F,T,F,F,F,F,F,F,F,F,F] rfl rfl (take_ofW HT_.out HW_.out (by kernel_rfl)) (fun _ _ _ h=>h) (Or.inl ⟨by rfl,?_⟩) hHeld ?_ ?_
      rotate_left
      ·rintro w' ⟨s0,s1,s2,s3,s4,s5,s6⟩
       go_simp
       with_reducible rfl
      rotate_left
      ·simp only [pq]
       rfl
      refine take_ (i:=2) (N:=some 31) (v:=?_) (a':=?_) #[T,T,T,T,F,F,F,F,F,F,F,F,F] rfl rfl (take_ofW HT_.out HW_.out (by kernel_rfl)) (fun _ _ _ h=>h) (Or.inl ⟨by rfl,?_⟩) hHeld ?_ ?_
      rotate_left
      ·rintro w' ⟨s0,s1,s2,s3,s4,s5,s6⟩
       go_simp
       with_reducible rfl
      rotate_left
      ·simp only [pq]
       rfl
      refine pure_ (i:=4) (N:=some 33) (v:=?_) (a':=?_) #[T,T,T,T,T,F,F,F,F,F,F,F,F] rfl rfl (any_of HT_.out (by kernel_rfl)) (fun _ _ _ h=>h) (Or.inl ⟨by rfl,?_⟩) ?_ ?_
      rotate_left;(intro w';go_simp;with_reducible rfl);rotate_left;(simp only [pq];rfl)
      refine pure_ (i:=5) (N:=some 34) (v:=?_) (a':=?_) #[T,T,T,T,T,T,F,F,F,F,F,F,F] rfl rfl (any_of HT_.out (by kernel_rfl)) (fun _ _ _ h=>h) (Or.inl ⟨by rfl,?_⟩) ?_ ?_
      rotate_left;(intro w';go_simp;with_reducible rfl);rotate_left;(simp only [pq];rfl)
      refine take_ (i:=6) (N:=some 35) (v:=?_) (a':=?_) #[T,T,T,T,T,T,T,F,F,F,F,F,F] rfl rfl (take_ofW HT_.out HW_.out (by kernel_rfl)) (fun _ _ _ h=>h) (Or.inl ⟨by rfl,?_⟩) hHeld ?_ ?_
      rotate_left
      ·rintro w' ⟨s0,s1,s2,s3,s4,s5,s6⟩
       go_simp
       with_reducible rfl
      rotate_left
      ·simp only [pq]
       rfl
      refine one_ (i:=7) (N:=some 36) #[T,T,T,T,T,T,T,T,F,F,F,F,F] rfl rfl (one_of HT_.out (by kernel_rfl)) (by decide) (fun K hK=>?_)
      refine goes_ Try.func32 (by kernel_rfl) rfl #[.agg #[.slice bR aU.length bS,.slice bU aX.length bV,.int .i64 bB,.int .i64 bK,.slice (some mX) aQ.length bX],.slice vS ((rd_T35 aQ bW).f1).length vT] (by rfl) rfl rfl (by(try simp only [List.map_toArray,List.map_cons,List.map_nil]);first|done|rfl|(simp only [List.length_drop,List.length_take];rfl)) ?_
      with_reducible refine(regletref13_Of.calls k1 _ _ aU _ _ aX bB bK _ _ aQ _ _ ((rd_T35 aQ bW).f1) t402 false _ ?side1 ?side2 ?side3 ?side4 ?side5 ?side6 ?side7 ?side8 A12.out).mono ?_
      (case side1=>exact gC (bD jA.out HB.out))
      (case side2=>exact jV.out)
      (case side3=>exact gC (bD kL.out HB.out))
      (case side4=>exact kM.out)
      (case side5=>exact gC (bD fP.out HB.out))
      (case side6=>exact kN.out)
      (case side7=>exact gC (bD lO.out HB.out))
      (case side8=>exact yK.out)
      rintro e w29 ⟨v403,rfl,ho0,hb⟩
      refine⟨_,rfl,?_⟩
      have cH:=aM (Kd.S_elder' (gS fN.out) (Kd.R_base ho0) hb);have cI:=aM (Kd.S_elder' (gS eE.out) (Kd.R_base ho0) hb);have cK:=aM (bL ho0 (bH (gW HB.out)));have cQ:=aM (bF (gB bO.out) hb);have dI:=aM (bG (gW HB.out) hb);clear fN eE bO HB;have fN:=cH;have eE:=cI;have sT:=cK;have bO:=cQ;have HB:=dI;clear cH cI cK cQ dI
      (try have lO:=aM (bD lO.out hb))
      (try clear hb);(try clear hb2);(try clear hk);(try clear hi);(try clear ho0)
      refine hK.out _ _ ⟨(aG bO.out 0).trans rfl,(aG bO.out 1).trans rfl,(aG bO.out 2).trans rfl,(aG bO.out 3).trans rfl,(aG bO.out 4).trans rfl,((HB.out.cell (World.block_lt_of_cell? w _ hw401_0)).trans hw401_0),((HB.out.cell (World.block_lt_of_cell? w _ hw401_1)).trans hw401_1)⟩ (fun hHeld=>?_)
      clear hK K;refine norm_ (a':=?_) ?_ ?_
      rotate_left
      ·show Act.put _ (some 36) _=_
       simp only [pq];rfl
      refine pure_ (i:=8) (N:=some 28) (v:=?_) (a':=?_) #[T,T,T,T,T,T,T,T,T,F,F,F,F] rfl rfl (any_of HT_.out (by kernel_rfl)) (fun _ _ _ h=>h) (Or.inl ⟨by rfl,?_⟩) ?_ ?_
      rotate_left;(intro w';go_simp;with_reducible rfl);rotate_left;(simp only [pq];rfl)
      refine pure_ (i:=9) (N:=some 37) (v:=?_) (a':=?_) #[T,T,T,T,T,T,T,T,T,T,F,F,F] rfl rfl (any_of HT_.out (by kernel_rfl)) (fun _ _ _ h=>h) (Or.inl ⟨by rfl,?_⟩) ?_ ?_
      rotate_left;(intro w';go_simp;with_reducible rfl);rotate_left;(simp only [pq];rfl)
      refine pure_ (i:=10) (N:=some 38) (v:=?_) (a':=?_) #[T,T,T,T,T,T,T,T,T,T,T,F,F] rfl rfl (any_of HT_.out (by kernel_rfl)) (fun _ _ _ h=>h) (Or.inl ⟨by rfl,?_⟩) ?_ ?_
      rotate_left;(intro w';go_simp;with_reducible rfl);rotate_left;(simp only [pq];rfl)
      refine pure_ (i:=11) (N:=some 7) (v:=?_) (a':=?_) #[T,T,T,T,T,T,T,T,T,T,T,T,F] rfl rfl (any_of HT_.out (by kernel_rfl)) (fun _ _ _ h=>h) (Or.inl ⟨by rfl,?_⟩) ?_ ?_
      rotate_left;(intro w';go_simp;with_reducible rfl);rotate_left;(simp only [pq];rfl)
      refine pure_ (i:=12) (N:=some 8) (v:=?_) (a':=?_) #[T,T,T,T,T,T,T,T,T,T,T,T,T] rfl rfl (any_of HT_.out (by kernel_rfl)) (fun _ _ _ h=>h) (Or.inl ⟨by rfl,?_⟩) ?_ ?_
      rotate_left;(intro w';go_simp;with_reducible rfl);rotate_left;(simp only [pq];rfl)
      refine done_ (done_of HT_.out (by kernel_rfl)) ?_
      obtain⟨fY,fZ,Sm⟩:=Kd.R_slice sT.out;subst Sm
      try go_wp2_with (first|((with_reducible refine gate_builtin (b:= .append) (xs:=#[.tmp 51,.tmp 53]) rfl ?_);at_builtin;refine Kd.S_append (Kd.slice 3 (Kd.int .i64)) (w0:=w) w.heap.size rfl (.tmp 51) (.tmp 53) 27 32 (.slice none 0 0) 24 rfl Try.underlying27 info32 rfl (by decide) (by omega) u4 bY t402 [.slice fY t402.length fZ] (fun k_=>some k_≠(v399:Value).ownBlock) (fun k_=>some k_=(.slice fY t402.length fZ:Value).ownBlock) rfl rfl ?aP (fun k_ hk_=>((Kd.R_mono (ok':=fun k_=>((fun k_=>some k_≠(v399:Value).ownBlock)) k_∧some k_≠(u4:Value).ownBlock) (Kd.R_apart' (Kd.R_apart' (sT.out) (Kd.S_typed eE.out) (by decide)) (Kd.S_typed fN.out) (by decide)) (fun k_ hk=>⟨hk.1.2,hk.2⟩))).1 k_ hk_.symm) ?aF ?aO ?aB ?aS ?aL ?_;(case aP=>exact Kd.M_row (Kd.R_mono (Kd.R_tight rfl (Kd.R_mono (ok':=fun k_=>((fun k_=>some k_≠(v399:Value).ownBlock)) k_∧some k_≠(u4:Value).ownBlock) (Kd.R_apart' (Kd.R_apart' (sT.out) (Kd.S_typed eE.out) (by decide)) (Kd.S_typed fN.out) (by decide)) (fun k_ hk=>⟨hk.1.2,hk.2⟩))) (fun _ h_=>h_)));(case aB=>exact(gW HB.out));(case aF=>exact(fun k_ hk=>Kd.fresh' (Kd.S_lt (gS eE.out)) k_ hk));(case aO=>exact(by(with_reducible repeat(first|apply Kd.S_alloc|apply aV|apply aW));exact Kd.S_mono fN.out (fun k_ hk=>⟨hk.1,fun e_=>hk.2 e_⟩)));(case aS=>exact(bH (gW HB.out)));(case aL=>have:=Wc.out;omega);intro v415 w30 ho hb hg hat;rw [←We.out] at ho;have cH:=aM (Kd.S_after (ok:=(fun k_=>some k_≠(.slice fY t402.length fZ:Value).ownBlock)) (by(with_reducible repeat(first|apply Kd.S_alloc|apply aV|apply aW));exact Kd.S_mono eE.out (fun _ hk=>⟨hk.2,hk.1⟩)) hg hat);have cI:=aM (blk_grown (gB bO.out) hg (Kd.S_ne fN.out bO.out (by decide)));have cK:=aM (hb);have cQ:=aM (ho);clear eE;clear bO;clear HB;clear fN;clear sT;have eE:=cH;have bO:=cI;have HB:=cK;have Wf:=cQ;clear cH cI cK cQ;clear ho hb hg hat))
      go_roundg k1
      case measure=>have:=HK1.out;omega
      case rel=>exact⟨(y414),(wrap64 (bW+1)),(by first|rfl|(simp;done)|(simp [*];done)),H',⟨by have:=HK1.out;omega⟩,⟨gS Wf.out⟩,⟨by(with_reducible repeat(first|apply Kd.S_alloc|apply aV|apply aW));exact Kd.S_mono eE.out (fun _ hk=>hk.2)⟩,⟨gB bO.out⟩,⟨gW HB.out⟩⟩
    ·rw [if_neg c10] at H
     have mL:decide (bW<(aQ.length:Int))=false:=decide_eq_false c10;clear c10;have H':=aM H;clear H;have uH:wr.cell? ⟨cY,0,none⟩=some (.slice bR aU.length bS):=(aG bO.out 0).trans rfl;have uI:wr.cell? ⟨cY,1,none⟩=some (.slice bU aX.length bV):=(aG bO.out 1).trans rfl;have uJ:wr.cell? ⟨cY,2,none⟩=some (.int .i64 bB):=(aG bO.out 2).trans rfl;have uK:wr.cell? ⟨cY,3,none⟩=some (.int .i64 bK):=(aG bO.out 3).trans rfl;have uL:wr.cell? ⟨cY,4,none⟩=some (.slice cC aQ.length bX):=(aG bO.out 4).trans rfl;have uM:=aH bO.out 0;have uN:=aH bO.out 1;have uO:=aH bO.out 2;have uP:=aH bO.out 3;have uQ:=aH bO.out 4;go_wp2
     go_loopg [9,10,11] k1 (fun kq v9 v10 v11 w'=>∃(oK:List (List Int)) (Gi:List (S78)) (hF:Int),v11= .int .i64 hF∧Aside0 (regletref14_Predict.l1 kq bY oK Gi hF aU aX bB bK aQ=some (r1,r2))∧Aside0 (kq≤k1)∧Aside0 (Kd.S (Kd.slice 3 (Kd.int .i64)) 32 w' w.heap.size (fun k_=>some k_≠(v9:Value).ownBlock) u4 bY)∧Aside0 (Kd.S (Kd.slice 3 (Kd.int .i64)) 32 w' w.heap.size (fun k_=>some k_≠(u4:Value).ownBlock) v9 oK)∧Aside0 (Kd.R k78 78 w' w.heap.size (fun _=>True) v10 Gi)∧Aside0 (w'.heap[cY]?=some (.cells #[(.slice bR aU.length bS),(.slice bU aX.length bV),.int .i64 bB,.int .i64 bK,(.slice cC aQ.length bX)] 26 (0,0)))∧Aside0 (Below w.heap.size w w'))
     case atStart=>exact⟨(([]:List (List Int))),(([]:List (S78))),(0),(by first|rfl|(simp;done)|(simp [*];done)),H',⟨Nat.le_refl _⟩,⟨by(with_reducible repeat(first|apply Kd.S_alloc|apply aV|apply aW));exact Kd.S_mono fN.out (fun _ hk=>(by simp [Value.ownBlock]))⟩,⟨by first|exact Kd.S_nil _ _ _ _ _|exact Kd.N_nil _ _ _ _ _|exact Kd.V_nil _ _ _ _ _|exact Kd.Q_nil _ _ _ _ _|exact Kd.R_nil _ _ _ _ _⟩,⟨by first|exact Kd.R_nil _ _ _ _ _|exact Kd.N_nil _ _ _ _ _|exact Kd.V_nil _ _ _ _ _|exact Kd.Q_nil _ _ _ _ _|exact Kd.S_nil _ _ _ _ _⟩,⟨gB bO.out⟩,⟨gW HB.out⟩⟩
     case round=>
      clear H'
      (try clear c1);(try clear c2);(try clear p2);(try clear c3);(try clear c4);(try clear p4);(try clear q4);(try clear hx4);(try clear p6);(try clear c10);(try clear mL);(try clear c11);(try clear pQ);(try clear c13);(try clear c14);(try clear vR);(try clear c15);(try clear sS);(try clear c16);(try clear c17);(try clear c20);(try clear c26);(try clear c30);(try clear c31);(try clear c32);(try clear rM)
      (try clear rN);(try clear rO);(try clear rP);(try clear rQ);(try clear lA);(try clear lB);(try clear lC);(try clear lD);(try clear lE);(try clear qS);(try clear qT);(try clear uB);(try clear uC);(try clear uD);(try clear uH);(try clear uI);(try clear uJ);(try clear uK);(try clear uL);(try clear oN);(try clear oO)
      (try clear oP);(try clear oQ);(try clear oR);(try clear jO);(try clear jP);(try clear lR);(try clear lS);(try clear lT);(try clear rR);(try clear rS);(try clear rT);(try clear rU);(try clear rV);(try clear lF);(try clear lG);(try clear lH);(try clear lI);(try clear lJ);(try clear qU);(try clear qV);(try clear uE)
      (try clear uF);(try clear uG);(try clear uM);(try clear uN);(try clear uO);(try clear uP);(try clear uQ);(try clear oS);(try clear oT);(try clear oU);(try clear oV);(try clear oW);(try clear jQ);(try clear jR);(try clear lU);(try clear lV);(try clear lW);(try clear iB);(try clear iC);(try clear nY);(try clear nZ)
      (try clear rY);(try clear p2);(try clear p401);(try clear p406);(try clear p407);(try clear q401);(try clear q406);(try clear q407)
      obtain⟨oK,Gi,hF,rfl,HA,HK2,fN,lP,dK,bO,HB⟩:=hrel
      cases gk with
      |zero=>exact absurd HA.out (by simp [regletref14_Predict.l1])
      |succ k2=>
       have H:=HA.out;clear HA;simp only [regletref14_Predict.l1] at H
       by_cases c33:hF<(aU.length:Int)
       ·rw [if_pos c33] at H
        have Gj:decide (hF<(aU.length:Int))=true:=decide_eq_true c33;clear c33;have H':=aM H;clear H;have qW:wr.cell? ⟨cY,0,none⟩=some (.slice bR aU.length bS):=(aG bO.out 0).trans rfl;have qX:wr.cell? ⟨cY,1,none⟩=some (.slice bU aX.length bV):=(aG bO.out 1).trans rfl;have uR:wr.cell? ⟨cY,2,none⟩=some (.int .i64 bB):=(aG bO.out 2).trans rfl;have uS:wr.cell? ⟨cY,3,none⟩=some (.int .i64 bK):=(aG bO.out 3).trans rfl;have uT:wr.cell? ⟨cY,4,none⟩=some (.slice cC aQ.length bX):=(aG bO.out 4).trans rfl;have qY:=aH bO.out 0;have qZ:=aH bO.out 1;have uU:=aH bO.out 2;have uV:=aH bO.out 3;have uW:=aH bO.out 4;go_wp2
        go_loopg [10,12,13] k2 (fun kq v10 v12 v13 w'=>∃(wL:List (S78)) (jK:List Int) (jB:Int),v13= .int .i64 jB∧Aside0 (regletref14_Predict.l2 kq bY oK wL hF jK jB aU aX bB bK aQ=some (r1,r2))∧Aside0 (kq≤k2)∧Aside0 (Kd.S (Kd.slice 3 (Kd.int .i64)) 32 w' w.heap.size (fun k_=>some k_≠(u9:Value).ownBlock∧some k_≠(v12:Value).ownBlock) u4 bY)∧Aside0 (Kd.S (Kd.slice 3 (Kd.int .i64)) 32 w' w.heap.size (fun k_=>some k_≠(u4:Value).ownBlock∧some k_≠(v12:Value).ownBlock) u9 oK)∧Aside0 (Kd.R k78 78 w' w.heap.size (fun _=>True) v10 wL)∧Aside0 (Kd.R (Kd.int .i64) 3 w' w.heap.size (fun _=>True) v12 jK)∧Aside0 (w'.heap[cY]?=some (.cells #[(.slice bR aU.length bS),(.slice bU aX.length bV),.int .i64 bB,.int .i64 bK,(.slice cC aQ.length bX)] 26 (0,0)))∧Aside0 (Below w.heap.size w w'))
        case atStart=>exact⟨(Gi),(([]:List Int)),(0),(by first|rfl|(simp;done)|(simp [*];done)),H',⟨Nat.le_refl _⟩,⟨by(with_reducible repeat(first|apply Kd.S_alloc|apply aV|apply aW));exact Kd.S_mono fN.out (fun _ hk=>⟨hk,(by simp [Value.ownBlock])⟩)⟩,⟨by(with_reducible repeat(first|apply Kd.S_alloc|apply aV|apply aW));exact Kd.S_mono lP.out (fun _ hk=>⟨hk,(by simp [Value.ownBlock])⟩)⟩,⟨gR dK.out⟩,⟨by first|exact Kd.R_nil _ _ _ _ _|exact Kd.N_nil _ _ _ _ _|exact Kd.V_nil _ _ _ _ _|exact Kd.Q_nil _ _ _ _ _|exact Kd.S_nil _ _ _ _ _⟩,⟨gB bO.out⟩,⟨gW HB.out⟩⟩
        case round=>
         clear H'
         (try clear c1);(try clear c2);(try clear p2);(try clear c3);(try clear c4);(try clear p4);(try clear q4);(try clear hx4);(try clear p6);(try clear c10);(try clear mL);(try clear c11);(try clear pQ);(try clear c13);(try clear c14);(try clear vR);(try clear c15);(try clear sS);(try clear c16);(try clear c17);(try clear c20);(try clear c26);(try clear c30);(try clear c31);(try clear c32);(try clear c33)
         (try clear Gj);(try clear rM);(try clear rN);(try clear rO);(try clear rP);(try clear rQ);(try clear lA);(try clear lB);(try clear lC);(try clear lD);(try clear lE);(try clear qS);(try clear qT);(try clear uB);(try clear uC);(try clear uD);(try clear uH);(try clear uI);(try clear uJ);(try clear uK);(try clear uL)
         (try clear qW);(try clear qX);(try clear uR);(try clear uS);(try clear uT);(try clear oN);(try clear oO);(try clear oP);(try clear oQ);(try clear oR);(try clear jO);(try clear jP);(try clear lR);(try clear lS);(try clear lT);(try clear rR);(try clear rS);(try clear rT);(try clear rU);(try clear rV);(try clear lF)
         (try clear lG);(try clear lH);(try clear lI);(try clear lJ);(try clear qU);(try clear qV);(try clear uE);(try clear uF);(try clear uG);(try clear uM);(try clear uN);(try clear uO);(try clear uP);(try clear uQ);(try clear qY);(try clear qZ);(try clear uU);(try clear uV);(try clear uW);(try clear oS);(try clear oT)
         (try clear oU);(try clear oV);(try clear oW);(try clear jQ);(try clear jR);(try clear lU);(try clear lV);(try clear lW);(try clear iB);(try clear iC);(try clear nY);(try clear nZ);(try clear rY);(try clear p2);(try clear p4);(try clear p401);(try clear p406);(try clear p407);(try clear p6);(try clear q4);(try clear q401);(try clear q406);(try clear q407)
         obtain⟨wL,jK,jB,rfl,HA,HK3,fN,lP,dK,kG,bO,HB⟩:=hrel
         cases gk with
         |zero=>exact absurd HA.out (by simp [regletref14_Predict.l2])
         |succ k3=>
          have H:=HA.out;clear HA;simp only [regletref14_Predict.l2] at H
          by_cases c35:jB≤(aX.length:Int)
          ·rw [if_pos c35] at H
           have Jn:decide (jB≤(aX.length:Int))=true:=decide_eq_true c35;clear c35;have H':=aM H;clear H;have pG:wr.cell? ⟨cY,0,none⟩=some (.slice bR aU.length bS):=(aG bO.out 0).trans rfl;have pH:wr.cell? ⟨cY,1,none⟩=some (.slice bU aX.length bV):=(aG bO.out 1).trans rfl;have qD:wr.cell? ⟨cY,2,none⟩=some (.int .i64 bB):=(aG bO.out 2).trans rfl;have qE:wr.cell? ⟨cY,3,none⟩=some (.int .i64 bK):=(aG bO.out 3).trans rfl;have qF:wr.cell? ⟨cY,4,none⟩=some (.slice cC aQ.length bX):=(aG bO.out 4).trans rfl;have pI:=aH bO.out 0;have pJ:=aH bO.out 1;have qG:=aH bO.out 2;have qH:=aH bO.out 3;have qI:=aH bO.out 4;go_wp2
           go_loopg [10,14,15] k3 (fun kq v10 v14 v15 w'=>∃(kV:List (S78)) (iX:Int) (fA:Int),v14= .int .i64 iX∧v15= .int .i64 fA∧Aside0 (regletref14_Predict.l3 kq bY oK kV hF jK jB iX fA aU aX bB bK aQ=some (r1,r2))∧Aside0 (kq≤k3)∧Aside0 (Kd.S (Kd.slice 3 (Kd.int .i64)) 32 w' w.heap.size (fun k_=>some k_≠(u9:Value).ownBlock∧some k_≠(u12:Value).ownBlock) u4 bY)∧Aside0 (Kd.S (Kd.slice 3 (Kd.int .i64)) 32 w' w.heap.size (fun k_=>some k_≠(u4:Value).ownBlock∧some k_≠(u12:Value).ownBlock) u9 oK)∧Aside0 (Kd.R k78 78 w' w.heap.size (fun _=>True) v10 kV)∧Aside0 (Kd.R (Kd.int .i64) 3 w' w.heap.size (fun _=>True) u12 jK)∧Aside0 (w'.heap[cY]?=some (.cells #[(.slice bR aU.length bS),(.slice bU aX.length bV),.int .i64 bB,.int .i64 bK,(.slice cC aQ.length bX)] 26 (0,0)))∧Aside0 (Below w.heap.size w w'))
           case atStart=>exact⟨(wL),((-1)),(0),(by first|rfl|(simp;done)|(simp [*];done)),(by first|rfl|(simp;done)|(simp [*];done)),H',⟨Nat.le_refl _⟩,⟨gS fN.out⟩,⟨gS lP.out⟩,⟨gR dK.out⟩,⟨gR kG.out⟩,⟨gB bO.out⟩,⟨gW HB.out⟩⟩
           case round=>
            clear H'
            (try clear c1);(try clear c2);(try clear p2);(try clear c3);(try clear c4);(try clear p4);(try clear q4);(try clear hx4);(try clear p6);(try clear c10);(try clear mL);(try clear c11);(try clear pQ);(try clear c13);(try clear c14);(try clear vR);(try clear c15);(try clear sS);(try clear c16);(try clear c17);(try clear c20);(try clear c26);(try clear c30);(try clear c31);(try clear c32);(try clear c33)
            (try clear Gj);(try clear c35);(try clear Jn);(try clear rM);(try clear rN);(try clear rO);(try clear rP);(try clear rQ);(try clear lA);(try clear lB);(try clear lC);(try clear lD);(try clear lE);(try clear qS);(try clear qT);(try clear uB);(try clear uC);(try clear uD);(try clear uH);(try clear uI);(try clear uJ)
            (try clear uK);(try clear uL);(try clear qW);(try clear qX);(try clear uR);(try clear uS);(try clear uT);(try clear pG);(try clear pH);(try clear qD);(try clear qE);(try clear qF);(try clear oN);(try clear oO);(try clear oP);(try clear oQ);(try clear oR);(try clear jO);(try clear jP);(try clear lR);(try clear lS)
            (try clear lT);(try clear rR);(try clear rS);(try clear rT);(try clear rU);(try clear rV);(try clear lF);(try clear lG);(try clear lH);(try clear lI);(try clear lJ);(try clear qU);(try clear qV);(try clear uE);(try clear uF);(try clear uG);(try clear uM);(try clear uN);(try clear uO);(try clear uP);(try clear uQ)
            (try clear qY);(try clear qZ);(try clear uU);(try clear uV);(try clear uW);(try clear pI);(try clear pJ);(try clear qG);(try clear qH);(try clear qI);(try clear oS);(try clear oT);(try clear oU);(try clear oV);(try clear oW);(try clear jQ);(try clear jR);(try clear lU);(try clear lV);(try clear lW);(try clear iB)
            (try clear iC);(try clear nY);(try clear nZ);(try clear rY);(try clear p2);(try clear p4);(try clear p401);(try clear p406);(try clear p407);(try clear p6);(try clear q4);(try clear q401);(try clear q406);(try clear q407)
            obtain⟨kV,iX,fA,rfl,rfl,HA,HK4,fN,lP,dK,kG,bO,HB⟩:=hrel
            cases gk with
            |zero=>exact absurd HA.out (by simp [regletref14_Predict.l3])
            |succ k4=>
             have H:=HA.out;clear HA;simp only [regletref14_Predict.l3] at H
             by_cases c37:fA<(aQ.length:Int)
             ·rw [if_pos c37] at H
              have Qc:decide (fA<(aQ.length:Int))=true:=decide_eq_true c37;clear c37;have HC38:=aM H;clear H;have xW:wr.cell? ⟨cY,0,none⟩=some (.slice bR aU.length bS):=(aG bO.out 0).trans rfl;have xX:wr.cell? ⟨cY,1,none⟩=some (.slice bU aX.length bV):=(aG bO.out 1).trans rfl;have xY:wr.cell? ⟨cY,2,none⟩=some (.int .i64 bB):=(aG bO.out 2).trans rfl;have xZ:wr.cell? ⟨cY,3,none⟩=some (.int .i64 bK):=(aG bO.out 3).trans rfl;have yA:wr.cell? ⟨cY,4,none⟩=some (.slice cC aQ.length bX):=(aG bO.out 4).trans rfl;have yB:=aH bO.out 0;have yC:=aH bO.out 1;have yD:=aH bO.out 2;have yE:=aH bO.out 3;have yF:=aH bO.out 4
              go_upto_region 25 with(fail)
              go_cut [92] (fun v92 wc=>∃(kq:Nat) (yL:Bool),v92= .bool yL∧Aside0 (regletref14_Predict.j4 kq bY oK kV hF jK jB iX fA yL aU aX bB bK aQ=some (r1,r2))∧Aside0 (kq≤k4)∧Aside0 (Kd.S (Kd.slice 3 (Kd.int .i64)) 32 wc w.heap.size (fun k_=>some k_≠(u9:Value).ownBlock∧some k_≠(u12:Value).ownBlock) u4 bY)∧Aside0 (Kd.S (Kd.slice 3 (Kd.int .i64)) 32 wc w.heap.size (fun k_=>some k_≠(u4:Value).ownBlock∧some k_≠(u12:Value).ownBlock) u9 oK)∧Aside0 (Kd.R k78 78 wc w.heap.size (fun _=>True) u10 kV)∧Aside0 (Kd.R (Kd.int .i64) 3 wc w.heap.size (fun _=>True) u12 jK)∧Aside0 (wc.heap[cY]?=some (.cells #[(.slice bR aU.length bS),(.slice bU aX.length bV),.int .i64 bB,.int .i64 bK,(.slice cC aQ.length bX)] 26 (0,0)))∧Aside0 (Below w.heap.size w wc))
              case first=>
               have H:=HC38.out;clear HC38
               by_cases c40:0≤fA
               rotate_left
               ·rw [if_neg c40] at H
                exact absurd H (by simp)
               rw [if_pos c40] at H;have Jo:decide (0≤fA)=true:=decide_eq_true c40;clear c40
               (first|rw [Jo]|(simp only [i64_w,i32_w];rw [Jo])|skip)
               by_cases c41:((rd_T35 aQ fA).f0)=hF
               ·rw [if_pos c41] at H
                have Bi:(((rd_T35 aQ fA).f0)==hF)=true:=beq_iff_eq.mpr c41;have Qd:(((rd_T35 aQ fA).f0) !=hF)=false:=bne_eq_false_iff_eq.mpr c41;clear c41
                by_cases c42:fA<(bY.length:Int)
                rotate_left
                ·rw [if_neg c42] at H
                 exact absurd H (by simp)
                rw [if_pos c42] at H;have Qe:decide (fA<(bY.length:Int))=true:=decide_eq_true c42;clear c42;replace H:=Option.bind_eq_some_iff.mp H;obtain⟨t425,A430,H⟩:=H;replace H:(regletref14_Predict.j4 k4 bY oK kV hF jK jB iX fA (!t425) aU aX bB bK aQ)=some (r1,r2):=H;have A43:=aM A430;clear A430;have H':=aM H;clear H;have qJ:wr.cell? ⟨cY,0,none⟩=some (.slice bR aU.length bS):=(aG bO.out 0).trans rfl;have pK:wr.cell? ⟨cY,1,none⟩=some (.slice bU aX.length bV):=(aG bO.out 1).trans rfl;have Nu:wr.cell? ⟨cY,2,none⟩=some (.int .i64 bB):=(aG bO.out 2).trans rfl;have Nv:wr.cell? ⟨cY,3,none⟩=some (.int .i64 bK):=(aG bO.out 3).trans rfl;have Nw:wr.cell? ⟨cY,4,none⟩=some (.slice cC aQ.length bX):=(aG bO.out 4).trans rfl;have qK:=aH bO.out 0;have qL:=aH bO.out 1;have Nx:=aH bO.out 2;have Ny:=aH bO.out 3;have Nz:=aH bO.out 4;have p423:0≤(fA:Int):=of_decide_eq_true (by first|(with_reducible assumption)|assumption);have q423:fA<(aQ.length:Int):=of_decide_eq_true (by first|(with_reducible assumption)|assumption);obtain⟨Wg,Sn,So,e423,mO,mP,rZ,sA⟩:=at_T35 fP.out fA p423 q423
                cases e423;replace mO:=(HB.out.cell (World.block_lt_of_cell? w _ mO)).trans mO;replace mP:=(HB.out.cell (World.block_lt_of_cell? w _ mP)).trans mP;have Oa:=aM sA;have Ob:=aM rZ;clear sA rZ;replace p423:=eq_true p423;replace q423:=eq_true q423;obtain⟨GA,GB,Sp⟩:=Kd.S_slice fN.out;subst Sp;have p424:0≤(fA:Int):=of_decide_eq_true (by first|(with_reducible assumption)|assumption);have q424:fA<(bY.length:Int):=of_decide_eq_true (by first|(with_reducible assumption)|assumption);obtain⟨JE,GC,GD,e424,Gk,Gl,Gm⟩:=at_L5 (Kd.S_reads' fN.out).2.2 fA p424 q424
                cases e424;obtain⟨ce424,hce424,hMe424,hcc424⟩:=Kd.S_get fN.out [] fA p424 (by first|exact q424|exact of_decide_eq_true (by first|(with_reducible assumption)|assumption)|(have e_:=(Kd.S_reads' fN.out).1;omega));obtain⟨ve424_0,rfl,ge424_0⟩:=hMe424;have hv424_0:=hcc424 0 _ rfl;rw [Nat.add_zero,show((Kd.slice 3 (Kd.int .i64))).sz=1 from rfl,Nat.mul_one] at hv424_0;replace hv424_0:=Option.some.inj (hv424_0.symm.trans Gk);rw [hv424_0] at ge424_0;have HL424_0:=aM (show Kd.R (Kd.int .i64) 3 _ _ _ _ (rd_L5 bY fA) from ge424_0);clear hv424_0 ge424_0 hcc424 hce424;have Gn:=aM Gm;have Oc:=aM Gl;clear Gm Gl;replace p424:=eq_true p424;replace q424:=eq_true q424
                go_wp2_with (first|(go_at_call 33;(with_reducible refine(regletref14_has.calls k4 _ _ (rd_L5 bY fA) jB t425 _ ?side1 ?side2 A43.out).mono ?_);(case side1=>exact gC (by repeat(first|(with_reducible exact Gn.out)|(with_reducible refine Kd.C_alloc ?_ _)|(with_reducible refine Kd.C_drewN ?_ _)|(with_reducible refine bC ?_)|exact Gn.out)));(case side2=>exact Oc.out);rintro e w' ⟨rfl,⟨nd,rfl⟩⟩))
                go_meet
                case rel=>exact⟨_,(!t425),(by first|rfl|(simp;done)|(simp [*];done)),H',⟨by have:=HK1.out;have:=HK2.out;have:=HK3.out;have:=HK4.out;first|omega|exact Nat.le_refl _⟩,⟨gS fN.out⟩,⟨gS lP.out⟩,⟨gR dK.out⟩,⟨gR kG.out⟩,⟨gB bO.out⟩,⟨gW HB.out⟩⟩
               ·rw [if_neg c41] at H
                have Bi:(((rd_T35 aQ fA).f0)==hF)=false:=beq_eq_false_iff_ne.mpr c41;have Qd:(((rd_T35 aQ fA).f0) !=hF)=true:=bne_iff_ne.mpr c41;have H':=aM H;clear H;have Od:wr.cell? ⟨cY,0,none⟩=some (.slice bR aU.length bS):=(aG bO.out 0).trans rfl;have Oe:wr.cell? ⟨cY,1,none⟩=some (.slice bU aX.length bV):=(aG bO.out 1).trans rfl;have Of:wr.cell? ⟨cY,2,none⟩=some (.int .i64 bB):=(aG bO.out 2).trans rfl;have Og:wr.cell? ⟨cY,3,none⟩=some (.int .i64 bK):=(aG bO.out 3).trans rfl;have Oh:wr.cell? ⟨cY,4,none⟩=some (.slice cC aQ.length bX):=(aG bO.out 4).trans rfl;have Oi:=aH bO.out 0;have Oj:=aH bO.out 1;have Ok:=aH bO.out 2;have Ol:=aH bO.out 3;have Om:=aH bO.out 4;have p423:0≤(fA:Int):=of_decide_eq_true (by first|(with_reducible assumption)|assumption);have q423:fA<(aQ.length:Int):=of_decide_eq_true (by first|(with_reducible assumption)|assumption);obtain⟨Wg,Sn,So,e423,mO,mP,rZ,sA⟩:=at_T35 fP.out fA p423 q423
                cases e423;replace mO:=(HB.out.cell (World.block_lt_of_cell? w _ mO)).trans mO;replace mP:=(HB.out.cell (World.block_lt_of_cell? w _ mP)).trans mP;have Oa:=aM sA;have Ob:=aM rZ;clear sA rZ;replace p423:=eq_true p423;replace q423:=eq_true q423;go_wp2
                go_meet
                case rel=>exact⟨_,(true),(by first|rfl|(simp;done)|(simp [*];done)),H',⟨by have:=HK1.out;have:=HK2.out;have:=HK3.out;have:=HK4.out;first|omega|exact Nat.le_refl _⟩,⟨gS fN.out⟩,⟨gS lP.out⟩,⟨gR dK.out⟩,⟨gR kG.out⟩,⟨gB bO.out⟩,⟨gW HB.out⟩⟩
              case rest=>
               clear HC38
               (try clear c1);(try clear c2);(try clear p2);(try clear c3);(try clear c4);(try clear p4);(try clear q4);(try clear hx4);(try clear p6);(try clear c10);(try clear mL);(try clear c11);(try clear pQ);(try clear c13);(try clear c14);(try clear vR);(try clear c15);(try clear sS);(try clear c16);(try clear c17);(try clear c20);(try clear c26);(try clear c30);(try clear c31);(try clear c32);(try clear c33)
               (try clear Gj);(try clear c35);(try clear Jn);(try clear c37);(try clear Qc);(try clear c40);(try clear Jo);(try clear p40);(try clear q40);(try clear hx40);(try clear c41);(try clear Bi);(try clear Qd);(try clear c42);(try clear Qe);(try clear p42);(try clear q42);(try clear hx42);(try clear rM);(try clear rN);(try clear rO);(try clear rP);(try clear rQ)
               (try clear lA);(try clear lB);(try clear lC);(try clear lD);(try clear lE);(try clear qS);(try clear qT);(try clear uB);(try clear uC);(try clear uD);(try clear uH);(try clear uI);(try clear uJ);(try clear uK);(try clear uL);(try clear qW);(try clear qX);(try clear uR);(try clear uS);(try clear uT);(try clear pG)
               (try clear pH);(try clear qD);(try clear qE);(try clear qF);(try clear xW);(try clear xX);(try clear xY);(try clear xZ);(try clear yA);(try clear qJ);(try clear pK);(try clear Nu);(try clear Nv);(try clear Nw);(try clear Od);(try clear Oe);(try clear Of);(try clear Og);(try clear Oh);(try clear oN);(try clear oO)
               (try clear oP);(try clear oQ);(try clear oR);(try clear jO);(try clear jP);(try clear lR);(try clear lS);(try clear lT);(try clear rR);(try clear rS);(try clear rT);(try clear rU);(try clear rV);(try clear lF);(try clear lG);(try clear lH);(try clear lI);(try clear lJ);(try clear qU);(try clear qV);(try clear uE)
               (try clear uF);(try clear uG);(try clear uM);(try clear uN);(try clear uO);(try clear uP);(try clear uQ);(try clear qY);(try clear qZ);(try clear uU);(try clear uV);(try clear uW);(try clear pI);(try clear pJ);(try clear qG);(try clear qH);(try clear qI);(try clear yB);(try clear yC);(try clear yD);(try clear yE)
               (try clear yF);(try clear qK);(try clear qL);(try clear Nx);(try clear Ny);(try clear Nz);(try clear Oi);(try clear Oj);(try clear Ok);(try clear Ol);(try clear Om);(try clear oS);(try clear oT);(try clear oU);(try clear oV);(try clear oW);(try clear jQ);(try clear jR);(try clear lU);(try clear lV);(try clear lW)
               (try clear iB);(try clear iC);(try clear nY);(try clear nZ);(try clear rY);(try clear mO);(try clear mP);(try clear Gk);(try clear p2);(try clear p4);(try clear p401);(try clear p406);(try clear p407);(try clear p423);(try clear p424);(try clear p6);(try clear q4);(try clear q401);(try clear q406);(try clear q407);(try clear q423);(try clear q424)
               obtain⟨kq,yL,rfl,HA,HJ37,fN,lP,dK,kG,bO,HB⟩:=hcut
               cases kq with
               |zero=>exact absurd HA.out (by simp [regletref14_Predict.j4])
               |succ Dg=>
                have H:=HA.out;clear HA;simp only [regletref14_Predict.j4] at H
                by_cases c47:yL=true
                ·subst c47
                 have H1:(regletref14_Predict.l3 Dg bY oK kV hF jK jB iX (wrap64 (fA+1)) aU aX bB bK aQ)=some (r1,r2):=by rw [if_pos rfl] at H;exact H
                 clear H;have H:=H1;clear H1;have H':=aM H;clear H;go_wp2
                 go_roundg Dg
                 case measure=>have:=HK1.out;have:=HK2.out;have:=HK3.out;have:=HK4.out;have:=HJ37.out;omega
                 case rel=>exact⟨(kV),(iX),(wrap64 (fA+1)),(by first|rfl|(simp;done)|(simp [*];done)),(by first|rfl|(simp;done)|(simp [*];done)),H',⟨by have:=HK1.out;have:=HK2.out;have:=HK3.out;have:=HK4.out;have:=HJ37.out;omega⟩,⟨gS fN.out⟩,⟨gS lP.out⟩,⟨gR dK.out⟩,⟨gR kG.out⟩,⟨gB bO.out⟩,⟨gW HB.out⟩⟩
                ·replace c47:=Bool.eq_false_iff.mpr c47
                 subst c47;have H1:(if iX<0 then(regletref14_Predict.l3 Dg bY oK kV hF jK jB fA (wrap64 (fA+1)) aU aX bB bK aQ) else(if kV.length<4398046511104 then(regletref14_Predict.l3 Dg bY oK (kV++ [(⟨hF,jB,iX,fA⟩:S78)]) hF jK jB iX (wrap64 (fA+1)) aU aX bB bK aQ) else(none)))=some (r1,r2):=by rw [if_neg (show ¬(false=true) by decide)] at H;exact H
                 clear H;have H:=H1;clear H1
                 by_cases c48:iX<0
                 ·rw [if_pos c48] at H
                  have Qf:decide (iX<0)=true:=decide_eq_true c48;clear c48;have H':=aM H;clear H;go_wp2
                  go_roundg Dg
                  case measure=>have:=HK1.out;have:=HK2.out;have:=HK3.out;have:=HK4.out;have:=HJ37.out;omega
                  case rel=>exact⟨(kV),(fA),(wrap64 (fA+1)),(by first|rfl|(simp;done)|(simp [*];done)),(by first|rfl|(simp;done)|(simp [*];done)),H',⟨by have:=HK1.out;have:=HK2.out;have:=HK3.out;have:=HK4.out;have:=HJ37.out;omega⟩,⟨gS fN.out⟩,⟨gS lP.out⟩,⟨gR dK.out⟩,⟨gR kG.out⟩,⟨gB bO.out⟩,⟨gW HB.out⟩⟩
                 ·rw [if_neg c48] at H
                  have Qf:decide (iX<0)=false:=decide_eq_false c48;clear c48
                  by_cases c49:kV.length<4398046511104
                  rotate_left
                  ·rw [if_neg c49] at H
                   exact absurd H (by simp)
                  rw [if_pos c49] at H;have Wh:=aM c49;clear c49;obtain⟨y426,Bj⟩:∃y_:List (S78),y_=(kV++ [(⟨hF,jB,iX,fA⟩:S78)]):=⟨_,rfl⟩;replace H:(regletref14_Predict.l3 Dg bY oK y426 hF jK jB iX (wrap64 (fA+1)) aU aX bB bK aQ)=some (r1,r2):=by first|(rw [Bj];with_reducible exact H)|(have H2_:=(Option.bind_some _ _).symm.trans H;rw [Bj];with_reducible exact H2_)|(have H2_:=(Option.bind_some _ _).symm.trans H;with_reducible exact H2_)|with_reducible exact H|(rw [Bj];exact H)|exact H
                  have Wi:=aM Bj;clear Bj;have H':=aM H;clear H
                  go_wp2_with (first|((with_reducible refine gate_builtin (b:= .append) (xs:=#[.tmp 96,.tmp 102]) rfl ?_);at_builtin;refine Kd.R_append k78 (w0:=w) w.heap.size rfl (.tmp 96) (.tmp 102) 48 78 (.agg #[(.int .i64 0),(.int .i64 0),(.int .i64 0),(.int .i64 0)]) 32 rfl Try.underlying48 info78 rfl (by decide) (by omega) u10 kV (⟨hF,jB,iX,fA⟩:S78) [.int .i64 hF,.int .i64 jB,.int .i64 iX,.int .i64 fA] (fun _=>True) (fun _=>False) rfl rfl ?aP (fun _ hk=>hk.elim) ?aF ?aO ?aB ?aS ?aL ?_;(case aP=>exact k78_mkM _ _ _ (⟨hF,jB,iX,fA⟩:S78));(case aB=>exact(gW HB.out));(case aF=>exact(fun _ _=>trivial));(case aO=>exact(gR dK.out));(case aS=>exact(bH (gW HB.out)));(case aL=>have:=Wh.out;omega);intro v427 w50 ho hb hg hat;rw [←Wi.out] at ho;have cH:=aM (Kd.S_over' (gS fN.out) (Kd.R_typed (gR dK.out)) (by decide) hg);have cI:=aM (Kd.S_over' (gS lP.out) (Kd.R_typed (gR dK.out)) (by decide) hg);have cK:=aM (Kd.R_over' (gR kG.out) (Kd.R_typed (gR dK.out)) (by decide) hg);have cQ:=aM (blk_grown (gB bO.out) hg (Kd.R_ne dK.out bO.out (by decide)));have dI:=aM (hb);have dR:=aM (ho);clear fN;clear lP;clear kG;clear bO;clear HB;clear dK;have fN:=cH;have lP:=cI;have kG:=cK;have bO:=cQ;have HB:=dI;have Wj:=dR;clear cH cI cK cQ dI dR;clear ho hb hg hat))
                  go_roundg Dg
                  case measure=>have:=HK1.out;have:=HK2.out;have:=HK3.out;have:=HK4.out;have:=HJ37.out;omega
                  case rel=>exact⟨(y426),(iX),(wrap64 (fA+1)),(by first|rfl|(simp;done)|(simp [*];done)),(by first|rfl|(simp;done)|(simp [*];done)),H',⟨by have:=HK1.out;have:=HK2.out;have:=HK3.out;have:=HK4.out;have:=HJ37.out;omega⟩,⟨gS fN.out⟩,⟨gS lP.out⟩,⟨gR Wj.out⟩,⟨gR kG.out⟩,⟨gB bO.out⟩,⟨gW HB.out⟩⟩
             ·rw [if_neg c37] at H
              have Qc:decide (fA<(aQ.length:Int))=false:=decide_eq_false c37;clear c37
              by_cases c51:jK.length<17592186044416
              rotate_left
              ·rw [if_neg c51] at H
               exact absurd H (by simp)
              rw [if_pos c51] at H;have Wk:=aM c51;clear c51;obtain⟨y420,Bk⟩:∃y_:List Int,y_=(jK++ [iX]):=⟨_,rfl⟩;replace H:(regletref14_Predict.l2 k4 bY oK kV hF y420 (wrap64 (jB+1)) aU aX bB bK aQ)=some (r1,r2):=by first|(rw [Bk];with_reducible exact H)|(have H2_:=(Option.bind_some _ _).symm.trans H;rw [Bk];with_reducible exact H2_)|(have H2_:=(Option.bind_some _ _).symm.trans H;with_reducible exact H2_)|with_reducible exact H|(rw [Bk];exact H)|exact H
              have Wl:=aM Bk;clear Bk;have H':=aM H;clear H;have Ng:wr.cell? ⟨cY,0,none⟩=some (.slice bR aU.length bS):=(aG bO.out 0).trans rfl;have Nh:wr.cell? ⟨cY,1,none⟩=some (.slice bU aX.length bV):=(aG bO.out 1).trans rfl;have Nk:wr.cell? ⟨cY,2,none⟩=some (.int .i64 bB):=(aG bO.out 2).trans rfl;have Nl:wr.cell? ⟨cY,3,none⟩=some (.int .i64 bK):=(aG bO.out 3).trans rfl;have Nm:wr.cell? ⟨cY,4,none⟩=some (.slice cC aQ.length bX):=(aG bO.out 4).trans rfl;have Nn:=aH bO.out 0;have No:=aH bO.out 1;have Np:=aH bO.out 2;have Nq:=aH bO.out 3;have Nr:=aH bO.out 4
              go_wp2_with (first|((with_reducible refine gate_builtin (b:= .append) (xs:=#[.tmp 104,.tmp 106]) rfl ?_);at_builtin;refine Kd.R_append (Kd.int .i64) (w0:=w) w.heap.size rfl (.tmp 104) (.tmp 106) 32 3 (.int .i64 0) 8 rfl Try.underlying32 info3 rfl (by decide) (by omega) u12 jK iX [.int .i64 iX] (fun _=>True) (fun _=>False) rfl rfl ?aP (fun _ hk=>hk.elim) ?aF ?aO ?aB ?aS ?aL ?_;(case aP=>exact rfl);(case aB=>exact(gW HB.out));(case aF=>exact(fun _ _=>trivial));(case aO=>exact(gR kG.out));(case aS=>exact(bH (gW HB.out)));(case aL=>have:=Wk.out;omega);intro v421 w53 ho hb hg hat;rw [←Wl.out] at ho;have cH:=aM (Kd.S_after (ok:=(fun k_=>some k_≠(u9:Value).ownBlock)) (gS fN.out) hg hat);have cI:=aM (Kd.S_after (ok:=(fun k_=>some k_≠(u4:Value).ownBlock)) (gS lP.out) hg hat);have cK:=aM (Kd.R_over' (gR dK.out) (Kd.R_typed (gR kG.out)) (by decide) hg);have cQ:=aM (blk_grown (gB bO.out) hg (Kd.R_ne kG.out bO.out (by decide)));have dI:=aM (hb);have dR:=aM (ho);clear fN;clear lP;clear dK;clear bO;clear HB;clear kG;have fN:=cH;have lP:=cI;have dK:=cK;have bO:=cQ;have HB:=dI;have Wm:=dR;clear cH cI cK cQ dI dR;clear ho hb hg hat))
              go_roundg k4
              case measure=>have:=HK1.out;have:=HK2.out;have:=HK3.out;have:=HK4.out;omega
              case rel=>exact⟨(kV),(y420),(wrap64 (jB+1)),(by first|rfl|(simp;done)|(simp [*];done)),H',⟨by have:=HK1.out;have:=HK2.out;have:=HK3.out;have:=HK4.out;omega⟩,⟨gS fN.out⟩,⟨gS lP.out⟩,⟨gR dK.out⟩,⟨gR Wm.out⟩,⟨gB bO.out⟩,⟨gW HB.out⟩⟩
          ·rw [if_neg c35] at H
           have Jn:decide (jB≤(aX.length:Int))=false:=decide_eq_false c35;clear c35
           by_cases c54:oK.length<5864062014805
           rotate_left
           ·rw [if_neg c54] at H
            exact absurd H (by simp)
           rw [if_pos c54] at H;have Wn:=aM c54;clear c54;obtain⟨y417,Bl⟩:∃y_:List (List Int),y_=(oK++ [jK]):=⟨_,rfl⟩;replace H:(regletref14_Predict.l1 k3 bY y417 wL (wrap64 (hF+1)) aU aX bB bK aQ)=some (r1,r2):=by first|(rw [Bl];with_reducible exact H)|(have H2_:=(Option.bind_some _ _).symm.trans H;rw [Bl];with_reducible exact H2_)|(have H2_:=(Option.bind_some _ _).symm.trans H;with_reducible exact H2_)|with_reducible exact H|(rw [Bl];exact H)|exact H
           have Wo:=aM Bl;clear Bl;have H':=aM H;clear H;have tD:wr.cell? ⟨cY,0,none⟩=some (.slice bR aU.length bS):=(aG bO.out 0).trans rfl;have tE:wr.cell? ⟨cY,1,none⟩=some (.slice bU aX.length bV):=(aG bO.out 1).trans rfl;have tF:wr.cell? ⟨cY,2,none⟩=some (.int .i64 bB):=(aG bO.out 2).trans rfl;have tG:wr.cell? ⟨cY,3,none⟩=some (.int .i64 bK):=(aG bO.out 3).trans rfl;have tH:wr.cell? ⟨cY,4,none⟩=some (.slice cC aQ.length bX):=(aG bO.out 4).trans rfl;have tI:=aH bO.out 0;have tJ:=aH bO.out 1;have tK:=aH bO.out 2;have tL:=aH bO.out 3;have tM:=aH bO.out 4;obtain⟨Sq,Sr,GE⟩:=Kd.R_slice kG.out;subst GE
           go_wp2_with (first|((with_reducible refine gate_builtin (b:= .append) (xs:=#[.tmp 108,.tmp 110]) rfl ?_);at_builtin;refine Kd.S_append (Kd.slice 3 (Kd.int .i64)) (w0:=w) w.heap.size rfl (.tmp 108) (.tmp 110) 28 32 (.slice none 0 0) 24 rfl Try.underlying28 info32 rfl (by decide) (by omega) u9 oK jK [.slice Sq jK.length Sr] (fun k_=>some k_≠(u4:Value).ownBlock) (fun k_=>some k_=(.slice Sq jK.length Sr:Value).ownBlock) rfl rfl ?aP (fun k_ hk_=>((Kd.R_mono (ok':=fun k_=>((fun k_=>some k_≠(u4:Value).ownBlock)) k_∧some k_≠(u9:Value).ownBlock) (Kd.R_apart' (Kd.R_apart' (kG.out) (Kd.S_typed fN.out) (by decide)) (Kd.S_typed lP.out) (by decide)) (fun k_ hk=>⟨hk.1.2,hk.2⟩))).1 k_ hk_.symm) ?aF ?aO ?aB ?aS ?aL ?_;(case aP=>exact Kd.M_row (Kd.R_mono (Kd.R_tight rfl (Kd.R_mono (ok':=fun k_=>((fun k_=>some k_≠(u4:Value).ownBlock)) k_∧some k_≠(u9:Value).ownBlock) (Kd.R_apart' (Kd.R_apart' (kG.out) (Kd.S_typed fN.out) (by decide)) (Kd.S_typed lP.out) (by decide)) (fun k_ hk=>⟨hk.1.2,hk.2⟩))) (fun _ h_=>h_)));(case aB=>exact(gW HB.out));(case aF=>exact(fun k_ hk=>Kd.fresh' (Kd.S_lt (gS fN.out)) k_ hk));(case aO=>exact(by(with_reducible repeat(first|apply Kd.S_alloc|apply aV|apply aW));exact Kd.S_mono lP.out (fun k_ hk=>⟨hk.1,fun e_=>hk.2 e_⟩)));(case aS=>exact(bH (gW HB.out)));(case aL=>have:=Wn.out;omega);intro v418 w56 ho hb hg hat;rw [←Wo.out] at ho;have cH:=aM (Kd.S_after (ok:=(fun k_=>some k_≠(.slice Sq jK.length Sr:Value).ownBlock)) (by(with_reducible repeat(first|apply Kd.S_alloc|apply aV|apply aW));exact Kd.S_mono fN.out (fun _ hk=>⟨hk.2,hk.1⟩)) hg hat);have cI:=aM (Kd.R_over' (gR dK.out) (Kd.S_typed (gS lP.out)) (by decide) hg);have cK:=aM (blk_grown (gB bO.out) hg (Kd.S_ne lP.out bO.out (by decide)));have cQ:=aM (hb);have dI:=aM (ho);clear fN;clear dK;clear bO;clear HB;clear lP;clear kG;have fN:=cH;have dK:=cI;have bO:=cK;have HB:=cQ;have Wp:=dI;clear cH cI cK cQ dI;clear ho hb hg hat))
           go_roundg k3
           case measure=>have:=HK1.out;have:=HK2.out;have:=HK3.out;omega
           case rel=>exact⟨(y417),(wL),(wrap64 (hF+1)),(by first|rfl|(simp;done)|(simp [*];done)),H',⟨by have:=HK1.out;have:=HK2.out;have:=HK3.out;omega⟩,⟨by(with_reducible repeat(first|apply Kd.S_alloc|apply aV|apply aW));exact Kd.S_mono fN.out (fun _ hk=>hk.2)⟩,⟨gS Wp.out⟩,⟨gR dK.out⟩,⟨gB bO.out⟩,⟨gW HB.out⟩⟩
       ·rw [if_neg c33] at H
        have Gj:decide (hF<(aU.length:Int))=false:=decide_eq_false c33;clear c33;simp only [Option.some.injEq,Prod.mk.injEq] at H;obtain⟨rfl,rfl⟩:=H;have On:wr.cell? ⟨cY,0,none⟩=some (.slice bR aU.length bS):=(aG bO.out 0).trans rfl;have Oo:wr.cell? ⟨cY,1,none⟩=some (.slice bU aX.length bV):=(aG bO.out 1).trans rfl;have CS:wr.cell? ⟨cY,2,none⟩=some (.int .i64 bB):=(aG bO.out 2).trans rfl;have CT:wr.cell? ⟨cY,3,none⟩=some (.int .i64 bK):=(aG bO.out 3).trans rfl;have CU:wr.cell? ⟨cY,4,none⟩=some (.slice cC aQ.length bX):=(aG bO.out 4).trans rfl;have Oq:=aH bO.out 0;have Ot:=aH bO.out 1;have CV:=aH bO.out 2;have CW:=aH bO.out 3;have CX:=aH bO.out 4;go_wp2
        go_ret2
        exact⟨_,_,by first|rfl|(simp [errW_none,errW_some]<;>rfl)|(simp [*,errW_none,errW_some]<;>rfl),by(with_reducible repeat(first|apply Kd.S_alloc|apply aV|apply aW));exact Kd.S_mono lP.out (fun _ hk=>trivial),gR dK.out,gW HB.out⟩
 ·replace c3:=Bool.eq_false_iff.mpr c3
  subst c3;have H1:(some (([]:List (List Int)),([]:List (S78))))=some (r1,r2):=by rw [if_neg (show ¬(false=true) by decide)] at H;exact H
  clear H;have H:=H1;clear H1;simp only [Option.some.injEq,Prod.mk.injEq] at H;obtain⟨rfl,rfl⟩:=H;go_enter Try.func20,Try.ntmps20
  go_wp2_with (first|((with_reducible refine bJ (N:=1) rfl ?_);refine box_event ?hg (N:=1) ?hd (cs:=#[.slice bR aU.length bS,.slice bU aX.length bV,.int .i64 bB,.int .i64 bK,.slice cC aQ.length bX]) (t:=26) ?hr ?_;(case hd=>rfl);(case hg=>rfl);(case hr=>first|(go_simp;done)|(go_simp;rfl));intro cY hg w59 hbox hb;have cH:=aM (bG (gW HB.out) hb);have cI:=aM (hbox);have cK:=aM ((by rw [hg];exact(bH (gW HB.out)):w.heap.size≤cY));have cQ:=aM ((by rw [hg];exact(bH (gW HB.out)):w.heap.size≤cY));clear HB;have HB:=cH;have bO:=cI;have GW396:=cK;have Vu:=cQ;clear cH cI cK cQ;clear hb hbox hg;have wW:w59.cell? ⟨cY,0,none⟩=some (.slice bR aU.length bS):=(aG bO.out 0).trans rfl;have wX:w59.cell? ⟨cY,1,none⟩=some (.slice bU aX.length bV):=(aG bO.out 1).trans rfl;have wY:w59.cell? ⟨cY,2,none⟩=some (.int .i64 bB):=(aG bO.out 2).trans rfl;have wZ:w59.cell? ⟨cY,3,none⟩=some (.int .i64 bK):=(aG bO.out 3).trans rfl;have xA:w59.cell? ⟨cY,4,none⟩=some (.slice cC aQ.length bX):=(aG bO.out 4).trans rfl;have xB:=aH bO.out 0;have xC:=aH bO.out 1;have xD:=aH bO.out 2;have xE:=aH bO.out 3;have xF:=aH bO.out 4)|((with_reducible refine bI (f:=30) rfl ?_);refine goesL_ (some 17) rfl rfl Try.func30 (by kernel_rfl) rfl #[.agg #[.slice bR aU.length bS,.slice bU aX.length bV,.int .i64 bB,.int .i64 bK,.slice cC aQ.length bX]] rfl (by(try simp only [List.map_toArray,List.map_cons,List.map_nil]);first|done|rfl|(simp only [List.length_drop,List.length_take];rfl)) ?_;(with_reducible refine(regletref13_Right.calls k _ _ aU _ _ aX bB bK _ _ aQ false _ ?side1 ?side2 ?side3 ?side4 ?side5 ?side6 A2.out).mono ?_);(case side1=>exact gC (bD jA.out HB.out));(case side2=>exact jV.out);(case side3=>exact gC (bD kL.out HB.out));(case side4=>exact kM.out);(case side5=>exact gC (bD fP.out HB.out));(case side6=>exact kN.out);rintro e w61 ⟨rfl,hb⟩;refine⟨_,rfl,?_⟩;have cH:=aM (bF (gB bO.out) hb);have cI:=aM (bG (gW HB.out) hb);clear bO;clear HB;have bO:=cH;have HB:=cI;clear cH cI;(try clear hb);(try clear hb2);(try clear hk);(try clear hi)))
  go_ret2
  exact⟨_,_,by first|rfl|(simp [errW_none,errW_some]<;>rfl)|(simp [*,errW_none,errW_some]<;>rfl),by first|exact Kd.S_nil _ _ _ _ _|exact Kd.N_nil _ _ _ _ _|exact Kd.V_nil _ _ _ _ _|exact Kd.Q_nil _ _ _ _ _|exact Kd.R_nil _ _ _ _ _,by first|exact Kd.R_nil _ _ _ _ _|exact Kd.N_nil _ _ _ _ _|exact Kd.V_nil _ _ _ _ _|exact Kd.Q_nil _ _ _ _ _|exact Kd.S_nil _ _ _ _ _,gW HB.out⟩
attribute [local go_sem] max2_int min2_int max_two min_two max_three min_three max_four min_four   -- for this text's walks alone
set_option linter.unusedVariables false
set_option linter.unusedSimpArgs false
def regletlaw16_table.f (k:Nat) (aU:List ByteArray) (aX:List (S72)) (bB:Int) (bK:Int) (aQ:List (S35)) (a1:Int) (a2:Int):Option ((List (List Int))):=(regletref14_Predict.f k aU aX bB bK aQ).bind fun fB=>(if a1<200 then(if(fB.1.length:Int)>0 then(if(fB.1.length:Int)=0 then(none) else(if 0≤(Int.tmod (wrap64 (a1)) (fB.1.length:Int)) then(if(Int.tmod (wrap64 (a1)) (fB.1.length:Int))<(fB.1.length:Int) then(if((rd_L5 fB.1 (Int.tmod (wrap64 (a1)) (fB.1.length:Int))).length:Int)=0 then(none) else(if(wrap64 ((aQ.length:Int)+2))=0 then(none) else(if 0≤(Int.tmod (wrap64 (Int.tdiv (wrap64 (a1)) 8)) ((rd_L5 fB.1 (Int.tmod (wrap64 (a1)) (fB.1.length:Int))).length:Int)) then(if(Int.tmod (wrap64 (Int.tdiv (wrap64 (a1)) 8)) ((rd_L5 fB.1 (Int.tmod (wrap64 (a1)) (fB.1.length:Int))).length:Int))<((rd_L5 fB.1 (Int.tmod (wrap64 (a1)) (fB.1.length:Int))).length:Int) then(some (fB.1.set ((Int.tmod (wrap64 (a1)) (fB.1.length:Int)):Int).toNat ((rd_L5 fB.1 (Int.tmod (wrap64 (a1)) (fB.1.length:Int))).set ((Int.tmod (wrap64 (Int.tdiv (wrap64 (a1)) 8)) ((rd_L5 fB.1 (Int.tmod (wrap64 (a1)) (fB.1.length:Int))).length:Int)):Int).toNat (wrap64 ((Int.tmod (wrap64 (a2)) (wrap64 ((aQ.length:Int)+2))) - 1))))) else(none)) else(none)))) else(none)) else(none))) else(some fB.1)) else(some fB.1))
set_option maxHeartbeats 8000000 in
set_option maxRecDepth 100000 in
theorem regletlaw16_table.calls (k:Nat) (bR:Option Addr) (bS:Nat) (aU:List ByteArray) (bU:Option Addr) (bV:Nat) (aX:List (S72)) (bB:Int) (bK:Int) (cC:Option Addr) (bX:Nat) (aQ:List (S35)) (a1:Int) (a2:Int) (r:List (List Int)) (w:World) (dX:Kd.C Kd.string w bR aU.length aU) (dZ:aU.length≤bS) (eB:Kd.C k72 w bU aX.length aX) (eH:aX.length≤bV) (dY:Kd.C k35 w cC aQ.length aQ) (eJ:aQ.length≤bX) (h:regletlaw16_table.f k aU aX bB bK aQ a1 a2=some r):
 Calls Try.prog 14 #[.agg #[.slice bR aU.length bS,.slice bU aX.length bV,.int .i64 bB,.int .i64 bK,.slice cC aQ.length bX],.int .u8 a1,.int .u8 a2] w fun e w'=>∃v0_:Value,e= .returned (v0_)∧Kd.S (Kd.slice 3 (Kd.int .i64)) 32 w' w.heap.size (fun _=>True) v0_ r∧Below w.heap.size w w':=by
 have hu26:=Try.underlying26;have jA:=aM dX;have jV:=aM dZ;clear dX dZ;have kL:=aM eB;have kM:=aM eH;clear eB eH;have fP:=aM dY;have kN:=aM eJ;clear dY eJ;have HB:=aM (Below.refl w.heap.size w);have H:((regletref14_Predict.f k aU aX bB bK aQ).bind fun fB=>(if a1<200 then(if(fB.1.length:Int)>0 then(if(fB.1.length:Int)=0 then(none) else(if 0≤(Int.tmod (wrap64 (a1)) (fB.1.length:Int)) then(if(Int.tmod (wrap64 (a1)) (fB.1.length:Int))<(fB.1.length:Int) then(if((rd_L5 fB.1 (Int.tmod (wrap64 (a1)) (fB.1.length:Int))).length:Int)=0 then(none) else(if(wrap64 ((aQ.length:Int)+2))=0 then(none) else(if 0≤(Int.tmod (wrap64 (Int.tdiv (wrap64 (a1)) 8)) ((rd_L5 fB.1 (Int.tmod (wrap64 (a1)) (fB.1.length:Int))).length:Int)) then(if(Int.tmod (wrap64 (Int.tdiv (wrap64 (a1)) 8)) ((rd_L5 fB.1 (Int.tmod (wrap64 (a1)) (fB.1.length:Int))).length:Int))<((rd_L5 fB.1 (Int.tmod (wrap64 (a1)) (fB.1.length:Int))).length:Int) then(some (fB.1.set ((Int.tmod (wrap64 (a1)) (fB.1.length:Int)):Int).toNat ((rd_L5 fB.1 (Int.tmod (wrap64 (a1)) (fB.1.length:Int))).set ((Int.tmod (wrap64 (Int.tdiv (wrap64 (a1)) 8)) ((rd_L5 fB.1 (Int.tmod (wrap64 (a1)) (fB.1.length:Int))).length:Int)):Int).toNat (wrap64 ((Int.tmod (wrap64 (a2)) (wrap64 ((aQ.length:Int)+2))) - 1))))) else(none)) else(none)))) else(none)) else(none))) else(some fB.1)) else(some fB.1)))=some r:=h;clear h;replace H:=Option.bind_eq_some_iff.mp H;obtain⟨⟨t430,t433⟩,A40,H⟩:=H;replace H:(if a1<200 then(if(t430.length:Int)>0 then(if(t430.length:Int)=0 then(none) else(if 0≤(Int.tmod (wrap64 (a1)) (t430.length:Int)) then(if(Int.tmod (wrap64 (a1)) (t430.length:Int))<(t430.length:Int) then(if((rd_L5 t430 (Int.tmod (wrap64 (a1)) (t430.length:Int))).length:Int)=0 then(none) else(if(wrap64 ((aQ.length:Int)+2))=0 then(none) else(if 0≤(Int.tmod (wrap64 (Int.tdiv (wrap64 (a1)) 8)) ((rd_L5 t430 (Int.tmod (wrap64 (a1)) (t430.length:Int))).length:Int)) then(if(Int.tmod (wrap64 (Int.tdiv (wrap64 (a1)) 8)) ((rd_L5 t430 (Int.tmod (wrap64 (a1)) (t430.length:Int))).length:Int))<((rd_L5 t430 (Int.tmod (wrap64 (a1)) (t430.length:Int))).length:Int) then(some (t430.set ((Int.tmod (wrap64 (a1)) (t430.length:Int)):Int).toNat ((rd_L5 t430 (Int.tmod (wrap64 (a1)) (t430.length:Int))).set ((Int.tmod (wrap64 (Int.tdiv (wrap64 (a1)) 8)) ((rd_L5 t430 (Int.tmod (wrap64 (a1)) (t430.length:Int))).length:Int)):Int).toNat (wrap64 ((Int.tmod (wrap64 (a2)) (wrap64 ((aQ.length:Int)+2))) - 1))))) else(none)) else(none)))) else(none)) else(none))) else(some t430)) else(some t430))=some r:=H;have A4:=aM A40;clear A40
 by_cases c5:a1<200
 ·rw [if_pos c5] at H
  have vD:decide (a1<200)=true:=decide_eq_true c5;clear c5
  by_cases c6:(t430.length:Int)>0
  ·rw [if_pos c6] at H
   have pR:decide (0<(t430.length:Int))=true:=decide_eq_true c6;have wG:decide (0<t430.length)=true:=decide_eq_true (by omega);clear c6
   by_cases c7:(t430.length:Int)=0
   ·rw [if_pos c7] at H
    exact absurd H (by simp)
   rw [if_neg c7] at H;have Ml:((t430.length:Int)==0)=false:=beq_eq_false_iff_ne.mpr c7;have Mm:((t430.length:Int) !=0)=true:=bne_iff_ne.mpr c7;have KT:¬(t430= []):=fun h_=>c7 (by rw [h_];rfl)
   obtain⟨oF,Ou⟩:∃j_:Int,(Int.tmod (wrap64 (a1)) (t430.length:Int))=j_:=⟨_,rfl⟩;replace H:(if 0≤(oF) then(if(oF)<(t430.length:Int) then(if((rd_L5 t430 (oF)).length:Int)=0 then(none) else(if(wrap64 ((aQ.length:Int)+2))=0 then(none) else(if 0≤(Int.tmod (wrap64 (Int.tdiv (wrap64 (a1)) 8)) ((rd_L5 t430 (oF)).length:Int)) then(if(Int.tmod (wrap64 (Int.tdiv (wrap64 (a1)) 8)) ((rd_L5 t430 (oF)).length:Int))<((rd_L5 t430 (oF)).length:Int) then(some (t430.set ((oF):Int).toNat ((rd_L5 t430 (oF)).set ((Int.tmod (wrap64 (Int.tdiv (wrap64 (a1)) 8)) ((rd_L5 t430 (oF)).length:Int)):Int).toNat (wrap64 ((Int.tmod (wrap64 (a2)) (wrap64 ((aQ.length:Int)+2))) - 1))))) else(none)) else(none)))) else(none)) else(none))=some r:=by first|(rw [Ou] at H;exact H)|(simp only [Ou] at H ⊢;exact H)
   (try rw [Ou] at A4)
   by_cases c9:0≤(oF)
   rotate_left
   ·rw [if_neg c9] at H
    exact absurd H (by simp)
   rw [if_pos c9] at H;have GF:decide (0≤(oF))=true:=decide_eq_true c9;clear c9
   by_cases c10:(oF)<(t430.length:Int)
   rotate_left
   ·rw [if_neg c10] at H
    exact absurd H (by simp)
   rw [if_pos c10] at H;have mL:decide ((oF)<(t430.length:Int))=true:=decide_eq_true c10;clear c10
   by_cases c11:((rd_L5 t430 (oF)).length:Int)=0
   ·rw [if_pos c11] at H
    exact absurd H (by simp)
   rw [if_neg c11] at H;have pQ:(((rd_L5 t430 (oF)).length:Int)==0)=false:=beq_eq_false_iff_ne.mpr c11;have JF:(((rd_L5 t430 (oF)).length:Int) !=0)=true:=bne_iff_ne.mpr c11;have JG:¬((rd_L5 t430 (oF))= []):=fun h_=>c11 (by rw [h_];rfl)
   by_cases c12:(wrap64 ((aQ.length:Int)+2))=0
   ·rw [if_pos c12] at H
    exact absurd H (by simp)
   rw [if_neg c12] at H;have Ja:((wrap64 ((aQ.length:Int)+2))==0)=false:=beq_eq_false_iff_ne.mpr c12;have JH:((wrap64 ((aQ.length:Int)+2)) !=0)=true:=bne_iff_ne.mpr c12;obtain⟨sL,Gp⟩:∃j_:Int,(Int.tmod (wrap64 (Int.tdiv (wrap64 (a1)) 8)) ((rd_L5 t430 (oF)).length:Int))=j_:=⟨_,rfl⟩;replace H:(if 0≤(sL) then(if(sL)<((rd_L5 t430 (oF)).length:Int) then(some (t430.set ((oF):Int).toNat ((rd_L5 t430 (oF)).set ((sL):Int).toNat (wrap64 ((Int.tmod (wrap64 (a2)) (wrap64 ((aQ.length:Int)+2))) - 1))))) else(none)) else(none))=some r:=by first|(rw [Gp] at H;exact H)|(simp only [Gp] at H ⊢;exact H)
   (try rw [Gp] at A4)
   by_cases c14:0≤(sL)
   rotate_left
   ·rw [if_neg c14] at H
    exact absurd H (by simp)
   rw [if_pos c14] at H;have vR:decide (0≤(sL))=true:=decide_eq_true c14;clear c14
   by_cases c15:(sL)<((rd_L5 t430 (oF)).length:Int)
   rotate_left
   ·rw [if_neg c15] at H
    exact absurd H (by simp)
   rw [if_pos c15] at H;have sS:decide ((sL)<((rd_L5 t430 (oF)).length:Int))=true:=decide_eq_true c15;clear c15;obtain⟨y437,Bm⟩:∃y_:List Int,y_=((rd_L5 t430 (oF)).set ((sL):Int).toNat (wrap64 ((Int.tmod (wrap64 (a2)) (wrap64 ((aQ.length:Int)+2))) - 1))):=⟨_,rfl⟩;replace H:(some (t430.set ((oF):Int).toNat y437))=some r:=by first|(rw [Bm];with_reducible exact H)|(have H2_:=(Option.bind_some _ _).symm.trans H;rw [Bm];with_reducible exact H2_)|(have H2_:=(Option.bind_some _ _).symm.trans H;with_reducible exact H2_)|with_reducible exact H|(rw [Bm];exact H)|exact H
   have Wq:=aM Bm;clear Bm;obtain⟨y439,Bn⟩:∃y_:List (List Int),y_=(t430.set ((oF):Int).toNat y437):=⟨_,rfl⟩;replace H:(some y439)=some r:=by first|(rw [Bn];with_reducible exact H)|(have H2_:=(Option.bind_some _ _).symm.trans H;rw [Bn];with_reducible exact H2_)|(have H2_:=(Option.bind_some _ _).symm.trans H;with_reducible exact H2_)|with_reducible exact H|(rw [Bn];exact H)|exact H
   have Wr:=aM Bn;clear Bn;obtain rfl:=Option.some.inj H;go_enter Try.func14,Try.ntmps14
   go_wp2_with (first|((with_reducible refine bJ (N:=3) rfl ?_);(try(refine gate_guard (by rfl) ?_;dsimp only));refine box_event ?hg (N:=3) ?hd (cs:=#[.slice bR aU.length bS,.slice bU aX.length bV,.int .i64 bB,.int .i64 bK,.slice cC aQ.length bX]) (t:=26) ?hr ?_;(case hd=>rfl);(case hg=>rfl);(case hr=>first|(go_simp;done)|(go_simp;rfl));intro gU hg w17 hbox hb;have cH:=aM (bG (gW HB.out) hb);have cI:=aM (hbox);have cK:=aM ((by rw [hg];exact(bH (gW HB.out)):w.heap.size≤gU));have cQ:=aM ((by rw [hg];exact(bH (gW HB.out)):w.heap.size≤gU));clear HB;have HB:=cH;have eD:=cI;have GW429:=cK;have Qg:=cQ;clear cH cI cK cQ;clear hb hbox hg;have rM:w17.cell? ⟨gU,0,none⟩=some (.slice bR aU.length bS):=(aG eD.out 0).trans rfl;have rN:w17.cell? ⟨gU,1,none⟩=some (.slice bU aX.length bV):=(aG eD.out 1).trans rfl;have rO:w17.cell? ⟨gU,2,none⟩=some (.int .i64 bB):=(aG eD.out 2).trans rfl;have rP:w17.cell? ⟨gU,3,none⟩=some (.int .i64 bK):=(aG eD.out 3).trans rfl;have rQ:w17.cell? ⟨gU,4,none⟩=some (.slice cC aQ.length bX):=(aG eD.out 4).trans rfl;have rR:=aH eD.out 0;have rS:=aH eD.out 1;have rT:=aH eD.out 2;have rU:=aH eD.out 3;have rV:=aH eD.out 4)|((with_reducible refine bI (f:=20) rfl ?_);refine goesL_ (some 13) rfl rfl Try.func20 (by kernel_rfl) rfl #[.agg #[.slice bR aU.length bS,.slice bU aX.length bV,.int .i64 bB,.int .i64 bK,.slice cC aQ.length bX]] rfl (by(try simp only [List.map_toArray,List.map_cons,List.map_nil]);first|done|rfl|(simp only [List.length_drop,List.length_take];rfl)) ?_;(with_reducible refine(regletref14_Predict.calls k _ _ aU _ _ aX bB bK _ _ aQ t430 t433 _ ?side1 ?side2 ?side3 ?side4 ?side5 ?side6 A4.out).mono ?_);(case side1=>exact gC (bD jA.out HB.out));(case side2=>exact jV.out);(case side3=>exact gC (bD kL.out HB.out));(case side4=>exact kM.out);(case side5=>exact gC (bD fP.out HB.out));(case side6=>exact kN.out);rintro e w19 ⟨v431,v434,rfl,ho0,ho1,hb⟩;refine⟨_,rfl,?_⟩;have cH:=aM (Kd.S_lower ho0 (bH (gW HB.out)));have cI:=aM (bL ho1 (bH (gW HB.out)));have cK:=aM (bF (gB eD.out) hb);have cQ:=aM (bG (gW HB.out) hb);clear eD;clear HB;have mQ:=cH;have Bo:=cI;have eD:=cK;have HB:=cQ;clear cH cI cK cQ;(try clear hb);(try clear hb2);(try clear hk);(try clear hi);(try clear ho0);(try clear ho1);obtain⟨jN,jH,zR⟩:=Kd.S_slice mQ.out;subst zR;have p436:0≤((oF):Int):=of_decide_eq_true (by first|(with_reducible assumption)|assumption);have q436:(oF)<(t430.length:Int):=of_decide_eq_true (by first|(with_reducible assumption)|assumption);obtain⟨Ws,GG,Jp,e436,Gq,Gr,Gs⟩:=at_L5 (Kd.S_reads' mQ.out).2.2 (oF) p436 q436;cases e436;obtain⟨ce436,hce436,hMe436,hcc436⟩:=Kd.S_get mQ.out [] (oF) p436 (by first|exact q436|exact of_decide_eq_true (by first|(with_reducible assumption)|assumption)|(have e_:=(Kd.S_reads' mQ.out).1;omega));obtain⟨ve436_0,rfl,ge436_0⟩:=hMe436;have hv436_0:=hcc436 0 _ rfl;rw [Nat.add_zero,show((Kd.slice 3 (Kd.int .i64))).sz=1 from rfl,Nat.mul_one] at hv436_0;replace hv436_0:=Option.some.inj (hv436_0.symm.trans Gq);rw [hv436_0] at ge436_0;have HL436_0:=aM (show Kd.R (Kd.int .i64) 3 _ _ _ _ (rd_L5 t430 (oF)) from ge436_0);clear hv436_0 ge436_0;have HX436_0:=aM Gq;clear hcc436 hce436;have CY:=aM Gs;have CZ:=aM Gr;clear Gs Gr;replace p436:=eq_true p436;replace q436:=eq_true q436;have lA:w19.cell? ⟨gU,0,none⟩=some (.slice bR aU.length bS):=(aG eD.out 0).trans rfl;have lB:w19.cell? ⟨gU,1,none⟩=some (.slice bU aX.length bV):=(aG eD.out 1).trans rfl;have lC:w19.cell? ⟨gU,2,none⟩=some (.int .i64 bB):=(aG eD.out 2).trans rfl;have lD:w19.cell? ⟨gU,3,none⟩=some (.int .i64 bK):=(aG eD.out 3).trans rfl;have lE:w19.cell? ⟨gU,4,none⟩=some (.slice cC aQ.length bX):=(aG eD.out 4).trans rfl;have lF:=aH eD.out 0;have lG:=aH eD.out 1;have lH:=aH eD.out 2;have lI:=aH eD.out 3;have lJ:=aH eD.out 4;have p16:0≤((sL):Int):=of_decide_eq_true (by first|(with_reducible assumption)|assumption);have q16:((sL):Int)<(((rd_L5 t430 (oF)).length:Int):Int):=of_decide_eq_true (by first|(with_reducible assumption)|assumption);obtain⟨go16,KU,Wt,Wu,gl16,cl16,HG16⟩:=Kd.R_form HL436_0.out (by omega);(first|cases Wt|(injection Wt with ea_ en_ ec_;(first|subst ea_|(injection ea_ with ea_;subst ea_));subst ec_;clear en_));have GB16:=aM Wu;have GG16:=aM HG16;clear Wu gl16 HG16;obtain⟨GH,hf16_0⟩:=Kd.R_celln 0 HL436_0.out ((sL):Int) p16 q16;replace p16:=eq_true p16;replace q16:=eq_true q16;have hq22:((oF):Int)<(t430.length:Int):=(by have h_:((oF):Int)<((t430.length:Int):Int):=of_decide_eq_true (by first|(with_reducible assumption)|assumption);first|exact h_|(have e_:=(Kd.S_reads' mQ.out).1;omega)|simpa only [List.length_set,List.length_set] using h_);obtain⟨oki22,ce22,hcl22,hM22,hcc22,hok22,hbk22⟩:=Kd.S_borrow mQ.out [] ((oF):Int) (of_decide_eq_true (by first|(with_reducible assumption)|assumption)) hq22;obtain⟨ve22_0,rfl,ge22_0⟩:=hM22;have hv22:=hcc22 0 _ rfl;rw [Nat.add_zero,show((Kd.slice 3 (Kd.int .i64))).sz=1 from rfl,Nat.mul_one] at hv22;replace hv22:=Option.some.inj (hv22.symm.trans HX436_0.out);subst hv22;clear hcc22 hcl22;replace ge22_0:=(show Kd.R (Kd.int .i64) 3 _ _ _ _ (rd_L5 t430 (oF)) from ge22_0);have HP22:=Kd.R_putg ge22_0 ((sL):Int) (wrap64 ((Int.tmod (wrap64 (a2)) (wrap64 ((aQ.length:Int)+2))) - 1)))|((with_reducible refine gate_store (t:=3) (p:=47) rfl ?_);refine store_event (t:=3) (p:=47) (v:=?vo_w23) (w1:=(w19.setCell ⟨go16,((sL):Int).toNat,none⟩ (.int .i64 (wrap64 ((Int.tmod (wrap64 (a2)) (wrap64 ((aQ.length:Int)+2))) - 1))))) ?hg ?ho ?hn ?hr ?_;(case ho=>rfl);(case hg=>rfl);(case hn=>rfl);(case hr=>first|(go_simp;done)|(go_simp;rfl));intro w23 hw;have hg:w19.grownBy w23 (some go16):=(by rw [hw];exact HP22.2);have hz_:Kd.R (Kd.int .i64) 3 w23 w.heap.size oki22 (.slice (some ⟨go16,0,none⟩) (rd_L5 t430 (oF)).length Jp) y437:=(by rw [hw,Wq.out];exact HP22.1);have hp_:Kd.S (Kd.slice 3 (Kd.int .i64)) 32 w23 w.heap.size (fun _=>True) (.slice (some Ws) t430.length jH) y439:=(by rw [Wr.out];exact hbk22 hg (fun k_ e_=>by injection e_ with e_;subst e_;exact ge22_0.1 _ rfl) (Kd.M_row hz_));have hm_:=Kd.R_mono hz_ hok22;clear HP22 hbk22;have cH:=aM (blk_grown (gB eD.out) hg (Kd.R_ne HL436_0.out eD.out (by decide)));have cI:=aM (hp_);have cK:=aM (Kd.R_over' (v:=(.slice (some ⟨go16,0,none⟩) (rd_L5 t430 (oF)).length Jp)) (gR Bo.out) (Kd.R_typed HL436_0.out) (by decide) hg);have cQ:=aM ((by rw [hw];exact aL (HB.out) GB16.out:Below w.heap.size w w23));have dI:=aM (hm_);have dR:=aM ((aF hm_).2.1);clear eD;clear mQ;clear Bo;clear HB;clear HL436_0;have eD:=cH;have mQ:=cI;have Bo:=cK;have HB:=cQ;have HL440:=dI;have HC438:=dR;clear cH cI cK cQ dI dR;clear hg hw hp_ hz_ hm_ hok22))
   go_ret
   exact⟨_,by first|rfl|(simp [errW_none,errW_some]<;>rfl)|(simp only [←Ou,←Gp];first|rfl|(simp [errW_none,errW_some]<;>rfl))|(simp [*,errW_none,errW_some]<;>rfl),gS mQ.out,gW HB.out⟩
  ·rw [if_neg c6] at H
   have pR:decide (0<(t430.length:Int))=false:=decide_eq_false c6;have wG:decide (0<t430.length)=false:=decide_eq_false (by omega);clear c6;obtain rfl:=Option.some.inj H;go_enter Try.func14,Try.ntmps14
   go_wp2_with (first|((with_reducible refine bJ (N:=3) rfl ?_);(try(refine gate_guard (by rfl) ?_;dsimp only));refine box_event ?hg (N:=3) ?hd (cs:=#[.slice bR aU.length bS,.slice bU aX.length bV,.int .i64 bB,.int .i64 bK,.slice cC aQ.length bX]) (t:=26) ?hr ?_;(case hd=>rfl);(case hg=>rfl);(case hr=>first|(go_simp;done)|(go_simp;rfl));intro gU hg w24 hbox hb;have cH:=aM (bG (gW HB.out) hb);have cI:=aM (hbox);have cK:=aM ((by rw [hg];exact(bH (gW HB.out)):w.heap.size≤gU));have cQ:=aM ((by rw [hg];exact(bH (gW HB.out)):w.heap.size≤gU));clear HB;have HB:=cH;have eD:=cI;have GW429:=cK;have Qg:=cQ;clear cH cI cK cQ;clear hb hbox hg;have Fu:w24.cell? ⟨gU,0,none⟩=some (.slice bR aU.length bS):=(aG eD.out 0).trans rfl;have Fv:w24.cell? ⟨gU,1,none⟩=some (.slice bU aX.length bV):=(aG eD.out 1).trans rfl;have DA:w24.cell? ⟨gU,2,none⟩=some (.int .i64 bB):=(aG eD.out 2).trans rfl;have DB:w24.cell? ⟨gU,3,none⟩=some (.int .i64 bK):=(aG eD.out 3).trans rfl;have DC:w24.cell? ⟨gU,4,none⟩=some (.slice cC aQ.length bX):=(aG eD.out 4).trans rfl;have Fw:=aH eD.out 0;have Fx:=aH eD.out 1;have DD:=aH eD.out 2;have DE:=aH eD.out 3;have DF:=aH eD.out 4)|((with_reducible refine bI (f:=20) rfl ?_);refine goesL_ (some 13) rfl rfl Try.func20 (by kernel_rfl) rfl #[.agg #[.slice bR aU.length bS,.slice bU aX.length bV,.int .i64 bB,.int .i64 bK,.slice cC aQ.length bX]] rfl (by(try simp only [List.map_toArray,List.map_cons,List.map_nil]);first|done|rfl|(simp only [List.length_drop,List.length_take];rfl)) ?_;(with_reducible refine(regletref14_Predict.calls k _ _ aU _ _ aX bB bK _ _ aQ t430 t433 _ ?side1 ?side2 ?side3 ?side4 ?side5 ?side6 A4.out).mono ?_);(case side1=>exact gC (bD jA.out HB.out));(case side2=>exact jV.out);(case side3=>exact gC (bD kL.out HB.out));(case side4=>exact kM.out);(case side5=>exact gC (bD fP.out HB.out));(case side6=>exact kN.out);rintro e w26 ⟨v431,v434,rfl,ho0,ho1,hb⟩;refine⟨_,rfl,?_⟩;have cH:=aM (Kd.S_lower ho0 (bH (gW HB.out)));have cI:=aM (bL ho1 (bH (gW HB.out)));have cK:=aM (bF (gB eD.out) hb);have cQ:=aM (bG (gW HB.out) hb);clear eD;clear HB;have mQ:=cH;have Bo:=cI;have eD:=cK;have HB:=cQ;clear cH cI cK cQ;(try clear hb);(try clear hb2);(try clear hk);(try clear hi);(try clear ho0);(try clear ho1);obtain⟨oY,oI,Aw⟩:=Kd.S_slice mQ.out;subst Aw))
   go_ret
   exact⟨_,by first|rfl|(simp [errW_none,errW_some]<;>rfl)|(simp [*,errW_none,errW_some]<;>rfl),gS mQ.out,gW HB.out⟩
 ·rw [if_neg c5] at H
  have vD:decide (a1<200)=false:=decide_eq_false c5;clear c5;obtain rfl:=Option.some.inj H;go_enter Try.func14,Try.ntmps14
  go_wp2_with (first|((with_reducible refine bJ (N:=3) rfl ?_);(try(refine gate_guard (by rfl) ?_;dsimp only));refine box_event ?hg (N:=3) ?hd (cs:=#[.slice bR aU.length bS,.slice bU aX.length bV,.int .i64 bB,.int .i64 bK,.slice cC aQ.length bX]) (t:=26) ?hr ?_;(case hd=>rfl);(case hg=>rfl);(case hr=>first|(go_simp;done)|(go_simp;rfl));intro gU hg w28 hbox hb;have cH:=aM (bG (gW HB.out) hb);have cI:=aM (hbox);have cK:=aM ((by rw [hg];exact(bH (gW HB.out)):w.heap.size≤gU));have cQ:=aM ((by rw [hg];exact(bH (gW HB.out)):w.heap.size≤gU));clear HB;have HB:=cH;have eD:=cI;have GW429:=cK;have Qg:=cQ;clear cH cI cK cQ;clear hb hbox hg;have DG:w28.cell? ⟨gU,0,none⟩=some (.slice bR aU.length bS):=(aG eD.out 0).trans rfl;have DH:w28.cell? ⟨gU,1,none⟩=some (.slice bU aX.length bV):=(aG eD.out 1).trans rfl;have DI:w28.cell? ⟨gU,2,none⟩=some (.int .i64 bB):=(aG eD.out 2).trans rfl;have DJ:w28.cell? ⟨gU,3,none⟩=some (.int .i64 bK):=(aG eD.out 3).trans rfl;have DK:w28.cell? ⟨gU,4,none⟩=some (.slice cC aQ.length bX):=(aG eD.out 4).trans rfl;have DL:=aH eD.out 0;have DM:=aH eD.out 1;have DN:=aH eD.out 2;have DO:=aH eD.out 3;have DP:=aH eD.out 4)|((with_reducible refine bI (f:=20) rfl ?_);refine goesL_ (some 13) rfl rfl Try.func20 (by kernel_rfl) rfl #[.agg #[.slice bR aU.length bS,.slice bU aX.length bV,.int .i64 bB,.int .i64 bK,.slice cC aQ.length bX]] rfl (by(try simp only [List.map_toArray,List.map_cons,List.map_nil]);first|done|rfl|(simp only [List.length_drop,List.length_take];rfl)) ?_;(with_reducible refine(regletref14_Predict.calls k _ _ aU _ _ aX bB bK _ _ aQ t430 t433 _ ?side1 ?side2 ?side3 ?side4 ?side5 ?side6 A4.out).mono ?_);(case side1=>exact gC (bD jA.out HB.out));(case side2=>exact jV.out);(case side3=>exact gC (bD kL.out HB.out));(case side4=>exact kM.out);(case side5=>exact gC (bD fP.out HB.out));(case side6=>exact kN.out);rintro e w30 ⟨v431,v434,rfl,ho0,ho1,hb⟩;refine⟨_,rfl,?_⟩;have cH:=aM (Kd.S_lower ho0 (bH (gW HB.out)));have cI:=aM (bL ho1 (bH (gW HB.out)));have cK:=aM (bF (gB eD.out) hb);have cQ:=aM (bG (gW HB.out) hb);clear eD;clear HB;have mQ:=cH;have Bo:=cI;have eD:=cK;have HB:=cQ;clear cH cI cK cQ;(try clear hb);(try clear hb2);(try clear hk);(try clear hi);(try clear ho0);(try clear ho1)))
  go_ret
  exact⟨_,by first|rfl|(simp [errW_none,errW_some]<;>rfl)|(simp [*,errW_none,errW_some]<;>rfl),gS mQ.out,gW HB.out⟩
attribute [local go_sem] max2_int min2_int max_two min_two max_three min_three max_four min_four   -- for this text's walks alone
set_option linter.unusedVariables false
set_option linter.unusedSimpArgs false
theorem eqA43 (d:Nat) (w:World) (x0 y0:Bool) (x1 y1:Int):
 (Op.equalIn (d+2) 43 (.agg #[.bool x0,.int .i64 x1]) (.agg #[.bool y0,.int .i64 y1])).run Try.prog w= .ok (x0==y0 && (x1==y1)) w:=by
 refine eqA_of Try.underlying43 (by kernel_rfl) ?_
 refine eqf_cons (by rfl) (by go_simp;rfl) (by go_simp;rfl) (by go_simp) ?_
 exact eqf_last (by rfl) (by go_simp;rfl) (by go_simp;rfl) (by go_simp)
attribute [local go_sem] max2_int min2_int max_two min_two max_three min_three max_four min_four   -- for this text's walks alone
set_option linter.unusedVariables false
set_option linter.unusedSimpArgs false
attribute [local go_sem high] eqA43
mutual
def regletref16_Same.j0:Nat→Bool→List (S43)→Bool→List (S43)→Bool→Option (Bool)
 |0,_,_,_,_,_=>none
 |k+1,x19,x102000,x102001,x103000,x103001=>if x19=true then(some false) else(regletref16_Same.l0 k 0 x102000 x102001 x103000 x103001)
def regletref16_Same.l0:Nat→Int→List (S43)→Bool→List (S43)→Bool→Option (Bool)
 |0,_,_,_,_,_=>none
 |k+1,x5,x102000,x102001,x103000,x103001=>if x5<(x102000.length:Int) then(if 0≤x5 then(if x5<(x103000.length:Int) then(if(!(((rd_T43 x102000 x5).f0)==((rd_T43 x103000 x5).f0))||(!(((rd_T43 x102000 x5).f1)==((rd_T43 x103000 x5).f1))))=true then(some false) else(regletref16_Same.l0 k (wrap64 (x5+1)) x102000 x102001 x103000 x103001)) else(none)) else(none)) else(some true)
end
def regletref16_Same.f (k:Nat) (aU:List (S43)) (iM:Bool) (iP:List (S43)) (kH:Bool):Option (Bool):=if(iM !=kH)=true then(regletref16_Same.j0 k true aU iM iP kH) else(regletref16_Same.j0 k ((aU.length:Int) !=(iP.length:Int)) aU iM iP kH)
theorem regletref16_Same.mono_l:∀k,(∀y0 y1 y2 y3 y4,LeO (regletref16_Same.j0 k y0 y1 y2 y3 y4) (regletref16_Same.j0 (k+1) y0 y1 y2 y3 y4))∧(∀y0 y1 y2 y3 y4,LeO (regletref16_Same.l0 k y0 y1 y2 y3 y4) (regletref16_Same.l0 (k+1) y0 y1 y2 y3 y4))
 |0=>⟨fun _ _ _ _ _ r h=>by simp [regletref16_Same.j0] at h,fun _ _ _ _ _ r h=>by simp [regletref16_Same.l0] at h⟩
 |k+1=>by
  obtain⟨ih0,ih1⟩:=regletref16_Same.mono_l k;refine⟨?_,?_⟩
  ·intro y0 y1 y2 y3 y4
   unfold regletref16_Same.j0
   repeat' first
   |(with_reducible exact ih0 _ _ _ _ _)
   |(with_reducible exact ih1 _ _ _ _ _)
   |(with_reducible exact LeO.refl _)
   |(with_reducible exact LeO.none _)
   |(with_reducible refine LeO.ite ?_ ?_)
   |(with_reducible refine LeO.bind ?_ (fun _=>?_))
   |exact ih0 _ _ _ _ _
   |exact ih1 _ _ _ _ _
   |exact LeO.none _
   |refine LeO.ite ?_ ?_
   |refine LeO.bind ?_ (fun _=>?_)
  ·intro y0 y1 y2 y3 y4
   unfold regletref16_Same.l0
   repeat' first
   |(with_reducible exact ih0 _ _ _ _ _)
   |(with_reducible exact ih1 _ _ _ _ _)
   |(with_reducible exact LeO.refl _)
   |(with_reducible exact LeO.none _)
   |(with_reducible refine LeO.ite ?_ ?_)
   |(with_reducible refine LeO.bind ?_ (fun _=>?_))
   |exact ih0 _ _ _ _ _
   |exact ih1 _ _ _ _ _
   |exact LeO.none _
   |refine LeO.ite ?_ ?_
   |refine LeO.bind ?_ (fun _=>?_)
theorem regletref16_Same.mono:∀a0 a1 a2 a3 k,LeO (regletref16_Same.f k a0 a1 a2 a3) (regletref16_Same.f (k+1) a0 a1 a2 a3):=by
 intro a0 a1 a2 a3 k;obtain⟨ih0,ih1⟩:=regletref16_Same.mono_l k
 unfold regletref16_Same.f
 repeat' first
  |(with_reducible exact ih0 _ _ _ _ _)
  |(with_reducible exact ih1 _ _ _ _ _)
  |(with_reducible exact LeO.refl _)
  |(with_reducible exact LeO.none _)
  |(with_reducible refine LeO.ite ?_ ?_)
  |(with_reducible refine LeO.bind ?_ (fun _=>?_))
  |exact ih0 _ _ _ _ _
  |exact ih1 _ _ _ _ _
  |exact LeO.none _
  |refine LeO.ite ?_ ?_
  |refine LeO.bind ?_ (fun _=>?_)
set_option maxHeartbeats 8000000 in
set_option maxRecDepth 100000 in
theorem regletref16_Same.calls (k:Nat) (bR:Option Addr) (bS:Nat) (aU:List (S43)) (iM:Bool) (vU:Option Addr) (vV:Nat) (iP:List (S43)) (kH:Bool) (r:Bool) (w:World) (dX:Kd.C k43 w bR aU.length aU) (dZ:aU.length≤bS) (Qh:Kd.C k43 w vU iP.length iP) (Qi:iP.length≤vV) (h:regletref16_Same.f k aU iM iP kH=some r):
 Calls Try.prog 16 #[.agg #[.slice bR aU.length bS,.bool iM],.agg #[.slice vU iP.length vV,.bool kH]] w fun e w'=>e= .returned (.bool r)∧Below w.heap.size w w':=by
 have hu31:=Try.underlying31;have hu43:=Try.underlying43;have jA:=aM dX;have jV:=aM dZ;clear dX dZ;have Qj:=aM Qh;have JI:=aM Qi;clear Qh Qi;have HB:=aM (Below.refl w.heap.size w);have H:(if(iM !=kH)=true then(regletref16_Same.j0 k true aU iM iP kH) else(regletref16_Same.j0 k ((aU.length:Int) !=(iP.length:Int)) aU iM iP kH))=some r:=h;clear h;have HC3:=aM H;clear H;go_enter Try.func16,Try.ntmps16
 go_upto_region 1 with(first|((with_reducible refine bJ (N:=2) rfl ?_);(try(refine gate_guard (by rfl) ?_;dsimp only));refine box_event ?hg (N:=2) ?hd (cs:=#[.slice bR aU.length bS,.bool iM]) (t:=31) ?hr ?_;(case hd=>rfl);(case hg=>rfl);(case hr=>first|(go_simp;done)|(go_simp;rfl));intro fW hg w4 hbox hb;have cH:=aM (bG (gW HB.out) hb);have cI:=aM (hbox);have cK:=aM ((by rw [hg];exact(bH (gW HB.out)):w.heap.size≤fW));have cQ:=aM ((by rw [hg];exact(bH (gW HB.out)):w.heap.size≤fW));clear HB;have HB:=cH;have fC:=cI;have GW101:=cK;have Qk:=cQ;clear cH cI cK cQ;clear hb hbox hg)|((with_reducible refine bJ (N:=3) rfl ?_);(try(refine gate_guard (by rfl) ?_;dsimp only));refine box_event ?hg (N:=3) ?hd (cs:=#[.slice vU iP.length vV,.bool kH]) (t:=31) ?hr ?_;(case hd=>rfl);(case hg=>rfl);(case hr=>first|(go_simp;done)|(go_simp;rfl));intro iI hg w5 hbox hb;have cH:=aM (bF (gB fC.out) hb);have cI:=aM (bG (gW HB.out) hb);have cK:=aM (hbox);have cQ:=aM ((by rw [hg];exact(bH (gW HB.out)):w.heap.size≤iI));have dI:=aM ((by rw [hg];exact(bH (gW HB.out)):w.heap.size≤iI));have dR:=aM ((by rw [hg];exact Nat.ne_of_lt (bN (g:=fW) (o:= .cells #[.slice bR aU.length bS,.bool iM] 31 (0,0)) (gB fC.out)):fW≠iI));have dV:=aM ((by rw [hg];exact Nat.ne_of_gt (bN (g:=fW) (o:= .cells #[.slice bR aU.length bS,.bool iM] 31 (0,0)) (gB fC.out)):iI≠fW));clear fC;clear HB;have fC:=cH;have HB:=cI;have iJ:=cK;have GW102:=cQ;have Ql:=dI;have kO:=dR;have kP:=dV;clear cH cI cK cQ dI dR dV;clear hb hbox hg))
 repeat(go_quiet (first|((with_reducible refine bJ (N:=2) rfl ?_);(try(refine gate_guard (by rfl) ?_;dsimp only));refine box_event ?hg (N:=2) ?hd (cs:=#[.slice bR aU.length bS,.bool iM]) (t:=31) ?hr ?_;(case hd=>rfl);(case hg=>rfl);(case hr=>first|(go_simp;done)|(go_simp;rfl));intro fW hg w4 hbox hb;have cH:=aM (bG (gW HB.out) hb);have cI:=aM (hbox);have cK:=aM ((by rw [hg];exact(bH (gW HB.out)):w.heap.size≤fW));have cQ:=aM ((by rw [hg];exact(bH (gW HB.out)):w.heap.size≤fW));clear HB;have HB:=cH;have fC:=cI;have GW101:=cK;have Qk:=cQ;clear cH cI cK cQ;clear hb hbox hg)|((with_reducible refine bJ (N:=3) rfl ?_);(try(refine gate_guard (by rfl) ?_;dsimp only));refine box_event ?hg (N:=3) ?hd (cs:=#[.slice vU iP.length vV,.bool kH]) (t:=31) ?hr ?_;(case hd=>rfl);(case hg=>rfl);(case hr=>first|(go_simp;done)|(go_simp;rfl));intro iI hg w5 hbox hb;have cH:=aM (bF (gB fC.out) hb);have cI:=aM (bG (gW HB.out) hb);have cK:=aM (hbox);have cQ:=aM ((by rw [hg];exact(bH (gW HB.out)):w.heap.size≤iI));have dI:=aM ((by rw [hg];exact(bH (gW HB.out)):w.heap.size≤iI));have dR:=aM ((by rw [hg];exact Nat.ne_of_lt (bN (g:=fW) (o:= .cells #[.slice bR aU.length bS,.bool iM] 31 (0,0)) (gB fC.out)):fW≠iI));have dV:=aM ((by rw [hg];exact Nat.ne_of_gt (bN (g:=fW) (o:= .cells #[.slice bR aU.length bS,.bool iM] 31 (0,0)) (gB fC.out)):iI≠fW));clear fC;clear HB;have fC:=cH;have HB:=cI;have iJ:=cK;have GW102:=cQ;have Ql:=dI;have kO:=dR;have kP:=dV;clear cH cI cK cQ dI dR dV;clear hb hbox hg));go_upto_region 1 with(first|((with_reducible refine bJ (N:=2) rfl ?_);(try(refine gate_guard (by rfl) ?_;dsimp only));refine box_event ?hg (N:=2) ?hd (cs:=#[.slice bR aU.length bS,.bool iM]) (t:=31) ?hr ?_;(case hd=>rfl);(case hg=>rfl);(case hr=>first|(go_simp;done)|(go_simp;rfl));intro fW hg w4 hbox hb;have cH:=aM (bG (gW HB.out) hb);have cI:=aM (hbox);have cK:=aM ((by rw [hg];exact(bH (gW HB.out)):w.heap.size≤fW));have cQ:=aM ((by rw [hg];exact(bH (gW HB.out)):w.heap.size≤fW));clear HB;have HB:=cH;have fC:=cI;have GW101:=cK;have Qk:=cQ;clear cH cI cK cQ;clear hb hbox hg)|((with_reducible refine bJ (N:=3) rfl ?_);(try(refine gate_guard (by rfl) ?_;dsimp only));refine box_event ?hg (N:=3) ?hd (cs:=#[.slice vU iP.length vV,.bool kH]) (t:=31) ?hr ?_;(case hd=>rfl);(case hg=>rfl);(case hr=>first|(go_simp;done)|(go_simp;rfl));intro iI hg w5 hbox hb;have cH:=aM (bF (gB fC.out) hb);have cI:=aM (bG (gW HB.out) hb);have cK:=aM (hbox);have cQ:=aM ((by rw [hg];exact(bH (gW HB.out)):w.heap.size≤iI));have dI:=aM ((by rw [hg];exact(bH (gW HB.out)):w.heap.size≤iI));have dR:=aM ((by rw [hg];exact Nat.ne_of_lt (bN (g:=fW) (o:= .cells #[.slice bR aU.length bS,.bool iM] 31 (0,0)) (gB fC.out)):fW≠iI));have dV:=aM ((by rw [hg];exact Nat.ne_of_gt (bN (g:=fW) (o:= .cells #[.slice bR aU.length bS,.bool iM] 31 (0,0)) (gB fC.out)):iI≠fW));clear fC;clear HB;have fC:=cH;have HB:=cI;have iJ:=cK;have GW102:=cQ;have Ql:=dI;have kO:=dR;have kP:=dV;clear cH cI cK cQ dI dR dV;clear hb hbox hg)))
 (try simp only [Act.put,List.setIfInBounds_toArray,List.set_cons_zero,List.set_cons_succ])
 go_cut [19] (fun v19 wc=>∃(kq:Nat) (Gt:Bool),v19= .bool Gt∧Aside0 (regletref16_Same.j0 kq Gt aU iM iP kH=some r)∧Aside0 (kq≤k)∧Aside0 (wc.heap[fW]?=some (.cells #[(.slice bR aU.length bS),.bool iM] 31 (0,0)))∧Aside0 (wc.heap[iI]?=some (.cells #[(.slice vU iP.length vV),.bool kH] 31 (0,0)))∧Aside0 (Below w.heap.size w wc))
 case first=>
  have H:=HC3.out;clear HC3
  by_cases c6:(iM !=kH)=true
  ·rw [if_pos c6] at H
   have pR:(iM !=kH)=true:=c6
   (try(have wG:decide (iM=kH)=false:=by simpa using c6))
   (try(have Ss:(iM==kH)=false:=by simpa using c6))
   (try(have KV:¬(iM=kH):=by simpa using c6))
   clear c6
   (first|rw [pR]|(simp only [i64_w,i32_w];rw [pR])|skip)
   have H':=aM H;clear H;have hnb7:=kO.out;have hnc7:=kP.out;have jO:w5.cell? ⟨fW,0,none⟩=some (.slice bR aU.length bS):=(aG fC.out 0).trans rfl;have jP:w5.cell? ⟨fW,1,none⟩=some (.bool iM):=(aG fC.out 1).trans rfl;have jQ:=aH fC.out 0;have jR:=aH fC.out 1;have lX:w5.cell? ⟨iI,0,none⟩=some (.slice vU iP.length vV):=(aG iJ.out 0).trans rfl;have lY:w5.cell? ⟨iI,1,none⟩=some (.bool kH):=(aG iJ.out 1).trans rfl;have lZ:=aH iJ.out 0;have mA:=aH iJ.out 1;go_wp2
   repeat(go_quiet (fail);try go_wp2)
   go_meet
   case rel=>exact⟨_,(true),(by first|rfl|(simp;done)|(simp [*];done)),H',⟨by first|omega|exact Nat.le_refl _⟩,⟨gB fC.out⟩,⟨gB iJ.out⟩,⟨gW HB.out⟩⟩
  ·rw [if_neg c6] at H
   have pR:(iM !=kH)=false:=by simpa using c6
   (try(have wG:decide (iM=kH)=true:=by simpa using c6))
   (try(have Ss:(iM==kH)=true:=by simpa using c6))
   clear c6
   (first|rw [pR]|(simp only [i64_w,i32_w];rw [pR])|skip)
   have H':=aM H;clear H;have hnb10:=kO.out;have hnc10:=kP.out;have Gu:w5.cell? ⟨fW,0,none⟩=some (.slice bR aU.length bS):=(aG fC.out 0).trans rfl;have Gv:w5.cell? ⟨fW,1,none⟩=some (.bool iM):=(aG fC.out 1).trans rfl;have Gw:=aH fC.out 0;have Gx:=aH fC.out 1;have jD:w5.cell? ⟨iI,0,none⟩=some (.slice vU iP.length vV):=(aG iJ.out 0).trans rfl;have jE:w5.cell? ⟨iI,1,none⟩=some (.bool kH):=(aG iJ.out 1).trans rfl;have jF:=aH iJ.out 0;have jG:=aH iJ.out 1;go_wp2
   repeat(go_quiet (fail);try go_wp2)
   go_meet
   case rel=>exact⟨_,(((aU.length:Int) !=(iP.length:Int))),(by first|rfl|(simp;done)|(simp [*];done)),H',⟨by first|omega|exact Nat.le_refl _⟩,⟨gB fC.out⟩,⟨gB iJ.out⟩,⟨gW HB.out⟩⟩
 case rest=>
  clear HC3
  (try clear c1);(try clear p2);(try clear c6);(try clear pR);(try clear wG);(try clear Ss);(try clear c7);(try clear c10);(try clear Gu);(try clear Gv);(try clear jD);(try clear jE);(try clear jO);(try clear jP);(try clear lX);(try clear lY);(try clear Gw);(try clear Gx);(try clear jF);(try clear jG);(try clear jQ);(try clear jR)
  (try clear lZ);(try clear mA)
  obtain⟨kq,Gt,rfl,HA,HJ2,fC,iJ,HB⟩:=hcut
  cases kq with
  |zero=>exact absurd HA.out (by simp [regletref16_Same.j0])
  |succ GI=>
   have H:=HA.out;clear HA;simp only [regletref16_Same.j0] at H
   by_cases c13:Gt=true
   ·subst c13
    have H1:(some false)=some r:=by rw [if_pos rfl] at H;exact H
    clear H;have H:=H1;clear H1;obtain rfl:=Option.some.inj H;go_wp2
    repeat(go_quiet (fail);try go_wp2)
    go_ret
    exact⟨by first|rfl|(simp [errW_none,errW_some]<;>rfl)|(simp [*,errW_none,errW_some]<;>rfl),gW HB.out⟩
   ·replace c13:=Bool.eq_false_iff.mpr c13
    subst c13;have H1:(regletref16_Same.l0 GI 0 aU iM iP kH)=some r:=by rw [if_neg (show ¬(false=true) by decide)] at H;exact H
    clear H;have H:=H1;clear H1;have H':=aM H;clear H;go_wp2
    repeat(go_quiet (fail);try go_wp2)
    go_loopg [5] GI (fun kq v5 w'=>∃(cG:Int),v5= .int .i64 cG∧Aside0 (regletref16_Same.l0 kq cG aU iM iP kH=some r)∧Aside0 (kq≤GI)∧Aside0 (w'.heap[fW]?=some (.cells #[(.slice bR aU.length bS),.bool iM] 31 (0,0)))∧Aside0 (w'.heap[iI]?=some (.cells #[(.slice vU iP.length vV),.bool kH] 31 (0,0)))∧Aside0 (Below w.heap.size w w'))
    case atStart=>exact⟨(0),(by first|rfl|(simp;done)|(simp [*];done)),H',⟨Nat.le_refl _⟩,⟨gB fC.out⟩,⟨gB iJ.out⟩,⟨gW HB.out⟩⟩
    case round=>
     clear H'
     (try clear c1);(try clear p2);(try clear c6);(try clear pR);(try clear wG);(try clear Ss);(try clear c7);(try clear c10);(try clear c13);(try clear Gu);(try clear Gv);(try clear jD);(try clear jE);(try clear jO);(try clear jP);(try clear lX);(try clear lY);(try clear Gw);(try clear Gx);(try clear jF);(try clear jG);(try clear jQ);(try clear jR)
     (try clear lZ);(try clear mA);(try clear p2)
     obtain⟨cG,rfl,HA,HK2,fC,iJ,HB⟩:=hrel
     cases gk with
     |zero=>exact absurd HA.out (by simp [regletref16_Same.l0])
     |succ k2=>
      have H:=HA.out;clear HA;simp only [regletref16_Same.l0] at H
      by_cases c14:cG<(aU.length:Int)
      ·rw [if_pos c14] at H
       have vR:decide (cG<(aU.length:Int))=true:=decide_eq_true c14;clear c14
       by_cases c15:0≤cG
       rotate_left
       ·rw [if_neg c15] at H
        exact absurd H (by simp)
       rw [if_pos c15] at H;have sS:decide (0≤cG)=true:=decide_eq_true c15;clear c15
       by_cases c16:cG<(iP.length:Int)
       rotate_left
       ·rw [if_neg c16] at H
        exact absurd H (by simp)
       rw [if_pos c16] at H;have Jf:decide (cG<(iP.length:Int))=true:=decide_eq_true c16;clear c16
       by_cases c17:(!(((rd_T43 aU cG).f0)==((rd_T43 iP cG).f0))||(!(((rd_T43 aU cG).f1)==((rd_T43 iP cG).f1))))=true
       ·rw [if_pos c17] at H
        have vG:(!(((rd_T43 aU cG).f0)==((rd_T43 iP cG).f0))||(!(((rd_T43 aU cG).f1)==((rd_T43 iP cG).f1))))=true:=c17;clear c17;obtain rfl:=Option.some.inj H;have hnb18:=kO.out;have hnc18:=kP.out;have uX:wr.cell? ⟨fW,0,none⟩=some (.slice bR aU.length bS):=(aG fC.out 0).trans rfl;have uY:wr.cell? ⟨fW,1,none⟩=some (.bool iM):=(aG fC.out 1).trans rfl;have uZ:=aH fC.out 0;have vA:=aH fC.out 1;have p103:0≤(cG:Int):=of_decide_eq_true (by first|(with_reducible assumption)|assumption);have q103:cG<(aU.length:Int):=of_decide_eq_true (by first|(with_reducible assumption)|assumption);obtain⟨Wv,e103,oA,oB⟩:=at_T43 jA.out cG p103 q103
        cases e103;replace oA:=(HB.out.cell (World.block_lt_of_cell? w _ oA)).trans oA;replace oB:=(HB.out.cell (World.block_lt_of_cell? w _ oB)).trans oB;replace p103:=eq_true p103;replace q103:=eq_true q103;have DQ:wr.cell? ⟨iI,0,none⟩=some (.slice vU iP.length vV):=(aG iJ.out 0).trans rfl;have DR:wr.cell? ⟨iI,1,none⟩=some (.bool kH):=(aG iJ.out 1).trans rfl;have DS:=aH iJ.out 0;have DT:=aH iJ.out 1;have p104:0≤(cG:Int):=of_decide_eq_true (by first|(with_reducible assumption)|assumption);have q104:cG<(iP.length:Int):=of_decide_eq_true (by first|(with_reducible assumption)|assumption);obtain⟨Ww,e104,oC,oD⟩:=at_T43 Qj.out cG p104 q104
        cases e104;replace oC:=(HB.out.cell (World.block_lt_of_cell? w _ oC)).trans oC;replace oD:=(HB.out.cell (World.block_lt_of_cell? w _ oD)).trans oD;replace p104:=eq_true p104;replace q104:=eq_true q104;go_wp2
        repeat(go_quiet (fail);try go_wp2)
        go_ret
        exact⟨by first|rfl|(simp [errW_none,errW_some]<;>rfl)|(simp [*,errW_none,errW_some]<;>rfl),gW HB.out⟩
       ·rw [if_neg c17] at H
        have vG:(!(((rd_T43 aU cG).f0)==((rd_T43 iP cG).f0))||(!(((rd_T43 aU cG).f1)==((rd_T43 iP cG).f1))))=false:=by simpa using c17
        clear c17;have H':=aM H;clear H;have hnb21:=kO.out;have hnc21:=kP.out;have Mn:wr.cell? ⟨fW,0,none⟩=some (.slice bR aU.length bS):=(aG fC.out 0).trans rfl;have Mo:wr.cell? ⟨fW,1,none⟩=some (.bool iM):=(aG fC.out 1).trans rfl;have Mp:=aH fC.out 0;have Mq:=aH fC.out 1;have p103:0≤(cG:Int):=of_decide_eq_true (by first|(with_reducible assumption)|assumption);have q103:cG<(aU.length:Int):=of_decide_eq_true (by first|(with_reducible assumption)|assumption);obtain⟨Wv,e103,oA,oB⟩:=at_T43 jA.out cG p103 q103
        cases e103;replace oA:=(HB.out.cell (World.block_lt_of_cell? w _ oA)).trans oA;replace oB:=(HB.out.cell (World.block_lt_of_cell? w _ oB)).trans oB;replace p103:=eq_true p103;replace q103:=eq_true q103;have Lp:wr.cell? ⟨iI,0,none⟩=some (.slice vU iP.length vV):=(aG iJ.out 0).trans rfl;have Lq:wr.cell? ⟨iI,1,none⟩=some (.bool kH):=(aG iJ.out 1).trans rfl;have Lr:=aH iJ.out 0;have Ls:=aH iJ.out 1;have p104:0≤(cG:Int):=of_decide_eq_true (by first|(with_reducible assumption)|assumption);have q104:cG<(iP.length:Int):=of_decide_eq_true (by first|(with_reducible assumption)|assumption);obtain⟨Ww,e104,oC,oD⟩:=at_T43 Qj.out cG p104 q104
        cases e104;replace oC:=(HB.out.cell (World.block_lt_of_cell? w _ oC)).trans oC;replace oD:=(HB.out.cell (World.block_lt_of_cell? w _ oD)).trans oD;replace p104:=eq_true p104;replace q104:=eq_true q104;go_wp2
        repeat(go_quiet (fail);try go_wp2)
        go_roundg k2
        case measure=>have:=HJ2.out;have:=HK2.out;omega
        case rel=>exact⟨(wrap64 (cG+1)),(by first|rfl|(simp;done)|(simp [*];done)),H',⟨by have:=HJ2.out;have:=HK2.out;omega⟩,⟨gB fC.out⟩,⟨gB iJ.out⟩,⟨gW HB.out⟩⟩
      ·rw [if_neg c14] at H
       have vR:decide (cG<(aU.length:Int))=false:=decide_eq_false c14;clear c14;obtain rfl:=Option.some.inj H;have hnb24:=kO.out;have hnc24:=kP.out;have Fu:wr.cell? ⟨fW,0,none⟩=some (.slice bR aU.length bS):=(aG fC.out 0).trans rfl;have Fv:wr.cell? ⟨fW,1,none⟩=some (.bool iM):=(aG fC.out 1).trans rfl;have Fw:=aH fC.out 0;have Fx:=aH fC.out 1;go_wp2
       repeat(go_quiet (fail);try go_wp2)
       go_ret
       exact⟨by first|rfl|(simp [errW_none,errW_some]<;>rfl)|(simp [*,errW_none,errW_some]<;>rfl),gW HB.out⟩
def machine_Start.f  :Option ((List (S43))×Bool):=some ((([(⟨false,0⟩:S43)]:List (S43))),false)
set_option maxHeartbeats 8000000 in
set_option maxRecDepth 100000 in
theorem machine_Start.calls  (r1:List (S43)) (r2:Bool) (w:World) (h:machine_Start.f  =some (r1,r2)):
 Calls Try.prog 17 #[] w fun e w'=>∃v0_:Value,e= .returned (.agg #[v0_,.bool r2])∧Kd.R k43 43 w' w.heap.size (fun _=>True) v0_ r1∧Below w.heap.size w w':=by
 have hu31:=Try.underlying31;have hu43:=Try.underlying43;have HB:=aM (Below.refl w.heap.size w);have H:(some ((([(⟨false,0⟩:S43)]:List (S43))),false))=some (r1,r2):=h;clear h;obtain⟨y106,Bp⟩:∃y_:List (S43),y_=(([(⟨false,0⟩:S43)]:List (S43))):=⟨_,rfl⟩;replace H:(some (y106,false))=some (r1,r2):=by first|(rw [Bp];with_reducible exact H)|(have H2_:=(Option.bind_some _ _).symm.trans H;rw [Bp];with_reducible exact H2_)|(have H2_:=(Option.bind_some _ _).symm.trans H;with_reducible exact H2_)|with_reducible exact H|(rw [Bp];exact H)|exact H
 have Qm:=aM Bp;clear Bp;simp only [Option.some.injEq,Prod.mk.injEq] at H;obtain⟨rfl,rfl⟩:=H;go_enter Try.func17,Try.ntmps17
 go_wp2_with (first|((with_reducible refine bJ (N:=0) rfl ?_);refine box_event ?hg (N:=0) ?hd (cs:=#[.slice none 0 0,.bool false]) (t:=31) ?hr ?_;(case hd=>rfl);(case hg=>rfl);(case hr=>first|(go_simp;done)|(go_simp;rfl));intro vW hg w1 hbox hb;have cH:=aM (bG (gW HB.out) hb);have cI:=aM (hbox);have cK:=aM ((by rw [hg];exact(bH (gW HB.out)):w.heap.size≤vW));have cQ:=aM ((by rw [hg];exact(bH (gW HB.out)):w.heap.size≤vW));clear HB;have HB:=cH;have sB:=cI;have GW105:=cK;have Wy:=cQ;clear cH cI cK cQ;clear hb hbox hg)|((with_reducible refine bJ (N:=2) rfl ?_);refine Kd.R_lit k43 _ 43 ?hg (N:=2) ?hd (xs:=([(⟨false,0⟩:S43)]:List (S43))) (inner:= [.bool false,.int .i64 0]) (ok:=fun _=>True) (okp:=fun _=>True) ?hr ?hp (fun _ hk=>hk) trivial (Below.refl _ _) (Nat.le_refl _) (by simp) ?_;(case hd=>rfl);(case hg=>rfl);(case hr=>first|(go_simp;done)|(go_simp;rfl));(case hp=>exact(Reps.c2 (show Kd.M k43 _ _ _ (⟨false,0⟩:S43) [.bool false,.int .i64 0] from(k43_mkM _ _ _ (⟨false,0⟩:S43))) (Reps.none _ _)));intro v107 w2 ho3 hb hg_ hnew_;clear hg_ hnew_;(first|rw [←Qm.out] at ho3|(simp only [Int.reduceToNat] at ho3;rw [←Qm.out] at ho3));have cH:=aM (bL ho3 (bH (gW HB.out)));have cI:=aM (bF (gB sB.out) hb);have cK:=aM (bG (gW HB.out) hb);clear sB;clear HB;have Qn:=cH;have sB:=cI;have HB:=cK;clear cH cI cK;clear hb ho3;obtain⟨GJ,GK,KW⟩:=Kd.R_slice Qn.out;subst KW;have GL:w2.cell? ⟨vW,0,none⟩=some (.slice none 0 0):=(aG sB.out 0).trans rfl;have GM:w2.cell? ⟨vW,1,none⟩=some (.bool false):=(aG sB.out 1).trans rfl;have GN:=aH sB.out 0;have GO:=aH sB.out 1))
 refine bodyPost_ret (results_cell_row rfl _ _ vW 31 #[.slice GJ y106.length GK,.bool false] (0,0) _ rfl (by(with_reducible repeat(first|refine aJ ?_ _|refine aK ?_|refine aI ?_ _));refine blk_put (cs:=#[.slice GJ y106.length GK,.bool false]) ?_ 1 _ rfl;(with_reducible repeat(first|refine aJ ?_ _|refine aK ?_|refine aI ?_ _));refine blk_put (cs:=#[.slice none 0 0,.bool false]) ?_ 0 _ rfl;(with_reducible repeat(first|refine aJ ?_ _|refine aK ?_|refine aI ?_ _));exact sB.out) Try.underlying31 rfl (by kernel_rfl)) rfl ?_
 exact⟨_,by first|rfl|(simp [errW_none,errW_some]<;>rfl)|(simp [*,errW_none,errW_some]<;>rfl),by(with_reducible repeat(first|apply aA|apply aB|apply aC));exact Kd.R_mono (aE (p:=⟨vW,1,none⟩) (aE (p:=⟨vW,0,none⟩) (Kd.R_types Qn.out sB.out (by decide)) (fun _ hk=>hk.2) (.slice GJ y106.length GK)) (fun _ hk=>hk.2) (.bool false)) (fun _ hk=>trivial),by repeat(first|(with_reducible first|exact HB.out|apply aN|apply aP|apply aO|refine aL ?_ Wy.out)|exact HB.out)⟩
def machine_dead.f  :Option ((List (S43))×Bool):=some (([]:List (S43)),true)
set_option maxHeartbeats 8000000 in
set_option maxRecDepth 100000 in
theorem machine_dead.calls  (r1:List (S43)) (r2:Bool) (w:World) (h:machine_dead.f  =some (r1,r2)):
 Calls Try.prog 36 #[] w fun e w'=>∃v0_:Value,e= .returned (.agg #[v0_,.bool r2])∧Kd.R k43 43 w' w.heap.size (fun _=>True) v0_ r1∧Below w.heap.size w w':=by
 have hu31:=Try.underlying31;have HB:=aM (Below.refl w.heap.size w);have H:(some (([]:List (S43)),true))=some (r1,r2):=h;clear h;simp only [Option.some.injEq,Prod.mk.injEq] at H;obtain⟨rfl,rfl⟩:=H;go_enter Try.func36,Try.ntmps36
 go_wp2_with (first|((with_reducible refine bJ (N:=0) rfl ?_);refine box_event ?hg (N:=0) ?hd (cs:=#[.slice none 0 0,.bool false]) (t:=31) ?hr ?_;(case hd=>rfl);(case hg=>rfl);(case hr=>first|(go_simp;done)|(go_simp;rfl));intro Bq hg w1 hbox hb;have cH:=aM (bG (gW HB.out) hb);have cI:=aM (hbox);have cK:=aM ((by rw [hg];exact(bH (gW HB.out)):w.heap.size≤Bq));have cQ:=aM ((by rw [hg];exact(bH (gW HB.out)):w.heap.size≤Bq));clear HB;have HB:=cH;have Br:=cI;have GW110:=cK;have Wz:=cQ;clear cH cI cK cQ;clear hb hbox hg;have GP:w1.cell? ⟨Bq,0,none⟩=some (.slice none 0 0):=(aG Br.out 0).trans rfl;have GQ:w1.cell? ⟨Bq,1,none⟩=some (.bool false):=(aG Br.out 1).trans rfl;have GR:=aH Br.out 0;have GS:=aH Br.out 1))
 refine bodyPost_ret (results_cell_row rfl _ _ Bq 31 #[.slice none 0 0,.bool true] (0,0) _ rfl (by(with_reducible repeat(first|refine aJ ?_ _|refine aK ?_|refine aI ?_ _));refine blk_put (cs:=#[.slice none 0 0,.bool false]) ?_ 1 _ rfl;(with_reducible repeat(first|refine aJ ?_ _|refine aK ?_|refine aI ?_ _));refine blk_put (cs:=#[.slice none 0 0,.bool false]) ?_ 0 _ rfl;(with_reducible repeat(first|refine aJ ?_ _|refine aK ?_|refine aI ?_ _));exact Br.out) Try.underlying31 rfl (by kernel_rfl)) rfl ?_
 exact⟨_,by first|rfl|(simp [errW_none,errW_some]<;>rfl)|(simp [*,errW_none,errW_some]<;>rfl),by first|exact Kd.R_nil _ _ _ _ _|exact Kd.N_nil _ _ _ _ _|exact Kd.V_nil _ _ _ _ _|exact Kd.Q_nil _ _ _ _ _|exact Kd.S_nil _ _ _ _ _,by repeat(first|(with_reducible first|exact HB.out|apply aN|apply aP|apply aO|refine aL ?_ Wz.out)|exact HB.out)⟩
def regletref13_SameInts.l0:Nat→List Int→List Int→Int→Option (Bool)
 |0,_,_,_=>none
 |k+1,x0,x1,x5=>if x5<(x0.length:Int) then(if 0≤x5 then(if x5<(x1.length:Int) then(if(rd x0 x5)=(rd x1 x5) then(regletref13_SameInts.l0 k x0 x1 (wrap64 (x5+1))) else(some false)) else(none)) else(none)) else(some true)
def regletref13_SameInts.f (k:Nat) (l0:List Int) (l1:List Int):Option (Bool):=if(l0.length:Int)=(l1.length:Int) then(regletref13_SameInts.l0 k l0 l1 0) else(some false)
theorem regletref13_SameInts.mono_l:∀k,(∀y0 y1 y2,LeO (regletref13_SameInts.l0 k y0 y1 y2) (regletref13_SameInts.l0 (k+1) y0 y1 y2))
 |0=>fun _ _ _ r h=>by simp [regletref13_SameInts.l0] at h
 |k+1=>by
  have ih0:=regletref13_SameInts.mono_l k
  ·intro y0 y1 y2
   unfold regletref13_SameInts.l0
   repeat' first
   |(with_reducible exact ih0 _ _ _)
   |(with_reducible exact LeO.refl _)
   |(with_reducible exact LeO.none _)
   |(with_reducible refine LeO.ite ?_ ?_)
   |(with_reducible refine LeO.bind ?_ (fun _=>?_))
   |exact ih0 _ _ _
   |exact LeO.none _
   |refine LeO.ite ?_ ?_
   |refine LeO.bind ?_ (fun _=>?_)
theorem regletref13_SameInts.mono:∀a0 a1 k,LeO (regletref13_SameInts.f k a0 a1) (regletref13_SameInts.f (k+1) a0 a1):=by
 intro a0 a1 k;have ih0:=regletref13_SameInts.mono_l k
 unfold regletref13_SameInts.f
 repeat' first
  |(with_reducible exact ih0 _ _ _)
  |(with_reducible exact LeO.refl _)
  |(with_reducible exact LeO.none _)
  |(with_reducible refine LeO.ite ?_ ?_)
  |(with_reducible refine LeO.bind ?_ (fun _=>?_))
  |exact ih0 _ _ _
  |exact LeO.none _
  |refine LeO.ite ?_ ?_
  |refine LeO.bind ?_ (fun _=>?_)
set_option maxHeartbeats 8000000 in
set_option maxRecDepth 100000 in
theorem regletref13_SameInts.calls (k:Nat) (A0:Option Addr) (c0:Nat) (l0:List Int) (A1:Option Addr) (c1:Nat) (l1:List Int) (r:Bool) (w:World) (hr0:Kd.C (Kd.int .i64) w A0 l0.length l0) (hc0:l0.length≤c0) (hr1:Kd.C (Kd.int .i64) w A1 l1.length l1) (hc1:l1.length≤c1) (h:regletref13_SameInts.f k l0 l1=some r):
 Calls Try.prog 24 #[.slice A0 l0.length c0,.slice A1 l1.length c1] w fun e w'=>e= .returned (.bool r)∧Drawn0 w w':=by
 have HR0:=aM hr0;have HC0:=aM hc0;clear hr0 hc0;have HR1:=aM hr1;have HC1:=aM hc1;clear hr1 hc1;have H:(if(l0.length:Int)=(l1.length:Int) then(regletref13_SameInts.l0 k l0 l1 0) else(some false))=some r:=h;clear h
 by_cases c3:(l0.length:Int)=(l1.length:Int)
 ·rw [if_pos c3] at H
  have pM:((l0.length:Int)==(l1.length:Int))=true:=beq_iff_eq.mpr c3;have Xa:((l0.length:Int) !=(l1.length:Int))=false:=bne_eq_false_iff_eq.mpr c3;have Xb:(l0.length==l1.length)=true:=by first|simpa using c3|(simp at c3 ⊢;omega)
  clear c3;have H':=aM H;clear H;go_enter Try.func24,Try.ntmps24
  go_wp2
  repeat(go_quiet (fail);try go_wp2)
  go_loopg [5] k (fun kq v5 w'=>∃(eY:Int),v5= .int .i64 eY∧Aside0 (regletref13_SameInts.l0 kq l0 l1 eY=some r)∧Aside0 (kq≤k)∧Drawn0 w w')
  case atStart=>exact⟨(0),(by first|rfl|(simp;done)|(simp [*];done)),H',⟨Nat.le_refl _⟩,by repeat(first|exact Drawn0.refl _|apply Drawn0.step)⟩
  case round=>
   clear H'
   (try clear c1);(try clear c2);(try clear p2);(try clear c3);(try clear pM);(try clear Xa);(try clear Xb)
   obtain⟨eY,rfl,HA,HK1,⟨m1,rfl⟩⟩:=hrel
   cases gk with
   |zero=>exact absurd HA.out (by simp [regletref13_SameInts.l0])
   |succ k1=>
    have H:=HA.out;clear HA;simp only [regletref13_SameInts.l0] at H
    by_cases c4:eY<(l0.length:Int)
    ·rw [if_pos c4] at H
     have vC:decide (eY<(l0.length:Int))=true:=decide_eq_true c4;clear c4
     by_cases c5:0≤eY
     rotate_left
     ·rw [if_neg c5] at H
      exact absurd H (by simp)
     rw [if_pos c5] at H;have vD:decide (0≤eY)=true:=decide_eq_true c5;clear c5
     by_cases c6:eY<(l1.length:Int)
     rotate_left
     ·rw [if_neg c6] at H
      exact absurd H (by simp)
     rw [if_pos c6] at H;have pR:decide (eY<(l1.length:Int))=true:=decide_eq_true c6;clear c6
     by_cases c7:(rd l0 eY)=(rd l1 eY)
     ·rw [if_pos c7] at H
      have Ml:((rd l0 eY)==(rd l1 eY))=true:=beq_iff_eq.mpr c7;have Mm:((rd l0 eY) !=(rd l1 eY))=false:=bne_eq_false_iff_eq.mpr c7;clear c7;have H':=aM H;clear H;have p143:0≤(eY:Int):=of_decide_eq_true (by first|(with_reducible assumption)|assumption);have q143:eY<(l0.length:Int):=of_decide_eq_true (by first|(with_reducible assumption)|assumption);obtain⟨Xc,e143,Ov⟩:=Kd.at_int HR0.out eY p143 q143
      cases e143;replace p143:=eq_true p143;replace q143:=eq_true q143;have p144:0≤(eY:Int):=of_decide_eq_true (by first|(with_reducible assumption)|assumption);have q144:eY<(l1.length:Int):=of_decide_eq_true (by first|(with_reducible assumption)|assumption);obtain⟨Xd,e144,Ow⟩:=Kd.at_int HR1.out eY p144 q144
      cases e144;replace p144:=eq_true p144;replace q144:=eq_true q144;go_wp2
      repeat(go_quiet (fail);try go_wp2)
      go_roundg k1
      case measure=>have:=HK1.out;omega
      case rel=>exact⟨(wrap64 (eY+1)),(by first|rfl|(simp;done)|(simp [*];done)),H',⟨by have:=HK1.out;omega⟩,by repeat(first|exact Drawn0.refl _|apply Drawn0.step)⟩
     ·rw [if_neg c7] at H
      have Ml:((rd l0 eY)==(rd l1 eY))=false:=beq_eq_false_iff_ne.mpr c7;have Mm:((rd l0 eY) !=(rd l1 eY))=true:=bne_iff_ne.mpr c7;obtain rfl:=Option.some.inj H;have p143:0≤(eY:Int):=of_decide_eq_true (by first|(with_reducible assumption)|assumption);have q143:eY<(l0.length:Int):=of_decide_eq_true (by first|(with_reducible assumption)|assumption);obtain⟨Xc,e143,Ov⟩:=Kd.at_int HR0.out eY p143 q143
      cases e143;replace p143:=eq_true p143;replace q143:=eq_true q143;have p144:0≤(eY:Int):=of_decide_eq_true (by first|(with_reducible assumption)|assumption);have q144:eY<(l1.length:Int):=of_decide_eq_true (by first|(with_reducible assumption)|assumption);obtain⟨Xd,e144,Ow⟩:=Kd.at_int HR1.out eY p144 q144
      cases e144;replace p144:=eq_true p144;replace q144:=eq_true q144;go_wp2
      repeat(go_quiet (fail);try go_wp2)
      go_ret
      exact⟨by first|rfl|(simp;done)|(simp [*];done),by repeat(first|exact Drawn0.refl _|apply Drawn0.step)⟩
    ·rw [if_neg c4] at H
     have vC:decide (eY<(l0.length:Int))=false:=decide_eq_false c4;clear c4;obtain rfl:=Option.some.inj H;go_wp2
     repeat(go_quiet (fail);try go_wp2)
     go_ret
     exact⟨by first|rfl|(simp;done)|(simp [*];done),by repeat(first|exact Drawn0.refl _|apply Drawn0.step)⟩
 ·rw [if_neg c3] at H
  have pM:((l0.length:Int)==(l1.length:Int))=false:=beq_eq_false_iff_ne.mpr c3;have Xa:((l0.length:Int) !=(l1.length:Int))=true:=bne_iff_ne.mpr c3;have Xb:(l0.length==l1.length)=false:=by first|simpa using c3|(simp at c3 ⊢;omega)
  obtain rfl:=Option.some.inj H;go_enter Try.func24,Try.ntmps24
  go_wp2
  repeat(go_quiet (fail);try go_wp2)
  go_ret
  exact⟨by first|rfl|(simp;done)|(simp [*];done),by repeat(first|exact Drawn0.refl _|apply Drawn0.step)⟩
end Go.Proofs.Ytapjfnfengefpaa.P
end

section
namespace Go.Proofs.Ytapjfnfengefpaa.P
open Go.RowKit Go.Proofs.YtapjfnfengefpaaW.PrintWords Go.Proofs.YtapjfnfengefpaaW.PrintLast Go.Proofs.YtapjfnfengefpaaW.PrintMore
set_option linter.unusedVariables false
set_option linter.unusedSimpArgs false
def okSym (nn nt:Nat) (x:S43):Bool:=decide (0≤x.f1) && (if x.f0=true then decide (x.f1<(nt:Int)) else decide (x.f1<(nn:Int)))
def okProd (nn nt:Nat) (x:S35):Bool:=decide (0≤x.f0) && decide (x.f0<(nn:Int)) && x.f1.all (okSym nn nt)
theorem symbols1_any (x:S43) (B:Nat) (W:World) (A0 A1:Option Addr) (n0 n1 c0 c1:Nat)
 (h0:W.cell? ⟨B,0,none⟩=some (.slice A0 n0 c0)) (h1:W.cell? ⟨B,1,none⟩=some (.slice A1 n1 c1)) (hB:B<W.heap.size):
 Calls Try.prog 61 #[.agg #[.bool x.f0,.int .i64 x.f1],.pointer (some ⟨B,0,none⟩)] W fun e w'=>e= .returned (.bool (!okSym n0 n1 x))∧Below W.heap.size W w':=by
 have hne:B≠W.heap.size:=by omega
 obtain⟨b,n⟩:=x
 unfold okSym
 by_cases c0:n<0
 ·have d0:decide (n<0)=true:=decide_eq_true c0
  have d1:decide (0≤n)=false:=decide_eq_false (by omega)
  cases b<;>(go_enter Try.func61,Try.ntmps61;go_wp2;go_ret;exact⟨rfl,(Below.refl _ W).alloc (Nat.le_refl _) _⟩)
 have d0:decide (n<0)=false:=decide_eq_false c0;have d1:decide (0≤n)=true:=decide_eq_true (by omega)
 cases b with
 |true=>
  by_cases c2:(n1:Int)≤n
  ·have d2:decide ((n1:Int)≤n)=true:=decide_eq_true c2
   have d3:decide (n<(n1:Int))=false:=decide_eq_false (by omega);go_enter Try.func61,Try.ntmps61
   go_wp2
   go_ret
   exact⟨rfl,(Below.refl _ W).alloc (Nat.le_refl _) _⟩
  ·have d2:decide ((n1:Int)≤n)=false:=decide_eq_false c2
   have d3:decide (n<(n1:Int))=true:=decide_eq_true (by omega);go_enter Try.func61,Try.ntmps61
   go_wp2
   go_ret
   exact⟨rfl,(Below.refl _ W).alloc (Nat.le_refl _) _⟩
 |false=>
  by_cases c2:(n0:Int)≤n
  ·have d2:decide ((n0:Int)≤n)=true:=decide_eq_true c2
   have d3:decide (n<(n0:Int))=false:=decide_eq_false (by omega);go_enter Try.func61,Try.ntmps61
   go_wp2
   go_ret
   exact⟨rfl,(Below.refl _ W).alloc (Nat.le_refl _) _⟩
  ·have d2:decide ((n0:Int)≤n)=false:=decide_eq_false c2
   have d3:decide (n<(n0:Int))=true:=decide_eq_true (by omega);go_enter Try.func61,Try.ntmps61
   go_wp2
   go_ret
   exact⟨rfl,(Below.refl _ W).alloc (Nat.le_refl _) _⟩
theorem indexSym_any (p:S43→Bool) (g:Nat) (lb:Array Value) (eg:∀args w,(callFunc g args).run Try.prog w= .ok (.enter g args) w) (A:Option Addr) (c:Nat) (zs:List S43) (w:World)
 (hr:Kd.C k43 w A zs.length zs) (hbig:zs.length≤9223372036854775807) (hp:∀(W:World) (x:S43),x∈zs→Below w.heap.size w W→Calls Try.prog g (#[.agg #[.bool x.f0,.int .i64 x.f1]]++lb) W fun e w'=>e= .returned (.bool (p x))∧Below w.heap.size w w'):
 Calls Try.prog 58 #[.slice A zs.length c,.func (.func g) #[] lb] w fun e w'=>(∃n:Int,e= .returned (.int .i64 n)∧Aside0 (decide (0≤n)=zs.any p))∧Below w.heap.size w w':=by
 go_enter Try.func58,Try.ntmps58
 go_wp2
 go_loopg [5,8] zs.length (fun gg _ s8 wr=>∃kk:Nat,kk≤zs.length∧zs.length - kk≤gg∧s8= .int .i64 kk∧Aside0 (Below w.heap.size w wr)∧Aside0 ((zs.take kk).any p=false))
 case atStart=>exact⟨0,Nat.zero_le _,by omega,rfl,⟨Below.refl _ w⟩,⟨by simp⟩⟩
 case round=>
  obtain⟨kk,hkk,hg,rfl,BW,PA⟩:=hrel
  by_cases hlt:kk<zs.length
  ·have hltz:(kk:Int)<(zs.length:Int):=by omega
   have hrd:rd_T43 zs (kk:Int)=zs[kk]:=by simp [rd_T43,hlt]
   obtain⟨ad,e,l0,l1⟩:=at_T43 (bD hr BW.out) (kk:Int) (by omega) (by omega);have hcall:=hp wr zs[kk] (List.getElem_mem hlt) BW.out;rw [hrd,Int.toNat_natCast] at l0 l1;subst e;have PB:Aside0 ((zs.take (kk+1)).any p=p zs[kk]):=⟨by rw [List.take_succ_eq_append_getElem hlt,List.any_append,PA.out];simp⟩
   have PC:Aside0 (zs.any p=(p zs[kk]||(zs.drop (kk+1)).any p)):=⟨by
    conv=>lhs;rw [←List.take_append_drop (kk+1) zs]
    rw [List.any_append,PB.out]⟩
   clear hp hr hrd;generalize zs[kk]=y at l0 l1 hcall PB PC
   cases hq:p y with
   |true=>
    rw [hq] at hcall;have PD:Aside0 (zs.any p=true):=⟨by rw [PC.out,hq];simp⟩;clear PA PB PC hq
    go_wp2_with (go_at_fn g;refine hcall.mono ?_;rintro e w' ⟨rfl,hb'⟩)
    go_ret
    exact⟨⟨_,rfl,⟨by rw [PD.out];simp⟩⟩,hb'⟩
   |false=>
    rw [hq] at hcall;have PD:Aside0 ((zs.take (kk+1)).any p=false):=⟨by rw [PB.out,hq]⟩;clear PA PB PC hq
    go_wp2_with (go_at_fn g;refine hcall.mono ?_;rintro e w' ⟨rfl,hb'⟩)
    go_roundg (zs.length - (kk+1))
    case measure=>omega
    case rel=>exact⟨kk+1,by omega,by omega,by go_num,⟨hb'⟩,PD⟩
  ·have hltz:¬(kk:Int)<(zs.length:Int):=by omega
   have:kk=zs.length:=by omega
   subst this;have PD:Aside0 (zs.any p=false):=⟨by have:=PA.out;rwa [List.take_length] at this⟩;clear PA hp hr;go_wp2
   go_ret
   exact⟨⟨-1,rfl,⟨by rw [PD.out];simp⟩⟩,BW.out⟩
theorem containsSym_any (p:S43→Bool) (g:Nat) (lb:Array Value) (eg:∀args w,(callFunc g args).run Try.prog w= .ok (.enter g args) w) (A:Option Addr) (c:Nat) (zs:List S43) (w:World)
 (hr:Kd.C k43 w A zs.length zs) (hbig:zs.length≤9223372036854775807) (hp:∀(W:World) (x:S43),x∈zs→Below w.heap.size w W→Calls Try.prog g (#[.agg #[.bool x.f0,.int .i64 x.f1]]++lb) W fun e w'=>e= .returned (.bool (p x))∧Below w.heap.size w w'):
 Calls Try.prog 51 #[.slice A zs.length c,.func (.func g) #[] lb] w fun e w'=>e= .returned (.bool (zs.any p))∧Below w.heap.size w w':=by
 have hcon:=indexSym_any p g lb eg A c zs w hr hbig hp;have e6:∀args w,(callFunc 58 args).run Try.prog w= .ok (.enter 58 args) w:=enters_of Try.func58 (by kernel_rfl) rfl;clear hp hr;go_enter Try.func51,Try.ntmps51
 go_wp2_with (go_at_fn 58;refine hcon.mono ?_;rintro e w' ⟨⟨nn_,rfl,hn_⟩,hb'⟩)
 go_ret
 exact⟨by rw [←hn_.out];rfl,hb'⟩
theorem any_not {α:Type}(p:α→Bool) (l:List α):(!l.any fun x=>!p x)=l.all p:=by
 induction l with
 |nil=>rfl
 |cons a l ih=>simp only [List.any_cons,List.all_cons,←ih];cases p a<;>simp
def firsts_symbols.f (aU:List ByteArray) (aX:List (S72)) (bB:Int) (bK:Int) (aQ:List (S35)) (l1:List (S43)):Option Bool:=if l1.length≤9223372036854775807 then some (l1.all (okSym aU.length aX.length)) else none
theorem firsts_symbols.calls (bR:Option Addr) (bS:Nat) (aU:List ByteArray) (bU:Option Addr) (bV:Nat) (aX:List (S72)) (bB:Int) (bK:Int) (cC:Option Addr) (bX:Nat) (aQ:List (S35)) (A1:Option Addr) (c1:Nat) (l1:List (S43)) (r:Bool) (w:World)
 (dX:Kd.C Kd.string w bR aU.length aU) (dZ:aU.length≤bS) (eB:Kd.C k72 w bU aX.length aX) (eH:aX.length≤bV) (dY:Kd.C k35 w cC aQ.length aQ) (eJ:aQ.length≤bX) (hr1:Kd.C k43 w A1 l1.length l1) (hc1:l1.length≤c1)
 (h:firsts_symbols.f aU aX bB bK aQ l1=some r):
 Calls Try.prog 56 #[.agg #[.slice bR aU.length bS,.slice bU aX.length bV,.int .i64 bB,.int .i64 bK,.slice cC aQ.length bX],.slice A1 l1.length c1] w fun e w'=>e= .returned (.bool r)∧Below w.heap.size w w':=by
 unfold firsts_symbols.f at h
 split at h
 case isFalse=>simp at h
 rename_i hbig
 obtain rfl:=Option.some.inj h;clear h;have eg:∀args w,(callFunc 61 args).run Try.prog w= .ok (.enter 61 args) w:=enters_of Try.func61 (by kernel_rfl) rfl;have e6:∀args w,(callFunc 51 args).run Try.prog w= .ok (.enter 51 args) w:=enters_of Try.func51 (by kernel_rfl) rfl;have HW:Aside0 (Below w.heap.size w (w.alloc (.cells #[.slice bR aU.length bS,.slice bU aX.length bV,.int .i64 bB,.int .i64 bK,.slice cC aQ.length bX] 26))):=⟨(Below.refl _ w).alloc (Nat.le_refl _) _⟩
 have hcon:=containsSym_any (fun x=>!okSym aU.length aX.length x) 61 #[.pointer (some ⟨w.heap.size,0,none⟩)] eg A1 c1 l1 (w.alloc (.cells #[.slice bR aU.length bS,.slice bU aX.length bV,.int .i64 bB,.int .i64 bK,.slice cC aQ.length bX] 26)) (bD hr1 HW.out) hbig (fun W x _ hb=>by
  have hlt:w.heap.size<(w.alloc (.cells #[.slice bR aU.length bS,.slice bU aX.length bV,.int .i64 bB,.int .i64 bK,.slice cC aQ.length bX] 26)).heap.size:=by simp
  refine(symbols1_any x w.heap.size W bR bU aU.length aX.length bS bV ?_ ?_ (Nat.lt_of_lt_of_le hlt hb.size)).mono ?_
  ·exact(hb.cell (p:=⟨w.heap.size,0,none⟩) hlt).trans (by simp)
  ·exact(hb.cell (p:=⟨w.heap.size,1,none⟩) hlt).trans (by simp)
  ·rintro e w' ⟨he,hb'⟩
   exact⟨he,hb.trans (hb'.mono hb.size)⟩)
 clear dX eB dY hr1;rw [←any_not];generalize (l1.any fun x=>!okSym aU.length aX.length x)=rr at hcon ⊢;go_enter Try.func56,Try.ntmps56
 go_wp2_with (go_at_fn 51;refine hcon.mono ?_;rintro e w' ⟨rfl,hb'⟩)
 go_ret
 exact⟨rfl,HW.out.trans (hb'.mono (by simp))⟩
theorem indexProd_any (p:S35→Bool) (g:Nat) (lb:Array Value) (eg:∀args w,(callFunc g args).run Try.prog w= .ok (.enter g args) w) (A:Option Addr) (c:Nat) (zs:List S35) (w:World)
 (hr:Kd.C k35 w A zs.length zs) (hbig:zs.length≤9223372036854775807) (hp:∀(W:World) (x:S35) (A1:Option Addr) (c1:Nat),x∈zs→Below w.heap.size w W→x.f1.length≤c1→Kd.C k43 W A1 x.f1.length x.f1→Calls Try.prog g (#[.agg #[.int .i64 x.f0,.slice A1 x.f1.length c1]]++lb) W fun e w'=>e= .returned (.bool (p x))∧Below w.heap.size w w'):
 Calls Try.prog 60 #[.slice A zs.length c,.func (.func g) #[] lb] w fun e w'=>(∃n:Int,e= .returned (.int .i64 n)∧Aside0 (decide (0≤n)=zs.any p))∧Below w.heap.size w w':=by
 go_enter Try.func60,Try.ntmps60
 go_wp2
 go_loopg [5,8] zs.length (fun gg _ s8 wr=>∃kk:Nat,kk≤zs.length∧zs.length - kk≤gg∧s8= .int .i64 kk∧Aside0 (Below w.heap.size w wr)∧Aside0 ((zs.take kk).any p=false))
 case atStart=>exact⟨0,Nat.zero_le _,by omega,rfl,⟨Below.refl _ w⟩,⟨by simp⟩⟩
 case round=>
  obtain⟨kk,hkk,hg,rfl,BW,PA⟩:=hrel
  by_cases hlt:kk<zs.length
  ·have hltz:(kk:Int)<(zs.length:Int):=by omega
   have hrd:rd_T35 zs (kk:Int)=zs[kk]:=by simp [rd_T35,hlt]
   obtain⟨ad,A1,c1,e,l0,l1,hle1,hC1⟩:=at_T35 (bD hr BW.out) (kk:Int) (by omega) (by omega);have hcall:=hp wr zs[kk] A1 c1 (List.getElem_mem hlt) BW.out (by rw [←hrd];exact hle1) (by rw [←hrd];exact hC1);rw [hrd,Int.toNat_natCast] at l0 l1;subst e;have PB:Aside0 ((zs.take (kk+1)).any p=p zs[kk]):=⟨by rw [List.take_succ_eq_append_getElem hlt,List.any_append,PA.out];simp⟩
   have PC:Aside0 (zs.any p=(p zs[kk]||(zs.drop (kk+1)).any p)):=⟨by
    conv=>lhs;rw [←List.take_append_drop (kk+1) zs]
    rw [List.any_append,PB.out]⟩
   clear hp hr hrd hle1 hC1;generalize zs[kk]=y at l0 l1 hcall PB PC
   cases hq:p y with
   |true=>
    rw [hq] at hcall;have PD:Aside0 (zs.any p=true):=⟨by rw [PC.out,hq];simp⟩;clear PA PB PC hq
    go_wp2_with (go_at_fn g;refine hcall.mono ?_;rintro e w' ⟨rfl,hb'⟩)
    go_ret
    exact⟨⟨_,rfl,⟨by rw [PD.out];simp⟩⟩,hb'⟩
   |false=>
    rw [hq] at hcall;have PD:Aside0 ((zs.take (kk+1)).any p=false):=⟨by rw [PB.out,hq]⟩;clear PA PB PC hq
    go_wp2_with (go_at_fn g;refine hcall.mono ?_;rintro e w' ⟨rfl,hb'⟩)
    go_roundg (zs.length - (kk+1))
    case measure=>omega
    case rel=>exact⟨kk+1,by omega,by omega,by go_num,⟨hb'⟩,PD⟩
  ·have hltz:¬(kk:Int)<(zs.length:Int):=by omega
   have:kk=zs.length:=by omega
   subst this;have PD:Aside0 (zs.any p=false):=⟨by have:=PA.out;rwa [List.take_length] at this⟩;clear PA hp hr;go_wp2
   go_ret
   exact⟨⟨-1,rfl,⟨by rw [PD.out];simp⟩⟩,BW.out⟩
theorem containsProd_any (p:S35→Bool) (g:Nat) (lb:Array Value) (eg:∀args w,(callFunc g args).run Try.prog w= .ok (.enter g args) w) (A:Option Addr) (c:Nat) (zs:List S35) (w:World)
 (hr:Kd.C k35 w A zs.length zs) (hbig:zs.length≤9223372036854775807) (hp:∀(W:World) (x:S35) (A1:Option Addr) (c1:Nat),x∈zs→Below w.heap.size w W→x.f1.length≤c1→Kd.C k43 W A1 x.f1.length x.f1→Calls Try.prog g (#[.agg #[.int .i64 x.f0,.slice A1 x.f1.length c1]]++lb) W fun e w'=>e= .returned (.bool (p x))∧Below w.heap.size w w'):
 Calls Try.prog 54 #[.slice A zs.length c,.func (.func g) #[] lb] w fun e w'=>e= .returned (.bool (zs.any p))∧Below w.heap.size w w':=by
 have hcon:=indexProd_any p g lb eg A c zs w hr hbig hp;have e6:∀args w,(callFunc 60 args).run Try.prog w= .ok (.enter 60 args) w:=enters_of Try.func60 (by kernel_rfl) rfl;clear hp hr;go_enter Try.func54,Try.ntmps54
 go_wp2_with (go_at_fn 60;refine hcon.mono ?_;rintro e w' ⟨⟨nn_,rfl,hn_⟩,hb'⟩)
 go_ret
 exact⟨by rw [←hn_.out];rfl,hb'⟩
theorem Right1_any (x:S35) (A1:Option Addr) (c1:Nat) (B:Nat) (W:World) (bR:Option Addr) (bS:Nat) (aU:List ByteArray) (bU:Option Addr) (bV:Nat) (aX:List (S72)) (bB:Int) (bK:Int) (cC:Option Addr) (bX:Nat) (aQ:List (S35))
 (dX:Kd.C Kd.string W bR aU.length aU) (dZ:aU.length≤bS) (eB:Kd.C k72 W bU aX.length aX) (eH:aX.length≤bV) (dY:Kd.C k35 W cC aQ.length aQ) (eJ:aQ.length≤bX)
 (hb:W.heap[B]?=some (.cells #[.slice bR aU.length bS,.slice bU aX.length bV,.int .i64 bB,.int .i64 bK,.slice cC aQ.length bX] 26 (0,0)))
 (hle:x.f1.length≤c1) (hbig:x.f1.length≤9223372036854775807) (hC:Kd.C k43 W A1 x.f1.length x.f1):
 Calls Try.prog 55 #[.agg #[.int .i64 x.f0,.slice A1 x.f1.length c1],.pointer (some ⟨B,0,none⟩)] W fun e w'=>e= .returned (.bool (!okProd aU.length aX.length x))∧Below W.heap.size W w':=by
 have hB:=bN hb;have hne:B≠W.heap.size:=by omega
 have q0:W.cell? ⟨B,0,none⟩=some (.slice bR aU.length bS):=(aG hb 0).trans rfl;have q1:W.cell? ⟨B,1,none⟩=some (.slice bU aX.length bV):=(aG hb 1).trans rfl;have q2:W.cell? ⟨B,2,none⟩=some (.int .i64 bB):=(aG hb 2).trans rfl;have q3:W.cell? ⟨B,3,none⟩=some (.int .i64 bK):=(aG hb 3).trans rfl;have q4:W.cell? ⟨B,4,none⟩=some (.slice cC aQ.length bX):=(aG hb 4).trans rfl;clear hb;obtain⟨n,l⟩:=x;simp only at hle hbig hC ⊢
 have hcon:=firsts_symbols.calls bR bS aU bU bV aX bB bK cC bX aQ A1 c1 l (l.all (okSym aU.length aX.length)) (W.alloc (.cells #[.int .i64 n,.slice A1 l.length c1] 35))
  (bD dX ((Below.refl _ W).alloc (Nat.le_refl _) _)) dZ (bD eB ((Below.refl _ W).alloc (Nat.le_refl _) _)) eH (bD dY ((Below.refl _ W).alloc (Nat.le_refl _) _)) eJ (bD hC ((Below.refl _ W).alloc (Nat.le_refl _) _)) hle (by unfold firsts_symbols.f;rw [if_pos hbig])
 unfold okProd
 generalize l.all (okSym aU.length aX.length)=rr at hcon ⊢;clear dX eB dY hC
 by_cases d0:n<0
 ·have e0:decide (n<0)=true:=decide_eq_true d0
  have e1:decide (0≤n)=false:=decide_eq_false (by omega);go_enter Try.func55,Try.ntmps55
  go_wp2
  go_ret
  exact⟨by first|rfl|(rw [e1];rfl),(Below.refl _ W).alloc (Nat.le_refl _) _⟩
 ·have e0:decide (n<0)=false:=decide_eq_false d0
  have e1:decide (0≤n)=true:=decide_eq_true (by omega)
  by_cases d2:(aU.length:Int)≤n
  ·have e2:decide ((aU.length:Int)≤n)=true:=decide_eq_true d2
   have e3:decide (n<(aU.length:Int))=false:=decide_eq_false (by omega);go_enter Try.func55,Try.ntmps55
   go_wp2
   go_ret
   exact⟨by first|rfl|(rw [e1,e3];rfl),(Below.refl _ W).alloc (Nat.le_refl _) _⟩
  ·have e2:decide ((aU.length:Int)≤n)=false:=decide_eq_false d2
   have e3:decide (n<(aU.length:Int))=true:=decide_eq_true (by omega);go_enter Try.func55,Try.ntmps55
   go_wp2_with (go_at_call 56;refine hcon.mono ?_;rintro e w' ⟨rfl,hb'⟩)
   go_ret
   exact⟨by first|(rw [e1,e3];simp;done)|simp,((Below.refl _ W).alloc (Nat.le_refl _) _).trans (hb'.mono (by simp))⟩
def firsts_Right.f (aU:List ByteArray) (aX:List (S72)) (bB:Int) (bK:Int) (aQ:List (S35)):Option Bool:=if aQ.length≤9223372036854775807∧aQ.all (fun p=>decide (p.f1.length≤9223372036854775807))=true then some (aQ.all (okProd aU.length aX.length)) else none
theorem firsts_Right.calls (bR:Option Addr) (bS:Nat) (aU:List ByteArray) (bU:Option Addr) (bV:Nat) (aX:List (S72)) (bB:Int) (bK:Int) (cC:Option Addr) (bX:Nat) (aQ:List (S35)) (r:Bool) (w:World)
 (dX:Kd.C Kd.string w bR aU.length aU) (dZ:aU.length≤bS) (eB:Kd.C k72 w bU aX.length aX) (eH:aX.length≤bV) (dY:Kd.C k35 w cC aQ.length aQ) (eJ:aQ.length≤bX)
 (h:firsts_Right.f aU aX bB bK aQ=some r):
 Calls Try.prog 39 #[.agg #[.slice bR aU.length bS,.slice bU aX.length bV,.int .i64 bB,.int .i64 bK,.slice cC aQ.length bX]] w fun e w'=>e= .returned (.bool r)∧Below w.heap.size w w':=by
 unfold firsts_Right.f at h
 split at h
 case isFalse=>simp at h
 rename_i hbig
 obtain⟨hbig,hrow⟩:=hbig;obtain rfl:=Option.some.inj h;clear h;have eg:∀args w,(callFunc 55 args).run Try.prog w= .ok (.enter 55 args) w:=enters_of Try.func55 (by kernel_rfl) rfl;have e6:∀args w,(callFunc 54 args).run Try.prog w= .ok (.enter 54 args) w:=enters_of Try.func54 (by kernel_rfl) rfl;have HW:Aside0 (Below w.heap.size w (w.alloc (.cells #[.slice bR aU.length bS,.slice bU aX.length bV,.int .i64 bB,.int .i64 bK,.slice cC aQ.length bX] 26))):=⟨(Below.refl _ w).alloc (Nat.le_refl _) _⟩
 have hcon:=containsProd_any (fun x=>!okProd aU.length aX.length x) 55 #[.pointer (some ⟨w.heap.size,0,none⟩)] eg cC bX aQ (w.alloc (.cells #[.slice bR aU.length bS,.slice bU aX.length bV,.int .i64 bB,.int .i64 bK,.slice cC aQ.length bX] 26)) (bD dY HW.out) hbig (fun W x A1 c1 hx hb hle hC=>by
  have hlt:w.heap.size<(w.alloc (.cells #[.slice bR aU.length bS,.slice bU aX.length bV,.int .i64 bB,.int .i64 bK,.slice cC aQ.length bX] 26)).heap.size:=by simp
  have hall:=HW.out.trans (hb.mono (by simp));refine(Right1_any x A1 c1 w.heap.size W bR bS aU bU bV aX bB bK cC bX aQ (bD dX hall) dZ (bD eB hall) eH (bD dY hall) eJ ((hb.block _ hlt).trans (by simpa using heap_alloc_new w _)) hle (of_decide_eq_true (List.all_eq_true.1 hrow x hx)) hC).mono ?_
  rintro e w' ⟨he,hb'⟩
  exact⟨he,hb.trans (hb'.mono hb.size)⟩)
 clear dX eB dY;rw [←any_not];generalize (aQ.any fun x=>!okProd aU.length aX.length x)=rr at hcon ⊢;go_enter Try.func39,Try.ntmps39
 go_wp2_with (go_at_fn 54;refine hcon.mono ?_;rintro e w' ⟨rfl,hb'⟩)
 go_ret
 exact⟨rfl,HW.out.trans (hb'.mono (by simp))⟩
theorem indexInt_any (p:Int→Bool) (g:Nat) (lb:Array Value) (eg:∀args w,(callFunc g args).run Try.prog w= .ok (.enter g args) w) (A:Option Addr) (c:Nat) (zs:List Int) (w:World)
 (hr:Kd.C (Kd.int .i64) w A zs.length zs) (hbig:zs.length≤9223372036854775807) (hp:∀(W:World) (x:Int),x∈zs→Below w.heap.size w W→Calls Try.prog g (#[.int .i64 x]++lb) W fun e w'=>e= .returned (.bool (p x))∧Below w.heap.size w w'):
 Calls Try.prog 57 #[.slice A zs.length c,.func (.func g) #[] lb] w fun e w'=>(∃n:Int,e= .returned (.int .i64 n)∧Aside0 (decide (0≤n)=zs.any p))∧Below w.heap.size w w':=by
 go_enter Try.func57,Try.ntmps57
 go_wp2
 go_loopg [5,8] zs.length (fun gg _ s8 wr=>∃kk:Nat,kk≤zs.length∧zs.length - kk≤gg∧s8= .int .i64 kk∧Aside0 (Below w.heap.size w wr)∧Aside0 ((zs.take kk).any p=false))
 case atStart=>exact⟨0,Nat.zero_le _,by omega,rfl,⟨Below.refl _ w⟩,⟨by simp⟩⟩
 case round=>
  obtain⟨kk,hkk,hg,rfl,BW,PA⟩:=hrel
  by_cases hlt:kk<zs.length
  ·have hltz:(kk:Int)<(zs.length:Int):=by omega
   have hrd:rd zs (kk:Int)=zs[kk]:=by simp [rd,hlt]
   obtain⟨ad,e,l0⟩:=Kd.at_int (bD hr BW.out) (kk:Int) (by omega) (by omega);have hcall:=hp wr zs[kk] (List.getElem_mem hlt) BW.out;rw [hrd,Int.toNat_natCast] at l0;subst e;have PB:Aside0 ((zs.take (kk+1)).any p=p zs[kk]):=⟨by rw [List.take_succ_eq_append_getElem hlt,List.any_append,PA.out];simp⟩
   have PC:Aside0 (zs.any p=(p zs[kk]||(zs.drop (kk+1)).any p)):=⟨by
    conv=>lhs;rw [←List.take_append_drop (kk+1) zs]
    rw [List.any_append,PB.out]⟩
   clear hp hr hrd;generalize zs[kk]=y at l0 hcall PB PC
   cases hq:p y with
   |true=>
    rw [hq] at hcall;have PD:Aside0 (zs.any p=true):=⟨by rw [PC.out,hq];simp⟩;clear PA PB PC hq
    go_wp2_with (go_at_fn g;refine hcall.mono ?_;rintro e w' ⟨rfl,hb'⟩)
    go_ret
    exact⟨⟨_,rfl,⟨by rw [PD.out];simp⟩⟩,hb'⟩
   |false=>
    rw [hq] at hcall;have PD:Aside0 ((zs.take (kk+1)).any p=false):=⟨by rw [PB.out,hq]⟩;clear PA PB PC hq
    go_wp2_with (go_at_fn g;refine hcall.mono ?_;rintro e w' ⟨rfl,hb'⟩)
    go_roundg (zs.length - (kk+1))
    case measure=>omega
    case rel=>exact⟨kk+1,by omega,by omega,by go_num,⟨hb'⟩,PD⟩
  ·have hltz:¬(kk:Int)<(zs.length:Int):=by omega
   have:kk=zs.length:=by omega
   subst this;have PD:Aside0 (zs.any p=false):=⟨by have:=PA.out;rwa [List.take_length] at this⟩;clear PA hp hr;go_wp2
   go_ret
   exact⟨⟨-1,rfl,⟨by rw [PD.out];simp⟩⟩,BW.out⟩
theorem containsInt_any (p:Int→Bool) (g:Nat) (lb:Array Value) (eg:∀args w,(callFunc g args).run Try.prog w= .ok (.enter g args) w) (A:Option Addr) (c:Nat) (zs:List Int) (w:World)
 (hr:Kd.C (Kd.int .i64) w A zs.length zs) (hbig:zs.length≤9223372036854775807) (hp:∀(W:World) (x:Int),x∈zs→Below w.heap.size w W→Calls Try.prog g (#[.int .i64 x]++lb) W fun e w'=>e= .returned (.bool (p x))∧Below w.heap.size w w'):
 Calls Try.prog 41 #[.slice A zs.length c,.func (.func g) #[] lb] w fun e w'=>e= .returned (.bool (zs.any p))∧Below w.heap.size w w':=by
 have hcon:=indexInt_any p g lb eg A c zs w hr hbig hp;have e6:∀args w,(callFunc 57 args).run Try.prog w= .ok (.enter 57 args) w:=enters_of Try.func57 (by kernel_rfl) rfl;clear hp hr;go_enter Try.func41,Try.ntmps41
 go_wp2_with (go_at_fn 57;refine hcon.mono ?_;rintro e w' ⟨⟨nn_,rfl,hn_⟩,hb'⟩)
 go_ret
 exact⟨by rw [←hn_.out];rfl,hb'⟩
def okEnt (ps:List S35) (r p:Int):Bool:=decide (-1≤p) && decide (p<(ps.length:Int)) && (decide (p<0)||decide ((rd_T35 ps p).f0=r))
theorem mright1_any (p r:Int) (ps:List S35) (SB RB:Nat) (W:World) (A4:Option Addr) (c4:Nat) (hp:Kd.C k35 W A4 ps.length ps)
 (hS:W.cell? ⟨SB,4,none⟩=some (.slice A4 ps.length c4)) (hr:W.cell? ⟨RB,0,none⟩=some (.int .i64 r)):
 Calls Try.prog 40 #[.int .i64 p,.pointer (some ⟨SB,0,none⟩),.pointer (some ⟨RB,0,none⟩)] W fun e w'=>e= .returned (.bool (!okEnt ps r p))∧Below W.heap.size W w':=by
 have h4:=aM hS;have hR:=aM hr
 unfold okEnt
 by_cases c0:p< -1
 ·have d0:decide (p< -1)=true:=decide_eq_true c0
  have d1:decide (-1≤p)=false:=decide_eq_false (by omega);rw [d1];generalize ps.length=n4 at h4;clear hp hS hr;go_enter Try.func40,Try.ntmps40
  go_upto_region 1 with fail
  refine start_ (n:=24) (S:=fun w'=>w'.cell? ⟨SB,4,none⟩=some (.slice A4 n4 c4)) (ds:= []) #[F,F,F,F,F,F,F,F,F,F,F,F,F,F,F,F,F,F,F,F,F,F,F,F] (by kernel_rfl) rfl rfl (h4.out) (fun hHeld=>?_)
  refine pure_ (i:=0) (N:=some 5) (v:=?_) (a':=?_) #[T,F,F,F,F,F,F,F,F,F,F,F,F,F,F,F,F,F,F,F,F,F,F,F] rfl rfl (by kernel_rfl) (fun _ _ _ h=>h) (Or.inl ⟨by rfl,?_⟩) ?_ ?_
  rotate_left;(intro w';go_simp;with_reducible rfl);rotate_left;(simp only [pq];rfl)
  refine pure_ (i:=1) (N:=some 6) (v:=?_) (a':=?_) #[T,T,F,F,F,F,F,F,F,F,F,F,F,F,F,F,F,F,F,F,F,F,F,F] rfl rfl (by kernel_rfl) (fun _ _ _ h=>h) (Or.inl ⟨by rfl,?_⟩) ?_ ?_
  rotate_left;(intro w';go_simp;with_reducible rfl);rotate_left;(simp only [pq];rfl)
  refine pure_ (i:=2) (N:=some 7) (v:=?_) (a':=?_) #[T,T,T,F,F,F,F,F,F,F,F,F,F,F,F,F,F,F,F,F,F,F,F,F] rfl rfl (by kernel_rfl) (fun _ _ _ h=>h) (Or.inl ⟨by rfl,?_⟩) ?_ ?_
  rotate_left;(intro w';go_simp;with_reducible rfl);rotate_left;(simp only [pq];rfl)
  refine pure_ (i:=3) (N:=some 8) (v:=undef) (a':=?_) #[T,T,T,T,F,F,F,F,F,F,F,F,F,F,F,F,F,F,F,F,F,F,F,F] rfl rfl (by kernel_rfl) (fun _ _ _ h=>h) (Or.inr ⟨by rfl,rfl⟩) ?_ ?_
  rotate_left
  ·simp only [pq]
   rfl
  refine pure_ (i:=4) (N:=some 9) (v:=undef) (a':=?_) #[T,T,T,T,T,F,F,F,F,F,F,F,F,F,F,F,F,F,F,F,F,F,F,F] rfl rfl (by kernel_rfl) (fun _ _ _ h=>h) (Or.inr ⟨by rfl,rfl⟩) ?_ ?_
  rotate_left
  ·simp only [pq]
   rfl
  refine pure_ (i:=5) (N:=some 10) (v:=undef) (a':=?_) #[T,T,T,T,T,T,F,F,F,F,F,F,F,F,F,F,F,F,F,F,F,F,F,F] rfl rfl (by kernel_rfl) (fun _ _ _ h=>h) (Or.inr ⟨by rfl,rfl⟩) ?_ ?_
  rotate_left
  ·simp only [pq]
   rfl
  refine pure_ (i:=6) (N:=some 11) (v:=undef) (a':=?_) #[T,T,T,T,T,T,T,F,F,F,F,F,F,F,F,F,F,F,F,F,F,F,F,F] rfl rfl (by kernel_rfl) (fun _ _ _ h=>h) (Or.inr ⟨by rfl,rfl⟩) ?_ ?_
  rotate_left
  ·simp only [pq]
   rfl
  refine pure_ (i:=7) (N:=some 12) (v:=undef) (a':=?_) #[T,T,T,T,T,T,T,T,F,F,F,F,F,F,F,F,F,F,F,F,F,F,F,F] rfl rfl (by kernel_rfl) (fun _ _ _ h=>h) (Or.inr ⟨by rfl,rfl⟩) ?_ ?_
  rotate_left
  ·simp only [pq]
   rfl
  refine pure_ (i:=8) (N:=some 13) (v:=?_) (a':=?_) #[T,T,T,T,T,T,T,T,T,F,F,F,F,F,F,F,F,F,F,F,F,F,F,F] rfl rfl (by kernel_rfl) (fun _ _ _ h=>h) (Or.inl ⟨by rfl,?_⟩) ?_ ?_
  rotate_left;(intro w';go_simp;with_reducible rfl);rotate_left;(simp only [pq];rfl)
  refine pure_ (i:=9) (N:=some 14) (v:=?_) (a':=?_) #[T,T,T,T,T,T,T,T,T,T,F,F,F,F,F,F,F,F,F,F,F,F,F,F] rfl rfl (by kernel_rfl) (fun _ _ _ h=>h) (Or.inl ⟨by rfl,?_⟩) ?_ ?_
  rotate_left;(intro w';go_simp;with_reducible rfl);rotate_left;(simp only [pq];rfl)
  refine pure_ (i:=10) (N:=some 15) (v:=undef) (a':=?_) #[T,T,T,T,T,T,T,T,T,T,T,F,F,F,F,F,F,F,F,F,F,F,F,F] rfl rfl (by kernel_rfl) (fun _ _ _ h=>h) (Or.inr ⟨by rfl,rfl⟩) ?_ ?_
  rotate_left
  ·simp only [pq]
   rfl
  refine pure_ (i:=11) (N:=some 16) (v:=undef) (a':=?_) #[T,T,T,T,T,T,T,T,T,T,T,T,F,F,F,F,F,F,F,F,F,F,F,F] rfl rfl (by kernel_rfl) (fun _ _ _ h=>h) (Or.inr ⟨by rfl,rfl⟩) ?_ ?_
  rotate_left
  ·simp only [pq]
   rfl
  refine pure_ (i:=12) (N:=some 17) (v:=undef) (a':=?_) #[T,T,T,T,T,T,T,T,T,T,T,T,T,F,F,F,F,F,F,F,F,F,F,F] rfl rfl (by kernel_rfl) (fun _ _ _ h=>h) (Or.inr ⟨by rfl,rfl⟩) ?_ ?_
  rotate_left
  ·simp only [pq]
   rfl
  refine pure_ (i:=13) (N:=some 18) (v:=undef) (a':=?_) #[T,T,T,T,T,T,T,T,T,T,T,T,T,T,F,F,F,F,F,F,F,F,F,F] rfl rfl (by kernel_rfl) (fun _ _ _ h=>h) (Or.inr ⟨by rfl,rfl⟩) ?_ ?_
  rotate_left
  ·simp only [pq]
   rfl
  refine pure_ (i:=14) (N:=some 19) (v:=undef) (a':=?_) #[T,T,T,T,T,T,T,T,T,T,T,T,T,T,T,F,F,F,F,F,F,F,F,F] rfl rfl (by kernel_rfl) (fun _ _ _ h=>h) (Or.inr ⟨by rfl,rfl⟩) ?_ ?_
  rotate_left
  ·simp only [pq]
   rfl
  refine pure_ (i:=15) (N:=some 20) (v:=undef) (a':=?_) #[T,T,T,T,T,T,T,T,T,T,T,T,T,T,T,T,F,F,F,F,F,F,F,F] rfl rfl (by kernel_rfl) (fun _ _ _ h=>h) (Or.inr ⟨by rfl,rfl⟩) ?_ ?_
  rotate_left
  ·simp only [pq]
   rfl
  refine pure_ (i:=16) (N:=some 21) (v:=undef) (a':=?_) #[T,T,T,T,T,T,T,T,T,T,T,T,T,T,T,T,T,F,F,F,F,F,F,F] rfl rfl (by kernel_rfl) (fun _ _ _ h=>h) (Or.inr ⟨by rfl,rfl⟩) ?_ ?_
  rotate_left
  ·simp only [pq]
   rfl
  refine pure_ (i:=17) (N:=some 22) (v:=undef) (a':=?_) #[T,T,T,T,T,T,T,T,T,T,T,T,T,T,T,T,T,T,F,F,F,F,F,F] rfl rfl (by kernel_rfl) (fun _ _ _ h=>h) (Or.inr ⟨by rfl,rfl⟩) ?_ ?_
  rotate_left
  ·simp only [pq]
   rfl
  refine pure_ (i:=18) (N:=some 23) (v:=undef) (a':=?_) #[T,T,T,T,T,T,T,T,T,T,T,T,T,T,T,T,T,T,T,F,F,F,F,F] rfl rfl (by kernel_rfl) (fun _ _ _ h=>h) (Or.inr ⟨by rfl,rfl⟩) ?_ ?_
  rotate_left
  ·simp only [pq]
   rfl
  refine pure_ (i:=19) (N:=some 24) (v:=undef) (a':=?_) #[T,T,T,T,T,T,T,T,T,T,T,T,T,T,T,T,T,T,T,T,F,F,F,F] rfl rfl (by kernel_rfl) (fun _ _ _ h=>h) (Or.inr ⟨by rfl,rfl⟩) ?_ ?_
  rotate_left
  ·simp only [pq]
   rfl
  refine pure_ (i:=20) (N:=some 25) (v:=undef) (a':=?_) #[T,T,T,T,T,T,T,T,T,T,T,T,T,T,T,T,T,T,T,T,T,F,F,F] rfl rfl (by kernel_rfl) (fun _ _ _ h=>h) (Or.inr ⟨by rfl,rfl⟩) ?_ ?_
  rotate_left
  ·simp only [pq]
   rfl
  refine pure_ (i:=21) (N:=some 26) (v:=undef) (a':=?_) #[T,T,T,T,T,T,T,T,T,T,T,T,T,T,T,T,T,T,T,T,T,T,F,F] rfl rfl (by kernel_rfl) (fun _ _ _ h=>h) (Or.inr ⟨by rfl,rfl⟩) ?_ ?_
  rotate_left
  ·simp only [pq]
   rfl
  refine pure_ (i:=22) (N:=some 27) (v:=?_) (a':=?_) #[T,T,T,T,T,T,T,T,T,T,T,T,T,T,T,T,T,T,T,T,T,T,T,F] rfl rfl (by kernel_rfl) (fun _ _ _ h=>h) (Or.inl ⟨by rfl,?_⟩) ?_ ?_
  rotate_left;(intro w';go_simp;with_reducible rfl);rotate_left;(simp only [pq];rfl)
  refine pure_ (i:=23) (N:=some 4) (v:=?_) (a':=?_) #[T,T,T,T,T,T,T,T,T,T,T,T,T,T,T,T,T,T,T,T,T,T,T,T] rfl rfl (by kernel_rfl) (fun _ _ _ h=>h) (Or.inl ⟨by rfl,?_⟩) ?_ ?_
  rotate_left;(intro w';go_simp;with_reducible rfl);rotate_left;(simp only [pq];rfl)
  refine done_ (by kernel_rfl) ?_
  go_wp2
  go_ret
  exact⟨rfl,aO (Below.refl _ W)⟩
 ·have d0:decide (p< -1)=false:=decide_eq_false c0
  have d1:decide (-1≤p)=true:=decide_eq_true (by omega);rw [d1]
  by_cases c1:(ps.length:Int)≤p
  ·have d2:decide ((ps.length:Int)≤p)=true:=decide_eq_true c1
   have d3:decide (p<(ps.length:Int))=false:=decide_eq_false (by omega);rw [d3];generalize ps.length=n4 at h4 d2;clear hp hS hr c0 c1 d3;go_enter Try.func40,Try.ntmps40
   go_upto_region 1 with fail
   refine start_ (n:=24) (S:=fun w'=>w'.cell? ⟨SB,4,none⟩=some (.slice A4 n4 c4)) (ds:= []) #[F,F,F,F,F,F,F,F,F,F,F,F,F,F,F,F,F,F,F,F,F,F,F,F] (by kernel_rfl) rfl rfl (h4.out) (fun hHeld=>?_)
   refine pure_ (i:=0) (N:=some 5) (v:=?_) (a':=?_) #[T,F,F,F,F,F,F,F,F,F,F,F,F,F,F,F,F,F,F,F,F,F,F,F] rfl rfl (by kernel_rfl) (fun _ _ _ h=>h) (Or.inl ⟨by rfl,?_⟩) ?_ ?_
   rotate_left;(intro w';go_simp;with_reducible rfl);rotate_left;(simp only [pq];rfl)
   refine pure_ (i:=1) (N:=some 6) (v:=?_) (a':=?_) #[T,T,F,F,F,F,F,F,F,F,F,F,F,F,F,F,F,F,F,F,F,F,F,F] rfl rfl (by kernel_rfl) (fun _ _ _ h=>h) (Or.inl ⟨by rfl,?_⟩) ?_ ?_
   rotate_left;(intro w';go_simp;with_reducible rfl);rotate_left;(simp only [pq];rfl)
   refine pure_ (i:=2) (N:=some 7) (v:=?_) (a':=?_) #[T,T,T,F,F,F,F,F,F,F,F,F,F,F,F,F,F,F,F,F,F,F,F,F] rfl rfl (by kernel_rfl) (fun _ _ _ h=>h) (Or.inl ⟨by rfl,?_⟩) ?_ ?_
   rotate_left;(intro w';go_simp;with_reducible rfl);rotate_left;(simp only [pq];rfl)
   refine pure_ (i:=3) (N:=some 8) (v:=?_) (a':=?_) #[T,T,T,T,F,F,F,F,F,F,F,F,F,F,F,F,F,F,F,F,F,F,F,F] rfl rfl (by kernel_rfl) (fun _ _ _ h=>h) (Or.inl ⟨by rfl,?_⟩) ?_ ?_
   rotate_left;(intro w';go_simp;with_reducible rfl);rotate_left;(simp only [pq];rfl)
   refine pure_ (i:=4) (N:=some 9) (v:=?_) (a':=?_) #[T,T,T,T,T,F,F,F,F,F,F,F,F,F,F,F,F,F,F,F,F,F,F,F] rfl rfl (by kernel_rfl) (fun _ _ _ h=>h) (Or.inl ⟨by rfl,?_⟩) ?_ ?_
   rotate_left;(intro w';go_simp;with_reducible rfl);rotate_left;(simp only [pq];rfl)
   refine take_ (i:=5) (N:=some 10) (v:=?_) (a':=?_) #[T,T,T,T,T,T,F,F,F,F,F,F,F,F,F,F,F,F,F,F,F,F,F,F] rfl rfl (by kernel_rfl) (fun _ _ _ h=>h) (Or.inl ⟨by rfl,?_⟩) hHeld ?_ ?_
   rotate_left
   ·intro w' s0
    go_simp
    with_reducible rfl
   rotate_left
   ·simp only [pq]
    rfl
   refine pure_ (i:=6) (N:=some 11) (v:=?_) (a':=?_) #[T,T,T,T,T,T,T,F,F,F,F,F,F,F,F,F,F,F,F,F,F,F,F,F] rfl rfl (by kernel_rfl) (fun _ _ _ h=>h) (Or.inl ⟨by rfl,?_⟩) ?_ ?_
   rotate_left;(intro w';go_simp;with_reducible rfl);rotate_left;(simp only [pq];rfl)
   refine pure_ (i:=7) (N:=some 12) (v:=?_) (a':=?_) #[T,T,T,T,T,T,T,T,F,F,F,F,F,F,F,F,F,F,F,F,F,F,F,F] rfl rfl (by kernel_rfl) (fun _ _ _ h=>h) (Or.inl ⟨by rfl,?_⟩) ?_ ?_
   rotate_left;(intro w';go_simp;with_reducible rfl);rotate_left;(simp only [pq];rfl)
   refine pure_ (i:=8) (N:=some 13) (v:=?_) (a':=?_) #[T,T,T,T,T,T,T,T,T,F,F,F,F,F,F,F,F,F,F,F,F,F,F,F] rfl rfl (by kernel_rfl) (fun _ _ _ h=>h) (Or.inl ⟨by rfl,?_⟩) ?_ ?_
   rotate_left;(intro w';go_simp;with_reducible rfl);rotate_left;(simp only [pq];rfl)
   refine pure_ (i:=9) (N:=some 14) (v:=?_) (a':=?_) #[T,T,T,T,T,T,T,T,T,T,F,F,F,F,F,F,F,F,F,F,F,F,F,F] rfl rfl (by kernel_rfl) (fun _ _ _ h=>h) (Or.inl ⟨by rfl,?_⟩) ?_ ?_
   rotate_left;(intro w';go_simp;with_reducible rfl);rotate_left;(simp only [pq];rfl)
   refine pure_ (i:=10) (N:=some 15) (v:=undef) (a':=?_) #[T,T,T,T,T,T,T,T,T,T,T,F,F,F,F,F,F,F,F,F,F,F,F,F] rfl rfl (by kernel_rfl) (fun _ _ _ h=>h) (Or.inr ⟨by rfl,rfl⟩) ?_ ?_
   rotate_left
   ·simp only [pq]
    rfl
   refine pure_ (i:=11) (N:=some 16) (v:=undef) (a':=?_) #[T,T,T,T,T,T,T,T,T,T,T,T,F,F,F,F,F,F,F,F,F,F,F,F] rfl rfl (by kernel_rfl) (fun _ _ _ h=>h) (Or.inr ⟨by rfl,rfl⟩) ?_ ?_
   rotate_left
   ·simp only [pq]
    rfl
   refine pure_ (i:=12) (N:=some 17) (v:=undef) (a':=?_) #[T,T,T,T,T,T,T,T,T,T,T,T,T,F,F,F,F,F,F,F,F,F,F,F] rfl rfl (by kernel_rfl) (fun _ _ _ h=>h) (Or.inr ⟨by rfl,rfl⟩) ?_ ?_
   rotate_left
   ·simp only [pq]
    rfl
   refine pure_ (i:=13) (N:=some 18) (v:=undef) (a':=?_) #[T,T,T,T,T,T,T,T,T,T,T,T,T,T,F,F,F,F,F,F,F,F,F,F] rfl rfl (by kernel_rfl) (fun _ _ _ h=>h) (Or.inr ⟨by rfl,rfl⟩) ?_ ?_
   rotate_left
   ·simp only [pq]
    rfl
   refine pure_ (i:=14) (N:=some 19) (v:=undef) (a':=?_) #[T,T,T,T,T,T,T,T,T,T,T,T,T,T,T,F,F,F,F,F,F,F,F,F] rfl rfl (by kernel_rfl) (fun _ _ _ h=>h) (Or.inr ⟨by rfl,rfl⟩) ?_ ?_
   rotate_left
   ·simp only [pq]
    rfl
   refine pure_ (i:=15) (N:=some 20) (v:=undef) (a':=?_) #[T,T,T,T,T,T,T,T,T,T,T,T,T,T,T,T,F,F,F,F,F,F,F,F] rfl rfl (by kernel_rfl) (fun _ _ _ h=>h) (Or.inr ⟨by rfl,rfl⟩) ?_ ?_
   rotate_left
   ·simp only [pq]
    rfl
   refine pure_ (i:=16) (N:=some 21) (v:=undef) (a':=?_) #[T,T,T,T,T,T,T,T,T,T,T,T,T,T,T,T,T,F,F,F,F,F,F,F] rfl rfl (by kernel_rfl) (fun _ _ _ h=>h) (Or.inr ⟨by rfl,rfl⟩) ?_ ?_
   rotate_left
   ·simp only [pq]
    rfl
   refine pure_ (i:=17) (N:=some 22) (v:=undef) (a':=?_) #[T,T,T,T,T,T,T,T,T,T,T,T,T,T,T,T,T,T,F,F,F,F,F,F] rfl rfl (by kernel_rfl) (fun _ _ _ h=>h) (Or.inr ⟨by rfl,rfl⟩) ?_ ?_
   rotate_left
   ·simp only [pq]
    rfl
   refine pure_ (i:=18) (N:=some 23) (v:=undef) (a':=?_) #[T,T,T,T,T,T,T,T,T,T,T,T,T,T,T,T,T,T,T,F,F,F,F,F] rfl rfl (by kernel_rfl) (fun _ _ _ h=>h) (Or.inr ⟨by rfl,rfl⟩) ?_ ?_
   rotate_left
   ·simp only [pq]
    rfl
   refine pure_ (i:=19) (N:=some 24) (v:=undef) (a':=?_) #[T,T,T,T,T,T,T,T,T,T,T,T,T,T,T,T,T,T,T,T,F,F,F,F] rfl rfl (by kernel_rfl) (fun _ _ _ h=>h) (Or.inr ⟨by rfl,rfl⟩) ?_ ?_
   rotate_left
   ·simp only [pq]
    rfl
   refine pure_ (i:=20) (N:=some 25) (v:=undef) (a':=?_) #[T,T,T,T,T,T,T,T,T,T,T,T,T,T,T,T,T,T,T,T,T,F,F,F] rfl rfl (by kernel_rfl) (fun _ _ _ h=>h) (Or.inr ⟨by rfl,rfl⟩) ?_ ?_
   rotate_left
   ·simp only [pq]
    rfl
   refine pure_ (i:=21) (N:=some 26) (v:=undef) (a':=?_) #[T,T,T,T,T,T,T,T,T,T,T,T,T,T,T,T,T,T,T,T,T,T,F,F] rfl rfl (by kernel_rfl) (fun _ _ _ h=>h) (Or.inr ⟨by rfl,rfl⟩) ?_ ?_
   rotate_left
   ·simp only [pq]
    rfl
   refine pure_ (i:=22) (N:=some 27) (v:=?_) (a':=?_) #[T,T,T,T,T,T,T,T,T,T,T,T,T,T,T,T,T,T,T,T,T,T,T,F] rfl rfl (by kernel_rfl) (fun _ _ _ h=>h) (Or.inl ⟨by rfl,?_⟩) ?_ ?_
   rotate_left;(intro w';go_simp;with_reducible rfl);rotate_left;(simp only [pq];rfl)
   refine pure_ (i:=23) (N:=some 4) (v:=?_) (a':=?_) #[T,T,T,T,T,T,T,T,T,T,T,T,T,T,T,T,T,T,T,T,T,T,T,T] rfl rfl (by kernel_rfl) (fun _ _ _ h=>h) (Or.inl ⟨by rfl,?_⟩) ?_ ?_
   rotate_left;(intro w';go_simp;with_reducible rfl);rotate_left;(simp only [pq];rfl)
   refine done_ (by kernel_rfl) ?_
   go_wp2
   go_ret
   exact⟨rfl,aO (Below.refl _ W)⟩
  ·have d2:decide ((ps.length:Int)≤p)=false:=decide_eq_false c1
   have d3:decide (p<(ps.length:Int))=true:=decide_eq_true (by omega);rw [d3]
   by_cases c2:p<0
   ·have d4:decide (p<0)=true:=decide_eq_true c2
    have d5:decide (0≤p)=false:=decide_eq_false (by omega);rw [d4];generalize ps.length=n4 at h4 d2;clear hp hS hr c0 c1 d3 c2 d4;go_enter Try.func40,Try.ntmps40
    go_upto_region 1 with fail
    refine start_ (n:=24) (S:=fun w'=>w'.cell? ⟨SB,4,none⟩=some (.slice A4 n4 c4)) (ds:= []) #[F,F,F,F,F,F,F,F,F,F,F,F,F,F,F,F,F,F,F,F,F,F,F,F] (by kernel_rfl) rfl rfl (h4.out) (fun hHeld=>?_)
    refine pure_ (i:=0) (N:=some 5) (v:=?_) (a':=?_) #[T,F,F,F,F,F,F,F,F,F,F,F,F,F,F,F,F,F,F,F,F,F,F,F] rfl rfl (by kernel_rfl) (fun _ _ _ h=>h) (Or.inl ⟨by rfl,?_⟩) ?_ ?_
    rotate_left;(intro w';go_simp;with_reducible rfl);rotate_left;(simp only [pq];rfl)
    refine pure_ (i:=1) (N:=some 6) (v:=?_) (a':=?_) #[T,T,F,F,F,F,F,F,F,F,F,F,F,F,F,F,F,F,F,F,F,F,F,F] rfl rfl (by kernel_rfl) (fun _ _ _ h=>h) (Or.inl ⟨by rfl,?_⟩) ?_ ?_
    rotate_left;(intro w';go_simp;with_reducible rfl);rotate_left;(simp only [pq];rfl)
    refine pure_ (i:=2) (N:=some 7) (v:=?_) (a':=?_) #[T,T,T,F,F,F,F,F,F,F,F,F,F,F,F,F,F,F,F,F,F,F,F,F] rfl rfl (by kernel_rfl) (fun _ _ _ h=>h) (Or.inl ⟨by rfl,?_⟩) ?_ ?_
    rotate_left;(intro w';go_simp;with_reducible rfl);rotate_left;(simp only [pq];rfl)
    refine pure_ (i:=3) (N:=some 8) (v:=?_) (a':=?_) #[T,T,T,T,F,F,F,F,F,F,F,F,F,F,F,F,F,F,F,F,F,F,F,F] rfl rfl (by kernel_rfl) (fun _ _ _ h=>h) (Or.inl ⟨by rfl,?_⟩) ?_ ?_
    rotate_left;(intro w';go_simp;with_reducible rfl);rotate_left;(simp only [pq];rfl)
    refine pure_ (i:=4) (N:=some 9) (v:=?_) (a':=?_) #[T,T,T,T,T,F,F,F,F,F,F,F,F,F,F,F,F,F,F,F,F,F,F,F] rfl rfl (by kernel_rfl) (fun _ _ _ h=>h) (Or.inl ⟨by rfl,?_⟩) ?_ ?_
    rotate_left;(intro w';go_simp;with_reducible rfl);rotate_left;(simp only [pq];rfl)
    refine take_ (i:=5) (N:=some 10) (v:=?_) (a':=?_) #[T,T,T,T,T,T,F,F,F,F,F,F,F,F,F,F,F,F,F,F,F,F,F,F] rfl rfl (by kernel_rfl) (fun _ _ _ h=>h) (Or.inl ⟨by rfl,?_⟩) hHeld ?_ ?_
    rotate_left
    ·intro w' s0
     go_simp
     with_reducible rfl
    rotate_left
    ·simp only [pq]
     rfl
    refine pure_ (i:=6) (N:=some 11) (v:=?_) (a':=?_) #[T,T,T,T,T,T,T,F,F,F,F,F,F,F,F,F,F,F,F,F,F,F,F,F] rfl rfl (by kernel_rfl) (fun _ _ _ h=>h) (Or.inl ⟨by rfl,?_⟩) ?_ ?_
    rotate_left;(intro w';go_simp;with_reducible rfl);rotate_left;(simp only [pq];rfl)
    refine pure_ (i:=7) (N:=some 12) (v:=?_) (a':=?_) #[T,T,T,T,T,T,T,T,F,F,F,F,F,F,F,F,F,F,F,F,F,F,F,F] rfl rfl (by kernel_rfl) (fun _ _ _ h=>h) (Or.inl ⟨by rfl,?_⟩) ?_ ?_
    rotate_left;(intro w';go_simp;with_reducible rfl);rotate_left;(simp only [pq];rfl)
    refine pure_ (i:=8) (N:=some 13) (v:=?_) (a':=?_) #[T,T,T,T,T,T,T,T,T,F,F,F,F,F,F,F,F,F,F,F,F,F,F,F] rfl rfl (by kernel_rfl) (fun _ _ _ h=>h) (Or.inl ⟨by rfl,?_⟩) ?_ ?_
    rotate_left;(intro w';go_simp;with_reducible rfl);rotate_left;(simp only [pq];rfl)
    refine pure_ (i:=9) (N:=some 14) (v:=?_) (a':=?_) #[T,T,T,T,T,T,T,T,T,T,F,F,F,F,F,F,F,F,F,F,F,F,F,F] rfl rfl (by kernel_rfl) (fun _ _ _ h=>h) (Or.inl ⟨by rfl,?_⟩) ?_ ?_
    rotate_left;(intro w';go_simp;with_reducible rfl);rotate_left;(simp only [pq];rfl)
    refine pure_ (i:=10) (N:=some 15) (v:=?_) (a':=?_) #[T,T,T,T,T,T,T,T,T,T,T,F,F,F,F,F,F,F,F,F,F,F,F,F] rfl rfl (by kernel_rfl) (fun _ _ _ h=>h) (Or.inl ⟨by rfl,?_⟩) ?_ ?_
    rotate_left;(intro w';go_simp;with_reducible rfl);rotate_left;(simp only [pq];rfl)
    refine pure_ (i:=11) (N:=some 16) (v:=?_) (a':=?_) #[T,T,T,T,T,T,T,T,T,T,T,T,F,F,F,F,F,F,F,F,F,F,F,F] rfl rfl (by kernel_rfl) (fun _ _ _ h=>h) (Or.inl ⟨by rfl,?_⟩) ?_ ?_
    rotate_left;(intro w';go_simp;with_reducible rfl);rotate_left;(simp only [pq];rfl)
    refine pure_ (i:=12) (N:=some 17) (v:=?_) (a':=?_) #[T,T,T,T,T,T,T,T,T,T,T,T,T,F,F,F,F,F,F,F,F,F,F,F] rfl rfl (by kernel_rfl) (fun _ _ _ h=>h) (Or.inl ⟨by rfl,?_⟩) ?_ ?_
    rotate_left;(intro w';go_simp;with_reducible rfl);rotate_left;(simp only [pq];rfl)
    refine pure_ (i:=13) (N:=some 18) (v:=undef) (a':=?_) #[T,T,T,T,T,T,T,T,T,T,T,T,T,T,F,F,F,F,F,F,F,F,F,F] rfl rfl (by kernel_rfl) (fun _ _ _ h=>h) (Or.inr ⟨by rfl,rfl⟩) ?_ ?_
    rotate_left
    ·simp only [pq]
     rfl
    refine pure_ (i:=14) (N:=some 19) (v:=undef) (a':=?_) #[T,T,T,T,T,T,T,T,T,T,T,T,T,T,T,F,F,F,F,F,F,F,F,F] rfl rfl (by kernel_rfl) (fun _ _ _ h=>h) (Or.inr ⟨by rfl,rfl⟩) ?_ ?_
    rotate_left
    ·simp only [pq]
     rfl
    refine pure_ (i:=15) (N:=some 20) (v:=undef) (a':=?_) #[T,T,T,T,T,T,T,T,T,T,T,T,T,T,T,T,F,F,F,F,F,F,F,F] rfl rfl (by kernel_rfl) (fun _ _ _ h=>h) (Or.inr ⟨by rfl,rfl⟩) ?_ ?_
    rotate_left
    ·simp only [pq]
     rfl
    refine pure_ (i:=16) (N:=some 21) (v:=undef) (a':=?_) #[T,T,T,T,T,T,T,T,T,T,T,T,T,T,T,T,T,F,F,F,F,F,F,F] rfl rfl (by kernel_rfl) (fun _ _ _ h=>h) (Or.inr ⟨by rfl,rfl⟩) ?_ ?_
    rotate_left
    ·simp only [pq]
     rfl
    refine pure_ (i:=17) (N:=some 22) (v:=undef) (a':=?_) #[T,T,T,T,T,T,T,T,T,T,T,T,T,T,T,T,T,T,F,F,F,F,F,F] rfl rfl (by kernel_rfl) (fun _ _ _ h=>h) (Or.inr ⟨by rfl,rfl⟩) ?_ ?_
    rotate_left
    ·simp only [pq]
     rfl
    refine pure_ (i:=18) (N:=some 23) (v:=undef) (a':=?_) #[T,T,T,T,T,T,T,T,T,T,T,T,T,T,T,T,T,T,T,F,F,F,F,F] rfl rfl (by kernel_rfl) (fun _ _ _ h=>h) (Or.inr ⟨by rfl,rfl⟩) ?_ ?_
    rotate_left
    ·simp only [pq]
     rfl
    refine pure_ (i:=19) (N:=some 24) (v:=undef) (a':=?_) #[T,T,T,T,T,T,T,T,T,T,T,T,T,T,T,T,T,T,T,T,F,F,F,F] rfl rfl (by kernel_rfl) (fun _ _ _ h=>h) (Or.inr ⟨by rfl,rfl⟩) ?_ ?_
    rotate_left
    ·simp only [pq]
     rfl
    refine pure_ (i:=20) (N:=some 25) (v:=undef) (a':=?_) #[T,T,T,T,T,T,T,T,T,T,T,T,T,T,T,T,T,T,T,T,T,F,F,F] rfl rfl (by kernel_rfl) (fun _ _ _ h=>h) (Or.inr ⟨by rfl,rfl⟩) ?_ ?_
    rotate_left
    ·simp only [pq]
     rfl
    refine pure_ (i:=21) (N:=some 26) (v:=?_) (a':=?_) #[T,T,T,T,T,T,T,T,T,T,T,T,T,T,T,T,T,T,T,T,T,T,F,F] rfl rfl (by kernel_rfl) (fun _ _ _ h=>h) (Or.inl ⟨by rfl,?_⟩) ?_ ?_
    rotate_left;(intro w';go_simp;with_reducible rfl);rotate_left;(simp only [pq];rfl)
    refine pure_ (i:=22) (N:=some 27) (v:=?_) (a':=?_) #[T,T,T,T,T,T,T,T,T,T,T,T,T,T,T,T,T,T,T,T,T,T,T,F] rfl rfl (by kernel_rfl) (fun _ _ _ h=>h) (Or.inl ⟨by rfl,?_⟩) ?_ ?_
    rotate_left;(intro w';go_simp;with_reducible rfl);rotate_left;(simp only [pq];rfl)
    refine pure_ (i:=23) (N:=some 4) (v:=?_) (a':=?_) #[T,T,T,T,T,T,T,T,T,T,T,T,T,T,T,T,T,T,T,T,T,T,T,T] rfl rfl (by kernel_rfl) (fun _ _ _ h=>h) (Or.inl ⟨by rfl,?_⟩) ?_ ?_
    rotate_left;(intro w';go_simp;with_reducible rfl);rotate_left;(simp only [pq];rfl)
    refine done_ (by kernel_rfl) ?_
    go_wp2
    go_ret
    exact⟨rfl,aO (Below.refl _ W)⟩
   ·have d4:decide (p<0)=false:=decide_eq_false c2
    have d5:decide (0≤p)=true:=decide_eq_true (by omega);rw [d4];have b0:(0≤p)=True:=eq_true (by omega);have b1:(p<(ps.length:Int))=True:=eq_true (by omega);obtain⟨ad,A1,c1_,e,e0,_,_,_⟩:=at_T35 hp p (by omega) (by omega);generalize (rd_T35 ps p).f0=pl at e0 ⊢;have E0:=aM e0;subst e;generalize ps.length=n4 at h4 d2 b1;clear hp hS hr c0 c1 d3 c2 d4 e0;go_enter Try.func40,Try.ntmps40
    go_upto_region 1 with fail
    refine start_ (n:=24) (S:=fun w'=>w'.cell? ⟨SB,4,none⟩=some (.slice (some ad) n4 c4)∧w'.cell? ⟨RB,0,none⟩=some (.int .i64 r)∧w'.cell? (ad.add (p.toNat * 2))=some (.int .i64 pl)) (ds:= []) #[F,F,F,F,F,F,F,F,F,F,F,F,F,F,F,F,F,F,F,F,F,F,F,F] (by kernel_rfl) rfl rfl ⟨h4.out,hR.out,E0.out⟩ (fun hHeld=>?_)
    refine pure_ (i:=0) (N:=some 5) (v:=?_) (a':=?_) #[T,F,F,F,F,F,F,F,F,F,F,F,F,F,F,F,F,F,F,F,F,F,F,F] rfl rfl (by kernel_rfl) (fun _ _ _ h=>h) (Or.inl ⟨by rfl,?_⟩) ?_ ?_
    rotate_left;(intro w';go_simp;with_reducible rfl);rotate_left;(simp only [pq];rfl)
    refine pure_ (i:=1) (N:=some 6) (v:=?_) (a':=?_) #[T,T,F,F,F,F,F,F,F,F,F,F,F,F,F,F,F,F,F,F,F,F,F,F] rfl rfl (by kernel_rfl) (fun _ _ _ h=>h) (Or.inl ⟨by rfl,?_⟩) ?_ ?_
    rotate_left;(intro w';go_simp;with_reducible rfl);rotate_left;(simp only [pq];rfl)
    refine pure_ (i:=2) (N:=some 7) (v:=?_) (a':=?_) #[T,T,T,F,F,F,F,F,F,F,F,F,F,F,F,F,F,F,F,F,F,F,F,F] rfl rfl (by kernel_rfl) (fun _ _ _ h=>h) (Or.inl ⟨by rfl,?_⟩) ?_ ?_
    rotate_left;(intro w';go_simp;with_reducible rfl);rotate_left;(simp only [pq];rfl)
    refine pure_ (i:=3) (N:=some 8) (v:=?_) (a':=?_) #[T,T,T,T,F,F,F,F,F,F,F,F,F,F,F,F,F,F,F,F,F,F,F,F] rfl rfl (by kernel_rfl) (fun _ _ _ h=>h) (Or.inl ⟨by rfl,?_⟩) ?_ ?_
    rotate_left;(intro w';go_simp;with_reducible rfl);rotate_left;(simp only [pq];rfl)
    refine pure_ (i:=4) (N:=some 9) (v:=?_) (a':=?_) #[T,T,T,T,T,F,F,F,F,F,F,F,F,F,F,F,F,F,F,F,F,F,F,F] rfl rfl (by kernel_rfl) (fun _ _ _ h=>h) (Or.inl ⟨by rfl,?_⟩) ?_ ?_
    rotate_left;(intro w';go_simp;with_reducible rfl);rotate_left;(simp only [pq];rfl)
    refine take_ (i:=5) (N:=some 10) (v:=?_) (a':=?_) #[T,T,T,T,T,T,F,F,F,F,F,F,F,F,F,F,F,F,F,F,F,F,F,F] rfl rfl (by kernel_rfl) (fun _ _ _ h=>h) (Or.inl ⟨by rfl,?_⟩) hHeld ?_ ?_
    rotate_left
    ·rintro w' ⟨s0,s1,s2⟩
     go_simp
     with_reducible rfl
    rotate_left
    ·simp only [pq]
     rfl
    refine pure_ (i:=6) (N:=some 11) (v:=?_) (a':=?_) #[T,T,T,T,T,T,T,F,F,F,F,F,F,F,F,F,F,F,F,F,F,F,F,F] rfl rfl (by kernel_rfl) (fun _ _ _ h=>h) (Or.inl ⟨by rfl,?_⟩) ?_ ?_
    rotate_left;(intro w';go_simp;with_reducible rfl);rotate_left;(simp only [pq];rfl)
    refine pure_ (i:=7) (N:=some 12) (v:=?_) (a':=?_) #[T,T,T,T,T,T,T,T,F,F,F,F,F,F,F,F,F,F,F,F,F,F,F,F] rfl rfl (by kernel_rfl) (fun _ _ _ h=>h) (Or.inl ⟨by rfl,?_⟩) ?_ ?_
    rotate_left;(intro w';go_simp;with_reducible rfl);rotate_left;(simp only [pq];rfl)
    refine pure_ (i:=8) (N:=some 13) (v:=?_) (a':=?_) #[T,T,T,T,T,T,T,T,T,F,F,F,F,F,F,F,F,F,F,F,F,F,F,F] rfl rfl (by kernel_rfl) (fun _ _ _ h=>h) (Or.inl ⟨by rfl,?_⟩) ?_ ?_
    rotate_left;(intro w';go_simp;with_reducible rfl);rotate_left;(simp only [pq];rfl)
    refine pure_ (i:=9) (N:=some 14) (v:=?_) (a':=?_) #[T,T,T,T,T,T,T,T,T,T,F,F,F,F,F,F,F,F,F,F,F,F,F,F] rfl rfl (by kernel_rfl) (fun _ _ _ h=>h) (Or.inl ⟨by rfl,?_⟩) ?_ ?_
    rotate_left;(intro w';go_simp;with_reducible rfl);rotate_left;(simp only [pq];rfl)
    refine pure_ (i:=10) (N:=some 15) (v:=?_) (a':=?_) #[T,T,T,T,T,T,T,T,T,T,T,F,F,F,F,F,F,F,F,F,F,F,F,F] rfl rfl (by kernel_rfl) (fun _ _ _ h=>h) (Or.inl ⟨by rfl,?_⟩) ?_ ?_
    rotate_left;(intro w';go_simp;with_reducible rfl);rotate_left;(simp only [pq];rfl)
    refine pure_ (i:=11) (N:=some 16) (v:=?_) (a':=?_) #[T,T,T,T,T,T,T,T,T,T,T,T,F,F,F,F,F,F,F,F,F,F,F,F] rfl rfl (by kernel_rfl) (fun _ _ _ h=>h) (Or.inl ⟨by rfl,?_⟩) ?_ ?_
    rotate_left;(intro w';go_simp;with_reducible rfl);rotate_left;(simp only [pq];rfl)
    refine pure_ (i:=12) (N:=some 17) (v:=?_) (a':=?_) #[T,T,T,T,T,T,T,T,T,T,T,T,T,F,F,F,F,F,F,F,F,F,F,F] rfl rfl (by kernel_rfl) (fun _ _ _ h=>h) (Or.inl ⟨by rfl,?_⟩) ?_ ?_
    rotate_left;(intro w';go_simp;with_reducible rfl);rotate_left;(simp only [pq];rfl)
    refine pure_ (i:=13) (N:=some 18) (v:=?_) (a':=?_) #[T,T,T,T,T,T,T,T,T,T,T,T,T,T,F,F,F,F,F,F,F,F,F,F] rfl rfl (by kernel_rfl) (fun _ _ _ h=>h) (Or.inl ⟨by rfl,?_⟩) ?_ ?_
    rotate_left;(intro w';go_simp;with_reducible rfl);rotate_left;(simp only [pq];rfl)
    refine pure_ (i:=15) (N:=some 20) (v:=?_) (a':=?_) #[T,T,T,T,T,T,T,T,T,T,T,T,T,T,F,T,F,F,F,F,F,F,F,F] rfl rfl (by kernel_rfl) (fun _ _ _ h=>h) (Or.inl ⟨by rfl,?_⟩) ?_ ?_
    rotate_left;(intro w';go_simp;with_reducible rfl);rotate_left;(simp only [pq];rfl)
    refine take_ (i:=14) (N:=some 19) (v:=?_) (a':=?_) #[T,T,T,T,T,T,T,T,T,T,T,T,T,T,T,T,F,F,F,F,F,F,F,F] rfl rfl (by kernel_rfl) (fun _ _ _ h=>h) (Or.inl ⟨by rfl,?_⟩) hHeld ?_ ?_
    rotate_left
    ·rintro w' ⟨s0,s1,s2⟩
     go_simp
     with_reducible rfl
    rotate_left
    ·simp only [pq]
     rfl
    refine pure_ (i:=16) (N:=some 21) (v:=?_) (a':=?_) #[T,T,T,T,T,T,T,T,T,T,T,T,T,T,T,T,T,F,F,F,F,F,F,F] rfl rfl (by kernel_rfl) (fun _ _ _ h=>h) (Or.inl ⟨by rfl,?_⟩) ?_ ?_
    rotate_left;(intro w';go_simp;with_reducible rfl);rotate_left;(simp only [pq];rfl)
    refine pure_ (i:=17) (N:=some 22) (v:=?_) (a':=?_) #[T,T,T,T,T,T,T,T,T,T,T,T,T,T,T,T,T,T,F,F,F,F,F,F] rfl rfl (by kernel_rfl) (fun _ _ _ h=>h) (Or.inl ⟨by rfl,?_⟩) ?_ ?_
    rotate_left;(intro w';go_simp;with_reducible rfl);rotate_left;(simp only [pq];rfl)
    refine take_ (i:=18) (N:=some 23) (v:=?_) (a':=?_) #[T,T,T,T,T,T,T,T,T,T,T,T,T,T,T,T,T,T,T,F,F,F,F,F] rfl rfl (by kernel_rfl) (fun _ _ _ h=>h) (Or.inl ⟨by rfl,?_⟩) hHeld ?_ ?_
    rotate_left
    ·rintro w' ⟨s0,s1,s2⟩
     go_simp
     with_reducible rfl
    rotate_left
    ·simp only [pq]
     rfl
    refine take_ (i:=19) (N:=some 24) (v:=?_) (a':=?_) #[T,T,T,T,T,T,T,T,T,T,T,T,T,T,T,T,T,T,T,T,F,F,F,F] rfl rfl (by kernel_rfl) (fun _ _ _ h=>h) (Or.inl ⟨by rfl,?_⟩) hHeld ?_ ?_
    rotate_left
    ·rintro w' ⟨s0,s1,s2⟩
     go_simp
     with_reducible rfl
    rotate_left
    ·simp only [pq]
     rfl
    refine pure_ (i:=20) (N:=some 25) (v:=?_) (a':=?_) #[T,T,T,T,T,T,T,T,T,T,T,T,T,T,T,T,T,T,T,T,T,F,F,F] rfl rfl (by kernel_rfl) (fun _ _ _ h=>h) (Or.inl ⟨by rfl,?_⟩) ?_ ?_
    rotate_left;(intro w';go_simp;with_reducible rfl);rotate_left;(simp only [pq];rfl)
    refine pure_ (i:=21) (N:=some 26) (v:=?_) (a':=?_) #[T,T,T,T,T,T,T,T,T,T,T,T,T,T,T,T,T,T,T,T,T,T,F,F] rfl rfl (by kernel_rfl) (fun _ _ _ h=>h) (Or.inl ⟨by rfl,?_⟩) ?_ ?_
    rotate_left;(intro w';go_simp;with_reducible rfl);rotate_left;(simp only [pq];rfl)
    refine pure_ (i:=22) (N:=some 27) (v:=?_) (a':=?_) #[T,T,T,T,T,T,T,T,T,T,T,T,T,T,T,T,T,T,T,T,T,T,T,F] rfl rfl (by kernel_rfl) (fun _ _ _ h=>h) (Or.inl ⟨by rfl,?_⟩) ?_ ?_
    rotate_left;(intro w';go_simp;with_reducible rfl);rotate_left;(simp only [pq];rfl)
    refine pure_ (i:=23) (N:=some 4) (v:=?_) (a':=?_) #[T,T,T,T,T,T,T,T,T,T,T,T,T,T,T,T,T,T,T,T,T,T,T,T] rfl rfl (by kernel_rfl) (fun _ _ _ h=>h) (Or.inl ⟨by rfl,?_⟩) ?_ ?_
    rotate_left;(intro w';go_simp;with_reducible rfl);rotate_left;(simp only [pq];rfl)
    refine done_ (by kernel_rfl) ?_
    go_wp2
    go_ret
    exact⟨by by_cases h:pl=r<;>simp [h],aO (Below.refl _ W)⟩
def rowsOk (nt:Nat) (ps:List S35):Nat→List (List Int)→Bool
 |_,[]=>true
 |r,row::t=>decide (row.length=nt+1) && row.all (okEnt ps (r:Int)) && rowsOk nt ps (r+1) t
def tbRight (nn nt:Nat) (ps:List S35) (tb:List (List Int)):Bool:=ps.all (okProd nn nt) && (!decide (nn=0) && (decide (tb.length=nn) && rowsOk nt ps 0 tb))
theorem at_rowi {w:World}{A:Option Addr}{n:Nat}{xs:List (List Int)}(h:Kd.C (Kd.slice 3 (Kd.int .i64)) w A n xs) (i:Int) (h0:0≤i) (h1:i<n):∃ad A0 c0,A=some ad∧w.cell? (ad.add i.toNat)=some (.slice A0 (xs.getD i.toNat []).length c0)∧(xs.getD i.toNat []).length≤c0∧(Kd.int .i64).C w A0 (xs.getD i.toNat []).length (xs.getD i.toNat []):=by
 obtain⟨ad,c,e,_,hK,hc0⟩:=Kd.C_get h ([]:List Int) i h0 h1;have hc:∀j u,c[j]?=some u→w.cell? (ad.add (i.toNat * 1+j))=some u:=hc0;obtain⟨A0,c0,rfl,l0,g0⟩:=hK;exact⟨ad,A0,c0,e,by have hq:=hc 0 _ rfl;rwa [Nat.mul_one,Nat.add_zero] at hq,l0,g0⟩
theorem any_not' {α:Type}(p:α→Bool) (l:List α):(l.any fun x=>!p x)=!l.all p:=by rw [←any_not];simp
def machine_Right.f (aU:List ByteArray) (aX:List (S72)) (bB:Int) (bK:Int) (aQ:List (S35)) (l1:List (List Int)):Option Bool:=if aX.length≤1000000000∧l1.length≤1000000000∧aQ.length≤1000000000∧aQ.all (fun p=>decide (p.f1.length≤9223372036854775807))=true∧l1.all (fun p=>decide (p.length≤9223372036854775807))=true then some (tbRight aU.length aX.length aQ l1) else none
set_option maxHeartbeats 4000000 in
set_option maxRecDepth 100000 in
theorem machine_Right.calls (bR:Option Addr) (bS:Nat) (aU:List ByteArray) (bU:Option Addr) (bV:Nat) (aX:List (S72)) (bB:Int) (bK:Int) (cC:Option Addr) (bX:Nat) (aQ:List (S35)) (A1:Option Addr) (c1:Nat) (l1:List (List Int)) (r:Bool) (w:World)
 (dX:Kd.C Kd.string w bR aU.length aU) (dZ:aU.length≤bS) (eB:Kd.C k72 w bU aX.length aX) (eH:aX.length≤bV) (dY:Kd.C k35 w cC aQ.length aQ) (eJ:aQ.length≤bX) (hr1:Kd.C (Kd.slice 3 (Kd.int .i64)) w A1 l1.length l1) (hc1:l1.length≤c1)
 (h:machine_Right.f aU aX bB bK aQ l1=some r):
 Calls Try.prog 25 #[.agg #[.slice bR aU.length bS,.slice bU aX.length bV,.int .i64 bB,.int .i64 bK,.slice cC aQ.length bX],.slice A1 l1.length c1] w fun e w'=>e= .returned (.bool r)∧Below w.heap.size w w':=by
 unfold machine_Right.f at h
 split at h
 case isFalse=>simp at h
 rename_i hbig
 obtain⟨hb1,hb2,hb3,hb4,hb5⟩:=hbig;obtain rfl:=Option.some.inj h;clear h;have HA:Aside0 (Below w.heap.size w (w.alloc (.cells #[.slice bR aU.length bS,.slice bU aX.length bV,.int .i64 bB,.int .i64 bK,.slice cC aQ.length bX] 26))):=⟨(Below.refl _ w).alloc (Nat.le_refl _) _⟩;have P1:=aM (firsts_Right.calls bR bS aU bU bV aX bB bK cC bX aQ _ _ (bD dX HA.out) dZ (bD eB HA.out) eH (bD dY HA.out) eJ (by unfold firsts_Right.f;rw [if_pos ⟨by omega,hb4⟩]));have HBK:Aside0 ((w.alloc (.cells #[.slice bR aU.length bS,.slice bU aX.length bV,.int .i64 bB,.int .i64 bK,.slice cC aQ.length bX] 26)).heap[w.heap.size]?=some (.cells #[.slice bR aU.length bS,.slice bU aX.length bV,.int .i64 bB,.int .i64 bK,.slice cC aQ.length bX] 26 (0,0))):=⟨heap_alloc_new w _⟩;have HR4:=aM (bD dY HA.out);have HR1:=aM (bD hr1 HA.out);have HBIG:=aM (And.intro hb1 (And.intro hb2 hb3));have HB5:=aM hb5;clear dX dZ eB eH dY eJ hr1 hc1 hb1 hb2 hb3 hb4 hb5;generalize hrr:tbRight aU.length aX.length aQ l1=rr
 unfold tbRight at hrr
 generalize aQ.all (okProd aU.length aX.length)=R1 at P1 hrr;have HRR:=aM hrr;clear hrr;go_enter Try.func25,Try.ntmps25
 go_upto_region 1 with fail
 generalize (w.alloc (.cells #[.slice bR aU.length bS,.slice bU aX.length bV,.int .i64 bB,.int .i64 bK,.slice cC aQ.length bX] 26))=w1 at HA P1 HBK HR4 HR1 ⊢;have HSB:Aside0 (w.heap.size<w1.heap.size):=⟨bN HBK.out⟩
 have HC:Aside0 (∀W,Below w1.heap.size w1 W→W.cell? ⟨w.heap.size,0,none⟩=some (.slice bR aU.length bS)∧W.cell? ⟨w.heap.size,1,none⟩=some (.slice bU aX.length bV)∧W.cell? ⟨w.heap.size,2,none⟩=some (.int .i64 bB)∧W.cell? ⟨w.heap.size,3,none⟩=some (.int .i64 bK)∧W.cell? ⟨w.heap.size,4,none⟩=some (.slice cC aQ.length bX)):=⟨fun W hW=>by
  have hb:=(hW.block _ (bN HBK.out)).trans HBK.out;exact⟨(aG hb 0).trans rfl,(aG hb 1).trans rfl,(aG hb 2).trans rfl,(aG hb 3).trans rfl,(aG hb 4).trans rfl⟩⟩
 obtain⟨q0,q1,q2,q3,q4⟩:=HC.out w1 (Below.refl _ _)
 cases R1 with
 |false=>
  go_wp2_with (first|(go_at_call 39;(with_reducible refine P1.out.mono ?_);rintro e w2 ⟨rfl,hb2⟩;have HB2:=aM hb2;clear hb2 P1 q0 q1 q2 q3 q4))
  go_ret
  exact⟨by rw [←HRR.out];rfl,HA.out.trans (HB2.out.mono HA.out.size)⟩
 |true=>
  by_cases hn:aU.length=0
  ·have d0:decide (aU.length=0)=true:=decide_eq_true hn
   have d1:((aU.length:Int)==0)=true:=by simp [hn]
   have HN:=aM hn;clear hn
   go_wp2_with (first|(go_at_call 39;(with_reducible refine P1.out.mono ?_);rintro e w2 ⟨rfl,hb2⟩;have HB2:=aM hb2;clear hb2 P1 q0 q1 q2 q3 q4;obtain⟨q0,q1,q2,q3,q4⟩:=HC.out w2 HB2.out;have hn:=HN.out))
   go_ret
   exact⟨by rw [←HRR.out,d0];rfl,HA.out.trans (HB2.out.mono HA.out.size)⟩
  ·have d0:decide (aU.length=0)=false:=decide_eq_false hn
   have d1:((aU.length:Int)==0)=false:=by simp [hn]
   have HN:=aM hn
   by_cases ht:l1.length=aU.length
   ·have d2:decide (l1.length=aU.length)=true:=decide_eq_true ht
    have HT:=aM ht;clear hn ht
    go_upto_region 3 with(first|(go_at_call 39;(with_reducible refine P1.out.mono ?_);rintro e w2 ⟨rfl,hb2⟩;have HB2:=aM hb2;clear hb2 P1 q0 q1 q2 q3 q4;obtain⟨q0,q1,q2,q3,q4⟩:=HC.out w2 HB2.out;have hn:=HN.out;have ht:=HT.out;have ht2:((l1.length:Int) !=(aU.length:Int))=false:=by simp [HT.out]))
    have HR1':Aside0 ((Kd.slice 3 (Kd.int .i64)).C w1 A1 aU.length l1):=⟨HT.out ▸ HR1.out⟩;have hw1:IntKind.i64.wrap ((aX.length:Int)+1)=(aX.length:Int)+1:=by rw [IntKind.wrap_i64];have:=HBIG.out.1;omega
    have HNB:Aside0 (aU.length≤1000000000):=⟨by have:=HBIG.out.2.1;have:=HT.out;omega⟩;clear q0 q1 q2 q3 q4 HR1;go_wp2
    go_loopg [5,6,7,27] aU.length (fun gg _ _ _ s27 wr=>∃kk:Nat,kk≤aU.length∧aU.length - kk≤gg∧s27= .int .i64 kk∧Aside0 (Below w1.heap.size w1 wr)∧Aside0 (rowsOk aX.length aQ 0 l1=rowsOk aX.length aQ kk (l1.drop kk)))
    case atStart=>exact⟨0,Nat.zero_le _,by omega,rfl,HB2,⟨by simp⟩⟩
    case round=>
     clear HB2;obtain⟨kk,hkk,hg,rfl,BW,PA⟩:=hrel
     by_cases hlt:kk<aU.length
     ·have hltz:decide ((kk:Int)<(aU.length:Int))=true:=decide_eq_true (by omega)
      have k0:(0≤(kk:Int))=True:=eq_true (by omega);have k1:((kk:Int)<(aU.length:Int))=True:=eq_true (by omega);have hlt1:kk<l1.length:=by rw [HT.out];exact hlt
      obtain⟨ad,A9,c9,e,l9,_,hC9⟩:=at_rowi (bD HR1'.out BW.out) (kk:Int) (by omega) (by omega);rw [Int.toNat_natCast,show l1.getD kk []=l1[kk] by rw [List.getD_eq_getElem?_getD,List.getElem?_eq_getElem hlt1];rfl] at l9 hC9;have hrow:l1[kk].length≤9223372036854775807:=of_decide_eq_true (List.all_eq_true.1 HB5.out _ (List.getElem_mem hlt1));have PB:Aside0 (rowsOk aX.length aQ 0 l1=(decide (l1[kk].length=aX.length+1) && l1[kk].all (okEnt aQ (kk:Int)) && rowsOk aX.length aQ (kk+1) (l1.drop (kk+1)))):=⟨by rw [PA.out,List.drop_eq_getElem_cons hlt1,rowsOk]⟩;generalize l1[kk]=row at l9 hC9 hrow PB;subst e;have hwk:IntKind.i64.wrap ((kk:Int)+1)=(kk:Int)+1:=by rw [IntKind.wrap_i64];have:=HNB.out;omega
      obtain⟨n9,hn9⟩:∃n9,n9=row.length:=⟨_,rfl⟩;rw [←hn9] at l9;have HN9:=aM hn9;have HLT:=aM (And.intro hlt hg);have HC9:=aM hC9;have HROW:=aM hrow;clear hlt hlt1 hkk hg hn9 hC9 hrow PA
      go_upto_region 7 with fail
      have HB4:Aside0 (Below w1.heap.size w1 (wr.alloc (.cells #[.int .i64 (kk:Int)] 3))):=⟨BW.out.trans ((aN (Below.refl _ wr) _).mono BW.out.size)⟩;have HB4':Aside0 (Below wr.heap.size wr (wr.alloc (.cells #[.int .i64 (kk:Int)] 3))):=⟨aN (Below.refl _ wr) _⟩;have HRB:Aside0 ((wr.alloc (.cells #[.int .i64 (kk:Int)] 3)).heap[wr.heap.size]?=some (.cells #[.int .i64 (kk:Int)] 3 (0,0))):=⟨heap_alloc_new wr _⟩;generalize (wr.alloc (.cells #[.int .i64 (kk:Int)] 3))=w4 at HB4 HB4' HRB ⊢;generalize wr.heap.size=RB at HRB ⊢;have eg:∀args w,(callFunc 40 args).run Try.prog w= .ok (.enter 40 args) w:=enters_of Try.func40 (by kernel_rfl) rfl
      have hcon:=containsInt_any (fun x=>!okEnt aQ (kk:Int) x) 40 #[.pointer (some ⟨w.heap.size,0,none⟩),.pointer (some ⟨RB,0,none⟩)] eg A9 c9 row w4 (bD HC9.out HB4'.out) HROW.out (fun W x _ hb=>by
       refine(mright1_any x (kk:Int) aQ w.heap.size RB W cC bX (bD HR4.out (HB4.out.trans (hb.mono HB4.out.size))) (HC.out W (HB4.out.trans (hb.mono HB4.out.size))).2.2.2.2 ((aG (bF HRB.out hb) 0).trans rfl)).mono ?_
       rintro e w' ⟨he,hb'⟩
       exact⟨he,hb.trans (hb'.mono hb.size)⟩)
      rw [any_not',←HN9.out] at hcon;have PB':Aside0 (rowsOk aX.length aQ 0 l1=(decide (n9=aX.length+1) && row.all (okEnt aQ (kk:Int)) && rowsOk aX.length aQ (kk+1) (l1.drop (kk+1)))):=⟨by rw [PB.out,HN9.out]⟩;generalize row.all (okEnt aQ (kk:Int))=R2 at hcon PB';have P5:=aM hcon;obtain⟨q0,q1,q2,q3,q4⟩:=HC.out w4 HB4.out;clear hcon eg PB BW;have e6:∀args w,(callFunc 41 args).run Try.prog w= .ok (.enter 41 args) w:=enters_of Try.func41 (by kernel_rfl) rfl
      by_cases h9:n9=aX.length+1
      ·have e9:((n9:Int) !=(aX.length:Int)+1)=false:=by simp [h9]
       have H9:=aM h9;have D9:=aM (decide_eq_true h9);clear h9
       cases R2 with
       |true=>
        have PC:Aside0 (rowsOk aX.length aQ 0 l1=rowsOk aX.length aQ (kk+1) (l1.drop (kk+1))):=⟨by rw [PB'.out,D9.out];simp⟩
        go_wp2_with (go_at_fn 41;refine P5.out.mono ?_;rintro e w5 ⟨rfl,hb5⟩;have HB5w:=aM hb5;clear hb5)
        go_roundg (aU.length - (kk+1))
        case measure=>have:=HLT.out;omega
        case rel=>exact⟨kk+1,by have:=HLT.out;omega,Nat.le_refl _,by push_cast;rfl,⟨HB4.out.trans (HB5w.out.mono HB4.out.size)⟩,PC⟩
       |false=>
        have PC:Aside0 (rowsOk aX.length aQ 0 l1=false):=⟨by rw [PB'.out];simp⟩
        go_wp2_with (go_at_fn 41;refine P5.out.mono ?_;rintro e w5 ⟨rfl,hb5⟩;have HB5w:=aM hb5;clear hb5)
        go_ret
        exact⟨by rw [←HRR.out,d0,d2,PC.out];rfl,HA.out.trans ((HB4.out.trans (HB5w.out.mono HB4.out.size)).mono HA.out.size)⟩
      ·have e9:((n9:Int) !=(aX.length:Int)+1)=true:=by simp;omega
       have PC:Aside0 (rowsOk aX.length aQ 0 l1=false):=⟨by rw [PB'.out,decide_eq_false h9];simp⟩;clear h9;go_wp2
       go_ret
       exact⟨by rw [←HRR.out,d0,d2,PC.out];rfl,HA.out.trans (HB4.out.mono HA.out.size)⟩
     ·obtain rfl:kk=aU.length:=by omega
      have hltz:decide ((aU.length:Int)<(aU.length:Int))=false:=decide_eq_false (by omega);have PD:Aside0 (rowsOk aX.length aQ 0 l1=true):=⟨by rw [PA.out,←HT.out,List.drop_length];rfl⟩;clear hlt hkk hg PA;go_wp2
      go_ret
      exact⟨by rw [←HRR.out,d0,d2,PD.out];rfl,HA.out.trans (BW.out.mono HA.out.size)⟩
   ·have d2:decide (l1.length=aU.length)=false:=decide_eq_false ht
    have ht2:((l1.length:Int) !=(aU.length:Int))=true:=by simp;omega
    have HT:=aM ht;clear hn ht
    go_wp2_with (first|(go_at_call 39;(with_reducible refine P1.out.mono ?_);rintro e w2 ⟨rfl,hb2⟩;have HB2:=aM hb2;clear hb2 P1 q0 q1 q2 q3 q4;obtain⟨q0,q1,q2,q3,q4⟩:=HC.out w2 HB2.out;have hn:=HN.out;have ht:=HT.out))
    go_ret
    exact⟨by rw [←HRR.out,d0,d2];rfl,HA.out.trans (HB2.out.mono HA.out.size)⟩
theorem awaits1_any (x:S43) (B:Nat) (W:World) (A0 A1:Option Addr) (n0 n1 c0 c1:Nat)
 (h0:W.cell? ⟨B,0,none⟩=some (.slice A0 n0 c0)) (h1:W.cell? ⟨B,1,none⟩=some (.slice A1 n1 c1)) (hB:B<W.heap.size):
 Calls Try.prog 50 #[.agg #[.bool x.f0,.int .i64 x.f1],.pointer (some ⟨B,0,none⟩)] W fun e w'=>e= .returned (.bool (!okSym n0 n1 x))∧Below W.heap.size W w':=by
 have hne:B≠W.heap.size:=by omega
 obtain⟨b,n⟩:=x
 unfold okSym
 by_cases c0:n<0
 ·have d0:decide (n<0)=true:=decide_eq_true c0
  have d1:decide (0≤n)=false:=decide_eq_false (by omega)
  cases b<;>(go_enter Try.func50,Try.ntmps50;go_wp2;go_ret;exact⟨rfl,(Below.refl _ W).alloc (Nat.le_refl _) _⟩)
 have d0:decide (n<0)=false:=decide_eq_false c0;have d1:decide (0≤n)=true:=decide_eq_true (by omega)
 cases b with
 |true=>
  by_cases c2:(n1:Int)≤n
  ·have d2:decide ((n1:Int)≤n)=true:=decide_eq_true c2
   have d3:decide (n<(n1:Int))=false:=decide_eq_false (by omega);go_enter Try.func50,Try.ntmps50
   go_wp2
   go_ret
   exact⟨rfl,(Below.refl _ W).alloc (Nat.le_refl _) _⟩
  ·have d2:decide ((n1:Int)≤n)=false:=decide_eq_false c2
   have d3:decide (n<(n1:Int))=true:=decide_eq_true (by omega);go_enter Try.func50,Try.ntmps50
   go_wp2
   go_ret
   exact⟨rfl,(Below.refl _ W).alloc (Nat.le_refl _) _⟩
 |false=>
  by_cases c2:(n0:Int)≤n
  ·have d2:decide ((n0:Int)≤n)=true:=decide_eq_true c2
   have d3:decide (n<(n0:Int))=false:=decide_eq_false (by omega);go_enter Try.func50,Try.ntmps50
   go_wp2
   go_ret
   exact⟨rfl,(Below.refl _ W).alloc (Nat.le_refl _) _⟩
  ·have d2:decide ((n0:Int)≤n)=false:=decide_eq_false c2
   have d3:decide (n<(n0:Int))=true:=decide_eq_true (by omega);go_enter Try.func50,Try.ntmps50
   go_wp2
   go_ret
   exact⟨rfl,(Below.refl _ W).alloc (Nat.le_refl _) _⟩
def stAwaits (nn nt:Nat) (l:List S43):Bool:=decide (l.length≤10000) && l.all (okSym nn nt)
set_option maxRecDepth 100000 in
theorem awaits_any (bR:Option Addr) (bS:Nat) (aU:List ByteArray) (bU:Option Addr) (bV:Nat) (aX:List (S72)) (bB:Int) (bK:Int) (cC:Option Addr) (bX:Nat) (aQ:List (S35)) (A1:Option Addr) (c1:Nat) (l1:List (S43)) (w:World)
 (hr1:Kd.C k43 w A1 l1.length l1):
 Calls Try.prog 35 #[.agg #[.slice bR aU.length bS,.slice bU aX.length bV,.int .i64 bB,.int .i64 bK,.slice cC aQ.length bX],.slice A1 l1.length c1] w fun e w'=>e= .returned (.bool (stAwaits aU.length aX.length l1))∧Below w.heap.size w w':=by
 have HW:Aside0 (Below w.heap.size w (w.alloc (.cells #[.slice bR aU.length bS,.slice bU aX.length bV,.int .i64 bB,.int .i64 bK,.slice cC aQ.length bX] 26))):=⟨(Below.refl _ w).alloc (Nat.le_refl _) _⟩
 unfold stAwaits
 by_cases hl:l1.length≤10000
 ·have eg:∀args w,(callFunc 50 args).run Try.prog w= .ok (.enter 50 args) w:=enters_of Try.func50 (by kernel_rfl) rfl
  have e6:∀args w,(callFunc 51 args).run Try.prog w= .ok (.enter 51 args) w:=enters_of Try.func51 (by kernel_rfl) rfl
  have hcon:=containsSym_any (fun x=>!okSym aU.length aX.length x) 50 #[.pointer (some ⟨w.heap.size,0,none⟩)] eg A1 c1 l1 (w.alloc (.cells #[.slice bR aU.length bS,.slice bU aX.length bV,.int .i64 bB,.int .i64 bK,.slice cC aQ.length bX] 26)) (bD hr1 HW.out) (by omega) (fun W x _ hb=>by
   have hlt:w.heap.size<(w.alloc (.cells #[.slice bR aU.length bS,.slice bU aX.length bV,.int .i64 bB,.int .i64 bK,.slice cC aQ.length bX] 26)).heap.size:=by simp
   refine(awaits1_any x w.heap.size W bR bU aU.length aX.length bS bV ?_ ?_ (Nat.lt_of_lt_of_le hlt hb.size)).mono ?_
   ·exact(hb.cell (p:=⟨w.heap.size,0,none⟩) hlt).trans (by simp)
   ·exact(hb.cell (p:=⟨w.heap.size,1,none⟩) hlt).trans (by simp)
   ·rintro e w' ⟨he,hb'⟩
    exact⟨he,hb.trans (hb'.mono hb.size)⟩)
  have HD:=aM (decide_eq_true hl);clear hr1;rw [any_not'] at hcon;generalize l1.all (okSym aU.length aX.length)=rr at hcon ⊢;go_enter Try.func35,Try.ntmps35
  go_wp2_with (go_at_fn 51;refine hcon.mono ?_;rintro e w' ⟨rfl,hb'⟩)
  go_ret
  exact⟨by rw [HD.out];simp,HW.out.trans (hb'.mono (by simp))⟩
 ·have hd:decide (l1.length≤10000)=false:=decide_eq_false hl
  rw [hd];clear hr1 hd;go_enter Try.func35,Try.ntmps35
  go_wp2
  go_ret
  exact⟨rfl,HW.out⟩
theorem R_lit0 {α:Type}(d:Kd α) (e:Nat) (W:World) (ok:Nat→Prop) (h:ok W.heap.size):d.R e (W.alloc (.cells #[] e)) W.heap.size ok (.slice (some ⟨W.heap.size,0,none⟩) 0 0) []:=by
 refine⟨fun k hk=>?_,[],?_,?_⟩
 ·have:W.heap.size=k:=by simpa [Value.ownBlock] using hk
  subst this;exact h
 ·have h2:=World.ownsRow_lit (base:=W.heap.size) (e:=e) (size:=d.sz) W #[] 0 (Nat.le_refl _) (by decide) (by simp)
  simpa using h2
 ·exact⟨by simp,by simp⟩
set_option maxRecDepth 100000 in
theorem cloneSym_any (A:Option Addr) (c:Nat) (l:List (S43)) (w:World) (hr:Kd.C k43 w A l.length l) (hb:l.length≤1000000000):
 Calls Try.prog 37 #[.slice A l.length c] w fun e w'=>∃v,e= .returned v∧Kd.R k43 43 w' w.heap.size (fun _=>True) v l∧Below w.heap.size w w':=by
 cases A with
 |none=>
  obtain rfl:l= []:=by
   cases l with
   |nil=>rfl
   |cons x l=>obtain⟨ad,c,e,_⟩:=Kd.C_get hr x 0 (by omega) (by simp);cases e
  have heq:=Lib.run_eql_slice_nil (P:=Try.prog) w 29 43 none 0 c 0 0 Try.underlying29;go_enter Try.func37,Try.ntmps37
  go_wp2
  go_ret
  exact⟨_,rfl,Kd.R_nil _ _ _ _ _,Below.refl _ _⟩
 |some ad=>
  have heq:=Lib.run_eql_slice_nil (P:=Try.prog) w 29 43 (some ad) l.length c 0 0 Try.underlying29;have HR:=aM hr;have HB:=aM hb;clear hr hb;go_enter Try.func37,Try.ntmps37
  have HW:Aside0 (Below w.heap.size w (w.alloc (.cells #[] 43))):=⟨aN (Below.refl _ w) _⟩
  go_wp2_with (first|((with_reducible refine gate_builtin (b:= .append) (xs:=#[.tmp 5,.tmp 6]) rfl ?_);at_builtin;refine Kd.R_append_rows k43 (w0:=w) w.heap.size rfl (.tmp 5) (.tmp 6) 29 43 (.agg #[(.bool false),(.int .i64 0)]) 16 rfl Try.underlying29 info43 rfl (by decide) (by omega) _ ([]:List S43) l (some ad) l.length c (fun _=>True) (fun _=>False) rfl rfl (R_lit0 _ _ w _ trivial) (bD HR.out HW.out) (fun _ _ h=>h) (fun _ h=>h.elim) (fun _ _=>trivial) HW.out HW.out.size (by have:=HB.out;simp only [List.length_nil];omega) ?_;intro v9 w9 ho hb hg hat;have GT:=aM ho;have HB9:=aM hb;clear ho hb hg hat))
  go_ret
  exact⟨_,rfl,GT.out,HB9.out⟩
theorem miInt:(Try.prog.info? 3).map (fun i=>(i.zero,i.size,i.bytes))=some (some (.int .i64 0),1,8):=by kernel_rfl
set_option maxRecDepth 100000 in
theorem cloneInt_any (A:Option Addr) (c:Nat) (l:List (Int)) (w:World) (hr:Kd.C (Kd.int .i64) w A l.length l) (hb:l.length≤1000000000):
 Calls Try.prog 34 #[.slice A l.length c] w fun e w'=>∃v,e= .returned v∧Kd.R (Kd.int .i64) 3 w' w.heap.size (fun _=>True) v l∧Below w.heap.size w w':=by
 cases A with
 |none=>
  obtain rfl:l= []:=by
   cases l with
   |nil=>rfl
   |cons x l=>obtain⟨ad,c,e,_⟩:=Kd.C_get hr x 0 (by omega) (by simp);cases e
  have heq:=Lib.run_eql_slice_nil (P:=Try.prog) w 32 3 none 0 c 0 0 Try.underlying32;go_enter Try.func34,Try.ntmps34
  go_wp2
  go_ret
  exact⟨_,rfl,Kd.R_nil _ _ _ _ _,Below.refl _ _⟩
 |some ad=>
  have heq:=Lib.run_eql_slice_nil (P:=Try.prog) w 32 3 (some ad) l.length c 0 0 Try.underlying32;have HR:=aM hr;have HB:=aM hb;clear hr hb;go_enter Try.func34,Try.ntmps34
  have HW:Aside0 (Below w.heap.size w (w.alloc (.cells #[] 3))):=⟨aN (Below.refl _ w) _⟩
  go_wp2_with (first|((with_reducible refine gate_builtin (b:= .append) (xs:=#[.tmp 5,.tmp 6]) rfl ?_);at_builtin;refine Kd.R_append_rows (Kd.int .i64) (w0:=w) w.heap.size rfl (.tmp 5) (.tmp 6) 32 3 (.int .i64 0) 8 rfl Try.underlying32 miInt rfl (by decide) (by omega) _ ([]:List Int) l (some ad) l.length c (fun _=>True) (fun _=>False) rfl rfl (R_lit0 _ _ w _ trivial) (bD HR.out HW.out) (fun _ _ h=>h) (fun _ h=>h.elim) (fun _ _=>trivial) HW.out HW.out.size (by have:=HB.out;simp only [List.length_nil];omega) ?_;intro v9 w9 ho hb hg hat;have GT:=aM ho;have HB9:=aM hb;clear ho hb hg hat))
  go_ret
  exact⟨_,rfl,GT.out,HB9.out⟩
def PS (bad:Nat→Prop) (W:World) (base PB:Nat) (st:List S43) (sp:List Int):Prop:=
 ∃vs vt,W.heap[PB]?=some (.cells #[vs,vt] 84 (0,0))∧base≤PB∧Kd.R k43 43 W base (fun k=>¬bad k) vs st.reverse∧Kd.R (Kd.int .i64) 3 W base (fun k=>¬bad k) vt sp
theorem PS.alloc {bad:Nat→Prop}{W:World}{base PB:Nat}{st:List S43}{sp:List Int}(h:PS bad W base PB st sp) (o:Obj):PS bad (W.alloc o) base PB st sp:=by
 obtain⟨vs,vt,h0,h1,h2,h3⟩:=h;exact⟨vs,vt,aI h0 o,h1,aA h2 o,aA h3 o⟩
theorem PS.drew {bad:Nat→Prop}{W:World}{base PB:Nat}{st:List S43}{sp:List Int}(h:PS bad W base PB st sp):PS bad W.drew base PB st sp:=by
 obtain⟨vs,vt,h0,h1,h2,h3⟩:=h;exact⟨vs,vt,h0,h1,aC h2,aC h3⟩
theorem PS.stack {bad:Nat→Prop}{W:World}{base PB:Nat}{vs vt vs':Value}{st':List S43}{sp:List Int}(h0:W.heap[PB]?=some (.cells #[vs,vt] 84 (0,0))) (h1:base≤PB) (h2:Kd.R k43 43 W base (fun k=>¬bad k) vs' st'.reverse) (h3:Kd.R (Kd.int .i64) 3 W base (fun k=>¬bad k) vt sp):
 PS bad (W.setCell ⟨PB,0,none⟩ vs') base PB st' sp:=
 ⟨vs',vt,blk_put h0 0 _ rfl,h1,Kd.R_set h2 h0 (by decide) 0 _,Kd.R_set h3 h0 (by decide) 0 _⟩
theorem PS.steps {bad:Nat→Prop}{W:World}{base PB:Nat}{vs vt vt':Value}{st:List S43}{sp':List Int}(h0:W.heap[PB]?=some (.cells #[vs,vt] 84 (0,0))) (h1:base≤PB) (h2:Kd.R k43 43 W base (fun k=>¬bad k) vs st.reverse) (h3:Kd.R (Kd.int .i64) 3 W base (fun k=>¬bad k) vt' sp'):
 PS bad (W.setCell ⟨PB,1,none⟩ vt') base PB st sp':=
 ⟨vs,vt',blk_put h0 1 _ rfl,h1,Kd.R_set h2 h0 (by decide) 1 _,Kd.R_set h3 h0 (by decide) 1 _⟩
theorem PS.mono {bad bad':Nat→Prop}{W:World}{base PB:Nat}{st:List S43}{sp:List Int}(h:PS bad W base PB st sp) (hb:∀k,bad' k→bad k):PS bad' W base PB st sp:=by
 obtain⟨vs,vt,h0,h1,h2,h3⟩:=h;exact⟨vs,vt,h0,h1,Kd.R_mono h2 (fun k hk hb'=>hk (hb k hb')),Kd.R_mono h3 (fun k hk hb'=>hk (hb k hb'))⟩
theorem PS.bound {bad:Nat→Prop}{W:World}{base PB:Nat}{st:List S43}{sp:List Int}(h:PS bad W base PB st sp):PS (fun k=>bad k∨W.heap.size≤k) W base PB st sp:=by
 obtain⟨vs,vt,h0,h1,h2,h3⟩:=h;exact⟨vs,vt,h0,h1,Kd.R_mono (Kd.R_bound h2) (fun k hk hb=>by have:=hk.2.2.1;rcases hb with h|h;exact hk.1 h;omega),Kd.R_mono (Kd.R_bound h3) (fun k hk hb=>by have:=hk.2.2.1;rcases hb with h|h;exact hk.1 h;omega)⟩
theorem PS.far {bad:Nat→Prop}{W:World}{base PB:Nat}{st:List S43}{sp:List Int}(h:PS bad W base PB st sp) {p:Addr}(hp:bad p.block) (hne:PB≠p.block) (u:Value):PS bad (W.setCell p u) base PB st sp:=by
 obtain⟨vs,vt,h0,h1,h2,h3⟩:=h;exact⟨vs,vt,blk_far h0 hne u,h1,aE h2 (fun k hk e=>hk (e ▸ hp)) u,aE h3 (fun k hk e=>hk (e ▸ hp)) u⟩
theorem rev_last {α:Type}(x:α) (l:List α) (d:α):((x::l).reverse).getD l.length d=x:=by
 rw [List.reverse_cons,List.getD_eq_getElem?_getD,List.getElem?_append_right (by simp)];simp
theorem rev_take {α:Type}(x:α) (l:List α):((x::l).reverse).take l.length=l.reverse:=by
 rw [List.reverse_cons,List.take_append_of_le_length (by simp),List.take_of_length_le (by simp)]
set_option maxHeartbeats 4000000 in
set_option maxRecDepth 100000 in
theorem pop_any (bad:Nat→Prop) (x:S43) (st:List S43) (sp:List Int) (base PB:Nat) (W:World) (h:PS bad W base PB (x::st) sp) (hl:st.length≤1000000000):
 Calls Try.prog 52 #[.pointer (some ⟨PB,0,none⟩)] W fun e w'=>e= .returned (.agg #[.bool x.f0,.int .i64 x.f1])∧PS bad w' base PB st sp∧Kept W w' (fun k=>k=PB)∧∀B w0,B≤PB→Below B w0 W→Below B w0 w':=by
 have HW1:Aside0 (PS (fun k=>bad k∨k=W.heap.size) (W.alloc (.cells #[.bool false,.int .i64 0] 43)) base PB (x::st) sp):=⟨(PS.mono h.bound (fun k hk=>hk.imp id (fun e=>by omega))).alloc _⟩;have HK1:Aside0 (Kept W (W.alloc (.cells #[.bool false,.int .i64 0] 43)) (fun k=>k=PB)):=⟨Kept.alloc (Kept.refl W (fun k=>k=PB)) _⟩;have HQB:Aside0 ((W.alloc (.cells #[.bool false,.int .i64 0] 43)).heap[W.heap.size]?=some (.cells #[.bool false,.int .i64 0] 43 (0,0))):=⟨heap_alloc_new W _⟩;have hPB:PB<W.heap.size:=by obtain⟨_,_,h0,_⟩:=h;exact bN h0
 have HBB:Aside0 (∀B w0,B≤PB→Below B w0 W→Below B w0 (W.alloc (.cells #[.bool false,.int .i64 0] 43))):=⟨fun B w0 hB hb=>hb.trans ((aN (Below.refl _ W) _).mono (by omega))⟩;have HPB:=aM hPB;have HL:=aM hl;clear h hl hPB;go_enter Try.func52,Try.ntmps52
 go_upto_region 1 with fail
 generalize W.alloc (.cells #[.bool false,.int .i64 0] 43)=W1 at HW1 HK1 HQB HBB ⊢;generalize hQB:W.heap.size=QB at HQB HPB HW1 ⊢;have HQW:Aside0 (W.heap.size≤QB):=⟨by omega⟩;clear hQB;obtain⟨vs,vt,h0,h1,h2,h3⟩:=HW1.out;obtain⟨A,c,rfl⟩:=Kd.R_slice h2;obtain⟨_,hle,hC⟩:=aF h2;obtain⟨n,hn⟩:∃n,n=st.length:=⟨_,rfl⟩;have hlen:(x::st).reverse.length=n+1:=by rw [hn];simp
 rw [hlen] at h0 h2 hle hC;obtain⟨ad,ea,e0,e1⟩:=at_T43 hC (n:Int) (by omega) (by omega);have hrx:rd_T43 (x::st).reverse (n:Int)=x:=by rw [rd_T43,Int.toNat_natCast,hn];exact rev_last x st _
 rw [hrx,Int.toNat_natCast] at e0 e1;subst ea;obtain⟨i0_,hi0_,_⟩:=info_parts (show(Try.prog.info? 43).map (fun i=>(i.zero,i.size,i.bytes))=some (some (.agg #[.bool false,.int .i64 0]),2,16) from by kernel_rfl);have hcut:=cut_to (P:=Try.prog) 29 43 .i64 Try.underlying29 hi0_ (some ad) (n+1) c (n:Int) (by omega) (by omega) hle;rw [Int.toNat_natCast] at hcut;have q0:W1.cell? ⟨PB,0,none⟩=some (.slice (some ad) (n+1) c):=(aG h0 0).trans rfl;have i0:(0≤(n:Int))=True:=eq_true (by omega);have i1:((n:Int)<(n:Int)+1)=True:=eq_true (by omega);have hn8:n≤1000000000:=by have:=HL.out;omega
 have H0:=aM h0;have H1:=aM h1;have H2:=aM h2;have H3:=aM h3;have HN:=aM hn;clear h0 h1 h2 h3 hC hrx hle hlen hn hi0_ HW1
 go_upto_region 3 with fail
 have HLT1:Aside0 (QB<W1.heap.size):=⟨bN HQB.out⟩;have HXB:Aside0 ((W1.alloc (.cells #[.bool x.f0,.int .i64 x.f1] 43)).heap[W1.heap.size]?=some (.cells #[.bool x.f0,.int .i64 x.f1] 43 (0,0))):=⟨heap_alloc_new W1 _⟩;have H0':=aM (aI H0.out (.cells #[.bool x.f0,.int .i64 x.f1] 43));have HQB':=aM (aI HQB.out (.cells #[.bool x.f0,.int .i64 x.f1] 43));have H2':Aside0 (Kd.R k43 43 (W1.alloc (.cells #[.bool x.f0,.int .i64 x.f1] 43)) base (fun k=>¬(bad k∨k=QB)) (.slice (some ad) n c) st.reverse):=⟨aA (by have h:=Kd.R_take (m:=n) H2.out (by rw [HN.out];simp);rw [HN.out,rev_take] at h;rw [HN.out];exact h) _⟩;have H3':=aM (aA H3.out (.cells #[.bool x.f0,.int .i64 x.f1] 43));have HK2:Aside0 (Kept W (W1.alloc (.cells #[.bool x.f0,.int .i64 x.f1] 43)) (fun k=>k=PB)):=⟨Kept.alloc HK1.out _⟩;have HBB2:Aside0 (∀B w0,B≤PB→Below B w0 W→Below B w0 (W1.alloc (.cells #[.bool x.f0,.int .i64 x.f1] 43))):=⟨fun B w0 hB hb=>(HBB.out B w0 hB hb).trans ((aN (Below.refl _ W1) _).mono (by have:=HPB.out;have:=HLT1.out;omega))⟩;generalize W1.alloc (.cells #[.bool x.f0,.int .i64 x.f1] 43)=W2 at HXB H0' HQB' H2' H3' HK2 HBB2 ⊢;have HXN:Aside0 (QB≠W1.heap.size∧PB≠W1.heap.size∧PB≠QB):=⟨by have:=HPB.out;have:=HLT1.out;omega⟩;generalize W1.heap.size=XB at HXB HXN ⊢;have q0':W2.cell? ⟨PB,0,none⟩=some (.slice (some ad) (n+1) c):=(aG H0'.out 0).trans rfl;have f0':=aH H0'.out 0;have ne1:=HXN.out.1;have ne2:=HXN.out.2.1;have ne3:=HXN.out.2.2;clear q0 e0 e1 H0 HQB H2 H3 HK1 HBB HLT1
 go_upto_region 4 with fail
 have HX3:=aM (blk_far HXB.out (p:=⟨PB,0,none⟩) (Ne.symm ne2) (.slice (some ad) n c));have HQ3:=aM (blk_far HQB'.out (p:=⟨PB,0,none⟩) (Ne.symm ne3) (.slice (some ad) n c));have HP3:Aside0 (PS (fun k=>bad k∨k=QB) (W2.setCell ⟨PB,0,none⟩ (.slice (some ad) n c)) base PB st sp):=⟨PS.stack H0'.out H1.out H2'.out H3'.out⟩;have HK3:Aside0 (Kept W (W2.setCell ⟨PB,0,none⟩ (.slice (some ad) n c)) (fun k=>k=PB)):=⟨Kept.setCell HK2.out (.inl rfl) _⟩;have HBB3:Aside0 (∀B w0,B≤PB→Below B w0 W→Below B w0 (W2.setCell ⟨PB,0,none⟩ (.slice (some ad) n c))):=⟨fun B w0 hB hb=>(HBB2.out B w0 hB hb).setCell hB _⟩;generalize W2.setCell ⟨PB,0,none⟩ (.slice (some ad) n c)=W3 at HX3 HQ3 HP3 HK3 HBB3 ⊢;have x0:W3.cell? ⟨XB,0,none⟩=some (.bool x.f0):=(aG HX3.out 0).trans rfl;have x1:W3.cell? ⟨XB,1,none⟩=some (.int .i64 x.f1):=(aG HX3.out 1).trans rfl;have z0:W3.cell? ⟨QB,0,none⟩=some (.bool false):=(aG HQ3.out 0).trans rfl;have z1:W3.cell? ⟨QB,1,none⟩=some (.int .i64 0):=(aG HQ3.out 1).trans rfl;have g0:=aH HQ3.out 0;have g1:=aH HQ3.out 1;clear q0' f0' HXB H0' HQB' H2' H3' HK2 HBB2;go_wp2
 refine bodyPost_ret (results_cell_row rfl _ _ QB 43 #[.bool x.f0,.int .i64 x.f1] (0,0) _ rfl (blk_put (blk_put HQ3.out 0 _ rfl) 1 _ rfl) Try.underlying43 rfl (by kernel_rfl)) rfl ?_
 exact⟨rfl,PS.mono (PS.far (PS.far HP3.out (p:=⟨QB,0,none⟩) (.inr rfl) ne3 _) (p:=⟨QB,1,none⟩) (.inr rfl) ne3 _) (fun k hk=> .inl hk),Kept.setCell (Kept.setCell HK3.out (p:=⟨QB,0,none⟩) (.inr HQW.out) _) (p:=⟨QB,1,none⟩) (.inr HQW.out) _,fun B w0 hB hb=>((HBB3.out B w0 hB hb).setCell (p:=⟨QB,0,none⟩) (by have:=HPB.out;show B≤QB;omega) _).setCell (p:=⟨QB,1,none⟩) (by have:=HPB.out;show B≤QB;omega) _⟩
end Go.Proofs.Ytapjfnfengefpaa.P
end

section
namespace Go.Proofs.Ytapjfnfengefpaa.P
open Go.RowKit Go.Shelf Go.Proofs.YtapjfnfengefpaaW.PrintWords Go.Proofs.YtapjfnfengefpaaW.PrintLast Go.Proofs.YtapjfnfengefpaaW.PrintMore
set_option linter.unusedVariables false
set_option linter.unusedSimpArgs false
attribute [local go_sem] Oper.semAt_some
def dn (zs:List S43) (k:Nat):List (Nat×S43):=(List.range k).map fun j=>(zs.length - 1 - j,zs.getD (zs.length - 1 - j) ⟨false,0⟩)
theorem dn_succ (zs:List S43) (k:Nat):dn zs (k+1)=dn zs k++ [(zs.length - 1 - k,zs.getD (zs.length - 1 - k) ⟨false,0⟩)]:=by simp [dn,List.range_succ]
theorem dn_length (zs:List S43) (k:Nat):(dn zs k).length=k:=by simp [dn]
theorem dn_all (zs:List S43):(dn zs zs.length).map Prod.snd=zs.reverse:=by
 apply List.ext_getElem
 ·simp [dn]
 ·intro i h1 h2
  simp only [List.length_reverse] at h2;have h3:zs.length - 1 - i<zs.length:=by omega
  simp [dn,List.getElem_reverse,h3]
def backEncs (x:Nat×S43):Array Value:=#[.int .i64 (x.1:Int),.agg #[.bool x.2.f0,.int .i64 x.2.f1]]
def BackK (n₀ Bs:Nat) (W W':World):Prop:=Below n₀ W W'∧(∀o,W.heap[Bs]?=some o→W'.heap[Bs]?=some o)
theorem backK_t {n₀ Bs:Nat}{A B C:World}(h:BackK n₀ Bs A B) (k:BackK n₀ Bs B C):BackK n₀ Bs A C:=⟨h.1.trans k.1,fun o ho=>k.2 o (h.2 o ho)⟩
set_option maxRecDepth 100000 in
set_option maxHeartbeats 2000000 in
theorem back1_in (n:Nat) (hn:1≤n) (l Bs n₀:Nat) (A:Option Addr) (c:Nat) (zs:List S43) (w0:World) (hw0:n₀=w0.heap.size) (hz:Kd.C k43 w0 A zs.length zs) (hbig:zs.length≤1000000000) (J Jx:List (Nat×S43)→World→Prop)
 (hY:∀pre x W,J pre W→pre.length<zs.length→YieldAt Fence.wide (n - 1) Try.prog l (backEncs x) W fun e W'=>
  (e= .returned (.bool true)∧J (pre++ [x]) W'∧BackK n₀ Bs W W')∨(e= .returned (.bool false)∧Jx (pre++ [x]) W'))
 (W:World) (hw:Below n₀ w0 W) (hBs:W.heap[Bs]?=some (.cells #[.slice A zs.length c] 29 (0,0))) (h0:J [] W):
 CallsIn Fence.wide n Try.prog 62 #[.func (.yield l) #[] #[],.pointer (some ⟨Bs,0,none⟩)] W fun e W'=>(∃v,e= .returned v)∧
  ((∃ys,ys.map Prod.snd=zs.reverse∧J ys W')∨(∃pre,True∧Jx pre W')):=by
 subst hw0;refine callsIn_of_wp Try.func62 rfl trivial ?_ rfl
 simp only [Try.ntmps62,List.size_toArray,List.length_cons,List.length_nil,Nat.reduceAdd,Nat.reduceSub,Array.replicate_succ,Array.replicate_zero,List.push_toArray,List.append_toArray,List.nil_append,List.cons_append];have hb0:W.cell? ⟨Bs,0,none⟩=some (.slice A zs.length c):=(aG hBs 0).trans rfl;have hwz:IntKind.i64.wrap ((zs.length:Int) - 1)=(zs.length:Int) - 1:=by rw [IntKind.wrap_i64];omega
 gi_wp2
 gi_loopw [3] (fun i wr=>∃(k:Nat) (z:Int),k≤zs.length∧i= .int .i64 z∧z=(zs.length:Int) - 1 - k∧J (dn zs k) wr∧Aside0 (Below w0.heap.size w0 wr)∧Aside0 (wr.heap[Bs]?=some (.cells #[.slice A zs.length c] 29 (0,0))))
  (fun i _=>(intOf i+1).toNat)
 case atStart=>exact⟨0,_,Nat.zero_le _,rfl,by omega,h0,⟨hw⟩,⟨hBs⟩⟩
 case round=>
  clear hb0 hwz hBs hw h0;obtain⟨k,z,hk,rfl,hzz,hJs,BW,BB⟩:=hrel
  by_cases hlt:k<zs.length
  ·obtain⟨j,hj⟩:∃j:Nat,j=zs.length - 1 - k:=⟨_,rfl⟩
   obtain rfl:z=(j:Int):=by omega
   obtain⟨ad,ea,e0,e1⟩:=at_T43 (bD hz BW.out) (j:Int) (by omega) (by omega);have hrx:rd_T43 zs (j:Int)=zs.getD j ⟨false,0⟩:=by rw [rd_T43,Int.toNat_natCast];rfl
   rw [hrx,Int.toNat_natCast] at e0 e1;have hdn:dn zs (k+1)=dn zs k++ [(j,zs.getD j ⟨false,0⟩)]:=by rw [dn_succ,hj]
   generalize zs.getD j ⟨false,0⟩=y at e0 e1 hdn;obtain⟨fn,tmps,assign,body,hy,hR⟩:=hY _ (j,y) wr hJs (by rw [dn_length];exact hlt)
   dsimp only [backEncs] at hy;subst ea;have b0:wr.cell? ⟨Bs,0,none⟩=some (.slice (some ad) zs.length c):=(aG BB.out 0).trans rfl;have z0:decide ((0:Int)≤(j:Int))=true:=decide_eq_true (by omega);have z1:(0≤(j:Int))=True:=eq_true (by omega);have z2:((j:Int)<(zs.length:Int))=True:=eq_true (by omega);have hwj:IntKind.i64.wrap ((j:Int) - 1)=(j:Int) - 1:=by rw [IntKind.wrap_i64];omega
   have HK:=aM (And.intro hk (And.intro hzz (And.intro hj hlt)));clear hk hzz hj hlt hrx hY
   gi_wp2
   refine hR.mono ?_
   rintro e W3 (⟨rfl,hJ3,hk3⟩|⟨rfl,hJx3⟩)
   ·gi_wp2
    go_roundw
    case rel=>exact⟨k+1,_,by have:=HK.out;omega,rfl,by have:=HK.out;push_cast;omega,by rw [hdn];exact hJ3,⟨BW.out.trans hk3.1⟩,⟨hk3.2 _ BB.out⟩⟩
    case measure=>simp [intOf]
   ·gi_wp2
    refine bodyPost_ret (results_none rfl _ _ _) rfl ?_
    exact⟨⟨_,rfl⟩,.inr ⟨_,trivial,hJx3⟩⟩
  ·obtain rfl:k=zs.length:=by omega
   have z0:decide ((0:Int)≤z)=false:=decide_eq_false (by omega);clear hY
   gi_wp2
   go_end0
   exact⟨⟨_,rfl⟩,.inl ⟨_,dn_all zs,hJs⟩⟩
theorem back_stops (n:Nat) (hn:1≤n) (Bs n₀:Nat) (A:Option Addr) (c:Nat) (zs:List S43) (w0 w:World) (hw0:n₀=w0.heap.size) (hz:Kd.C k43 w0 A zs.length zs) (hbig:zs.length≤1000000000) (hw:Below n₀ w0 w) (hBs:w.heap[Bs]?=some (.cells #[.slice A zs.length c] 29 (0,0))):
 SeqStopsK Fence.wide n Try.prog 62 #[.pointer (some ⟨Bs,0,none⟩)] backEncs (BackK n₀ Bs) (fun ys=>ys.map Prod.snd=zs.reverse) (fun _=>True) zs.length w:=fun l J Jx W hW _ _ hY h0=>
 back1_in n hn l Bs n₀ A c zs w0 hw0 hz hbig J Jx hY W (hw.trans (hW.mono (by rw [hw0];exact(by have:=hw.size;omega)))) (bF hBs hW) h0
set_option maxHeartbeats 1000000 in
theorem back_in (n:Nat) (A:Option Addr) (len cap:Nat) (w:World):
 CallsIn Fence.wide n Try.prog 59 #[.slice A len cap] w fun e w'=>e= .returned (.func (.func 62) #[] #[.pointer (some ⟨w.heap.size,0,none⟩)])∧w'=w.alloc (.cells #[.slice A len cap] 29):=by
 refine callsIn_of_wp Try.func59 rfl trivial ?_ rfl
 simp only [Try.ntmps59,List.size_toArray,List.length_cons,List.length_nil,Nat.reduceAdd,Nat.reduceSub,Array.replicate_succ,Array.replicate_zero,List.push_toArray,List.append_toArray,List.nil_append,List.cons_append]
 gi_wp2
 go_ret
 exact⟨rfl,rfl⟩
end Go.Proofs.Ytapjfnfengefpaa.P
end
