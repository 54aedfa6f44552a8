/- Packed texts of this claim: the walks of the functions, and their plain laws; see the claim's last text. -/
import Derived.RangeFuncNested
import Derived.RangeFuncBound
import Derived.RangeFuncCalls
import Derived.RangeFuncLeaves
import Derived.Shelf.Abstract
import Derived.WalkKit
import Derived.OwnWalkIn
import Derived.TacticsInMore
import Derived.LoopNIn
import Derived.LoopIn
import Derived.Maps.OwnIn
import Derived.OrdersIn
import Derived.Test.YtapjfnfengefpaaKMachineLong2
section
namespace Go.Proofs.Ytapjfnfengefpaa.P
open Go.RowKit Go.Proofs.YtapjfnfengefpaaW.PrintWords Go.Proofs.YtapjfnfengefpaaW.PrintLast Go.Proofs.YtapjfnfengefpaaW.PrintMore
attribute [local go_sem] max2_int min2_int max_two min_two max_three min_three max_four min_four   -- for this text's walks alone
set_option linter.unusedVariables false
set_option linter.unusedSimpArgs false
mutual
def regletref16_Feed.j0:Nat→List (List Int)→Int→Bool→List ByteArray→List (S72)→Int→Int→List (S35)→List (S43)→Bool→Option ((List (S43))×Bool×List Int×Int)
 |0,_,_,_,_,_,_,_,_,_,_=>none
 |k+1,x1,x3,x37,x230000,x230001,x230002,x230003,x230004,x231000,x231001=>if x37=true then(some (([]:List (S43)),true,([]:List Int),1)) else(if x231001=true then(some (([]:List (S43)),true,([]:List Int),80)) else(if([]:List (S43)).length+x231000.length<8796093022208 then(regletref16_Feed.l0 k x1 x3 (([]:List (S43))++x231000) ([]:List Int) x230000 x230001 x230002 x230003 x230004) else(none)))
def regletref16_Feed.l0:Nat→List (List Int)→Int→List (S43)→List Int→List ByteArray→List (S72)→Int→Int→List (S35)→Option ((List (S43))×Bool×List Int×Int)
 |0,_,_,_,_,_,_,_,_,_=>none
 |k+1,x1,x3,x11,x12,x230000,x230001,x230002,x230003,x230004=>if(x11.length:Int)>0 then(if 0≤(wrap64 ((x11.length:Int) - 1)) then(if(wrap64 ((x11.length:Int) - 1))<(x11.length:Int) then(if(wrap64 ((x11.length:Int) - 1))≤(x11.length:Int) then((some (x11.take ((wrap64 ((x11.length:Int) - 1)):Int).toNat:List (S43))).bind fun y239=>(if(rd_T43 x11 (wrap64 ((x11.length:Int) - 1))).f0=true then(if((rd_T43 x11 (wrap64 ((x11.length:Int) - 1))).f1)=x3 then(some (y239,false,x12,0)) else(some (([]:List (S43)),true,x12,80))) else(if 0≤((rd_T43 x11 (wrap64 ((x11.length:Int) - 1))).f1) then(if((rd_T43 x11 (wrap64 ((x11.length:Int) - 1))).f1)<(x1.length:Int) then(if 0≤x3 then(if x3<((rd_L5 x1 ((rd_T43 x11 (wrap64 ((x11.length:Int) - 1))).f1)).length:Int) then(if(rd (rd_L5 x1 ((rd_T43 x11 (wrap64 ((x11.length:Int) - 1))).f1)) x3)<0 then(some (([]:List (S43)),true,x12,80)) else(if x12.length<17592186044416 then(if 0≤(rd (rd_L5 x1 ((rd_T43 x11 (wrap64 ((x11.length:Int) - 1))).f1)) x3) then(if(rd (rd_L5 x1 ((rd_T43 x11 (wrap64 ((x11.length:Int) - 1))).f1)) x3)<(x230004.length:Int) then(regletref16_Feed.l1 k x1 x3 y239 (x12++ [rd (rd_L5 x1 ((rd_T43 x11 (wrap64 ((x11.length:Int) - 1))).f1)) x3]) (rd (rd_L5 x1 ((rd_T43 x11 (wrap64 ((x11.length:Int) - 1))).f1)) x3) (wrap64 ((((rd_T35 x230004 (rd (rd_L5 x1 ((rd_T43 x11 (wrap64 ((x11.length:Int) - 1))).f1)) x3)).f1).length:Int) - 1)) x230000 x230001 x230002 x230003 x230004) else(none)) else(none)) else(none))) else(none)) else(none)) else(none)) else(none)))) else(none)) else(none)) else(none)) else(if x3<(x230001.length:Int) then(some (([]:List (S43)),true,x12,80)) else(some (([]:List (S43)),false,x12,0)))
def regletref16_Feed.l1:Nat→List (List Int)→Int→List (S43)→List Int→Int→Int→List ByteArray→List (S72)→Int→Int→List (S35)→Option ((List (S43))×Bool×List Int×Int)
 |0,_,_,_,_,_,_,_,_,_,_,_=>none
 |k+1,x1,x3,x11,x12,x14,x15,x230000,x230001,x230002,x230003,x230004=>if x15≥0 then(if 0≤x14 then(if x14<(x230004.length:Int) then(if 0≤x15 then(if x15<(((rd_T35 x230004 x14).f1).length:Int) then(if x11.length<8796093022208 then(regletref16_Feed.l1 k x1 x3 (x11++ [(⟨(rd_T43 ((rd_T35 x230004 x14).f1) x15).f0,(rd_T43 ((rd_T35 x230004 x14).f1) x15).f1⟩:S43)]) x12 x14 (wrap64 (x15 - 1)) x230000 x230001 x230002 x230003 x230004) else(none)) else(none)) else(none)) else(none)) else(none)) else(if(x11.length:Int)>10000 then(some (([]:List (S43)),true,([]:List Int),2)) else(if(x12.length:Int)>10000 then(some (([]:List (S43)),true,([]:List Int),2)) else(regletref16_Feed.l0 k x1 x3 x11 x12 x230000 x230001 x230002 x230003 x230004)))
end
def regletref16_Feed.f (k:Nat) (aW:List ByteArray) (aX:List (S72)) (bM:Int) (bO:Int) (aV:List (S35)) (l1:List (List Int)) (dD:List (S43)) (eK:Bool) (a3:Int):Option ((List (S43))×Bool×List Int×Int):=(regletref16_Right.f k aW aX bM bO aV l1).bind fun t232=>(if t232=true then((regletref16_stack.f k aW aX bM bO aV dD).bind fun t233=>(if t233=true then(if a3<0 then(regletref16_Feed.j0 k l1 a3 true aW aX bM bO aV dD eK) else(regletref16_Feed.j0 k l1 a3 (decide (a3>(aX.length:Int))) aW aX bM bO aV dD eK)) else(regletref16_Feed.j0 k l1 a3 true aW aX bM bO aV dD eK))) else(regletref16_Feed.j0 k l1 a3 true aW aX bM bO aV dD eK))
set_option maxHeartbeats 8000000 in
set_option maxRecDepth 100000 in
theorem regletref16_Feed.calls (k:Nat) (cA:Option Addr) (cB:Nat) (aW:List ByteArray) (cE:Option Addr) (cF:Nat) (aX:List (S72)) (bM:Int) (bO:Int) (cK:Option Addr) (cG:Nat) (aV:List (S35)) (A1:Option Addr) (c1:Nat) (l1:List (List Int)) (fQ:Option Addr) (fR:Nat) (dD:List (S43)) (eK:Bool) (a3:Int) (r1:List (S43)) (r2:Bool) (r3:List Int) (r4:Int) (w:World) (fU:Kd.C Kd.string w cA aW.length aW) (gG:aW.length≤cB) (gH:Kd.C k72 w cE aX.length aX) (hU:aX.length≤cF) (gA:Kd.C k35 w cK aV.length aV) (iB:aV.length≤cG) (hr1:Kd.C (Kd.slice 3 (Kd.int .i64)) w A1 l1.length l1) (hc1:l1.length≤c1) (pZ:Kd.C k43 w fQ dD.length dD) (qA:dD.length≤fR) (h:regletref16_Feed.f k aW aX bM bO aV l1 dD eK a3=some (r1,r2,r3,r4)):
 Calls Try.prog 26 #[.agg #[.slice cA aW.length cB,.slice cE aX.length cF,.int .i64 bM,.int .i64 bO,.slice cK aV.length cG],.slice A1 l1.length c1,.agg #[.slice fQ dD.length fR,.bool eK],.int .i64 a3] w fun e w'=>∃v0_ v2_:Value,e= .returned (.tuple #[.agg #[v0_,.bool r2],v2_,.int .i64 r4])∧Kd.R k43 43 w' w.heap.size (fun _=>True) v0_ r1∧Kd.R (Kd.int .i64) 3 w' w.heap.size (fun _=>True) v2_ r3∧Below w.heap.size w w':=by
 have hu26:=Try.underlying26;have hu31:=Try.underlying31;have hu43:=Try.underlying43;have gP:=aM fU;have iA:=aM gG;clear fU gG;have iE:=aM gH;have iF:=aM hU;clear gH hU;have gI:=aM gA;have iG:=aM iB;clear gA iB;have HR1:=aM hr1;have HC1:=aM hc1;clear hr1 hc1;have rU:=aM pZ;have rY:=aM qA;clear pZ qA;have HB:=aM (Below.refl w.heap.size w);have H:((regletref16_Right.f k aW aX bM bO aV l1).bind fun t232=>(if t232=true then((regletref16_stack.f k aW aX bM bO aV dD).bind fun t233=>(if t233=true then(if a3<0 then(regletref16_Feed.j0 k l1 a3 true aW aX bM bO aV dD eK) else(regletref16_Feed.j0 k l1 a3 (decide (a3>(aX.length:Int))) aW aX bM bO aV dD eK)) else(regletref16_Feed.j0 k l1 a3 true aW aX bM bO aV dD eK))) else(regletref16_Feed.j0 k l1 a3 true aW aX bM bO aV dD eK)))=some (r1,r2,r3,r4):=h;clear h;have HC5:=aM H;clear H;go_enter Try.func26,Try.ntmps26
 go_upto_region 1 with(first|((with_reducible refine bJ (N:=4) rfl ?_);(try(refine gate_guard (by rfl) ?_;dsimp only));refine box_event ?hg (N:=4) ?hd (cs:=#[.slice cA aW.length cB,.slice cE aX.length cF,.int .i64 bM,.int .i64 bO,.slice cK aV.length cG]) (t:=26) ?hr ?_;(case hd=>rfl);(case hg=>rfl);(case hr=>first|(go_simp;done)|(go_simp;rfl));intro cY hg w6 hbox hb;have bX:=aM (bG (gW HB.out) hb);have bY:=aM (hbox);have cC:=aM ((by rw [hg];exact(bH (gW HB.out)):w.heap.size≤cY));have cD:=aM ((by rw [hg];exact(bH (gW HB.out)):w.heap.size≤cY));clear HB;have HB:=bX;have bT:=bY;have GW229:=cC;have lB:=cD;clear bX bY cC cD;clear hb hbox hg)|((with_reducible refine bJ (N:=6) rfl ?_);(try(refine gate_guard (by rfl) ?_;dsimp only));refine box_event ?hg (N:=6) ?hd (cs:=#[.slice fQ dD.length fR,.bool eK]) (t:=31) ?hr ?_;(case hd=>rfl);(case hg=>rfl);(case hr=>first|(go_simp;done)|(go_simp;rfl));intro eU hg w7 hbox hb;have bX:=aM (bF (gB bT.out) hb);have bY:=aM (bG (gW HB.out) hb);have cC:=aM (hbox);have cD:=aM ((by rw [hg];exact(bH (gW HB.out)):w.heap.size≤eU));have cL:=aM ((by rw [hg];exact(bH (gW HB.out)):w.heap.size≤eU));have cS:=aM ((by rw [hg];exact Nat.ne_of_lt (bN (g:=cY) (o:= .cells #[.slice cA aW.length cB,.slice cE aX.length cF,.int .i64 bM,.int .i64 bO,.slice cK aV.length cG] 26 (0,0)) (gB bT.out)):cY≠eU));have dB:=aM ((by rw [hg];exact Nat.ne_of_gt (bN (g:=cY) (o:= .cells #[.slice cA aW.length cB,.slice cE aX.length cF,.int .i64 bM,.int .i64 bO,.slice cK aV.length cG] 26 (0,0)) (gB bT.out)):eU≠cY));clear bT;clear HB;have bT:=bX;have HB:=bY;have cR:=cC;have GW230:=cD;have lC:=cL;have iL:=cS;have iM:=dB;clear bX bY cC cD cL cS dB;clear hb hbox hg)|((with_reducible refine bJ (N:=8) rfl ?_);(try(refine gate_guard (by rfl) ?_;dsimp only));refine box_event ?hg (N:=8) ?hd (cs:=#[.slice none 0 0,.bool false]) (t:=31) ?hr ?_;(case hd=>rfl);(case hg=>rfl);(case hr=>first|(go_simp;done)|(go_simp;rfl));intro dP hg w8 hbox hb;have bX:=aM (bF (gB bT.out) hb);have bY:=aM (bF (gB cR.out) hb);have cC:=aM (bG (gW HB.out) hb);have cD:=aM (hbox);have cL:=aM ((by rw [hg];exact(bH (gW HB.out)):w.heap.size≤dP));have cS:=aM ((by rw [hg];exact(bH (gW HB.out)):w.heap.size≤dP));have dB:=aM ((by rw [hg];exact Nat.ne_of_lt (bN (g:=cY) (o:= .cells #[.slice cA aW.length cB,.slice cE aX.length cF,.int .i64 bM,.int .i64 bO,.slice cK aV.length cG] 26 (0,0)) (gB bT.out)):cY≠dP));have dL:=aM ((by rw [hg];exact Nat.ne_of_gt (bN (g:=cY) (o:= .cells #[.slice cA aW.length cB,.slice cE aX.length cF,.int .i64 bM,.int .i64 bO,.slice cK aV.length cG] 26 (0,0)) (gB bT.out)):dP≠cY));have dX:=aM ((by rw [hg];exact Nat.ne_of_lt (bN (g:=eU) (o:= .cells #[.slice fQ dD.length fR,.bool eK] 31 (0,0)) (gB cR.out)):eU≠dP));have fH:=aM ((by rw [hg];exact Nat.ne_of_gt (bN (g:=eU) (o:= .cells #[.slice fQ dD.length fR,.bool eK] 31 (0,0)) (gB cR.out)):dP≠eU));clear bT;clear cR;clear HB;have bT:=bX;have cR:=bY;have HB:=cC;have cJ:=cD;have GW231:=cL;have lD:=cS;have fL:=dB;have fM:=dL;have gE:=dX;have gF:=fH;clear bX bY cC cD cL cS dB dL dX fH;clear hb hbox hg))
 (try simp only [Act.put,List.setIfInBounds_toArray,List.set_cons_zero,List.set_cons_succ])
 go_cut [37] (fun v37 wc=>∃(kq:Nat) (xN:Bool),v37= .bool xN∧Aside0 (regletref16_Feed.j0 kq l1 a3 xN aW aX bM bO aV dD eK=some (r1,r2,r3,r4))∧Aside0 (kq≤k)∧Aside0 (wc.heap[cY]?=some (.cells #[(.slice cA aW.length cB),(.slice cE aX.length cF),.int .i64 bM,.int .i64 bO,(.slice cK aV.length cG)] 26 (0,0)))∧Aside0 (wc.heap[eU]?=some (.cells #[(.slice fQ dD.length fR),.bool eK] 31 (0,0)))∧Aside0 (wc.heap[dP]?=some (.cells #[(.slice none 0 0),.bool false] 31 (0,0)))∧Aside0 (Below w.heap.size w wc))
 case first=>
  have H:=HC5.out;clear HC5;replace H:=Option.bind_eq_some_iff.mp H;obtain⟨t232,A90,H⟩:=H;replace H:(if t232=true then((regletref16_stack.f k aW aX bM bO aV dD).bind fun t233=>(if t233=true then(if a3<0 then(regletref16_Feed.j0 k l1 a3 true aW aX bM bO aV dD eK) else(regletref16_Feed.j0 k l1 a3 (decide (a3>(aX.length:Int))) aW aX bM bO aV dD eK)) else(regletref16_Feed.j0 k l1 a3 true aW aX bM bO aV dD eK))) else(regletref16_Feed.j0 k l1 a3 true aW aX bM bO aV dD eK))=some (r1,r2,r3,r4):=H;have A9:=aM A90;clear A90
  by_cases c10:t232=true
  ·subst c10
   have H1:((regletref16_stack.f k aW aX bM bO aV dD).bind fun t233=>(if t233=true then(if a3<0 then(regletref16_Feed.j0 k l1 a3 true aW aX bM bO aV dD eK) else(regletref16_Feed.j0 k l1 a3 (decide (a3>(aX.length:Int))) aW aX bM bO aV dD eK)) else(regletref16_Feed.j0 k l1 a3 true aW aX bM bO aV dD eK)))=some (r1,r2,r3,r4):=by rw [if_pos rfl] at H;exact H
   clear H;have H:=H1;clear H1;replace H:=Option.bind_eq_some_iff.mp H;obtain⟨t233,A110,H⟩:=H;replace H:(if t233=true then(if a3<0 then(regletref16_Feed.j0 k l1 a3 true aW aX bM bO aV dD eK) else(regletref16_Feed.j0 k l1 a3 (decide (a3>(aX.length:Int))) aW aX bM bO aV dD eK)) else(regletref16_Feed.j0 k l1 a3 true aW aX bM bO aV dD eK))=some (r1,r2,r3,r4):=H;have A11:=aM A110;clear A110
   by_cases c12:t233=true
   ·subst c12
    have H1:(if a3<0 then(regletref16_Feed.j0 k l1 a3 true aW aX bM bO aV dD eK) else(regletref16_Feed.j0 k l1 a3 (decide (a3>(aX.length:Int))) aW aX bM bO aV dD eK))=some (r1,r2,r3,r4):=by rw [if_pos rfl] at H;exact H
    clear H;have H:=H1;clear H1
    by_cases c13:a3<0
    ·rw [if_pos c13] at H
     have qB:decide (a3<0)=true:=decide_eq_true c13;clear c13
     (first|rw [qB]|(simp only [i64_w,i32_w];rw [qB])|skip)
     have H':=aM H;clear H;have hnb14:=iL.out;have hnc14:=iM.out;have hnb15:=fL.out;have hnc15:=fM.out;have sT:w8.cell? ⟨cY,0,none⟩=some (.slice cA aW.length cB):=(aG bT.out 0).trans rfl;have sU:w8.cell? ⟨cY,1,none⟩=some (.slice cE aX.length cF):=(aG bT.out 1).trans rfl;have sV:w8.cell? ⟨cY,2,none⟩=some (.int .i64 bM):=(aG bT.out 2).trans rfl;have sW:w8.cell? ⟨cY,3,none⟩=some (.int .i64 bO):=(aG bT.out 3).trans rfl;have sX:w8.cell? ⟨cY,4,none⟩=some (.slice cK aV.length cG):=(aG bT.out 4).trans rfl;have sY:=aH bT.out 0;have sZ:=aH bT.out 1;have tA:=aH bT.out 2;have tB:=aH bT.out 3;have tC:=aH bT.out 4
     go_wp2_with (first|((with_reducible refine bI (f:=27) rfl ?_);refine goesL_ (some 18) rfl rfl Try.func27 (by kernel_rfl) rfl #[.agg #[.slice cA aW.length cB,.slice cE aX.length cF,.int .i64 bM,.int .i64 bO,.slice cK aV.length cG],.slice A1 l1.length c1] rfl (by(try simp only [List.map_toArray,List.map_cons,List.map_nil]);first|done|rfl|(simp only [List.length_drop,List.length_take];rfl)) ?_;(with_reducible refine(regletref16_Right.calls k _ _ aW _ _ aX bM bO _ _ aV _ _ l1 true _ ?side1 ?side2 ?side3 ?side4 ?side5 ?side6 ?side7 ?side8 A9.out).mono ?_);(case side1=>exact gC (bD gP.out HB.out));(case side2=>exact iA.out);(case side3=>exact gC (bD iE.out HB.out));(case side4=>exact iF.out);(case side5=>exact gC (bD gI.out HB.out));(case side6=>exact iG.out);(case side7=>exact gC (bD HR1.out HB.out));(case side8=>exact HC1.out);rintro e w17 ⟨rfl,hb⟩;refine⟨_,rfl,?_⟩;have bX:=aM (bF (gB bT.out) hb);have bY:=aM (bF (gB cR.out) hb);have cC:=aM (bF (gB cJ.out) hb);have cD:=aM (bG (gW HB.out) hb);clear bT;clear cR;clear cJ;clear HB;have bT:=bX;have cR:=bY;have cJ:=cC;have HB:=cD;clear bX bY cC cD;(try clear hb);(try clear hb2);(try clear hk);(try clear hi);have qW:w17.cell? ⟨cY,0,none⟩=some (.slice cA aW.length cB):=(aG bT.out 0).trans rfl;have qX:w17.cell? ⟨cY,1,none⟩=some (.slice cE aX.length cF):=(aG bT.out 1).trans rfl;have tD:w17.cell? ⟨cY,2,none⟩=some (.int .i64 bM):=(aG bT.out 2).trans rfl;have tE:w17.cell? ⟨cY,3,none⟩=some (.int .i64 bO):=(aG bT.out 3).trans rfl;have tF:w17.cell? ⟨cY,4,none⟩=some (.slice cK aV.length cG):=(aG bT.out 4).trans rfl;have qY:=aH bT.out 0;have qZ:=aH bT.out 1;have tG:=aH bT.out 2;have tH:=aH bT.out 3;have tI:=aH bT.out 4;have hnb19:=gE.out;have hnc19:=gF.out;have mD:w17.cell? ⟨eU,0,none⟩=some (.slice fQ dD.length fR):=(aG cR.out 0).trans rfl;have mE:w17.cell? ⟨eU,1,none⟩=some (.bool eK):=(aG cR.out 1).trans rfl;have mF:=aH cR.out 0;have mG:=aH cR.out 1)|(go_at_call 42;(with_reducible refine(regletref16_stack.calls k _ _ aW _ _ aX bM bO _ _ aV _ _ dD true _ ?side1 ?side2 ?side3 ?side4 ?side5 ?side6 ?side7 ?side8 A11.out).mono ?_);(case side1=>exact gC (bD gP.out HB.out));(case side2=>exact iA.out);(case side3=>exact gC (bD iE.out HB.out));(case side4=>exact iF.out);(case side5=>exact gC (bD gI.out HB.out));(case side6=>exact iG.out);(case side7=>exact gC (bD rU.out HB.out));(case side8=>exact rY.out);rintro e w21 ⟨rfl,hb⟩;have bX:=aM (bF (gB bT.out) hb);have bY:=aM (bF (gB cR.out) hb);have cC:=aM (bF (gB cJ.out) hb);have cD:=aM (bG (gW HB.out) hb);clear bT;clear cR;clear cJ;clear HB;have bT:=bX;have cR:=bY;have cJ:=cC;have HB:=cD;clear bX bY cC cD;(try clear hb);(try clear hb2);(try clear hk);(try clear hi)))
     go_meet
     case rel=>exact⟨_,(true),(by first|rfl|(simp;done)|(simp [*];done)),H',⟨by first|omega|exact Nat.le_refl _⟩,⟨gB bT.out⟩,⟨gB cR.out⟩,⟨gB cJ.out⟩,⟨gW HB.out⟩⟩
    ·rw [if_neg c13] at H
     have qB:decide (a3<0)=false:=decide_eq_false c13;clear c13
     (first|rw [qB]|(simp only [i64_w,i32_w];rw [qB])|skip)
     have H':=aM H;clear H;have hnb22:=iL.out;have hnc22:=iM.out;have hnb23:=fL.out;have hnc23:=fM.out;have nL:w8.cell? ⟨cY,0,none⟩=some (.slice cA aW.length cB):=(aG bT.out 0).trans rfl;have nM:w8.cell? ⟨cY,1,none⟩=some (.slice cE aX.length cF):=(aG bT.out 1).trans rfl;have qH:w8.cell? ⟨cY,2,none⟩=some (.int .i64 bM):=(aG bT.out 2).trans rfl;have qI:w8.cell? ⟨cY,3,none⟩=some (.int .i64 bO):=(aG bT.out 3).trans rfl;have qJ:w8.cell? ⟨cY,4,none⟩=some (.slice cK aV.length cG):=(aG bT.out 4).trans rfl;have nN:=aH bT.out 0;have nO:=aH bT.out 1;have qK:=aH bT.out 2;have qL:=aH bT.out 3;have qM:=aH bT.out 4
     go_wp2_with (first|((with_reducible refine bI (f:=27) rfl ?_);refine goesL_ (some 18) rfl rfl Try.func27 (by kernel_rfl) rfl #[.agg #[.slice cA aW.length cB,.slice cE aX.length cF,.int .i64 bM,.int .i64 bO,.slice cK aV.length cG],.slice A1 l1.length c1] rfl (by(try simp only [List.map_toArray,List.map_cons,List.map_nil]);first|done|rfl|(simp only [List.length_drop,List.length_take];rfl)) ?_;(with_reducible refine(regletref16_Right.calls k _ _ aW _ _ aX bM bO _ _ aV _ _ l1 true _ ?side1 ?side2 ?side3 ?side4 ?side5 ?side6 ?side7 ?side8 A9.out).mono ?_);(case side1=>exact gC (bD gP.out HB.out));(case side2=>exact iA.out);(case side3=>exact gC (bD iE.out HB.out));(case side4=>exact iF.out);(case side5=>exact gC (bD gI.out HB.out));(case side6=>exact iG.out);(case side7=>exact gC (bD HR1.out HB.out));(case side8=>exact HC1.out);rintro e w25 ⟨rfl,hb⟩;refine⟨_,rfl,?_⟩;have bX:=aM (bF (gB bT.out) hb);have bY:=aM (bF (gB cR.out) hb);have cC:=aM (bF (gB cJ.out) hb);have cD:=aM (bG (gW HB.out) hb);clear bT;clear cR;clear cJ;clear HB;have bT:=bX;have cR:=bY;have cJ:=cC;have HB:=cD;clear bX bY cC cD;(try clear hb);(try clear hb2);(try clear hk);(try clear hi);have rA:w25.cell? ⟨cY,0,none⟩=some (.slice cA aW.length cB):=(aG bT.out 0).trans rfl;have rB:w25.cell? ⟨cY,1,none⟩=some (.slice cE aX.length cF):=(aG bT.out 1).trans rfl;have tJ:w25.cell? ⟨cY,2,none⟩=some (.int .i64 bM):=(aG bT.out 2).trans rfl;have tK:w25.cell? ⟨cY,3,none⟩=some (.int .i64 bO):=(aG bT.out 3).trans rfl;have tL:w25.cell? ⟨cY,4,none⟩=some (.slice cK aV.length cG):=(aG bT.out 4).trans rfl;have rC:=aH bT.out 0;have rD:=aH bT.out 1;have tM:=aH bT.out 2;have tN:=aH bT.out 3;have tO:=aH bT.out 4;have hnb27:=gE.out;have hnc27:=gF.out;have mL:w25.cell? ⟨eU,0,none⟩=some (.slice fQ dD.length fR):=(aG cR.out 0).trans rfl;have mM:w25.cell? ⟨eU,1,none⟩=some (.bool eK):=(aG cR.out 1).trans rfl;have mN:=aH cR.out 0;have mO:=aH cR.out 1)|(go_at_call 42;(with_reducible refine(regletref16_stack.calls k _ _ aW _ _ aX bM bO _ _ aV _ _ dD true _ ?side1 ?side2 ?side3 ?side4 ?side5 ?side6 ?side7 ?side8 A11.out).mono ?_);(case side1=>exact gC (bD gP.out HB.out));(case side2=>exact iA.out);(case side3=>exact gC (bD iE.out HB.out));(case side4=>exact iF.out);(case side5=>exact gC (bD gI.out HB.out));(case side6=>exact iG.out);(case side7=>exact gC (bD rU.out HB.out));(case side8=>exact rY.out);rintro e w29 ⟨rfl,hb⟩;have bX:=aM (bF (gB bT.out) hb);have bY:=aM (bF (gB cR.out) hb);have cC:=aM (bF (gB cJ.out) hb);have cD:=aM (bG (gW HB.out) hb);clear bT;clear cR;clear cJ;clear HB;have bT:=bX;have cR:=bY;have cJ:=cC;have HB:=cD;clear bX bY cC cD;(try clear hb);(try clear hb2);(try clear hk);(try clear hi);have qN:w29.cell? ⟨cY,0,none⟩=some (.slice cA aW.length cB):=(aG bT.out 0).trans rfl;have qO:w29.cell? ⟨cY,1,none⟩=some (.slice cE aX.length cF):=(aG bT.out 1).trans rfl;have tP:w29.cell? ⟨cY,2,none⟩=some (.int .i64 bM):=(aG bT.out 2).trans rfl;have tQ:w29.cell? ⟨cY,3,none⟩=some (.int .i64 bO):=(aG bT.out 3).trans rfl;have tR:w29.cell? ⟨cY,4,none⟩=some (.slice cK aV.length cG):=(aG bT.out 4).trans rfl;have qP:=aH bT.out 0;have qQ:=aH bT.out 1;have tS:=aH bT.out 2;have tT:=aH bT.out 3;have tU:=aH bT.out 4))
     go_meet
     case rel=>exact⟨_,(decide (a3>(aX.length:Int))),(by first|rfl|(simp;done)|(simp [*];done)),H',⟨by first|omega|exact Nat.le_refl _⟩,⟨gB bT.out⟩,⟨gB cR.out⟩,⟨gB cJ.out⟩,⟨gW HB.out⟩⟩
   ·replace c12:=Bool.eq_false_iff.mpr c12
    subst c12;have H1:(regletref16_Feed.j0 k l1 a3 true aW aX bM bO aV dD eK)=some (r1,r2,r3,r4):=by rw [if_neg (show ¬(false=true) by decide)] at H;exact H
    clear H;have H:=H1;clear H1;have H':=aM H;clear H;have hnb31:=iL.out;have hnc31:=iM.out;have hnb32:=fL.out;have hnc32:=fM.out;have nB:w8.cell? ⟨cY,0,none⟩=some (.slice cA aW.length cB):=(aG bT.out 0).trans rfl;have nC:w8.cell? ⟨cY,1,none⟩=some (.slice cE aX.length cF):=(aG bT.out 1).trans rfl;have oR:w8.cell? ⟨cY,2,none⟩=some (.int .i64 bM):=(aG bT.out 2).trans rfl;have oS:w8.cell? ⟨cY,3,none⟩=some (.int .i64 bO):=(aG bT.out 3).trans rfl;have oT:w8.cell? ⟨cY,4,none⟩=some (.slice cK aV.length cG):=(aG bT.out 4).trans rfl;have nD:=aH bT.out 0;have nE:=aH bT.out 1;have oU:=aH bT.out 2;have oV:=aH bT.out 3;have oW:=aH bT.out 4
    go_wp2_with (first|((with_reducible refine bI (f:=27) rfl ?_);refine goesL_ (some 18) rfl rfl Try.func27 (by kernel_rfl) rfl #[.agg #[.slice cA aW.length cB,.slice cE aX.length cF,.int .i64 bM,.int .i64 bO,.slice cK aV.length cG],.slice A1 l1.length c1] rfl (by(try simp only [List.map_toArray,List.map_cons,List.map_nil]);first|done|rfl|(simp only [List.length_drop,List.length_take];rfl)) ?_;(with_reducible refine(regletref16_Right.calls k _ _ aW _ _ aX bM bO _ _ aV _ _ l1 true _ ?side1 ?side2 ?side3 ?side4 ?side5 ?side6 ?side7 ?side8 A9.out).mono ?_);(case side1=>exact gC (bD gP.out HB.out));(case side2=>exact iA.out);(case side3=>exact gC (bD iE.out HB.out));(case side4=>exact iF.out);(case side5=>exact gC (bD gI.out HB.out));(case side6=>exact iG.out);(case side7=>exact gC (bD HR1.out HB.out));(case side8=>exact HC1.out);rintro e w34 ⟨rfl,hb⟩;refine⟨_,rfl,?_⟩;have bX:=aM (bF (gB bT.out) hb);have bY:=aM (bF (gB cR.out) hb);have cC:=aM (bF (gB cJ.out) hb);have cD:=aM (bG (gW HB.out) hb);clear bT;clear cR;clear cJ;clear HB;have bT:=bX;have cR:=bY;have cJ:=cC;have HB:=cD;clear bX bY cC cD;(try clear hb);(try clear hb2);(try clear hk);(try clear hi);have mP:w34.cell? ⟨cY,0,none⟩=some (.slice cA aW.length cB):=(aG bT.out 0).trans rfl;have mQ:w34.cell? ⟨cY,1,none⟩=some (.slice cE aX.length cF):=(aG bT.out 1).trans rfl;have nP:w34.cell? ⟨cY,2,none⟩=some (.int .i64 bM):=(aG bT.out 2).trans rfl;have nQ:w34.cell? ⟨cY,3,none⟩=some (.int .i64 bO):=(aG bT.out 3).trans rfl;have nR:w34.cell? ⟨cY,4,none⟩=some (.slice cK aV.length cG):=(aG bT.out 4).trans rfl;have mR:=aH bT.out 0;have mS:=aH bT.out 1;have nS:=aH bT.out 2;have nT:=aH bT.out 3;have nU:=aH bT.out 4;have hnb36:=gE.out;have hnc36:=gF.out;have tV:w34.cell? ⟨eU,0,none⟩=some (.slice fQ dD.length fR):=(aG cR.out 0).trans rfl;have tW:w34.cell? ⟨eU,1,none⟩=some (.bool eK):=(aG cR.out 1).trans rfl;have tX:=aH cR.out 0;have tY:=aH cR.out 1)|(go_at_call 42;(with_reducible refine(regletref16_stack.calls k _ _ aW _ _ aX bM bO _ _ aV _ _ dD false _ ?side1 ?side2 ?side3 ?side4 ?side5 ?side6 ?side7 ?side8 A11.out).mono ?_);(case side1=>exact gC (bD gP.out HB.out));(case side2=>exact iA.out);(case side3=>exact gC (bD iE.out HB.out));(case side4=>exact iF.out);(case side5=>exact gC (bD gI.out HB.out));(case side6=>exact iG.out);(case side7=>exact gC (bD rU.out HB.out));(case side8=>exact rY.out);rintro e w38 ⟨rfl,hb⟩;have bX:=aM (bF (gB bT.out) hb);have bY:=aM (bF (gB cR.out) hb);have cC:=aM (bF (gB cJ.out) hb);have cD:=aM (bG (gW HB.out) hb);clear bT;clear cR;clear cJ;clear HB;have bT:=bX;have cR:=bY;have cJ:=cC;have HB:=cD;clear bX bY cC cD;(try clear hb);(try clear hb2);(try clear hk);(try clear hi)))
    go_meet
    case rel=>exact⟨_,(true),(by first|rfl|(simp;done)|(simp [*];done)),H',⟨by first|omega|exact Nat.le_refl _⟩,⟨gB bT.out⟩,⟨gB cR.out⟩,⟨gB cJ.out⟩,⟨gW HB.out⟩⟩
  ·replace c10:=Bool.eq_false_iff.mpr c10
   subst c10;have H1:(regletref16_Feed.j0 k l1 a3 true aW aX bM bO aV dD eK)=some (r1,r2,r3,r4):=by rw [if_neg (show ¬(false=true) by decide)] at H;exact H
   clear H;have H:=H1;clear H1;have H':=aM H;clear H;have hnb39:=iL.out;have hnc39:=iM.out;have hnb40:=fL.out;have hnc40:=fM.out;have qR:w8.cell? ⟨cY,0,none⟩=some (.slice cA aW.length cB):=(aG bT.out 0).trans rfl;have qS:w8.cell? ⟨cY,1,none⟩=some (.slice cE aX.length cF):=(aG bT.out 1).trans rfl;have tZ:w8.cell? ⟨cY,2,none⟩=some (.int .i64 bM):=(aG bT.out 2).trans rfl;have uA:w8.cell? ⟨cY,3,none⟩=some (.int .i64 bO):=(aG bT.out 3).trans rfl;have uB:w8.cell? ⟨cY,4,none⟩=some (.slice cK aV.length cG):=(aG bT.out 4).trans rfl;have qT:=aH bT.out 0;have qU:=aH bT.out 1;have uC:=aH bT.out 2;have uD:=aH bT.out 3;have uE:=aH bT.out 4
   go_wp2_with (first|((with_reducible refine bI (f:=27) rfl ?_);refine goesL_ (some 18) rfl rfl Try.func27 (by kernel_rfl) rfl #[.agg #[.slice cA aW.length cB,.slice cE aX.length cF,.int .i64 bM,.int .i64 bO,.slice cK aV.length cG],.slice A1 l1.length c1] rfl (by(try simp only [List.map_toArray,List.map_cons,List.map_nil]);first|done|rfl|(simp only [List.length_drop,List.length_take];rfl)) ?_;(with_reducible refine(regletref16_Right.calls k _ _ aW _ _ aX bM bO _ _ aV _ _ l1 false _ ?side1 ?side2 ?side3 ?side4 ?side5 ?side6 ?side7 ?side8 A9.out).mono ?_);(case side1=>exact gC (bD gP.out HB.out));(case side2=>exact iA.out);(case side3=>exact gC (bD iE.out HB.out));(case side4=>exact iF.out);(case side5=>exact gC (bD gI.out HB.out));(case side6=>exact iG.out);(case side7=>exact gC (bD HR1.out HB.out));(case side8=>exact HC1.out);rintro e w42 ⟨rfl,hb⟩;refine⟨_,rfl,?_⟩;have bX:=aM (bF (gB bT.out) hb);have bY:=aM (bF (gB cR.out) hb);have cC:=aM (bF (gB cJ.out) hb);have cD:=aM (bG (gW HB.out) hb);clear bT;clear cR;clear cJ;clear HB;have bT:=bX;have cR:=bY;have cJ:=cC;have HB:=cD;clear bX bY cC cD;(try clear hb);(try clear hb2);(try clear hk);(try clear hi)))
   go_meet
   case rel=>exact⟨_,(true),(by first|rfl|(simp;done)|(simp [*];done)),H',⟨by first|omega|exact Nat.le_refl _⟩,⟨gB bT.out⟩,⟨gB cR.out⟩,⟨gB cJ.out⟩,⟨gW HB.out⟩⟩
 case rest=>
  clear HC5
  (try clear c1);(try clear c2);(try clear p2);(try clear c3);(try clear c4);(try clear c10);(try clear c12);(try clear c13);(try clear qB);(try clear c14);(try clear c15);(try clear c19);(try clear c22);(try clear c23);(try clear c26);(try clear c27);(try clear c31);(try clear c32);(try clear c36);(try clear c39);(try clear c40);(try clear sT);(try clear sU);(try clear sV);(try clear sW)
  (try clear sX);(try clear qW);(try clear qX);(try clear tD);(try clear tE);(try clear tF);(try clear mD);(try clear mE);(try clear nL);(try clear nM);(try clear qH);(try clear qI);(try clear qJ);(try clear rA);(try clear rB);(try clear tJ);(try clear tK);(try clear tL);(try clear mL);(try clear mM);(try clear qN)
  (try clear qO);(try clear tP);(try clear tQ);(try clear tR);(try clear nB);(try clear nC);(try clear oR);(try clear oS);(try clear oT);(try clear mP);(try clear mQ);(try clear nP);(try clear nQ);(try clear nR);(try clear tV);(try clear tW);(try clear qR);(try clear qS);(try clear tZ);(try clear uA);(try clear uB)
  (try clear sY);(try clear sZ);(try clear tA);(try clear tB);(try clear tC);(try clear qY);(try clear qZ);(try clear tG);(try clear tH);(try clear tI);(try clear mF);(try clear mG);(try clear nN);(try clear nO);(try clear qK);(try clear qL);(try clear qM);(try clear rC);(try clear rD);(try clear tM);(try clear tN)
  (try clear tO);(try clear mN);(try clear mO);(try clear qP);(try clear qQ);(try clear tS);(try clear tT);(try clear tU);(try clear nD);(try clear nE);(try clear oU);(try clear oV);(try clear oW);(try clear mR);(try clear mS);(try clear nS);(try clear nT);(try clear nU);(try clear tX);(try clear tY);(try clear qT)
  (try clear qU);(try clear uC);(try clear uD);(try clear uE)
  obtain⟨kq,xN,rfl,HA,HJ4,bT,cR,cJ,HB⟩:=hcut
  cases kq with
  |zero=>exact absurd HA.out (by simp [regletref16_Feed.j0])
  |succ Bz=>
   have H:=HA.out;clear HA;simp only [regletref16_Feed.j0] at H
   by_cases c43:xN=true
   ·subst c43
    have H1:(some (([]:List (S43)),true,([]:List Int),1))=some (r1,r2,r3,r4):=by rw [if_pos rfl] at H;exact H
    clear H;have H:=H1;clear H1;simp only [Option.some.injEq,Prod.mk.injEq] at H;obtain⟨rfl,rfl,rfl,rfl⟩:=H;have hnb44:=fM.out;have hnc44:=fL.out;have hnb45:=gF.out;have hnc45:=gE.out;have xO:wc.cell? ⟨dP,0,none⟩=some (.slice none 0 0):=(aG cJ.out 0).trans rfl;have xP:wc.cell? ⟨dP,1,none⟩=some (.bool false):=(aG cJ.out 1).trans rfl;have xQ:=aH cJ.out 0;have xR:=aH cJ.out 1;go_wp2
    refine bodyPost_ret (results_ctt rfl _ _ dP 31 #[.slice none 0 0,.bool true] (0,0) _ rfl (by(with_reducible repeat(first|refine aJ ?_ _|refine aK ?_|refine aI ?_ _));refine blk_put (cs:=#[.slice none 0 0,.bool false]) ?_ 1 _ rfl;(with_reducible repeat(first|refine aJ ?_ _|refine aK ?_|refine aI ?_ _));refine blk_put (cs:=#[.slice none 0 0,.bool false]) ?_ 0 _ rfl;(with_reducible repeat(first|refine aJ ?_ _|refine aK ?_|refine aI ?_ _));exact cJ.out) Try.underlying31 rfl (by kernel_rfl)) rfl ?_
    exact⟨_,_,by first|rfl|(simp [errW_none,errW_some]<;>rfl)|(simp [*,errW_none,errW_some]<;>rfl),by first|exact Kd.R_nil _ _ _ _ _|exact Kd.N_nil _ _ _ _ _|exact Kd.V_nil _ _ _ _ _|exact Kd.Q_nil _ _ _ _ _|exact Kd.S_nil _ _ _ _ _,by first|exact Kd.R_nil _ _ _ _ _|exact Kd.N_nil _ _ _ _ _|exact Kd.V_nil _ _ _ _ _|exact Kd.Q_nil _ _ _ _ _|exact Kd.S_nil _ _ _ _ _,by repeat(first|(with_reducible first|exact HB.out|apply aN|apply aP|apply aO|refine aL ?_ lB.out|refine aL ?_ lC.out|refine aL ?_ lD.out)|exact HB.out)⟩
   ·replace c43:=Bool.eq_false_iff.mpr c43
    subst c43;have H1:(if eK=true then(some (([]:List (S43)),true,([]:List Int),80)) else(if([]:List (S43)).length+dD.length<8796093022208 then(regletref16_Feed.l0 Bz l1 a3 (([]:List (S43))++dD) ([]:List Int) aW aX bM bO aV) else(none)))=some (r1,r2,r3,r4):=by rw [if_neg (show ¬(false=true) by decide)] at H;exact H
    clear H;have H:=H1;clear H1
    by_cases c47:eK=true
    ·subst c47
     have H1:(some (([]:List (S43)),true,([]:List Int),80))=some (r1,r2,r3,r4):=by rw [if_pos rfl] at H;exact H
     clear H;have H:=H1;clear H1;simp only [Option.some.injEq,Prod.mk.injEq] at H;obtain⟨rfl,rfl,rfl,rfl⟩:=H;have hnb48:=iM.out;have hnc48:=iL.out;have hnb49:=gE.out;have hnc49:=gF.out;have uF:wc.cell? ⟨eU,0,none⟩=some (.slice fQ dD.length fR):=(aG cR.out 0).trans rfl;have uG:wc.cell? ⟨eU,1,none⟩=some (.bool true):=(aG cR.out 1).trans rfl;have uH:=aH cR.out 0;have uI:=aH cR.out 1;have hnb51:=fM.out;have hnc51:=fL.out;have xS:wc.cell? ⟨dP,0,none⟩=some (.slice none 0 0):=(aG cJ.out 0).trans rfl;have xT:wc.cell? ⟨dP,1,none⟩=some (.bool false):=(aG cJ.out 1).trans rfl;have xU:=aH cJ.out 0;have xV:=aH cJ.out 1;go_wp2
     refine bodyPost_ret (results_ctt rfl _ _ dP 31 #[.slice none 0 0,.bool true] (0,0) _ rfl (by(with_reducible repeat(first|refine aJ ?_ _|refine aK ?_|refine aI ?_ _));refine blk_put (cs:=#[.slice none 0 0,.bool false]) ?_ 1 _ rfl;(with_reducible repeat(first|refine aJ ?_ _|refine aK ?_|refine aI ?_ _));refine blk_put (cs:=#[.slice none 0 0,.bool false]) ?_ 0 _ rfl;(with_reducible repeat(first|refine aJ ?_ _|refine aK ?_|refine aI ?_ _));exact cJ.out) Try.underlying31 rfl (by kernel_rfl)) rfl ?_
     exact⟨_,_,by first|rfl|(simp [errW_none,errW_some]<;>rfl)|(simp [*,errW_none,errW_some]<;>rfl),by first|exact Kd.R_nil _ _ _ _ _|exact Kd.N_nil _ _ _ _ _|exact Kd.V_nil _ _ _ _ _|exact Kd.Q_nil _ _ _ _ _|exact Kd.S_nil _ _ _ _ _,by first|exact Kd.R_nil _ _ _ _ _|exact Kd.N_nil _ _ _ _ _|exact Kd.V_nil _ _ _ _ _|exact Kd.Q_nil _ _ _ _ _|exact Kd.S_nil _ _ _ _ _,by repeat(first|(with_reducible first|exact HB.out|apply aN|apply aP|apply aO|refine aL ?_ lB.out|refine aL ?_ lC.out|refine aL ?_ lD.out)|exact HB.out)⟩
    ·replace c47:=Bool.eq_false_iff.mpr c47
     subst c47;have H1:(if([]:List (S43)).length+dD.length<8796093022208 then(regletref16_Feed.l0 Bz l1 a3 (([]:List (S43))++dD) ([]:List Int) aW aX bM bO aV) else(none))=some (r1,r2,r3,r4):=by rw [if_neg (show ¬(false=true) by decide)] at H;exact H
     clear H;have H:=H1;clear H1
     by_cases c53:([]:List (S43)).length+dD.length<8796093022208
     rotate_left
     ·rw [if_neg c53] at H
      exact absurd H (by simp)
     rw [if_pos c53] at H;have Ig:=aM c53;clear c53;obtain⟨y234,uW⟩:∃y_:List (S43),y_=(([]:List (S43))++dD):=⟨_,rfl⟩;replace H:(regletref16_Feed.l0 Bz l1 a3 y234 ([]:List Int) aW aX bM bO aV)=some (r1,r2,r3,r4):=by first|(rw [uW];with_reducible exact H)|(have H2_:=(Option.bind_some _ _).symm.trans H;rw [uW];with_reducible exact H2_)|(have H2_:=(Option.bind_some _ _).symm.trans H;with_reducible exact H2_)|with_reducible exact H|(rw [uW];exact H)|exact H
     have Ih:=aM uW;clear uW;have H':=aM H;clear H;have hnb54:=iM.out;have hnc54:=iL.out;have hnb55:=gE.out;have hnc55:=gF.out;have xW:wc.cell? ⟨eU,0,none⟩=some (.slice fQ dD.length fR):=(aG cR.out 0).trans rfl;have xX:wc.cell? ⟨eU,1,none⟩=some (.bool false):=(aG cR.out 1).trans rfl;have xY:=aH cR.out 0;have xZ:=aH cR.out 1
     go_wp2_with (first|((with_reducible refine gate_builtin (b:= .append) (xs:=#[.tmp 42,.tmp 44]) rfl ?_);(try(refine gate_guard (by rfl) ?_;dsimp only));at_builtin;refine Kd.R_append_rows k43 (w0:=w) w.heap.size rfl (.tmp 42) (.tmp 44) 29 43 (.agg #[(.bool false),(.int .i64 0)]) 16 rfl Try.underlying29 info43 rfl (by decide) (by omega) (.slice none 0 0) ([]:List (S43)) dD _ _ _ (fun _=>True) (fun _=>False) rfl rfl ?aO ?aR (fun _ _ h=>h) (fun _ h=>h.elim) ?aF ?aB ?aS ?aL ?_;(case aR=>exact gC (bD rU.out HB.out));(case aB=>exact(gW HB.out));(case aF=>exact(fun _ _=>trivial));(case aO=>exact((Kd.R_nil _ _ _ _ (fun _=>True))));(case aS=>exact(bH (gW HB.out)));(case aL=>have:=Ig.out;omega);intro v235 w57 ho hb hg hat;rw [←Ih.out] at ho;have bX:=aM (blk_grown (gB bT.out) hg (by simp [Value.ownBlock]));have bY:=aM (blk_grown (gB cR.out) hg (by simp [Value.ownBlock]));have cC:=aM (blk_grown (gB cJ.out) hg (by simp [Value.ownBlock]));have cD:=aM (hb);have cL:=aM (ho);clear bT;clear cR;clear cJ;clear HB;have bT:=bX;have cR:=bY;have cJ:=cC;have HB:=cD;have Ii:=cL;clear bX bY cC cD cL;clear ho hb hg hat))
     go_loopg [11,12] Bz (fun kq v11 v12 w'=>∃(bZ:List (S43)) (gM:List Int) (cZ:Bool),Aside0 (regletref16_Feed.l0 kq l1 a3 bZ gM aW aX bM bO aV=some (r1,r2,r3,r4))∧Aside0 (kq≤Bz)∧Aside0 (Kd.R k43 43 w' w.heap.size (fun _=>True) v11 bZ)∧Aside0 (Kd.R (Kd.int .i64) 3 w' w.heap.size (fun _=>True) v12 gM)∧Aside0 (w'.heap[cY]?=some (.cells #[(.slice cA aW.length cB),(.slice cE aX.length cF),.int .i64 bM,.int .i64 bO,(.slice cK aV.length cG)] 26 (0,0)))∧Aside0 (w'.heap[eU]?=some (.cells #[(.slice fQ dD.length fR),.bool false] 31 (0,0)))∧Aside0 (w'.heap[dP]?=some (.cells #[(.slice none 0 0),.bool cZ] 31 (0,0)))∧Aside0 (Below w.heap.size w w'))
     case atStart=>exact⟨(y234),(([]:List Int)),(false),H',⟨Nat.le_refl _⟩,⟨gR Ii.out⟩,⟨by first|exact Kd.R_nil _ _ _ _ _|exact Kd.N_nil _ _ _ _ _|exact Kd.V_nil _ _ _ _ _|exact Kd.Q_nil _ _ _ _ _|exact Kd.S_nil _ _ _ _ _⟩,⟨gB bT.out⟩,⟨gB cR.out⟩,⟨gB cJ.out⟩,⟨gW HB.out⟩⟩
     case round=>
      clear H'
      (try clear c1);(try clear c2);(try clear p2);(try clear c3);(try clear c4);(try clear c5);(try clear c10);(try clear c12);(try clear c13);(try clear qB);(try clear c14);(try clear c15);(try clear c19);(try clear c22);(try clear c23);(try clear c26);(try clear c27);(try clear c31);(try clear c32);(try clear c36);(try clear c39);(try clear c40);(try clear c43);(try clear c44);(try clear c45);(try clear c47)
      (try clear c48);(try clear c49);(try clear c51);(try clear c53);(try clear c54);(try clear c55);(try clear sT);(try clear sU);(try clear sV);(try clear sW);(try clear sX);(try clear qW);(try clear qX);(try clear tD);(try clear tE);(try clear tF);(try clear mD);(try clear mE);(try clear nL);(try clear nM);(try clear qH);(try clear qI)
      (try clear qJ);(try clear rA);(try clear rB);(try clear tJ);(try clear tK);(try clear tL);(try clear mL);(try clear mM);(try clear qN);(try clear qO);(try clear tP);(try clear tQ);(try clear tR);(try clear nB);(try clear nC);(try clear oR);(try clear oS);(try clear oT);(try clear mP);(try clear mQ);(try clear nP)
      (try clear nQ);(try clear nR);(try clear tV);(try clear tW);(try clear qR);(try clear qS);(try clear tZ);(try clear uA);(try clear uB);(try clear xO);(try clear xP);(try clear uF);(try clear uG);(try clear xS);(try clear xT);(try clear xW);(try clear xX);(try clear sY);(try clear sZ);(try clear tA);(try clear tB)
      (try clear tC);(try clear qY);(try clear qZ);(try clear tG);(try clear tH);(try clear tI);(try clear mF);(try clear mG);(try clear nN);(try clear nO);(try clear qK);(try clear qL);(try clear qM);(try clear rC);(try clear rD);(try clear tM);(try clear tN);(try clear tO);(try clear mN);(try clear mO);(try clear qP)
      (try clear qQ);(try clear tS);(try clear tT);(try clear tU);(try clear nD);(try clear nE);(try clear oU);(try clear oV);(try clear oW);(try clear mR);(try clear mS);(try clear nS);(try clear nT);(try clear nU);(try clear tX);(try clear tY);(try clear qT);(try clear qU);(try clear uC);(try clear uD);(try clear uE)
      (try clear xQ);(try clear xR);(try clear uH);(try clear uI);(try clear xU);(try clear xV);(try clear xY);(try clear xZ);(try clear p2)
      obtain⟨bZ,gM,cZ,HA,HK2,dW,eP,bT,cR,cJ,HB⟩:=hrel
      cases gk with
      |zero=>exact absurd HA.out (by simp [regletref16_Feed.l0])
      |succ k2=>
       have H:=HA.out;clear HA;simp only [regletref16_Feed.l0] at H
       by_cases c58:(bZ.length:Int)>0
       ·rw [if_pos c58] at H
        have Fh:decide (0<(bZ.length:Int))=true:=decide_eq_true c58;have Fi:decide (0<bZ.length)=true:=decide_eq_true (by omega);clear c58;obtain⟨cN,oX⟩:∃j_:Int,(wrap64 ((bZ.length:Int) - 1))=j_:=⟨_,rfl⟩;replace H:(if 0≤(cN) then(if(cN)<(bZ.length:Int) then(if(cN)≤(bZ.length:Int) then((some (bZ.take ((cN):Int).toNat:List (S43))).bind fun y239=>(if(rd_T43 bZ (cN)).f0=true then(if((rd_T43 bZ (cN)).f1)=a3 then(some (y239,false,gM,0)) else(some (([]:List (S43)),true,gM,80))) else(if 0≤((rd_T43 bZ (cN)).f1) then(if((rd_T43 bZ (cN)).f1)<(l1.length:Int) then(if 0≤a3 then(if a3<((rd_L5 l1 ((rd_T43 bZ (cN)).f1)).length:Int) then(if(rd (rd_L5 l1 ((rd_T43 bZ (cN)).f1)) a3)<0 then(some (([]:List (S43)),true,gM,80)) else(if gM.length<17592186044416 then(if 0≤(rd (rd_L5 l1 ((rd_T43 bZ (cN)).f1)) a3) then(if(rd (rd_L5 l1 ((rd_T43 bZ (cN)).f1)) a3)<(aV.length:Int) then(regletref16_Feed.l1 k2 l1 a3 y239 (gM++ [rd (rd_L5 l1 ((rd_T43 bZ (cN)).f1)) a3]) (rd (rd_L5 l1 ((rd_T43 bZ (cN)).f1)) a3) (wrap64 ((((rd_T35 aV (rd (rd_L5 l1 ((rd_T43 bZ (cN)).f1)) a3)).f1).length:Int) - 1)) aW aX bM bO aV) else(none)) else(none)) else(none))) else(none)) else(none)) else(none)) else(none)))) else(none)) else(none)) else(none))=some (r1,r2,r3,r4):=by first|(rw [oX] at H;exact H)|(simp only [oX] at H ⊢;exact H)
        have hji59w:(IntKind.i64.wrap ((bZ.length:Int) - 1))=cN:=(i64_w _).trans oX
        by_cases c60:0≤(cN)
        rotate_left
        ·rw [if_neg c60] at H
         exact absurd H (by simp)
        rw [if_pos c60] at H;have Ij:decide (0≤(cN))=true:=decide_eq_true c60;clear c60
        by_cases c61:(cN)<(bZ.length:Int)
        rotate_left
        ·rw [if_neg c61] at H
         exact absurd H (by simp)
        rw [if_pos c61] at H;have Ik:decide ((cN)<(bZ.length:Int))=true:=decide_eq_true c61;clear c61
        by_cases c62:(cN)≤(bZ.length:Int)
        rotate_left
        ·rw [if_neg c62] at H
         exact absurd H (by simp)
        rw [if_pos c62] at H;have Il:=eq_true c62;have Im:decide ((cN)≤(bZ.length:Int))=true:=decide_eq_true c62;clear c62;obtain⟨y239,uX⟩:∃y_:List (S43),y_=(bZ.take ((cN):Int).toNat):=⟨_,rfl⟩;replace H:(if(rd_T43 bZ (cN)).f0=true then(if((rd_T43 bZ (cN)).f1)=a3 then(some (y239,false,gM,0)) else(some (([]:List (S43)),true,gM,80))) else(if 0≤((rd_T43 bZ (cN)).f1) then(if((rd_T43 bZ (cN)).f1)<(l1.length:Int) then(if 0≤a3 then(if a3<((rd_L5 l1 ((rd_T43 bZ (cN)).f1)).length:Int) then(if(rd (rd_L5 l1 ((rd_T43 bZ (cN)).f1)) a3)<0 then(some (([]:List (S43)),true,gM,80)) else(if gM.length<17592186044416 then(if 0≤(rd (rd_L5 l1 ((rd_T43 bZ (cN)).f1)) a3) then(if(rd (rd_L5 l1 ((rd_T43 bZ (cN)).f1)) a3)<(aV.length:Int) then(regletref16_Feed.l1 k2 l1 a3 y239 (gM++ [rd (rd_L5 l1 ((rd_T43 bZ (cN)).f1)) a3]) (rd (rd_L5 l1 ((rd_T43 bZ (cN)).f1)) a3) (wrap64 ((((rd_T35 aV (rd (rd_L5 l1 ((rd_T43 bZ (cN)).f1)) a3)).f1).length:Int) - 1)) aW aX bM bO aV) else(none)) else(none)) else(none))) else(none)) else(none)) else(none)) else(none)))=some (r1,r2,r3,r4):=by first|(rw [uX];with_reducible exact H)|(have H2_:=(Option.bind_some _ _).symm.trans H;rw [uX];with_reducible exact H2_)|(have H2_:=(Option.bind_some _ _).symm.trans H;with_reducible exact H2_)|with_reducible exact H|(rw [uX];exact H)|exact H
        have qC:=aM uX;clear uX;obtain⟨bq63,hbq63⟩:∃b_:Bool,b_=((rd_T43 bZ (cN)).f0):=⟨_,rfl⟩;replace H:(if bq63=true then(if((rd_T43 bZ (cN)).f1)=a3 then(some (y239,false,gM,0)) else(some (([]:List (S43)),true,gM,80))) else(if 0≤((rd_T43 bZ (cN)).f1) then(if((rd_T43 bZ (cN)).f1)<(l1.length:Int) then(if 0≤a3 then(if a3<((rd_L5 l1 ((rd_T43 bZ (cN)).f1)).length:Int) then(if(rd (rd_L5 l1 ((rd_T43 bZ (cN)).f1)) a3)<0 then(some (([]:List (S43)),true,gM,80)) else(if gM.length<17592186044416 then(if 0≤(rd (rd_L5 l1 ((rd_T43 bZ (cN)).f1)) a3) then(if(rd (rd_L5 l1 ((rd_T43 bZ (cN)).f1)) a3)<(aV.length:Int) then(regletref16_Feed.l1 k2 l1 a3 y239 (gM++ [rd (rd_L5 l1 ((rd_T43 bZ (cN)).f1)) a3]) (rd (rd_L5 l1 ((rd_T43 bZ (cN)).f1)) a3) (wrap64 ((((rd_T35 aV (rd (rd_L5 l1 ((rd_T43 bZ (cN)).f1)) a3)).f1).length:Int) - 1)) aW aX bM bO aV) else(none)) else(none)) else(none))) else(none)) else(none)) else(none)) else(none)))=some (r1,r2,r3,r4):=by rw [←hbq63] at H;exact H
        have Nbq63:=aM hbq63;clear hbq63
        by_cases c64:bq63=true
        ·subst c64
         have H1:(if((rd_T43 bZ (cN)).f1)=a3 then(some (y239,false,gM,0)) else(some (([]:List (S43)),true,gM,80)))=some (r1,r2,r3,r4):=by rw [if_pos rfl] at H;exact H
         clear H;have H:=H1;clear H1
         by_cases c65:((rd_T43 bZ (cN)).f1)=a3
         ·rw [if_pos c65] at H
          have Fj:(((rd_T43 bZ (cN)).f1)==a3)=true:=beq_iff_eq.mpr c65;have Fk:(((rd_T43 bZ (cN)).f1) !=a3)=false:=bne_eq_false_iff_eq.mpr c65;clear c65;simp only [Option.some.injEq,Prod.mk.injEq] at H;obtain⟨rfl,rfl,rfl,rfl⟩:=H;obtain⟨Ue,yO,Rp⟩:=Kd.R_slice dW.out;subst Rp;have p237:0≤((cN):Int):=of_decide_eq_true (by first|(with_reducible assumption)|assumption);have q237:(cN)<(bZ.length:Int):=of_decide_eq_true (by first|(with_reducible assumption)|assumption);obtain⟨kG,e237,kV,rE⟩:=at_T43 (aF dW.out).2.2 (cN) p237 q237
          (try rw [←Nbq63.out] at kV)
          cases e237;replace p237:=eq_true p237;replace q237:=eq_true q237
          go_wp2_with (first|((with_reducible refine bJ (N:=13) rfl ?_);(try(refine gate_guard (by rfl) ?_;dsimp only));refine box_event ?hg (N:=13) ?hd (cs:=#[.bool false,.int .i64 0]) (t:=43) ?hr ?_;(case hd=>rfl);(case hg=>rfl);(case hr=>first|(go_simp;done)|(go_simp;rfl));intro cW hg w67 hbox hb;have bX:=aM (aD (Kd.R_elderB (gR dW.out) cW (Nat.le_of_eq hg.symm)) hb);have bY:=aM (aD (gR eP.out) hb);have cC:=aM (bF (gB bT.out) hb);have cD:=aM (bF (gB cR.out) hb);have cL:=aM (bF (gB cJ.out) hb);have cS:=aM (bG (gW HB.out) hb);have dB:=aM (hbox);have dL:=aM ((by rw [hg];exact(bH (gW HB.out)):w.heap.size≤cW));have dX:=aM ((by rw [hg];exact(bH (gW HB.out)):w.heap.size≤cW));have fH:=aM ((by rw [hg];exact Nat.ne_of_lt (bN (g:=cY) (o:= .cells #[.slice cA aW.length cB,.slice cE aX.length cF,.int .i64 bM,.int .i64 bO,.slice cK aV.length cG] 26 (0,0)) (gB bT.out)):cY≠cW));have dT:=aM ((by rw [hg];exact Nat.ne_of_gt (bN (g:=cY) (o:= .cells #[.slice cA aW.length cB,.slice cE aX.length cF,.int .i64 bM,.int .i64 bO,.slice cK aV.length cG] 26 (0,0)) (gB bT.out)):cW≠cY));have eC:=aM ((by rw [hg];exact Nat.ne_of_lt (bN (g:=eU) (o:= .cells #[.slice fQ dD.length fR,.bool false] 31 (0,0)) (gB cR.out)):eU≠cW));have eV:=aM ((by rw [hg];exact Nat.ne_of_gt (bN (g:=eU) (o:= .cells #[.slice fQ dD.length fR,.bool false] 31 (0,0)) (gB cR.out)):cW≠eU));have fI:=aM ((by rw [hg];exact Nat.ne_of_lt (bN (g:=dP) (o:= .cells #[.slice none 0 0,.bool cZ] 31 (0,0)) (gB cJ.out)):dP≠cW));have gU:=aM ((by rw [hg];exact Nat.ne_of_gt (bN (g:=dP) (o:= .cells #[.slice none 0 0,.bool cZ] 31 (0,0)) (gB cJ.out)):cW≠dP));clear dW;clear eP;clear bT;clear cR;clear cJ;clear HB;have dW:=bX;have eP:=bY;have bT:=cC;have cR:=cD;have cJ:=cL;have HB:=cS;have dS:=dB;have GW238:=dL;have lU:=dX;have fC:=fH;have jI:=dT;have fN:=eC;have jV:=eV;have eW:=fI;have jA:=gU;clear bX bY cC cD cL cS dB dL dX fH dT eC eV fI gU;clear hb hbox hg;have hnb68:=jI.out;have hnc68:=fC.out;have hnb69:=jV.out;have hnc69:=fN.out;have hnb70:=jA.out;have hnc70:=eW.out;have Dj:w67.cell? ⟨cW,0,none⟩=some (.bool false):=(aG dS.out 0).trans rfl;have Dk:w67.cell? ⟨cW,1,none⟩=some (.int .i64 0):=(aG dS.out 1).trans rfl;have Dl:=aH dS.out 0;have Dm:=aH dS.out 1)|((with_reducible refine gate_store (t:=43) (p:=13) rfl ?_);refine store_event (t:=43) (p:=13) (v:=?vo_w72) (w1:=((w67.setCell ⟨cW,0,none⟩ (.bool true)).setCell ⟨cW,1,none⟩ (.int .i64 ((rd_T43 bZ (cN)).f1)))) ?hg ?ho ?hn ?hr ?_;(case ho=>rfl);(case hg=>rfl);(case hn=>rfl);(case hr=>first|(go_simp;done)|(go_simp;rfl));intro w72 hw;have bX:Aside0 (Kd.R k43 43 w72 w.heap.size (fun k_=>k_≠cW) (.slice (some kG) bZ.length yO) bZ):=⟨(by rw [hw];exact(by(with_reducible repeat(first|apply aA|apply aB|apply aC));exact Kd.R_mono (aE (p:=⟨cW,1,none⟩) (aE (p:=⟨cW,0,none⟩) (Kd.R_mono dW.out (fun k_ hk=>(⟨hk,hk.2⟩:_∧k_≠cW))) (fun _ hk=>hk.2) (.bool true)) (fun _ hk=>hk.2) (.int .i64 ((rd_T43 bZ (cN)).f1))) (fun _ hk=>hk.1.2)))⟩;have bY:Aside0 (Kd.R (Kd.int .i64) 3 w72 w.heap.size (fun _=>True) u12 gM):=⟨(by rw [hw];exact(by(with_reducible repeat(first|apply aA|apply aB|apply aC));exact Kd.R_mono (aE (p:=⟨cW,1,none⟩) (aE (p:=⟨cW,0,none⟩) (Kd.R_types eP.out dS.out (by decide)) (fun _ hk=>hk.2) (.bool true)) (fun _ hk=>hk.2) (.int .i64 ((rd_T43 bZ (cN)).f1))) (fun _ hk=>trivial)))⟩;have cC:Aside0 (w72.heap[cY]?=some (.cells #[.slice cA aW.length cB,.slice cE aX.length cF,.int .i64 bM,.int .i64 bO,.slice cK aV.length cG] 26 (0,0))):=⟨(by rw [hw];exact(by(with_reducible repeat(first|refine aJ ?_ _|refine aK ?_|refine aI ?_ _));refine blk_far ?_ fC.out _;(with_reducible repeat(first|refine aJ ?_ _|refine aK ?_|refine aI ?_ _));refine blk_far ?_ fC.out _;(with_reducible repeat(first|refine aJ ?_ _|refine aK ?_|refine aI ?_ _));exact bT.out))⟩;have cD:Aside0 (w72.heap[eU]?=some (.cells #[.slice fQ dD.length fR,.bool false] 31 (0,0))):=⟨(by rw [hw];exact(by(with_reducible repeat(first|refine aJ ?_ _|refine aK ?_|refine aI ?_ _));refine blk_far ?_ fN.out _;(with_reducible repeat(first|refine aJ ?_ _|refine aK ?_|refine aI ?_ _));refine blk_far ?_ fN.out _;(with_reducible repeat(first|refine aJ ?_ _|refine aK ?_|refine aI ?_ _));exact cR.out))⟩;have cL:Aside0 (w72.heap[dP]?=some (.cells #[.slice none 0 0,.bool cZ] 31 (0,0))):=⟨(by rw [hw];exact(by(with_reducible repeat(first|refine aJ ?_ _|refine aK ?_|refine aI ?_ _));refine blk_far ?_ eW.out _;(with_reducible repeat(first|refine aJ ?_ _|refine aK ?_|refine aI ?_ _));refine blk_far ?_ eW.out _;(with_reducible repeat(first|refine aJ ?_ _|refine aK ?_|refine aI ?_ _));exact cJ.out))⟩;have cS:Aside0 (w72.heap[cW]?=some (.cells #[.bool true,.int .i64 ((rd_T43 bZ (cN)).f1)] 43 (0,0))):=⟨(by rw [hw];exact(by(with_reducible repeat(first|refine aJ ?_ _|refine aK ?_|refine aI ?_ _));refine blk_put (cs:=#[.bool true,.int .i64 0]) ?_ 1 _ rfl;(with_reducible repeat(first|refine aJ ?_ _|refine aK ?_|refine aI ?_ _));refine blk_put (cs:=#[.bool false,.int .i64 0]) ?_ 0 _ rfl;(with_reducible repeat(first|refine aJ ?_ _|refine aK ?_|refine aI ?_ _));exact dS.out))⟩;have dB:Aside0 (Below w.heap.size w w72):=⟨(by rw [hw];exact(by repeat(first|(with_reducible first|exact HB.out|apply aN|apply aP|apply aO|refine aL ?_ lB.out|refine aL ?_ lC.out|refine aL ?_ lD.out|refine aL ?_ lU.out)|exact HB.out)))⟩;clear hw;clear dW;clear eP;clear bT;clear cR;clear cJ;clear dS;clear HB;have dW:=bX;have eP:=bY;have bT:=cC;have cR:=cD;have cJ:=cL;have dS:=cS;have HB:=dB;clear bX bY cC cD cL cS dB;have q73:((cN):Int)≤((bZ.length:Int):Int):=of_decide_eq_true (by first|(with_reducible assumption)|assumption);obtain⟨i073,hi073,_,hsz73,_⟩:=info_parts info43;have hcut73:=cut_to (P:=Try.prog) 29 43 .i64 Try.underlying29 hi073 (some kG) bZ.length yO (cN) (of_decide_eq_true (by first|(with_reducible assumption)|assumption)) q73 (aF dW.out).2.1;have hr73:=Kd.R_take (m:=((cN):Int).toNat) dW.out (by omega);have In:y239.length=((cN):Int).toNat:=(by rw [qC.out,List.length_take];omega);rw [←qC.out] at hr73;rw [←In] at hr73 hcut73;clear In hi073 hsz73 dW;have qD:=aM hr73;clear hr73;replace q73:=eq_true q73;have Dn:w72.cell? ⟨cW,0,none⟩=some (.bool true):=(aG dS.out 0).trans rfl;have Do:w72.cell? ⟨cW,1,none⟩=some (.int .i64 ((rd_T43 bZ (cN)).f1)):=(aG dS.out 1).trans rfl;have Dp:=aH dS.out 0;have Dq:=aH dS.out 1;have hnb75:=fM.out;have hnc75:=fL.out;have hnb76:=gF.out;have hnc76:=gE.out;have Dr:w72.cell? ⟨dP,0,none⟩=some (.slice none 0 0):=(aG cJ.out 0).trans rfl;have Ds:w72.cell? ⟨dP,1,none⟩=some (.bool cZ):=(aG cJ.out 1).trans rfl;have Dt:=aH cJ.out 0;have Du:=aH cJ.out 1))
          refine bodyPost_ret (results_ctt rfl _ _ dP 31 #[.slice (some kG) y239.length yO,.bool false] (0,0) _ rfl (by(with_reducible repeat(first|refine aJ ?_ _|refine aK ?_|refine aI ?_ _));refine blk_put (cs:=#[.slice (some kG) y239.length yO,.bool cZ]) ?_ 1 _ rfl;(with_reducible repeat(first|refine aJ ?_ _|refine aK ?_|refine aI ?_ _));refine blk_put (cs:=#[.slice none 0 0,.bool cZ]) ?_ 0 _ rfl;(with_reducible repeat(first|refine aJ ?_ _|refine aK ?_|refine aI ?_ _));exact cJ.out) Try.underlying31 rfl (by kernel_rfl)) rfl ?_
          exact⟨_,_,by first|rfl|(simp [errW_none,errW_some]<;>rfl)|(simp only [←oX];first|rfl|(simp [errW_none,errW_some]<;>rfl))|(simp [*,errW_none,errW_some]<;>rfl),by(with_reducible repeat(first|apply aA|apply aB|apply aC));exact Kd.R_mono (aE (p:=⟨dP,1,none⟩) (aE (p:=⟨dP,0,none⟩) (Kd.R_types qD.out cJ.out (by decide)) (fun _ hk=>hk.2) (.slice (some kG) y239.length yO)) (fun _ hk=>hk.2) (.bool false)) (fun _ hk=>trivial),by(with_reducible repeat(first|apply aA|apply aB|apply aC));exact Kd.R_mono (aE (p:=⟨dP,1,none⟩) (aE (p:=⟨dP,0,none⟩) (Kd.R_types eP.out cJ.out (by decide)) (fun _ hk=>hk.2) (.slice (some kG) y239.length yO)) (fun _ hk=>hk.2) (.bool false)) (fun _ hk=>trivial),by repeat(first|(with_reducible first|exact HB.out|apply aN|apply aP|apply aO|refine aL ?_ lB.out|refine aL ?_ lC.out|refine aL ?_ lD.out|refine aL ?_ lU.out)|exact HB.out)⟩
         ·rw [if_neg c65] at H
          have Fj:(((rd_T43 bZ (cN)).f1)==a3)=false:=beq_eq_false_iff_ne.mpr c65;have Fk:(((rd_T43 bZ (cN)).f1) !=a3)=true:=bne_iff_ne.mpr c65;simp only [Option.some.injEq,Prod.mk.injEq] at H;obtain⟨rfl,rfl,rfl,rfl⟩:=H;obtain⟨Uf,Io,Rq⟩:=Kd.R_slice dW.out;subst Rq;have p237:0≤((cN):Int):=of_decide_eq_true (by first|(with_reducible assumption)|assumption);have q237:(cN)<(bZ.length:Int):=of_decide_eq_true (by first|(with_reducible assumption)|assumption);obtain⟨kG,e237,kV,rE⟩:=at_T43 (aF dW.out).2.2 (cN) p237 q237
          (try rw [←Nbq63.out] at kV)
          cases e237;replace p237:=eq_true p237;replace q237:=eq_true q237
          go_wp2_with (first|((with_reducible refine bJ (N:=13) rfl ?_);(try(refine gate_guard (by rfl) ?_;dsimp only));refine box_event ?hg (N:=13) ?hd (cs:=#[.bool false,.int .i64 0]) (t:=43) ?hr ?_;(case hd=>rfl);(case hg=>rfl);(case hr=>first|(go_simp;done)|(go_simp;rfl));intro cW hg w79 hbox hb;have bX:=aM (aD (Kd.R_elderB (gR dW.out) cW (Nat.le_of_eq hg.symm)) hb);have bY:=aM (aD (gR eP.out) hb);have cC:=aM (bF (gB bT.out) hb);have cD:=aM (bF (gB cR.out) hb);have cL:=aM (bF (gB cJ.out) hb);have cS:=aM (bG (gW HB.out) hb);have dB:=aM (hbox);have dL:=aM ((by rw [hg];exact(bH (gW HB.out)):w.heap.size≤cW));have dX:=aM ((by rw [hg];exact(bH (gW HB.out)):w.heap.size≤cW));have fH:=aM ((by rw [hg];exact Nat.ne_of_lt (bN (g:=cY) (o:= .cells #[.slice cA aW.length cB,.slice cE aX.length cF,.int .i64 bM,.int .i64 bO,.slice cK aV.length cG] 26 (0,0)) (gB bT.out)):cY≠cW));have dT:=aM ((by rw [hg];exact Nat.ne_of_gt (bN (g:=cY) (o:= .cells #[.slice cA aW.length cB,.slice cE aX.length cF,.int .i64 bM,.int .i64 bO,.slice cK aV.length cG] 26 (0,0)) (gB bT.out)):cW≠cY));have eC:=aM ((by rw [hg];exact Nat.ne_of_lt (bN (g:=eU) (o:= .cells #[.slice fQ dD.length fR,.bool false] 31 (0,0)) (gB cR.out)):eU≠cW));have eV:=aM ((by rw [hg];exact Nat.ne_of_gt (bN (g:=eU) (o:= .cells #[.slice fQ dD.length fR,.bool false] 31 (0,0)) (gB cR.out)):cW≠eU));have fI:=aM ((by rw [hg];exact Nat.ne_of_lt (bN (g:=dP) (o:= .cells #[.slice none 0 0,.bool cZ] 31 (0,0)) (gB cJ.out)):dP≠cW));have gU:=aM ((by rw [hg];exact Nat.ne_of_gt (bN (g:=dP) (o:= .cells #[.slice none 0 0,.bool cZ] 31 (0,0)) (gB cJ.out)):cW≠dP));clear dW;clear eP;clear bT;clear cR;clear cJ;clear HB;have dW:=bX;have eP:=bY;have bT:=cC;have cR:=cD;have cJ:=cL;have HB:=cS;have dS:=dB;have GW238:=dL;have lU:=dX;have fC:=fH;have jI:=dT;have fN:=eC;have jV:=eV;have eW:=fI;have jA:=gU;clear bX bY cC cD cL cS dB dL dX fH dT eC eV fI gU;clear hb hbox hg;have hnb80:=jI.out;have hnc80:=fC.out;have hnb81:=jV.out;have hnc81:=fN.out;have hnb82:=jA.out;have hnc82:=eW.out;have Dv:w79.cell? ⟨cW,0,none⟩=some (.bool false):=(aG dS.out 0).trans rfl;have Dw:w79.cell? ⟨cW,1,none⟩=some (.int .i64 0):=(aG dS.out 1).trans rfl;have Dx:=aH dS.out 0;have Dy:=aH dS.out 1)|((with_reducible refine gate_store (t:=43) (p:=13) rfl ?_);refine store_event (t:=43) (p:=13) (v:=?vo_w84) (w1:=((w79.setCell ⟨cW,0,none⟩ (.bool true)).setCell ⟨cW,1,none⟩ (.int .i64 ((rd_T43 bZ (cN)).f1)))) ?hg ?ho ?hn ?hr ?_;(case ho=>rfl);(case hg=>rfl);(case hn=>rfl);(case hr=>first|(go_simp;done)|(go_simp;rfl));intro w84 hw;have bX:Aside0 (Kd.R k43 43 w84 w.heap.size (fun k_=>k_≠cW) (.slice (some kG) bZ.length Io) bZ):=⟨(by rw [hw];exact(by(with_reducible repeat(first|apply aA|apply aB|apply aC));exact Kd.R_mono (aE (p:=⟨cW,1,none⟩) (aE (p:=⟨cW,0,none⟩) (Kd.R_mono dW.out (fun k_ hk=>(⟨hk,hk.2⟩:_∧k_≠cW))) (fun _ hk=>hk.2) (.bool true)) (fun _ hk=>hk.2) (.int .i64 ((rd_T43 bZ (cN)).f1))) (fun _ hk=>hk.1.2)))⟩;have bY:Aside0 (Kd.R (Kd.int .i64) 3 w84 w.heap.size (fun _=>True) u12 gM):=⟨(by rw [hw];exact(by(with_reducible repeat(first|apply aA|apply aB|apply aC));exact Kd.R_mono (aE (p:=⟨cW,1,none⟩) (aE (p:=⟨cW,0,none⟩) (Kd.R_types eP.out dS.out (by decide)) (fun _ hk=>hk.2) (.bool true)) (fun _ hk=>hk.2) (.int .i64 ((rd_T43 bZ (cN)).f1))) (fun _ hk=>trivial)))⟩;have cC:Aside0 (w84.heap[cY]?=some (.cells #[.slice cA aW.length cB,.slice cE aX.length cF,.int .i64 bM,.int .i64 bO,.slice cK aV.length cG] 26 (0,0))):=⟨(by rw [hw];exact(by(with_reducible repeat(first|refine aJ ?_ _|refine aK ?_|refine aI ?_ _));refine blk_far ?_ fC.out _;(with_reducible repeat(first|refine aJ ?_ _|refine aK ?_|refine aI ?_ _));refine blk_far ?_ fC.out _;(with_reducible repeat(first|refine aJ ?_ _|refine aK ?_|refine aI ?_ _));exact bT.out))⟩;have cD:Aside0 (w84.heap[eU]?=some (.cells #[.slice fQ dD.length fR,.bool false] 31 (0,0))):=⟨(by rw [hw];exact(by(with_reducible repeat(first|refine aJ ?_ _|refine aK ?_|refine aI ?_ _));refine blk_far ?_ fN.out _;(with_reducible repeat(first|refine aJ ?_ _|refine aK ?_|refine aI ?_ _));refine blk_far ?_ fN.out _;(with_reducible repeat(first|refine aJ ?_ _|refine aK ?_|refine aI ?_ _));exact cR.out))⟩;have cL:Aside0 (w84.heap[dP]?=some (.cells #[.slice none 0 0,.bool cZ] 31 (0,0))):=⟨(by rw [hw];exact(by(with_reducible repeat(first|refine aJ ?_ _|refine aK ?_|refine aI ?_ _));refine blk_far ?_ eW.out _;(with_reducible repeat(first|refine aJ ?_ _|refine aK ?_|refine aI ?_ _));refine blk_far ?_ eW.out _;(with_reducible repeat(first|refine aJ ?_ _|refine aK ?_|refine aI ?_ _));exact cJ.out))⟩;have cS:Aside0 (w84.heap[cW]?=some (.cells #[.bool true,.int .i64 ((rd_T43 bZ (cN)).f1)] 43 (0,0))):=⟨(by rw [hw];exact(by(with_reducible repeat(first|refine aJ ?_ _|refine aK ?_|refine aI ?_ _));refine blk_put (cs:=#[.bool true,.int .i64 0]) ?_ 1 _ rfl;(with_reducible repeat(first|refine aJ ?_ _|refine aK ?_|refine aI ?_ _));refine blk_put (cs:=#[.bool false,.int .i64 0]) ?_ 0 _ rfl;(with_reducible repeat(first|refine aJ ?_ _|refine aK ?_|refine aI ?_ _));exact dS.out))⟩;have dB:Aside0 (Below w.heap.size w w84):=⟨(by rw [hw];exact(by repeat(first|(with_reducible first|exact HB.out|apply aN|apply aP|apply aO|refine aL ?_ lB.out|refine aL ?_ lC.out|refine aL ?_ lD.out|refine aL ?_ lU.out)|exact HB.out)))⟩;clear hw;clear dW;clear eP;clear bT;clear cR;clear cJ;clear dS;clear HB;have dW:=bX;have eP:=bY;have bT:=cC;have cR:=cD;have cJ:=cL;have dS:=cS;have HB:=dB;clear bX bY cC cD cL cS dB;have q85:((cN):Int)≤((bZ.length:Int):Int):=of_decide_eq_true (by first|(with_reducible assumption)|assumption);obtain⟨i085,hi085,_,hsz85,_⟩:=info_parts info43;have hcut85:=cut_to (P:=Try.prog) 29 43 .i64 Try.underlying29 hi085 (some kG) bZ.length Io (cN) (of_decide_eq_true (by first|(with_reducible assumption)|assumption)) q85 (aF dW.out).2.1;have hr85:=Kd.R_take (m:=((cN):Int).toNat) dW.out (by omega);have Ip:y239.length=((cN):Int).toNat:=(by rw [qC.out,List.length_take];omega);rw [←qC.out] at hr85;rw [←Ip] at hr85 hcut85;clear Ip hi085 hsz85 dW;have qD:=aM hr85;clear hr85;replace q85:=eq_true q85;have Dz:w84.cell? ⟨cW,0,none⟩=some (.bool true):=(aG dS.out 0).trans rfl;have Ea:w84.cell? ⟨cW,1,none⟩=some (.int .i64 ((rd_T43 bZ (cN)).f1)):=(aG dS.out 1).trans rfl;have Eb:=aH dS.out 0;have Ec:=aH dS.out 1;have hnb87:=fM.out;have hnc87:=fL.out;have hnb88:=gF.out;have hnc88:=gE.out;have Ed:w84.cell? ⟨dP,0,none⟩=some (.slice none 0 0):=(aG cJ.out 0).trans rfl;have Ee:w84.cell? ⟨dP,1,none⟩=some (.bool cZ):=(aG cJ.out 1).trans rfl;have Ef:=aH cJ.out 0;have Eg:=aH cJ.out 1))
          refine bodyPost_ret (results_ctt rfl _ _ dP 31 #[.slice none 0 0,.bool true] (0,0) _ rfl (by(with_reducible repeat(first|refine aJ ?_ _|refine aK ?_|refine aI ?_ _));refine blk_put (cs:=#[.slice none 0 0,.bool cZ]) ?_ 1 _ rfl;(with_reducible repeat(first|refine aJ ?_ _|refine aK ?_|refine aI ?_ _));refine blk_put (cs:=#[.slice none 0 0,.bool cZ]) ?_ 0 _ rfl;(with_reducible repeat(first|refine aJ ?_ _|refine aK ?_|refine aI ?_ _));exact cJ.out) Try.underlying31 rfl (by kernel_rfl)) rfl ?_
          exact⟨_,_,by first|rfl|(simp [errW_none,errW_some]<;>rfl)|(simp only [←oX];first|rfl|(simp [errW_none,errW_some]<;>rfl))|(simp [*,errW_none,errW_some]<;>rfl),by first|exact Kd.R_nil _ _ _ _ _|exact Kd.N_nil _ _ _ _ _|exact Kd.V_nil _ _ _ _ _|exact Kd.Q_nil _ _ _ _ _|exact Kd.S_nil _ _ _ _ _,by(with_reducible repeat(first|apply aA|apply aB|apply aC));exact Kd.R_mono (aE (p:=⟨dP,1,none⟩) (aE (p:=⟨dP,0,none⟩) (Kd.R_types eP.out cJ.out (by decide)) (fun _ hk=>hk.2) (.slice none 0 0)) (fun _ hk=>hk.2) (.bool true)) (fun _ hk=>trivial),by repeat(first|(with_reducible first|exact HB.out|apply aN|apply aP|apply aO|refine aL ?_ lB.out|refine aL ?_ lC.out|refine aL ?_ lD.out|refine aL ?_ lU.out)|exact HB.out)⟩
        ·replace c64:=Bool.eq_false_iff.mpr c64
         subst c64;have H1:(if 0≤((rd_T43 bZ (cN)).f1) then(if((rd_T43 bZ (cN)).f1)<(l1.length:Int) then(if 0≤a3 then(if a3<((rd_L5 l1 ((rd_T43 bZ (cN)).f1)).length:Int) then(if(rd (rd_L5 l1 ((rd_T43 bZ (cN)).f1)) a3)<0 then(some (([]:List (S43)),true,gM,80)) else(if gM.length<17592186044416 then(if 0≤(rd (rd_L5 l1 ((rd_T43 bZ (cN)).f1)) a3) then(if(rd (rd_L5 l1 ((rd_T43 bZ (cN)).f1)) a3)<(aV.length:Int) then(regletref16_Feed.l1 k2 l1 a3 y239 (gM++ [rd (rd_L5 l1 ((rd_T43 bZ (cN)).f1)) a3]) (rd (rd_L5 l1 ((rd_T43 bZ (cN)).f1)) a3) (wrap64 ((((rd_T35 aV (rd (rd_L5 l1 ((rd_T43 bZ (cN)).f1)) a3)).f1).length:Int) - 1)) aW aX bM bO aV) else(none)) else(none)) else(none))) else(none)) else(none)) else(none)) else(none))=some (r1,r2,r3,r4):=by rw [if_neg (show ¬(false=true) by decide)] at H;exact H
         clear H;have H:=H1;clear H1
         by_cases c90:0≤((rd_T43 bZ (cN)).f1)
         rotate_left
         ·rw [if_neg c90] at H
          exact absurd H (by simp)
         rw [if_pos c90] at H;have Iq:decide (0≤((rd_T43 bZ (cN)).f1))=true:=decide_eq_true c90;clear c90
         by_cases c91:((rd_T43 bZ (cN)).f1)<(l1.length:Int)
         rotate_left
         ·rw [if_neg c91] at H
          exact absurd H (by simp)
         rw [if_pos c91] at H;have Ir:decide (((rd_T43 bZ (cN)).f1)<(l1.length:Int))=true:=decide_eq_true c91;clear c91
         by_cases c92:0≤a3
         rotate_left
         ·rw [if_neg c92] at H
          exact absurd H (by simp)
         rw [if_pos c92] at H;have Is:decide (0≤a3)=true:=decide_eq_true c92;clear c92
         by_cases c93:a3<((rd_L5 l1 ((rd_T43 bZ (cN)).f1)).length:Int)
         rotate_left
         ·rw [if_neg c93] at H
          exact absurd H (by simp)
         rw [if_pos c93] at H;have It:decide (a3<((rd_L5 l1 ((rd_T43 bZ (cN)).f1)).length:Int))=true:=decide_eq_true c93;clear c93
         by_cases c94:(rd (rd_L5 l1 ((rd_T43 bZ (cN)).f1)) a3)<0
         ·rw [if_pos c94] at H
          have Fl:decide ((rd (rd_L5 l1 ((rd_T43 bZ (cN)).f1)) a3)<0)=true:=decide_eq_true c94;clear c94;simp only [Option.some.injEq,Prod.mk.injEq] at H;obtain⟨rfl,rfl,rfl,rfl⟩:=H;obtain⟨Ug,Iu,Rs⟩:=Kd.R_slice dW.out;subst Rs;have p237:0≤((cN):Int):=of_decide_eq_true (by first|(with_reducible assumption)|assumption);have q237:(cN)<(bZ.length:Int):=of_decide_eq_true (by first|(with_reducible assumption)|assumption);obtain⟨kG,e237,kV,rE⟩:=at_T43 (aF dW.out).2.2 (cN) p237 q237
          (try rw [←Nbq63.out] at kV)
          cases e237;replace p237:=eq_true p237;replace q237:=eq_true q237
          go_wp2_with (first|((with_reducible refine bJ (N:=13) rfl ?_);(try(refine gate_guard (by rfl) ?_;dsimp only));refine box_event ?hg (N:=13) ?hd (cs:=#[.bool false,.int .i64 0]) (t:=43) ?hr ?_;(case hd=>rfl);(case hg=>rfl);(case hr=>first|(go_simp;done)|(go_simp;rfl));intro cW hg w96 hbox hb;have bX:=aM (aD (Kd.R_elderB (gR dW.out) cW (Nat.le_of_eq hg.symm)) hb);have bY:=aM (aD (gR eP.out) hb);have cC:=aM (bF (gB bT.out) hb);have cD:=aM (bF (gB cR.out) hb);have cL:=aM (bF (gB cJ.out) hb);have cS:=aM (bG (gW HB.out) hb);have dB:=aM (hbox);have dL:=aM ((by rw [hg];exact(bH (gW HB.out)):w.heap.size≤cW));have dX:=aM ((by rw [hg];exact(bH (gW HB.out)):w.heap.size≤cW));have fH:=aM ((by rw [hg];exact Nat.ne_of_lt (bN (g:=cY) (o:= .cells #[.slice cA aW.length cB,.slice cE aX.length cF,.int .i64 bM,.int .i64 bO,.slice cK aV.length cG] 26 (0,0)) (gB bT.out)):cY≠cW));have dT:=aM ((by rw [hg];exact Nat.ne_of_gt (bN (g:=cY) (o:= .cells #[.slice cA aW.length cB,.slice cE aX.length cF,.int .i64 bM,.int .i64 bO,.slice cK aV.length cG] 26 (0,0)) (gB bT.out)):cW≠cY));have eC:=aM ((by rw [hg];exact Nat.ne_of_lt (bN (g:=eU) (o:= .cells #[.slice fQ dD.length fR,.bool false] 31 (0,0)) (gB cR.out)):eU≠cW));have eV:=aM ((by rw [hg];exact Nat.ne_of_gt (bN (g:=eU) (o:= .cells #[.slice fQ dD.length fR,.bool false] 31 (0,0)) (gB cR.out)):cW≠eU));have fI:=aM ((by rw [hg];exact Nat.ne_of_lt (bN (g:=dP) (o:= .cells #[.slice none 0 0,.bool cZ] 31 (0,0)) (gB cJ.out)):dP≠cW));have gU:=aM ((by rw [hg];exact Nat.ne_of_gt (bN (g:=dP) (o:= .cells #[.slice none 0 0,.bool cZ] 31 (0,0)) (gB cJ.out)):cW≠dP));clear dW;clear eP;clear bT;clear cR;clear cJ;clear HB;have dW:=bX;have eP:=bY;have bT:=cC;have cR:=cD;have cJ:=cL;have HB:=cS;have dS:=dB;have GW238:=dL;have lU:=dX;have fC:=fH;have jI:=dT;have fN:=eC;have jV:=eV;have eW:=fI;have jA:=gU;clear bX bY cC cD cL cS dB dL dX fH dT eC eV fI gU;clear hb hbox hg;have hnb97:=jI.out;have hnc97:=fC.out;have hnb98:=jV.out;have hnc98:=fN.out;have hnb99:=jA.out;have hnc99:=eW.out;have zT:w96.cell? ⟨cW,0,none⟩=some (.bool false):=(aG dS.out 0).trans rfl;have zU:w96.cell? ⟨cW,1,none⟩=some (.int .i64 0):=(aG dS.out 1).trans rfl;have zV:=aH dS.out 0;have zW:=aH dS.out 1)|((with_reducible refine gate_store (t:=43) (p:=13) rfl ?_);refine store_event (t:=43) (p:=13) (v:=?vo_w101) (w1:=((w96.setCell ⟨cW,0,none⟩ (.bool false)).setCell ⟨cW,1,none⟩ (.int .i64 ((rd_T43 bZ (cN)).f1)))) ?hg ?ho ?hn ?hr ?_;(case ho=>rfl);(case hg=>rfl);(case hn=>rfl);(case hr=>first|(go_simp;done)|(go_simp;rfl));intro w101 hw;have bX:Aside0 (Kd.R k43 43 w101 w.heap.size (fun k_=>k_≠cW) (.slice (some kG) bZ.length Iu) bZ):=⟨(by rw [hw];exact(by(with_reducible repeat(first|apply aA|apply aB|apply aC));exact Kd.R_mono (aE (p:=⟨cW,1,none⟩) (aE (p:=⟨cW,0,none⟩) (Kd.R_mono dW.out (fun k_ hk=>(⟨hk,hk.2⟩:_∧k_≠cW))) (fun _ hk=>hk.2) (.bool false)) (fun _ hk=>hk.2) (.int .i64 ((rd_T43 bZ (cN)).f1))) (fun _ hk=>hk.1.2)))⟩;have bY:Aside0 (Kd.R (Kd.int .i64) 3 w101 w.heap.size (fun _=>True) u12 gM):=⟨(by rw [hw];exact(by(with_reducible repeat(first|apply aA|apply aB|apply aC));exact Kd.R_mono (aE (p:=⟨cW,1,none⟩) (aE (p:=⟨cW,0,none⟩) (Kd.R_types eP.out dS.out (by decide)) (fun _ hk=>hk.2) (.bool false)) (fun _ hk=>hk.2) (.int .i64 ((rd_T43 bZ (cN)).f1))) (fun _ hk=>trivial)))⟩;have cC:Aside0 (w101.heap[cY]?=some (.cells #[.slice cA aW.length cB,.slice cE aX.length cF,.int .i64 bM,.int .i64 bO,.slice cK aV.length cG] 26 (0,0))):=⟨(by rw [hw];exact(by(with_reducible repeat(first|refine aJ ?_ _|refine aK ?_|refine aI ?_ _));refine blk_far ?_ fC.out _;(with_reducible repeat(first|refine aJ ?_ _|refine aK ?_|refine aI ?_ _));refine blk_far ?_ fC.out _;(with_reducible repeat(first|refine aJ ?_ _|refine aK ?_|refine aI ?_ _));exact bT.out))⟩;have cD:Aside0 (w101.heap[eU]?=some (.cells #[.slice fQ dD.length fR,.bool false] 31 (0,0))):=⟨(by rw [hw];exact(by(with_reducible repeat(first|refine aJ ?_ _|refine aK ?_|refine aI ?_ _));refine blk_far ?_ fN.out _;(with_reducible repeat(first|refine aJ ?_ _|refine aK ?_|refine aI ?_ _));refine blk_far ?_ fN.out _;(with_reducible repeat(first|refine aJ ?_ _|refine aK ?_|refine aI ?_ _));exact cR.out))⟩;have cL:Aside0 (w101.heap[dP]?=some (.cells #[.slice none 0 0,.bool cZ] 31 (0,0))):=⟨(by rw [hw];exact(by(with_reducible repeat(first|refine aJ ?_ _|refine aK ?_|refine aI ?_ _));refine blk_far ?_ eW.out _;(with_reducible repeat(first|refine aJ ?_ _|refine aK ?_|refine aI ?_ _));refine blk_far ?_ eW.out _;(with_reducible repeat(first|refine aJ ?_ _|refine aK ?_|refine aI ?_ _));exact cJ.out))⟩;have cS:Aside0 (w101.heap[cW]?=some (.cells #[.bool false,.int .i64 ((rd_T43 bZ (cN)).f1)] 43 (0,0))):=⟨(by rw [hw];exact(by(with_reducible repeat(first|refine aJ ?_ _|refine aK ?_|refine aI ?_ _));refine blk_put (cs:=#[.bool false,.int .i64 0]) ?_ 1 _ rfl;(with_reducible repeat(first|refine aJ ?_ _|refine aK ?_|refine aI ?_ _));refine blk_put (cs:=#[.bool false,.int .i64 0]) ?_ 0 _ rfl;(with_reducible repeat(first|refine aJ ?_ _|refine aK ?_|refine aI ?_ _));exact dS.out))⟩;have dB:Aside0 (Below w.heap.size w w101):=⟨(by rw [hw];exact(by repeat(first|(with_reducible first|exact HB.out|apply aN|apply aP|apply aO|refine aL ?_ lB.out|refine aL ?_ lC.out|refine aL ?_ lD.out|refine aL ?_ lU.out)|exact HB.out)))⟩;clear hw;clear dW;clear eP;clear bT;clear cR;clear cJ;clear dS;clear HB;have dW:=bX;have eP:=bY;have bT:=cC;have cR:=cD;have cJ:=cL;have dS:=cS;have HB:=dB;clear bX bY cC cD cL cS dB;have q102:((cN):Int)≤((bZ.length:Int):Int):=of_decide_eq_true (by first|(with_reducible assumption)|assumption);obtain⟨i0102,hi0102,_,hsz102,_⟩:=info_parts info43;have hcut102:=cut_to (P:=Try.prog) 29 43 .i64 Try.underlying29 hi0102 (some kG) bZ.length Iu (cN) (of_decide_eq_true (by first|(with_reducible assumption)|assumption)) q102 (aF dW.out).2.1;have hr102:=Kd.R_take (m:=((cN):Int).toNat) dW.out (by omega);have Fm:y239.length=((cN):Int).toNat:=(by rw [qC.out,List.length_take];omega);rw [←qC.out] at hr102;rw [←Fm] at hr102 hcut102;clear Fm hi0102 hsz102 dW;have qD:=aM hr102;clear hr102;replace q102:=eq_true q102;have zX:w101.cell? ⟨cW,0,none⟩=some (.bool false):=(aG dS.out 0).trans rfl;have zY:w101.cell? ⟨cW,1,none⟩=some (.int .i64 ((rd_T43 bZ (cN)).f1)):=(aG dS.out 1).trans rfl;have zZ:=aH dS.out 0;have Aa:=aH dS.out 1;have p242:0≤(((rd_T43 bZ (cN)).f1):Int):=of_decide_eq_true (by first|(with_reducible assumption)|assumption);have q242:((rd_T43 bZ (cN)).f1)<(l1.length:Int):=of_decide_eq_true (by first|(with_reducible assumption)|assumption);obtain⟨Iv,Gt,Gu,e242,kW,oY,oZ⟩:=at_L5 HR1.out ((rd_T43 bZ (cN)).f1) p242 q242;cases e242;replace kW:=(HB.out.cell (World.block_lt_of_cell? w _ kW)).trans kW;have uJ:=aM oZ;have Eh:=aM oY;clear oZ oY;replace p242:=eq_true p242;replace q242:=eq_true q242;have p243:0≤(a3:Int):=of_decide_eq_true (by first|(with_reducible assumption)|assumption);have q243:a3<((rd_L5 l1 ((rd_T43 bZ (cN)).f1)).length:Int):=of_decide_eq_true (by first|(with_reducible assumption)|assumption);obtain⟨Iw,e243,kX⟩:=Kd.at_int uJ.out a3 p243 q243;cases e243;replace kX:=(HB.out.cell (World.block_lt_of_cell? w _ kX)).trans kX;replace p243:=eq_true p243;replace q243:=eq_true q243;have hnb104:=fM.out;have hnc104:=fL.out;have hnb105:=gF.out;have hnc105:=gE.out;have Ab:w101.cell? ⟨dP,0,none⟩=some (.slice none 0 0):=(aG cJ.out 0).trans rfl;have Ac:w101.cell? ⟨dP,1,none⟩=some (.bool cZ):=(aG cJ.out 1).trans rfl;have Ad:=aH cJ.out 0;have Ae:=aH cJ.out 1))
          refine bodyPost_ret (results_ctt rfl _ _ dP 31 #[.slice none 0 0,.bool true] (0,0) _ rfl (by(with_reducible repeat(first|refine aJ ?_ _|refine aK ?_|refine aI ?_ _));refine blk_put (cs:=#[.slice none 0 0,.bool cZ]) ?_ 1 _ rfl;(with_reducible repeat(first|refine aJ ?_ _|refine aK ?_|refine aI ?_ _));refine blk_put (cs:=#[.slice none 0 0,.bool cZ]) ?_ 0 _ rfl;(with_reducible repeat(first|refine aJ ?_ _|refine aK ?_|refine aI ?_ _));exact cJ.out) Try.underlying31 rfl (by kernel_rfl)) rfl ?_
          exact⟨_,_,by first|rfl|(simp [errW_none,errW_some]<;>rfl)|(simp only [←oX];first|rfl|(simp [errW_none,errW_some]<;>rfl))|(simp [*,errW_none,errW_some]<;>rfl),by first|exact Kd.R_nil _ _ _ _ _|exact Kd.N_nil _ _ _ _ _|exact Kd.V_nil _ _ _ _ _|exact Kd.Q_nil _ _ _ _ _|exact Kd.S_nil _ _ _ _ _,by(with_reducible repeat(first|apply aA|apply aB|apply aC));exact Kd.R_mono (aE (p:=⟨dP,1,none⟩) (aE (p:=⟨dP,0,none⟩) (Kd.R_types eP.out cJ.out (by decide)) (fun _ hk=>hk.2) (.slice none 0 0)) (fun _ hk=>hk.2) (.bool true)) (fun _ hk=>trivial),by repeat(first|(with_reducible first|exact HB.out|apply aN|apply aP|apply aO|refine aL ?_ lB.out|refine aL ?_ lC.out|refine aL ?_ lD.out|refine aL ?_ lU.out)|exact HB.out)⟩
         ·rw [if_neg c94] at H
          have Fl:decide ((rd (rd_L5 l1 ((rd_T43 bZ (cN)).f1)) a3)<0)=false:=decide_eq_false c94;clear c94
          by_cases c107:gM.length<17592186044416
          rotate_left
          ·rw [if_neg c107] at H
           exact absurd H (by simp)
          rw [if_pos c107] at H;have Gv:=aM c107;clear c107;obtain⟨y244,uY⟩:∃y_:List Int,y_=(gM++ [rd (rd_L5 l1 ((rd_T43 bZ (cN)).f1)) a3]):=⟨_,rfl⟩;replace H:(if 0≤(rd (rd_L5 l1 ((rd_T43 bZ (cN)).f1)) a3) then(if(rd (rd_L5 l1 ((rd_T43 bZ (cN)).f1)) a3)<(aV.length:Int) then(regletref16_Feed.l1 k2 l1 a3 y239 y244 (rd (rd_L5 l1 ((rd_T43 bZ (cN)).f1)) a3) (wrap64 ((((rd_T35 aV (rd (rd_L5 l1 ((rd_T43 bZ (cN)).f1)) a3)).f1).length:Int) - 1)) aW aX bM bO aV) else(none)) else(none))=some (r1,r2,r3,r4):=by first|(rw [uY];with_reducible exact H)|(have H2_:=(Option.bind_some _ _).symm.trans H;rw [uY];with_reducible exact H2_)|(have H2_:=(Option.bind_some _ _).symm.trans H;with_reducible exact H2_)|with_reducible exact H|(rw [uY];exact H)|exact H
          have Ix:=aM uY;clear uY
          by_cases c108:0≤(rd (rd_L5 l1 ((rd_T43 bZ (cN)).f1)) a3)
          rotate_left
          ·rw [if_neg c108] at H
           exact absurd H (by simp)
          rw [if_pos c108] at H;have Gw:decide (0≤(rd (rd_L5 l1 ((rd_T43 bZ (cN)).f1)) a3))=true:=decide_eq_true c108;clear c108
          by_cases c109:(rd (rd_L5 l1 ((rd_T43 bZ (cN)).f1)) a3)<(aV.length:Int)
          rotate_left
          ·rw [if_neg c109] at H
           exact absurd H (by simp)
          rw [if_pos c109] at H;have Gx:decide ((rd (rd_L5 l1 ((rd_T43 bZ (cN)).f1)) a3)<(aV.length:Int))=true:=decide_eq_true c109;clear c109;have H':=aM H;clear H;obtain⟨Tf,Fn,Iy⟩:=Kd.R_slice dW.out;subst Iy;have p237:0≤((cN):Int):=of_decide_eq_true (by first|(with_reducible assumption)|assumption);have q237:(cN)<(bZ.length:Int):=of_decide_eq_true (by first|(with_reducible assumption)|assumption);obtain⟨kG,e237,kV,rE⟩:=at_T43 (aF dW.out).2.2 (cN) p237 q237
          (try rw [←Nbq63.out] at kV)
          cases e237;replace p237:=eq_true p237;replace q237:=eq_true q237
          go_wp2_with (first|((with_reducible refine bJ (N:=13) rfl ?_);(try(refine gate_guard (by rfl) ?_;dsimp only));refine box_event ?hg (N:=13) ?hd (cs:=#[.bool false,.int .i64 0]) (t:=43) ?hr ?_;(case hd=>rfl);(case hg=>rfl);(case hr=>first|(go_simp;done)|(go_simp;rfl));intro cW hg w111 hbox hb;have bX:=aM (aD (Kd.R_elderB (gR dW.out) cW (Nat.le_of_eq hg.symm)) hb);have bY:=aM (aD (gR eP.out) hb);have cC:=aM (bF (gB bT.out) hb);have cD:=aM (bF (gB cR.out) hb);have cL:=aM (bF (gB cJ.out) hb);have cS:=aM (bG (gW HB.out) hb);have dB:=aM (hbox);have dL:=aM ((by rw [hg];exact(bH (gW HB.out)):w.heap.size≤cW));have dX:=aM ((by rw [hg];exact(bH (gW HB.out)):w.heap.size≤cW));have fH:=aM ((by rw [hg];exact Nat.ne_of_lt (bN (g:=cY) (o:= .cells #[.slice cA aW.length cB,.slice cE aX.length cF,.int .i64 bM,.int .i64 bO,.slice cK aV.length cG] 26 (0,0)) (gB bT.out)):cY≠cW));have dT:=aM ((by rw [hg];exact Nat.ne_of_gt (bN (g:=cY) (o:= .cells #[.slice cA aW.length cB,.slice cE aX.length cF,.int .i64 bM,.int .i64 bO,.slice cK aV.length cG] 26 (0,0)) (gB bT.out)):cW≠cY));have eC:=aM ((by rw [hg];exact Nat.ne_of_lt (bN (g:=eU) (o:= .cells #[.slice fQ dD.length fR,.bool false] 31 (0,0)) (gB cR.out)):eU≠cW));have eV:=aM ((by rw [hg];exact Nat.ne_of_gt (bN (g:=eU) (o:= .cells #[.slice fQ dD.length fR,.bool false] 31 (0,0)) (gB cR.out)):cW≠eU));have fI:=aM ((by rw [hg];exact Nat.ne_of_lt (bN (g:=dP) (o:= .cells #[.slice none 0 0,.bool cZ] 31 (0,0)) (gB cJ.out)):dP≠cW));have gU:=aM ((by rw [hg];exact Nat.ne_of_gt (bN (g:=dP) (o:= .cells #[.slice none 0 0,.bool cZ] 31 (0,0)) (gB cJ.out)):cW≠dP));clear dW;clear eP;clear bT;clear cR;clear cJ;clear HB;have dW:=bX;have eP:=bY;have bT:=cC;have cR:=cD;have cJ:=cL;have HB:=cS;have dS:=dB;have GW238:=dL;have lU:=dX;have fC:=fH;have jI:=dT;have fN:=eC;have jV:=eV;have eW:=fI;have jA:=gU;clear bX bY cC cD cL cS dB dL dX fH dT eC eV fI gU;clear hb hbox hg;have hnb112:=jI.out;have hnc112:=fC.out;have hnb113:=jV.out;have hnc113:=fN.out;have hnb114:=jA.out;have hnc114:=eW.out;have Af:w111.cell? ⟨cW,0,none⟩=some (.bool false):=(aG dS.out 0).trans rfl;have Ag:w111.cell? ⟨cW,1,none⟩=some (.int .i64 0):=(aG dS.out 1).trans rfl;have Ah:=aH dS.out 0;have Ai:=aH dS.out 1)|((with_reducible refine gate_store (t:=43) (p:=13) rfl ?_);refine store_event (t:=43) (p:=13) (v:=?vo_w116) (w1:=((w111.setCell ⟨cW,0,none⟩ (.bool false)).setCell ⟨cW,1,none⟩ (.int .i64 ((rd_T43 bZ (cN)).f1)))) ?hg ?ho ?hn ?hr ?_;(case ho=>rfl);(case hg=>rfl);(case hn=>rfl);(case hr=>first|(go_simp;done)|(go_simp;rfl));intro w116 hw;have bX:Aside0 (Kd.R k43 43 w116 w.heap.size (fun k_=>k_≠cW) (.slice (some kG) bZ.length Fn) bZ):=⟨(by rw [hw];exact(by(with_reducible repeat(first|apply aA|apply aB|apply aC));exact Kd.R_mono (aE (p:=⟨cW,1,none⟩) (aE (p:=⟨cW,0,none⟩) (Kd.R_mono dW.out (fun k_ hk=>(⟨hk,hk.2⟩:_∧k_≠cW))) (fun _ hk=>hk.2) (.bool false)) (fun _ hk=>hk.2) (.int .i64 ((rd_T43 bZ (cN)).f1))) (fun _ hk=>hk.1.2)))⟩;have bY:Aside0 (Kd.R (Kd.int .i64) 3 w116 w.heap.size (fun _=>True) u12 gM):=⟨(by rw [hw];exact(by(with_reducible repeat(first|apply aA|apply aB|apply aC));exact Kd.R_mono (aE (p:=⟨cW,1,none⟩) (aE (p:=⟨cW,0,none⟩) (Kd.R_types eP.out dS.out (by decide)) (fun _ hk=>hk.2) (.bool false)) (fun _ hk=>hk.2) (.int .i64 ((rd_T43 bZ (cN)).f1))) (fun _ hk=>trivial)))⟩;have cC:Aside0 (w116.heap[cY]?=some (.cells #[.slice cA aW.length cB,.slice cE aX.length cF,.int .i64 bM,.int .i64 bO,.slice cK aV.length cG] 26 (0,0))):=⟨(by rw [hw];exact(by(with_reducible repeat(first|refine aJ ?_ _|refine aK ?_|refine aI ?_ _));refine blk_far ?_ fC.out _;(with_reducible repeat(first|refine aJ ?_ _|refine aK ?_|refine aI ?_ _));refine blk_far ?_ fC.out _;(with_reducible repeat(first|refine aJ ?_ _|refine aK ?_|refine aI ?_ _));exact bT.out))⟩;have cD:Aside0 (w116.heap[eU]?=some (.cells #[.slice fQ dD.length fR,.bool false] 31 (0,0))):=⟨(by rw [hw];exact(by(with_reducible repeat(first|refine aJ ?_ _|refine aK ?_|refine aI ?_ _));refine blk_far ?_ fN.out _;(with_reducible repeat(first|refine aJ ?_ _|refine aK ?_|refine aI ?_ _));refine blk_far ?_ fN.out _;(with_reducible repeat(first|refine aJ ?_ _|refine aK ?_|refine aI ?_ _));exact cR.out))⟩;have cL:Aside0 (w116.heap[dP]?=some (.cells #[.slice none 0 0,.bool cZ] 31 (0,0))):=⟨(by rw [hw];exact(by(with_reducible repeat(first|refine aJ ?_ _|refine aK ?_|refine aI ?_ _));refine blk_far ?_ eW.out _;(with_reducible repeat(first|refine aJ ?_ _|refine aK ?_|refine aI ?_ _));refine blk_far ?_ eW.out _;(with_reducible repeat(first|refine aJ ?_ _|refine aK ?_|refine aI ?_ _));exact cJ.out))⟩;have cS:Aside0 (w116.heap[cW]?=some (.cells #[.bool false,.int .i64 ((rd_T43 bZ (cN)).f1)] 43 (0,0))):=⟨(by rw [hw];exact(by(with_reducible repeat(first|refine aJ ?_ _|refine aK ?_|refine aI ?_ _));refine blk_put (cs:=#[.bool false,.int .i64 0]) ?_ 1 _ rfl;(with_reducible repeat(first|refine aJ ?_ _|refine aK ?_|refine aI ?_ _));refine blk_put (cs:=#[.bool false,.int .i64 0]) ?_ 0 _ rfl;(with_reducible repeat(first|refine aJ ?_ _|refine aK ?_|refine aI ?_ _));exact dS.out))⟩;have dB:Aside0 (Below w.heap.size w w116):=⟨(by rw [hw];exact(by repeat(first|(with_reducible first|exact HB.out|apply aN|apply aP|apply aO|refine aL ?_ lB.out|refine aL ?_ lC.out|refine aL ?_ lD.out|refine aL ?_ lU.out)|exact HB.out)))⟩;clear hw;clear dW;clear eP;clear bT;clear cR;clear cJ;clear dS;clear HB;have dW:=bX;have eP:=bY;have bT:=cC;have cR:=cD;have cJ:=cL;have dS:=cS;have HB:=dB;clear bX bY cC cD cL cS dB;have q117:((cN):Int)≤((bZ.length:Int):Int):=of_decide_eq_true (by first|(with_reducible assumption)|assumption);obtain⟨i0117,hi0117,_,hsz117,_⟩:=info_parts info43;have hcut117:=cut_to (P:=Try.prog) 29 43 .i64 Try.underlying29 hi0117 (some kG) bZ.length Fn (cN) (of_decide_eq_true (by first|(with_reducible assumption)|assumption)) q117 (aF dW.out).2.1;have hr117:=Kd.R_take (m:=((cN):Int).toNat) dW.out (by omega);have Fo:y239.length=((cN):Int).toNat:=(by rw [qC.out,List.length_take];omega);rw [←qC.out] at hr117;rw [←Fo] at hr117 hcut117;clear Fo hi0117 hsz117 dW;have qD:=aM hr117;clear hr117;replace q117:=eq_true q117;have Aj:w116.cell? ⟨cW,0,none⟩=some (.bool false):=(aG dS.out 0).trans rfl;have Ak:w116.cell? ⟨cW,1,none⟩=some (.int .i64 ((rd_T43 bZ (cN)).f1)):=(aG dS.out 1).trans rfl;have Al:=aH dS.out 0;have Am:=aH dS.out 1;have p242:0≤(((rd_T43 bZ (cN)).f1):Int):=of_decide_eq_true (by first|(with_reducible assumption)|assumption);have q242:((rd_T43 bZ (cN)).f1)<(l1.length:Int):=of_decide_eq_true (by first|(with_reducible assumption)|assumption);obtain⟨Iv,Gt,Gu,e242,kW,oY,oZ⟩:=at_L5 HR1.out ((rd_T43 bZ (cN)).f1) p242 q242;cases e242;replace kW:=(HB.out.cell (World.block_lt_of_cell? w _ kW)).trans kW;have uJ:=aM oZ;have Eh:=aM oY;clear oZ oY;replace p242:=eq_true p242;replace q242:=eq_true q242;have p243:0≤(a3:Int):=of_decide_eq_true (by first|(with_reducible assumption)|assumption);have q243:a3<((rd_L5 l1 ((rd_T43 bZ (cN)).f1)).length:Int):=of_decide_eq_true (by first|(with_reducible assumption)|assumption);obtain⟨Iw,e243,kX⟩:=Kd.at_int uJ.out a3 p243 q243;cases e243;replace kX:=(HB.out.cell (World.block_lt_of_cell? w _ kX)).trans kX;replace p243:=eq_true p243;replace q243:=eq_true q243)|((with_reducible refine gate_builtin (b:= .append) (xs:=#[.tmp 83,.tmp 85]) rfl ?_);(try(refine gate_guard (by rfl) ?_;dsimp only));at_builtin;refine Kd.R_append (Kd.int .i64) (w0:=w) w.heap.size rfl (.tmp 83) (.tmp 85) 32 3 (.int .i64 0) 8 rfl Try.underlying32 info3 rfl (by decide) (by omega) u12 gM (rd (rd_L5 l1 ((rd_T43 bZ (cN)).f1)) a3) [.int .i64 (rd (rd_L5 l1 ((rd_T43 bZ (cN)).f1)) a3)] (fun _=>True) (fun _=>False) rfl rfl ?aP (fun _ hk=>hk.elim) ?aF ?aO ?aB ?aS ?aL ?_;(case aP=>exact rfl);(case aB=>exact(gW HB.out));(case aF=>exact(fun _ _=>trivial));(case aO=>exact(gR eP.out));(case aS=>exact(bH (gW HB.out)));(case aL=>have:=Gv.out;omega);intro v245 w119 ho hb hg hat;rw [←Ix.out] at ho;have bX:=aM (Kd.R_over' (gR qD.out) (Kd.R_typed (gR eP.out)) (by decide) hg);have bY:=aM (blk_grown (gB bT.out) hg (Kd.R_ne eP.out bT.out (by decide)));have cC:=aM (blk_grown (gB cR.out) hg (Kd.R_ne eP.out cR.out (by decide)));have cD:=aM (blk_grown (gB cJ.out) hg (Kd.R_ne eP.out cJ.out (by decide)));have cL:=aM (blk_grown (gB dS.out) hg (Kd.R_ne eP.out dS.out (by decide)));have cS:=aM (hb);have dB:=aM (ho);clear qD;clear bT;clear cR;clear cJ;clear dS;clear HB;clear eP;have qD:=bX;have bT:=bY;have cR:=cC;have cJ:=cD;have dS:=cL;have HB:=cS;have Iz:=dB;clear bX bY cC cD cL cS dB;clear ho hb hg hat;have hnb120:=iL.out;have hnc120:=iM.out;have hnb121:=fL.out;have hnc121:=fM.out;have Ao:w119.cell? ⟨cY,0,none⟩=some (.slice cA aW.length cB):=(aG bT.out 0).trans rfl;have Ap:w119.cell? ⟨cY,1,none⟩=some (.slice cE aX.length cF):=(aG bT.out 1).trans rfl;have Ar:w119.cell? ⟨cY,2,none⟩=some (.int .i64 bM):=(aG bT.out 2).trans rfl;have At:w119.cell? ⟨cY,3,none⟩=some (.int .i64 bO):=(aG bT.out 3).trans rfl;have Aw:w119.cell? ⟨cY,4,none⟩=some (.slice cK aV.length cG):=(aG bT.out 4).trans rfl;have Ax:=aH bT.out 0;have Ay:=aH bT.out 1;have Az:=aH bT.out 2;have Ba:=aH bT.out 3;have Bb:=aH bT.out 4;have p247:0≤((rd (rd_L5 l1 ((rd_T43 bZ (cN)).f1)) a3):Int):=of_decide_eq_true (by first|(with_reducible assumption)|assumption);have q247:(rd (rd_L5 l1 ((rd_T43 bZ (cN)).f1)) a3)<(aV.length:Int):=of_decide_eq_true (by first|(with_reducible assumption)|assumption);obtain⟨Bc,Rt,Ru,e247,rF,rG,yA,yB⟩:=at_T35 gI.out (rd (rd_L5 l1 ((rd_T43 bZ (cN)).f1)) a3) p247 q247;cases e247;replace rF:=(HB.out.cell (World.block_lt_of_cell? w _ rF)).trans rF;replace rG:=(HB.out.cell (World.block_lt_of_cell? w _ rG)).trans rG;have Pj:=aM yB;have Pk:=aM yA;clear yB yA;replace p247:=eq_true p247;replace q247:=eq_true q247))
          go_loopg [11,15] k2 (fun kq v11 v15 w'=>∃(lV:List (S43)) (iZ:Int),v15= .int .i64 iZ∧Aside0 (regletref16_Feed.l1 kq l1 a3 lV y244 (rd (rd_L5 l1 ((rd_T43 bZ (cN)).f1)) a3) iZ aW aX bM bO aV=some (r1,r2,r3,r4))∧Aside0 (kq≤k2)∧Aside0 (Kd.R k43 43 w' w.heap.size (fun k_=>k_≠cW) v11 lV)∧Aside0 (Kd.R (Kd.int .i64) 3 w' w.heap.size (fun _=>True) v245 y244)∧Aside0 (w'.heap[cY]?=some (.cells #[(.slice cA aW.length cB),(.slice cE aX.length cF),.int .i64 bM,.int .i64 bO,(.slice (some Bc) aV.length cG)] 26 (0,0)))∧Aside0 (w'.heap[eU]?=some (.cells #[(.slice fQ dD.length fR),.bool false] 31 (0,0)))∧Aside0 (w'.heap[dP]?=some (.cells #[(.slice none 0 0),.bool cZ] 31 (0,0)))∧Aside0 (w'.heap[cW]?=some (.cells #[.bool false,.int .i64 ((rd_T43 bZ (cN)).f1)] 43 (0,0)))∧Aside0 (Below w.heap.size w w'))
          case atStart=>exact⟨(y239),(wrap64 ((((rd_T35 aV (rd (rd_L5 l1 ((rd_T43 bZ (cN)).f1)) a3)).f1).length:Int) - 1)),(by first|rfl|(simp;done)|(simp only [←oX]<;>(first|rfl|simp))|(simp [*];done)),H',⟨Nat.le_refl _⟩,⟨gR qD.out⟩,⟨gR Iz.out⟩,⟨gB bT.out⟩,⟨gB cR.out⟩,⟨gB cJ.out⟩,⟨gB dS.out⟩,⟨gW HB.out⟩⟩
          case round=>
           clear H'
           (try clear c1);(try clear q1);(try clear c2);(try clear p2);(try clear q2);(try clear hx2);(try clear c3);(try clear c4);(try clear c5);(try clear c6);(try clear p6);(try clear q6);(try clear c7);(try clear q7);(try clear c8);(try clear q8);(try clear c9);(try clear c10);(try clear q10);(try clear c11);(try clear q11);(try clear c12);(try clear c13);(try clear qB);(try clear c14);(try clear c15)
           (try clear c19);(try clear c22);(try clear c23);(try clear p23);(try clear q23);(try clear hx23);(try clear c24);(try clear p24);(try clear q24);(try clear hx24);(try clear c26);(try clear c27);(try clear c31);(try clear c32);(try clear c36);(try clear c39);(try clear c40);(try clear c43);(try clear c44);(try clear c45);(try clear c47);(try clear c48);(try clear c49);(try clear c51);(try clear c53)
           (try clear c54);(try clear c55);(try clear c58);(try clear Fh);(try clear Fi);(try clear c60);(try clear Ij);(try clear c61);(try clear Ik);(try clear c62);(try clear Il);(try clear Im);(try clear q63);(try clear c64);(try clear p64);(try clear c65);(try clear Fj);(try clear Fk);(try clear c68);(try clear c69);(try clear c70);(try clear q73);(try clear c75);(try clear c76);(try clear c80)
           (try clear c81);(try clear c82);(try clear q85);(try clear c87);(try clear c88);(try clear c90);(try clear Iq);(try clear c91);(try clear Ir);(try clear c92);(try clear Is);(try clear c93);(try clear It);(try clear c94);(try clear Fl);(try clear c97);(try clear c98);(try clear c99);(try clear q102);(try clear c104);(try clear c105);(try clear c107);(try clear c108);(try clear Gw)
           (try clear c109);(try clear Gx);(try clear c112);(try clear c113);(try clear c114);(try clear q117);(try clear c120);(try clear c121);(try clear zT);(try clear zU);(try clear zX);(try clear zY);(try clear Ab);(try clear Ac);(try clear Af);(try clear Ag);(try clear Aj);(try clear Ak);(try clear Ao);(try clear Ap);(try clear Ar)
           (try clear At);(try clear Aw);(try clear sT);(try clear sU);(try clear sV);(try clear sW);(try clear sX);(try clear qW);(try clear qX);(try clear tD);(try clear tE);(try clear tF);(try clear mD);(try clear mE);(try clear nL);(try clear nM);(try clear qH);(try clear qI);(try clear qJ);(try clear rA)
           (try clear rB);(try clear tJ);(try clear tK);(try clear tL);(try clear mL);(try clear mM);(try clear qN);(try clear qO);(try clear tP);(try clear tQ);(try clear tR);(try clear nB);(try clear nC);(try clear oR);(try clear oS);(try clear oT);(try clear mP);(try clear mQ);(try clear nP);(try clear nQ);(try clear nR)
           (try clear tV);(try clear tW);(try clear qR);(try clear qS);(try clear tZ);(try clear uA);(try clear uB);(try clear xO);(try clear xP);(try clear uF);(try clear uG);(try clear xS);(try clear xT);(try clear xW);(try clear xX);(try clear Dj);(try clear Dk);(try clear Dn);(try clear Do);(try clear Dr);(try clear Ds)
           (try clear Dv);(try clear Dw);(try clear Dz);(try clear Ea);(try clear Ed);(try clear Ee);(try clear zV);(try clear zW);(try clear zZ);(try clear Aa);(try clear Ad);(try clear Ae);(try clear Ah);(try clear Ai);(try clear Al);(try clear Am);(try clear Ax);(try clear Ay);(try clear Az);(try clear Ba)
           (try clear Bb);(try clear sY);(try clear sZ);(try clear tA);(try clear tB);(try clear tC);(try clear qY);(try clear qZ);(try clear tG);(try clear tH);(try clear tI);(try clear mF);(try clear mG);(try clear nN);(try clear nO);(try clear qK);(try clear qL);(try clear qM);(try clear rC);(try clear rD)
           (try clear tM);(try clear tN);(try clear tO);(try clear mN);(try clear mO);(try clear qP);(try clear qQ);(try clear tS);(try clear tT);(try clear tU);(try clear nD);(try clear nE);(try clear oU);(try clear oV);(try clear oW);(try clear mR);(try clear mS);(try clear nS);(try clear nT);(try clear nU);(try clear tX)
           (try clear tY);(try clear qT);(try clear qU);(try clear uC);(try clear uD);(try clear uE);(try clear xQ);(try clear xR);(try clear uH);(try clear uI);(try clear xU);(try clear xV);(try clear xY);(try clear xZ);(try clear Dl);(try clear Dm);(try clear Dp);(try clear Dq);(try clear Dt);(try clear Du);(try clear Dx)
           (try clear Dy);(try clear Eb);(try clear Ec);(try clear Ef);(try clear Eg);(try clear kV);(try clear rE);(try clear kW);(try clear kX);(try clear rF);(try clear rG);(try clear p2);(try clear p237);(try clear p242);(try clear p243);(try clear p247);(try clear q102);(try clear q117);(try clear q237);(try clear q242);(try clear q243);(try clear q247)
           (try clear q73);(try clear q85)
           obtain⟨lV,iZ,rfl,HA,HK3,dW,eP,bT,cR,cJ,dS,HB⟩:=hrel
           cases gk with
           |zero=>exact absurd HA.out (by simp [regletref16_Feed.l1])
           |succ k3=>
            have H:=HA.out;clear HA;simp only [regletref16_Feed.l1] at H
            by_cases c123:iZ≥0
            ·rw [if_pos c123] at H
             have Gy:decide (0≤iZ)=true:=decide_eq_true c123;clear c123
             by_cases c124:0≤(rd (rd_L5 l1 ((rd_T43 bZ (cN)).f1)) a3)
             rotate_left
             ·rw [if_neg c124] at H
              exact absurd H (by simp)
             rw [if_pos c124] at H;have Rv:decide (0≤(rd (rd_L5 l1 ((rd_T43 bZ (cN)).f1)) a3))=true:=decide_eq_true c124;clear c124
             by_cases c125:(rd (rd_L5 l1 ((rd_T43 bZ (cN)).f1)) a3)<(aV.length:Int)
             rotate_left
             ·rw [if_neg c125] at H
              exact absurd H (by simp)
             rw [if_pos c125] at H;have Rw:decide ((rd (rd_L5 l1 ((rd_T43 bZ (cN)).f1)) a3)<(aV.length:Int))=true:=decide_eq_true c125;clear c125
             by_cases c126:0≤iZ
             rotate_left
             ·rw [if_neg c126] at H
              exact absurd H (by simp)
             rw [if_pos c126] at H;have Rx:decide (0≤iZ)=true:=decide_eq_true c126;clear c126
             by_cases c127:iZ<(((rd_T35 aV (rd (rd_L5 l1 ((rd_T43 bZ (cN)).f1)) a3)).f1).length:Int)
             rotate_left
             ·rw [if_neg c127] at H
              exact absurd H (by simp)
             rw [if_pos c127] at H;have Ry:decide (iZ<(((rd_T35 aV (rd (rd_L5 l1 ((rd_T43 bZ (cN)).f1)) a3)).f1).length:Int))=true:=decide_eq_true c127;clear c127
             by_cases c128:lV.length<8796093022208
             rotate_left
             ·rw [if_neg c128] at H
              exact absurd H (by simp)
             rw [if_pos c128] at H;have Gz:=aM c128;clear c128;obtain⟨y250,uZ⟩:∃y_:List (S43),y_=(lV++ [(⟨(rd_T43 ((rd_T35 aV (rd (rd_L5 l1 ((rd_T43 bZ (cN)).f1)) a3)).f1) iZ).f0,(rd_T43 ((rd_T35 aV (rd (rd_L5 l1 ((rd_T43 bZ (cN)).f1)) a3)).f1) iZ).f1⟩:S43)]):=⟨_,rfl⟩;replace H:(regletref16_Feed.l1 k3 l1 a3 y250 y244 (rd (rd_L5 l1 ((rd_T43 bZ (cN)).f1)) a3) (wrap64 (iZ - 1)) aW aX bM bO aV)=some (r1,r2,r3,r4):=by first|(rw [uZ];with_reducible exact H)|(have H2_:=(Option.bind_some _ _).symm.trans H;rw [uZ];with_reducible exact H2_)|(have H2_:=(Option.bind_some _ _).symm.trans H;with_reducible exact H2_)|with_reducible exact H|(rw [uZ];exact H)|exact H
             have Ja:=aM uZ;clear uZ;have H':=aM H;clear H;have hnb129:=iL.out;have hnc129:=iM.out;have hnb130:=fL.out;have hnc130:=fM.out;have hnb131:=fC.out;have hnc131:=jI.out;have Jb:wr.cell? ⟨cY,0,none⟩=some (.slice cA aW.length cB):=(aG bT.out 0).trans rfl;have Jc:wr.cell? ⟨cY,1,none⟩=some (.slice cE aX.length cF):=(aG bT.out 1).trans rfl;have Jd:wr.cell? ⟨cY,2,none⟩=some (.int .i64 bM):=(aG bT.out 2).trans rfl;have Je:wr.cell? ⟨cY,3,none⟩=some (.int .i64 bO):=(aG bT.out 3).trans rfl;have Jf:wr.cell? ⟨cY,4,none⟩=some (.slice (some Bc) aV.length cG):=(aG bT.out 4).trans rfl;have Jg:=aH bT.out 0;have Jh:=aH bT.out 1;have Ji:=aH bT.out 2;have Jj:=aH bT.out 3;have Jk:=aH bT.out 4;have p248:0≤((rd (rd_L5 l1 ((rd_T43 bZ (cN)).f1)) a3):Int):=of_decide_eq_true (by first|(with_reducible assumption)|assumption);have q248:(rd (rd_L5 l1 ((rd_T43 bZ (cN)).f1)) a3)<(aV.length:Int):=of_decide_eq_true (by first|(with_reducible assumption)|assumption);obtain⟨Jl,Rz,Sa,e248,uK,uL,yC,yD⟩:=at_T35 gI.out (rd (rd_L5 l1 ((rd_T43 bZ (cN)).f1)) a3) p248 q248;obtain rfl:Bc=Jl:=(by injection e248);replace uK:=(HB.out.cell (World.block_lt_of_cell? w _ uK)).trans uK;replace uL:=(HB.out.cell (World.block_lt_of_cell? w _ uL)).trans uL;have Ei:=aM yD;have Pl:=aM yC;clear yD yC;replace p248:=eq_true p248;replace q248:=eq_true q248;have p249:0≤(iZ:Int):=of_decide_eq_true (by first|(with_reducible assumption)|assumption);have q249:iZ<(((rd_T35 aV (rd (rd_L5 l1 ((rd_T43 bZ (cN)).f1)) a3)).f1).length:Int):=of_decide_eq_true (by first|(with_reducible assumption)|assumption);obtain⟨Tg,e249,rH,uM⟩:=at_T43 Ei.out iZ p249 q249
             (try rw [←Nbq63.out] at rH)
             cases e249;replace rH:=(HB.out.cell (World.block_lt_of_cell? w _ rH)).trans rH;replace uM:=(HB.out.cell (World.block_lt_of_cell? w _ uM)).trans uM;replace p249:=eq_true p249;replace q249:=eq_true q249
             go_wp2_with (first|((with_reducible refine gate_builtin (b:= .append) (xs:=#[.tmp 99,.tmp 109]) rfl ?_);(try(refine gate_guard (by rfl) ?_;dsimp only));at_builtin;refine Kd.R_append k43 (w0:=w) w.heap.size rfl (.tmp 99) (.tmp 109) 29 43 (.agg #[(.bool false),(.int .i64 0)]) 16 rfl Try.underlying29 info43 rfl (by decide) (by omega) u11 lV (⟨(rd_T43 ((rd_T35 aV (rd (rd_L5 l1 ((rd_T43 bZ (cN)).f1)) a3)).f1) iZ).f0,(rd_T43 ((rd_T35 aV (rd (rd_L5 l1 ((rd_T43 bZ (cN)).f1)) a3)).f1) iZ).f1⟩:S43) [.bool ((rd_T43 ((rd_T35 aV (rd (rd_L5 l1 ((rd_T43 bZ (cN)).f1)) a3)).f1) iZ).f0),.int .i64 ((rd_T43 ((rd_T35 aV (rd (rd_L5 l1 ((rd_T43 bZ (cN)).f1)) a3)).f1) iZ).f1)] (fun k_=>k_≠cW) (fun _=>False) rfl rfl ?aP (fun _ hk=>hk.elim) ?aF ?aO ?aB ?aS ?aL ?_;(case aP=>exact k43_mkM _ _ _ (⟨(rd_T43 ((rd_T35 aV (rd (rd_L5 l1 ((rd_T43 bZ (cN)).f1)) a3)).f1) iZ).f0,(rd_T43 ((rd_T35 aV (rd (rd_L5 l1 ((rd_T43 bZ (cN)).f1)) a3)).f1) iZ).f1⟩:S43));(case aB=>exact(gW HB.out));(case aF=>exact(fun k_ hk=>Kd.freshB (gB dS.out) k_ hk));(case aO=>exact(gR dW.out));(case aS=>exact(bH (gW HB.out)));(case aL=>have:=Gz.out;omega);intro v251 w133 ho hb hg hat;rw [←Ja.out] at ho;have bX:=aM (Kd.R_over' (gR eP.out) (Kd.R_typed (gR dW.out)) (by decide) hg);have bY:=aM (blk_grown (gB bT.out) hg (Kd.R_ne dW.out bT.out (by decide)));have cC:=aM (blk_grown (gB cR.out) hg (Kd.R_ne dW.out cR.out (by decide)));have cD:=aM (blk_grown (gB cJ.out) hg (Kd.R_ne dW.out cJ.out (by decide)));have cL:=aM (blk_grown (gB dS.out) hg (Kd.R_away dW.out (fun _ hk=>hk)));have cS:=aM (hb);have dB:=aM (ho);clear eP;clear bT;clear cR;clear cJ;clear dS;clear HB;clear dW;have eP:=bX;have bT:=bY;have cR:=cC;have cJ:=cD;have dS:=cL;have HB:=cS;have Jm:=dB;clear bX bY cC cD cL cS dB;clear ho hb hg hat))
             go_roundg k3
             case measure=>have:=HJ4.out;have:=HK2.out;have:=HK3.out;omega
             case rel=>exact⟨(y250),(wrap64 (iZ - 1)),(by first|rfl|(simp;done)|(simp [*];done)),H',⟨by have:=HJ4.out;have:=HK2.out;have:=HK3.out;omega⟩,⟨gR Jm.out⟩,⟨gR eP.out⟩,⟨gB bT.out⟩,⟨gB cR.out⟩,⟨gB cJ.out⟩,⟨gB dS.out⟩,⟨gW HB.out⟩⟩
            ·rw [if_neg c123] at H
             have Gy:decide (0≤iZ)=false:=decide_eq_false c123;clear c123
             by_cases c134:(lV.length:Int)>10000
             ·rw [if_pos c134] at H
              have Ha:decide (10000<(lV.length:Int))=true:=decide_eq_true c134;have Hb:decide (10000<lV.length)=true:=decide_eq_true (by omega);clear c134;simp only [Option.some.injEq,Prod.mk.injEq] at H;obtain⟨rfl,rfl,rfl,rfl⟩:=H;obtain⟨Th,Ti,Jn⟩:=Kd.R_slice dW.out;subst Jn;have hnb136:=fM.out;have hnc136:=fL.out;have hnb137:=gF.out;have hnc137:=gE.out;have hnb138:=eW.out;have hnc138:=jA.out;have Jo:wr.cell? ⟨dP,0,none⟩=some (.slice none 0 0):=(aG cJ.out 0).trans rfl;have Jp:wr.cell? ⟨dP,1,none⟩=some (.bool cZ):=(aG cJ.out 1).trans rfl;have Jq:=aH cJ.out 0;have Jr:=aH cJ.out 1;go_wp2
              refine bodyPost_ret (results_ctt rfl _ _ dP 31 #[.slice none 0 0,.bool true] (0,0) _ rfl (by(with_reducible repeat(first|refine aJ ?_ _|refine aK ?_|refine aI ?_ _));refine blk_put (cs:=#[.slice none 0 0,.bool cZ]) ?_ 1 _ rfl;(with_reducible repeat(first|refine aJ ?_ _|refine aK ?_|refine aI ?_ _));refine blk_put (cs:=#[.slice none 0 0,.bool cZ]) ?_ 0 _ rfl;(with_reducible repeat(first|refine aJ ?_ _|refine aK ?_|refine aI ?_ _));exact cJ.out) Try.underlying31 rfl (by kernel_rfl)) rfl ?_
              exact⟨_,_,by first|rfl|(simp [errW_none,errW_some]<;>rfl)|(simp only [←oX];first|rfl|(simp [errW_none,errW_some]<;>rfl))|(simp [*,errW_none,errW_some]<;>rfl),by first|exact Kd.R_nil _ _ _ _ _|exact Kd.N_nil _ _ _ _ _|exact Kd.V_nil _ _ _ _ _|exact Kd.Q_nil _ _ _ _ _|exact Kd.S_nil _ _ _ _ _,by first|exact Kd.R_nil _ _ _ _ _|exact Kd.N_nil _ _ _ _ _|exact Kd.V_nil _ _ _ _ _|exact Kd.Q_nil _ _ _ _ _|exact Kd.S_nil _ _ _ _ _,by repeat(first|(with_reducible first|exact HB.out|apply aN|apply aP|apply aO|refine aL ?_ lB.out|refine aL ?_ lC.out|refine aL ?_ lD.out|refine aL ?_ lU.out)|exact HB.out)⟩
             ·rw [if_neg c134] at H
              have Ha:decide (10000<(lV.length:Int))=false:=decide_eq_false c134;have Hb:decide (10000<lV.length)=false:=decide_eq_false (by omega);clear c134
              by_cases c140:(y244.length:Int)>10000
              ·rw [if_pos c140] at H
               have Hc:decide (10000<(y244.length:Int))=true:=decide_eq_true c140;have Hd:decide (10000<y244.length)=true:=decide_eq_true (by omega);clear c140;simp only [Option.some.injEq,Prod.mk.injEq] at H;obtain⟨rfl,rfl,rfl,rfl⟩:=H;obtain⟨Tj,Tk,Js⟩:=Kd.R_slice dW.out;subst Js;obtain⟨Tl,Tm,Jt⟩:=Kd.R_slice eP.out;subst Jt;have hnb143:=fM.out;have hnc143:=fL.out;have hnb144:=gF.out;have hnc144:=gE.out;have hnb145:=eW.out;have hnc145:=jA.out;have Ju:wr.cell? ⟨dP,0,none⟩=some (.slice none 0 0):=(aG cJ.out 0).trans rfl;have Jv:wr.cell? ⟨dP,1,none⟩=some (.bool cZ):=(aG cJ.out 1).trans rfl;have Jw:=aH cJ.out 0;have Jy:=aH cJ.out 1;go_wp2
               refine bodyPost_ret (results_ctt rfl _ _ dP 31 #[.slice none 0 0,.bool true] (0,0) _ rfl (by(with_reducible repeat(first|refine aJ ?_ _|refine aK ?_|refine aI ?_ _));refine blk_put (cs:=#[.slice none 0 0,.bool cZ]) ?_ 1 _ rfl;(with_reducible repeat(first|refine aJ ?_ _|refine aK ?_|refine aI ?_ _));refine blk_put (cs:=#[.slice none 0 0,.bool cZ]) ?_ 0 _ rfl;(with_reducible repeat(first|refine aJ ?_ _|refine aK ?_|refine aI ?_ _));exact cJ.out) Try.underlying31 rfl (by kernel_rfl)) rfl ?_
               exact⟨_,_,by first|rfl|(simp [errW_none,errW_some]<;>rfl)|(simp only [←oX];first|rfl|(simp [errW_none,errW_some]<;>rfl))|(simp [*,errW_none,errW_some]<;>rfl),by first|exact Kd.R_nil _ _ _ _ _|exact Kd.N_nil _ _ _ _ _|exact Kd.V_nil _ _ _ _ _|exact Kd.Q_nil _ _ _ _ _|exact Kd.S_nil _ _ _ _ _,by first|exact Kd.R_nil _ _ _ _ _|exact Kd.N_nil _ _ _ _ _|exact Kd.V_nil _ _ _ _ _|exact Kd.Q_nil _ _ _ _ _|exact Kd.S_nil _ _ _ _ _,by repeat(first|(with_reducible first|exact HB.out|apply aN|apply aP|apply aO|refine aL ?_ lB.out|refine aL ?_ lC.out|refine aL ?_ lD.out|refine aL ?_ lU.out)|exact HB.out)⟩
              ·rw [if_neg c140] at H
               have Hc:decide (10000<(y244.length:Int))=false:=decide_eq_false c140;have Hd:decide (10000<y244.length)=false:=decide_eq_false (by omega);clear c140;have H':=aM H;clear H;obtain⟨Tn,To,Jz⟩:=Kd.R_slice dW.out;subst Jz;obtain⟨Tp,Tq,Ka⟩:=Kd.R_slice eP.out;subst Ka;go_wp2
               go_roundg k3
               case measure=>have:=HJ4.out;have:=HK2.out;have:=HK3.out;omega
               case rel=>exact⟨(lV),(y244),(cZ),H',⟨by have:=HJ4.out;have:=HK2.out;have:=HK3.out;omega⟩,⟨by(with_reducible repeat(first|apply aA|apply aB|apply aC));exact Kd.R_mono dW.out (fun _ hk=>trivial)⟩,⟨gR eP.out⟩,⟨gB bT.out⟩,⟨gB cR.out⟩,⟨gB cJ.out⟩,⟨gW HB.out⟩⟩
       ·rw [if_neg c58] at H
        have Fh:decide (0<(bZ.length:Int))=false:=decide_eq_false c58;have Fi:decide (0<bZ.length)=false:=decide_eq_false (by omega);clear c58
        by_cases c149:a3<(aX.length:Int)
        ·rw [if_pos c149] at H
         have He:decide (a3<(aX.length:Int))=true:=decide_eq_true c149;clear c149;simp only [Option.some.injEq,Prod.mk.injEq] at H;obtain⟨rfl,rfl,rfl,rfl⟩:=H;obtain⟨Tr,Ts,Kb⟩:=Kd.R_slice dW.out;subst Kb;have hnb151:=iL.out;have hnc151:=iM.out;have hnb152:=fL.out;have hnc152:=fM.out;have Ke:wr.cell? ⟨cY,0,none⟩=some (.slice cA aW.length cB):=(aG bT.out 0).trans rfl;have Kf:wr.cell? ⟨cY,1,none⟩=some (.slice cE aX.length cF):=(aG bT.out 1).trans rfl;have Kg:wr.cell? ⟨cY,2,none⟩=some (.int .i64 bM):=(aG bT.out 2).trans rfl;have Kh:wr.cell? ⟨cY,3,none⟩=some (.int .i64 bO):=(aG bT.out 3).trans rfl;have Ki:wr.cell? ⟨cY,4,none⟩=some (.slice cK aV.length cG):=(aG bT.out 4).trans rfl;have Kj:=aH bT.out 0;have Kk:=aH bT.out 1;have Kl:=aH bT.out 2;have Km:=aH bT.out 3;have Kn:=aH bT.out 4;have hnb154:=gF.out;have hnc154:=gE.out;have Ko:wr.cell? ⟨dP,0,none⟩=some (.slice none 0 0):=(aG cJ.out 0).trans rfl;have Kp:wr.cell? ⟨dP,1,none⟩=some (.bool cZ):=(aG cJ.out 1).trans rfl;have Kq:=aH cJ.out 0;have Kr:=aH cJ.out 1;go_wp2
         refine bodyPost_ret (results_ctt rfl _ _ dP 31 #[.slice none 0 0,.bool true] (0,0) _ rfl (by(with_reducible repeat(first|refine aJ ?_ _|refine aK ?_|refine aI ?_ _));refine blk_put (cs:=#[.slice none 0 0,.bool cZ]) ?_ 1 _ rfl;(with_reducible repeat(first|refine aJ ?_ _|refine aK ?_|refine aI ?_ _));refine blk_put (cs:=#[.slice none 0 0,.bool cZ]) ?_ 0 _ rfl;(with_reducible repeat(first|refine aJ ?_ _|refine aK ?_|refine aI ?_ _));exact cJ.out) Try.underlying31 rfl (by kernel_rfl)) rfl ?_
         exact⟨_,_,by first|rfl|(simp [errW_none,errW_some]<;>rfl)|(simp [*,errW_none,errW_some]<;>rfl),by first|exact Kd.R_nil _ _ _ _ _|exact Kd.N_nil _ _ _ _ _|exact Kd.V_nil _ _ _ _ _|exact Kd.Q_nil _ _ _ _ _|exact Kd.S_nil _ _ _ _ _,by(with_reducible repeat(first|apply aA|apply aB|apply aC));exact Kd.R_mono (aE (p:=⟨dP,1,none⟩) (aE (p:=⟨dP,0,none⟩) (Kd.R_types eP.out cJ.out (by decide)) (fun _ hk=>hk.2) (.slice none 0 0)) (fun _ hk=>hk.2) (.bool true)) (fun _ hk=>trivial),by repeat(first|(with_reducible first|exact HB.out|apply aN|apply aP|apply aO|refine aL ?_ lB.out|refine aL ?_ lC.out|refine aL ?_ lD.out)|exact HB.out)⟩
        ·rw [if_neg c149] at H
         have He:decide (a3<(aX.length:Int))=false:=decide_eq_false c149;clear c149;simp only [Option.some.injEq,Prod.mk.injEq] at H;obtain⟨rfl,rfl,rfl,rfl⟩:=H;obtain⟨Tt,Tu,Ks⟩:=Kd.R_slice dW.out;subst Ks;have hnb157:=iL.out;have hnc157:=iM.out;have hnb158:=fL.out;have hnc158:=fM.out;have Kt:wr.cell? ⟨cY,0,none⟩=some (.slice cA aW.length cB):=(aG bT.out 0).trans rfl;have Ku:wr.cell? ⟨cY,1,none⟩=some (.slice cE aX.length cF):=(aG bT.out 1).trans rfl;have Kv:wr.cell? ⟨cY,2,none⟩=some (.int .i64 bM):=(aG bT.out 2).trans rfl;have Kw:wr.cell? ⟨cY,3,none⟩=some (.int .i64 bO):=(aG bT.out 3).trans rfl;have Kx:wr.cell? ⟨cY,4,none⟩=some (.slice cK aV.length cG):=(aG bT.out 4).trans rfl;have Ky:=aH bT.out 0;have Kz:=aH bT.out 1;have La:=aH bT.out 2;have Lb:=aH bT.out 3;have Lc:=aH bT.out 4;have hnb160:=gF.out;have hnc160:=gE.out;have Ld:wr.cell? ⟨dP,0,none⟩=some (.slice none 0 0):=(aG cJ.out 0).trans rfl;have Le:wr.cell? ⟨dP,1,none⟩=some (.bool cZ):=(aG cJ.out 1).trans rfl;have Lf:=aH cJ.out 0;have Lg:=aH cJ.out 1;go_wp2
         refine bodyPost_ret (results_ctt rfl _ _ dP 31 #[.slice none 0 0,.bool false] (0,0) _ rfl (by(with_reducible repeat(first|refine aJ ?_ _|refine aK ?_|refine aI ?_ _));refine blk_put (cs:=#[.slice none 0 0,.bool cZ]) ?_ 1 _ rfl;(with_reducible repeat(first|refine aJ ?_ _|refine aK ?_|refine aI ?_ _));refine blk_put (cs:=#[.slice none 0 0,.bool cZ]) ?_ 0 _ rfl;(with_reducible repeat(first|refine aJ ?_ _|refine aK ?_|refine aI ?_ _));exact cJ.out) Try.underlying31 rfl (by kernel_rfl)) rfl ?_
         exact⟨_,_,by first|rfl|(simp [errW_none,errW_some]<;>rfl)|(simp [*,errW_none,errW_some]<;>rfl),by first|exact Kd.R_nil _ _ _ _ _|exact Kd.N_nil _ _ _ _ _|exact Kd.V_nil _ _ _ _ _|exact Kd.Q_nil _ _ _ _ _|exact Kd.S_nil _ _ _ _ _,by(with_reducible repeat(first|apply aA|apply aB|apply aC));exact Kd.R_mono (aE (p:=⟨dP,1,none⟩) (aE (p:=⟨dP,0,none⟩) (Kd.R_types eP.out cJ.out (by decide)) (fun _ hk=>hk.2) (.slice none 0 0)) (fun _ hk=>hk.2) (.bool false)) (fun _ hk=>trivial),by repeat(first|(with_reducible first|exact HB.out|apply aN|apply aP|apply aO|refine aL ?_ lB.out|refine aL ?_ lC.out|refine aL ?_ lD.out)|exact HB.out)⟩
end Go.Proofs.Ytapjfnfengefpaa.P
end

section
namespace Go.Proofs.Ytapjfnfengefpaa.P
open Go.RowKit Go.Proofs.YtapjfnfengefpaaW.PrintWords Go.Proofs.YtapjfnfengefpaaW.PrintLast Go.Proofs.YtapjfnfengefpaaW.PrintMore
set_option linter.unusedVariables false
set_option linter.unusedSimpArgs false
def PS (bad:Nat→Prop) (W:World) (base PB:Nat) (st:List S43) (sp:List Int):Prop:=
 ∃vs vt,W.heap[PB]?=some (.cells #[vs,vt] 84 (0,0))∧base≤PB∧Kd.R k43 43 W base (fun k=>¬bad k) vs st.reverse∧Kd.R (Kd.int .i64) 3 W base (fun k=>¬bad k) vt sp
theorem PS.alloc {bad:Nat→Prop}{W:World}{base PB:Nat}{st:List S43}{sp:List Int}(h:PS bad W base PB st sp) (o:Obj):PS bad (W.alloc o) base PB st sp:=by
 obtain⟨vs,vt,h0,h1,h2,h3⟩:=h;exact⟨vs,vt,aI h0 o,h1,aA h2 o,aA h3 o⟩
theorem PS.drew {bad:Nat→Prop}{W:World}{base PB:Nat}{st:List S43}{sp:List Int}(h:PS bad W base PB st sp):PS bad W.drew base PB st sp:=by
 obtain⟨vs,vt,h0,h1,h2,h3⟩:=h;exact⟨vs,vt,h0,h1,aC h2,aC h3⟩
theorem PS.stack {bad:Nat→Prop}{W:World}{base PB:Nat}{vs vt vs':Value}{st':List S43}{sp:List Int}(h0:W.heap[PB]?=some (.cells #[vs,vt] 84 (0,0))) (h1:base≤PB) (h2:Kd.R k43 43 W base (fun k=>¬bad k) vs' st'.reverse) (h3:Kd.R (Kd.int .i64) 3 W base (fun k=>¬bad k) vt sp):
 PS bad (W.setCell ⟨PB,0,none⟩ vs') base PB st' sp:=
 ⟨vs',vt,blk_put h0 0 _ rfl,h1,Kd.R_set h2 h0 (by decide) 0 _,Kd.R_set h3 h0 (by decide) 0 _⟩
theorem PS.steps {bad:Nat→Prop}{W:World}{base PB:Nat}{vs vt vt':Value}{st:List S43}{sp':List Int}(h0:W.heap[PB]?=some (.cells #[vs,vt] 84 (0,0))) (h1:base≤PB) (h2:Kd.R k43 43 W base (fun k=>¬bad k) vs st.reverse) (h3:Kd.R (Kd.int .i64) 3 W base (fun k=>¬bad k) vt' sp'):
 PS bad (W.setCell ⟨PB,1,none⟩ vt') base PB st sp':=
 ⟨vs,vt',blk_put h0 1 _ rfl,h1,Kd.R_set h2 h0 (by decide) 1 _,Kd.R_set h3 h0 (by decide) 1 _⟩
theorem PS.mono {bad bad':Nat→Prop}{W:World}{base PB:Nat}{st:List S43}{sp:List Int}(h:PS bad W base PB st sp) (hb:∀k,bad' k→bad k):PS bad' W base PB st sp:=by
 obtain⟨vs,vt,h0,h1,h2,h3⟩:=h;exact⟨vs,vt,h0,h1,Kd.R_mono h2 (fun k hk hb'=>hk (hb k hb')),Kd.R_mono h3 (fun k hk hb'=>hk (hb k hb'))⟩
theorem PS.bound {bad:Nat→Prop}{W:World}{base PB:Nat}{st:List S43}{sp:List Int}(h:PS bad W base PB st sp):PS (fun k=>bad k∨W.heap.size≤k) W base PB st sp:=by
 obtain⟨vs,vt,h0,h1,h2,h3⟩:=h;exact⟨vs,vt,h0,h1,Kd.R_mono (Kd.R_bound h2) (fun k hk hb=>by have:=hk.2.2.1;rcases hb with h|h;exact hk.1 h;omega),Kd.R_mono (Kd.R_bound h3) (fun k hk hb=>by have:=hk.2.2.1;rcases hb with h|h;exact hk.1 h;omega)⟩
theorem PS.far {bad:Nat→Prop}{W:World}{base PB:Nat}{st:List S43}{sp:List Int}(h:PS bad W base PB st sp) {p:Addr}(hp:bad p.block) (hne:PB≠p.block) (u:Value):PS bad (W.setCell p u) base PB st sp:=by
 obtain⟨vs,vt,h0,h1,h2,h3⟩:=h;exact⟨vs,vt,blk_far h0 hne u,h1,aE h2 (fun k hk e=>hk (e ▸ hp)) u,aE h3 (fun k hk e=>hk (e ▸ hp)) u⟩
theorem rev_last {α:Type}(x:α) (l:List α) (d:α):((x::l).reverse).getD l.length d=x:=by
 rw [List.reverse_cons,List.getD_eq_getElem?_getD,List.getElem?_append_right (by simp)];simp
theorem rev_take {α:Type}(x:α) (l:List α):((x::l).reverse).take l.length=l.reverse:=by
 rw [List.reverse_cons,List.take_append_of_le_length (by simp),List.take_of_length_le (by simp)]
set_option maxHeartbeats 4000000 in
set_option maxRecDepth 100000 in
theorem pop_any (bad:Nat→Prop) (x:S43) (st:List S43) (sp:List Int) (base PB:Nat) (W:World) (h:PS bad W base PB (x::st) sp) (hl:st.length≤1000000000):
 Calls Try.prog 52 #[.pointer (some ⟨PB,0,none⟩)] W fun e w'=>e= .returned (.agg #[.bool x.f0,.int .i64 x.f1])∧PS bad w' base PB st sp∧Kept W w' (fun k=>k=PB)∧∀B w0,B≤PB→Below B w0 W→Below B w0 w':=by
 have HW1:Aside0 (PS (fun k=>bad k∨k=W.heap.size) (W.alloc (.cells #[.bool false,.int .i64 0] 43)) base PB (x::st) sp):=⟨(PS.mono h.bound (fun k hk=>hk.imp id (fun e=>by omega))).alloc _⟩;have HK1:Aside0 (Kept W (W.alloc (.cells #[.bool false,.int .i64 0] 43)) (fun k=>k=PB)):=⟨Kept.alloc (Kept.refl W (fun k=>k=PB)) _⟩;have HQB:Aside0 ((W.alloc (.cells #[.bool false,.int .i64 0] 43)).heap[W.heap.size]?=some (.cells #[.bool false,.int .i64 0] 43 (0,0))):=⟨heap_alloc_new W _⟩;have hPB:PB<W.heap.size:=by obtain⟨_,_,h0,_⟩:=h;exact bN h0
 have HBB:Aside0 (∀B w0,B≤PB→Below B w0 W→Below B w0 (W.alloc (.cells #[.bool false,.int .i64 0] 43))):=⟨fun B w0 hB hb=>hb.trans ((aN (Below.refl _ W) _).mono (by omega))⟩;have HPB:=aM hPB;have HL:=aM hl;clear h hl hPB;go_enter Try.func52,Try.ntmps52
 go_upto_region 1 with fail
 generalize W.alloc (.cells #[.bool false,.int .i64 0] 43)=W1 at HW1 HK1 HQB HBB ⊢;generalize hQB:W.heap.size=QB at HQB HPB HW1 ⊢;have HQW:Aside0 (W.heap.size≤QB):=⟨by omega⟩;clear hQB;obtain⟨vs,vt,h0,h1,h2,h3⟩:=HW1.out;obtain⟨A,c,rfl⟩:=Kd.R_slice h2;obtain⟨_,hle,hC⟩:=aF h2;obtain⟨n,hn⟩:∃n,n=st.length:=⟨_,rfl⟩;have hlen:(x::st).reverse.length=n+1:=by rw [hn];simp
 rw [hlen] at h0 h2 hle hC;obtain⟨ad,ea,e0,e1⟩:=at_T43 hC (n:Int) (by omega) (by omega);have hrx:rd_T43 (x::st).reverse (n:Int)=x:=by rw [rd_T43,Int.toNat_natCast,hn];exact rev_last x st _
 rw [hrx,Int.toNat_natCast] at e0 e1;subst ea;obtain⟨i0_,hi0_,_⟩:=info_parts (show(Try.prog.info? 43).map (fun i=>(i.zero,i.size,i.bytes))=some (some (.agg #[.bool false,.int .i64 0]),2,16) from by kernel_rfl);have hcut:=cut_to (P:=Try.prog) 29 43 .i64 Try.underlying29 hi0_ (some ad) (n+1) c (n:Int) (by omega) (by omega) hle;rw [Int.toNat_natCast] at hcut;have q0:W1.cell? ⟨PB,0,none⟩=some (.slice (some ad) (n+1) c):=(aG h0 0).trans rfl;have i0:(0≤(n:Int))=True:=eq_true (by omega);have i1:((n:Int)<(n:Int)+1)=True:=eq_true (by omega);have hn8:n≤1000000000:=by have:=HL.out;omega
 have H0:=aM h0;have H1:=aM h1;have H2:=aM h2;have H3:=aM h3;have HN:=aM hn;clear h0 h1 h2 h3 hC hrx hle hlen hn hi0_ HW1
 go_upto_region 3 with fail
 have HLT1:Aside0 (QB<W1.heap.size):=⟨bN HQB.out⟩;have HXB:Aside0 ((W1.alloc (.cells #[.bool x.f0,.int .i64 x.f1] 43)).heap[W1.heap.size]?=some (.cells #[.bool x.f0,.int .i64 x.f1] 43 (0,0))):=⟨heap_alloc_new W1 _⟩;have H0':=aM (aI H0.out (.cells #[.bool x.f0,.int .i64 x.f1] 43));have HQB':=aM (aI HQB.out (.cells #[.bool x.f0,.int .i64 x.f1] 43));have H2':Aside0 (Kd.R k43 43 (W1.alloc (.cells #[.bool x.f0,.int .i64 x.f1] 43)) base (fun k=>¬(bad k∨k=QB)) (.slice (some ad) n c) st.reverse):=⟨aA (by have h:=Kd.R_take (m:=n) H2.out (by rw [HN.out];simp);rw [HN.out,rev_take] at h;rw [HN.out];exact h) _⟩;have H3':=aM (aA H3.out (.cells #[.bool x.f0,.int .i64 x.f1] 43));have HK2:Aside0 (Kept W (W1.alloc (.cells #[.bool x.f0,.int .i64 x.f1] 43)) (fun k=>k=PB)):=⟨Kept.alloc HK1.out _⟩;have HBB2:Aside0 (∀B w0,B≤PB→Below B w0 W→Below B w0 (W1.alloc (.cells #[.bool x.f0,.int .i64 x.f1] 43))):=⟨fun B w0 hB hb=>(HBB.out B w0 hB hb).trans ((aN (Below.refl _ W1) _).mono (by have:=HPB.out;have:=HLT1.out;omega))⟩;generalize W1.alloc (.cells #[.bool x.f0,.int .i64 x.f1] 43)=W2 at HXB H0' HQB' H2' H3' HK2 HBB2 ⊢;have HXN:Aside0 (QB≠W1.heap.size∧PB≠W1.heap.size∧PB≠QB):=⟨by have:=HPB.out;have:=HLT1.out;omega⟩;generalize W1.heap.size=XB at HXB HXN ⊢;have q0':W2.cell? ⟨PB,0,none⟩=some (.slice (some ad) (n+1) c):=(aG H0'.out 0).trans rfl;have f0':=aH H0'.out 0;have ne1:=HXN.out.1;have ne2:=HXN.out.2.1;have ne3:=HXN.out.2.2;clear q0 e0 e1 H0 HQB H2 H3 HK1 HBB HLT1
 go_upto_region 4 with fail
 have HX3:=aM (blk_far HXB.out (p:=⟨PB,0,none⟩) (Ne.symm ne2) (.slice (some ad) n c));have HQ3:=aM (blk_far HQB'.out (p:=⟨PB,0,none⟩) (Ne.symm ne3) (.slice (some ad) n c));have HP3:Aside0 (PS (fun k=>bad k∨k=QB) (W2.setCell ⟨PB,0,none⟩ (.slice (some ad) n c)) base PB st sp):=⟨PS.stack H0'.out H1.out H2'.out H3'.out⟩;have HK3:Aside0 (Kept W (W2.setCell ⟨PB,0,none⟩ (.slice (some ad) n c)) (fun k=>k=PB)):=⟨Kept.setCell HK2.out (.inl rfl) _⟩;have HBB3:Aside0 (∀B w0,B≤PB→Below B w0 W→Below B w0 (W2.setCell ⟨PB,0,none⟩ (.slice (some ad) n c))):=⟨fun B w0 hB hb=>(HBB2.out B w0 hB hb).setCell hB _⟩;generalize W2.setCell ⟨PB,0,none⟩ (.slice (some ad) n c)=W3 at HX3 HQ3 HP3 HK3 HBB3 ⊢;have x0:W3.cell? ⟨XB,0,none⟩=some (.bool x.f0):=(aG HX3.out 0).trans rfl;have x1:W3.cell? ⟨XB,1,none⟩=some (.int .i64 x.f1):=(aG HX3.out 1).trans rfl;have z0:W3.cell? ⟨QB,0,none⟩=some (.bool false):=(aG HQ3.out 0).trans rfl;have z1:W3.cell? ⟨QB,1,none⟩=some (.int .i64 0):=(aG HQ3.out 1).trans rfl;have g0:=aH HQ3.out 0;have g1:=aH HQ3.out 1;clear q0' f0' HXB H0' HQB' H2' H3' HK2 HBB2;go_wp2
 refine bodyPost_ret (results_cell_row rfl _ _ QB 43 #[.bool x.f0,.int .i64 x.f1] (0,0) _ rfl (blk_put (blk_put HQ3.out 0 _ rfl) 1 _ rfl) Try.underlying43 rfl (by kernel_rfl)) rfl ?_
 exact⟨rfl,PS.mono (PS.far (PS.far HP3.out (p:=⟨QB,0,none⟩) (.inr rfl) ne3 _) (p:=⟨QB,1,none⟩) (.inr rfl) ne3 _) (fun k hk=> .inl hk),Kept.setCell (Kept.setCell HK3.out (p:=⟨QB,0,none⟩) (.inr HQW.out) _) (p:=⟨QB,1,none⟩) (.inr HQW.out) _,fun B w0 hB hb=>((HBB3.out B w0 hB hb).setCell (p:=⟨QB,0,none⟩) (by have:=HPB.out;show B≤QB;omega) _).setCell (p:=⟨QB,1,none⟩) (by have:=HPB.out;show B≤QB;omega) _⟩
end Go.Proofs.Ytapjfnfengefpaa.P
end

section
namespace Go.Proofs.Ytapjfnfengefpaa.P
open Go.RowKit Go.Shelf Go.Proofs.YtapjfnfengefpaaW.PrintWords Go.Proofs.YtapjfnfengefpaaW.PrintLast Go.Proofs.YtapjfnfengefpaaW.PrintMore
set_option linter.unusedVariables false
set_option linter.unusedSimpArgs false
attribute [local go_sem] Oper.semAt_some
def dn (zs:List S43) (k:Nat):List (Nat×S43):=(List.range k).map fun j=>(zs.length - 1 - j,zs.getD (zs.length - 1 - j) ⟨false,0⟩)
theorem dn_succ (zs:List S43) (k:Nat):dn zs (k+1)=dn zs k++ [(zs.length - 1 - k,zs.getD (zs.length - 1 - k) ⟨false,0⟩)]:=by simp [dn,List.range_succ]
theorem dn_length (zs:List S43) (k:Nat):(dn zs k).length=k:=by simp [dn]
theorem dn_all (zs:List S43):(dn zs zs.length).map Prod.snd=zs.reverse:=by
 apply List.ext_getElem
 ·simp [dn]
 ·intro i h1 h2
  simp only [List.length_reverse] at h2;have h3:zs.length - 1 - i<zs.length:=by omega
  simp [dn,List.getElem_reverse,h3]
def backEncs (x:Nat×S43):Array Value:=#[.int .i64 (x.1:Int),.agg #[.bool x.2.f0,.int .i64 x.2.f1]]
def BackK (n₀ Bs:Nat) (W W':World):Prop:=Below n₀ W W'∧(∀o,W.heap[Bs]?=some o→W'.heap[Bs]?=some o)
theorem backK_t {n₀ Bs:Nat}{A B C:World}(h:BackK n₀ Bs A B) (k:BackK n₀ Bs B C):BackK n₀ Bs A C:=⟨h.1.trans k.1,fun o ho=>k.2 o (h.2 o ho)⟩
set_option maxRecDepth 100000 in
set_option maxHeartbeats 2000000 in
theorem back1_in (n:Nat) (hn:1≤n) (l Bs n₀:Nat) (A:Option Addr) (c:Nat) (zs:List S43) (w0:World) (hw0:n₀=w0.heap.size) (hz:Kd.C k43 w0 A zs.length zs) (hbig:zs.length≤1000000000) (J Jx:List (Nat×S43)→World→Prop)
 (hY:∀pre x W,J pre W→pre.length<zs.length→YieldAt Fence.wide (n - 1) Try.prog l (backEncs x) W fun e W'=>
  (e= .returned (.bool true)∧J (pre++ [x]) W'∧BackK n₀ Bs W W')∨(e= .returned (.bool false)∧Jx (pre++ [x]) W'))
 (W:World) (hw:Below n₀ w0 W) (hBs:W.heap[Bs]?=some (.cells #[.slice A zs.length c] 29 (0,0))) (h0:J [] W):
 CallsIn Fence.wide n Try.prog 62 #[.func (.yield l) #[] #[],.pointer (some ⟨Bs,0,none⟩)] W fun e W'=>(∃v,e= .returned v)∧
  ((∃ys,ys.map Prod.snd=zs.reverse∧J ys W')∨(∃pre,True∧Jx pre W')):=by
 subst hw0;refine callsIn_of_wp Try.func62 rfl trivial ?_ rfl
 simp only [Try.ntmps62,List.size_toArray,List.length_cons,List.length_nil,Nat.reduceAdd,Nat.reduceSub,Array.replicate_succ,Array.replicate_zero,List.push_toArray,List.append_toArray,List.nil_append,List.cons_append];have hb0:W.cell? ⟨Bs,0,none⟩=some (.slice A zs.length c):=(aG hBs 0).trans rfl;have hwz:IntKind.i64.wrap ((zs.length:Int) - 1)=(zs.length:Int) - 1:=by rw [IntKind.wrap_i64];omega
 gi_wp2
 gi_loopw [3] (fun i wr=>∃(k:Nat) (z:Int),k≤zs.length∧i= .int .i64 z∧z=(zs.length:Int) - 1 - k∧J (dn zs k) wr∧Aside0 (Below w0.heap.size w0 wr)∧Aside0 (wr.heap[Bs]?=some (.cells #[.slice A zs.length c] 29 (0,0))))
  (fun i _=>(intOf i+1).toNat)
 case atStart=>exact⟨0,_,Nat.zero_le _,rfl,by omega,h0,⟨hw⟩,⟨hBs⟩⟩
 case round=>
  clear hb0 hwz hBs hw h0;obtain⟨k,z,hk,rfl,hzz,hJs,BW,BB⟩:=hrel
  by_cases hlt:k<zs.length
  ·obtain⟨j,hj⟩:∃j:Nat,j=zs.length - 1 - k:=⟨_,rfl⟩
   obtain rfl:z=(j:Int):=by omega
   obtain⟨ad,ea,e0,e1⟩:=at_T43 (bD hz BW.out) (j:Int) (by omega) (by omega);have hrx:rd_T43 zs (j:Int)=zs.getD j ⟨false,0⟩:=by rw [rd_T43,Int.toNat_natCast];rfl
   rw [hrx,Int.toNat_natCast] at e0 e1;have hdn:dn zs (k+1)=dn zs k++ [(j,zs.getD j ⟨false,0⟩)]:=by rw [dn_succ,hj]
   generalize zs.getD j ⟨false,0⟩=y at e0 e1 hdn;obtain⟨fn,tmps,assign,body,hy,hR⟩:=hY _ (j,y) wr hJs (by rw [dn_length];exact hlt)
   dsimp only [backEncs] at hy;subst ea;have b0:wr.cell? ⟨Bs,0,none⟩=some (.slice (some ad) zs.length c):=(aG BB.out 0).trans rfl;have z0:decide ((0:Int)≤(j:Int))=true:=decide_eq_true (by omega);have z1:(0≤(j:Int))=True:=eq_true (by omega);have z2:((j:Int)<(zs.length:Int))=True:=eq_true (by omega);have hwj:IntKind.i64.wrap ((j:Int) - 1)=(j:Int) - 1:=by rw [IntKind.wrap_i64];omega
   have HK:=aM (And.intro hk (And.intro hzz (And.intro hj hlt)));clear hk hzz hj hlt hrx hY
   gi_wp2
   refine hR.mono ?_
   rintro e W3 (⟨rfl,hJ3,hk3⟩|⟨rfl,hJx3⟩)
   ·gi_wp2
    go_roundw
    case rel=>exact⟨k+1,_,by have:=HK.out;omega,rfl,by have:=HK.out;push_cast;omega,by rw [hdn];exact hJ3,⟨BW.out.trans hk3.1⟩,⟨hk3.2 _ BB.out⟩⟩
    case measure=>simp [intOf]
   ·gi_wp2
    refine bodyPost_ret (results_none rfl _ _ _) rfl ?_
    exact⟨⟨_,rfl⟩,.inr ⟨_,trivial,hJx3⟩⟩
  ·obtain rfl:k=zs.length:=by omega
   have z0:decide ((0:Int)≤z)=false:=decide_eq_false (by omega);clear hY
   gi_wp2
   go_end0
   exact⟨⟨_,rfl⟩,.inl ⟨_,dn_all zs,hJs⟩⟩
theorem back_stops (n:Nat) (hn:1≤n) (Bs n₀:Nat) (A:Option Addr) (c:Nat) (zs:List S43) (w0 w:World) (hw0:n₀=w0.heap.size) (hz:Kd.C k43 w0 A zs.length zs) (hbig:zs.length≤1000000000) (hw:Below n₀ w0 w) (hBs:w.heap[Bs]?=some (.cells #[.slice A zs.length c] 29 (0,0))):
 SeqStopsK Fence.wide n Try.prog 62 #[.pointer (some ⟨Bs,0,none⟩)] backEncs (BackK n₀ Bs) (fun ys=>ys.map Prod.snd=zs.reverse) (fun _=>True) zs.length w:=fun l J Jx W hW _ _ hY h0=>
 back1_in n hn l Bs n₀ A c zs w0 hw0 hz hbig J Jx hY W (hw.trans (hW.mono (by rw [hw0];exact(by have:=hw.size;omega)))) (bF hBs hW) h0
set_option maxHeartbeats 1000000 in
theorem back_in (n:Nat) (A:Option Addr) (len cap:Nat) (w:World):
 CallsIn Fence.wide n Try.prog 59 #[.slice A len cap] w fun e w'=>e= .returned (.func (.func 62) #[] #[.pointer (some ⟨w.heap.size,0,none⟩)])∧w'=w.alloc (.cells #[.slice A len cap] 29):=by
 refine callsIn_of_wp Try.func59 rfl trivial ?_ rfl
 simp only [Try.ntmps59,List.size_toArray,List.length_cons,List.length_nil,Nat.reduceAdd,Nat.reduceSub,Array.replicate_succ,Array.replicate_zero,List.push_toArray,List.append_toArray,List.nil_append,List.cons_append]
 gi_wp2
 go_ret
 exact⟨rfl,rfl⟩
end Go.Proofs.Ytapjfnfengefpaa.P
end

section
namespace Go.Proofs.Ytapjfnfengefpaa.P
open Go.RowKit Go.Proofs.YtapjfnfengefpaaW.PrintWords Go.Proofs.YtapjfnfengefpaaW.PrintLast Go.Proofs.YtapjfnfengefpaaW.PrintMore
set_option linter.unusedVariables false
set_option linter.unusedSimpArgs false
variable {P:Program}{ops:Array Oper}{Q:Exit→Act→World→Prop}{md:Region.Mode}{S:World→Prop}{ds:List Nat}
theorem rowsIn_round (l n:Nat) {row:String}{args:Array Value}{w:World}{R:Value→World→Prop}(h:Rows P row args w R):RowsIn (Fence.wide.inRound l) n P row args w R:=
 fun c cs _=>let⟨v,w',r,s⟩:=h c cs;⟨v,w',r,stepsIn_wide.2 s⟩
theorem wpIn_of_wp_round (l n:Nat) {o:Oper}(hd:∀c,o.op≠ .defer c) {a:Act}{w:World}{K:Act→World→Prop}(h:o.wp P a w K Q):o.wpIn (Fence.wide.inRound l) n P a w K Q:=by
 refine⟨fun _ _=>trivial,?_⟩
 rw [Oper.semAt_plain (Fence.wide.inRound l) _ _ hd]
 unfold Oper.wp at h
 cases hr:(execOp a.eval o).run P w with
 |ok x w'=>
  rw [hr] at h
  cases x with
  |value v=>exact h
  |skip=>exact h
  |defer d=>exact h
  |enter f args=>exact⟨fun hh=>(by cases hh),CallsIn.inRound l (callsIn_wide.2 h)⟩
  |row r args=>exact⟨fun hh=>(by cases hh),rowsIn_round l (n - 1) h⟩
  |_=>exact h.elim
 |halt x w'=>
  rw [hr] at h
  cases x<;>first|exact h|exact h.elim
theorem wpOpIn_of (l n:Nat) (hno:¬LetsOut Q) (hd:∀o,o∈ops.toList→∀c,o.op≠ .defer c) {i:Nat}{K:Act→World→Prop}{a:Act}{w:World}(h:wpOp P ops Q i K a w):wpOpIn (Fence.wide.inRound l) n P ops Q i K a w:=by
 unfold wpOp at h
 unfold wpOpIn
 cases ho:ops[i]? with
 |none=>rw [ho] at h;exact h
 |some o=>
  rw [ho] at h
  have hm:o∈ops.toList:=by
   obtain⟨hi,e⟩:=Array.getElem?_eq_some_iff.1 ho;rw [←e];exact Array.getElem_mem_toList hi
  simp only at h ⊢
  split
  ·rename_i hw
   rw [if_pos hw] at h;rcases h with h|⟨_,h⟩
   ·exact wpIn_of_wp_round l n (hd o hm) h
   ·exact absurd h hno
  ·rename_i hw
   rw [if_neg hw] at h;exact⟨fun _ _=>trivial,h⟩
theorem wpAnyIn_of (l n:Nat) (hno:¬LetsOut Q) (hd:∀o,o∈ops.toList→∀c,o.op≠ .defer c):∀(fuel:Nat) (listed:Array Bool) (a:Act) (w:World),wpAny P md ops Q fuel listed a w→wpAnyIn (Fence.wide.inRound l) n P md ops Q fuel listed a w
 |0,listed,a,w,h=>h
 |fuel+1,listed,a,w,h=>by
  refine⟨h.1,fun i hi=>wpOpIn_mono (fun a w=>wpAnyIn_of l n hno hd fuel _ a w) (wpOpIn_of l n hno hd (h.2 i hi))⟩
def noDeferB (ops:Array Oper):Bool:=ops.toList.all fun o=>match o.op with| .defer _=>false|_=>true
theorem noDefer_spec (h:noDeferB ops=true):∀o,o∈ops.toList→∀c,o.op≠ .defer c:=fun o ho c e=>by
 have:=List.all_eq_true.1 h o ho;rw [e] at this
 cases this
theorem startR_ {l m:Nat}{id n:Nat}{a:Act}{w:World}(l':Array Bool) (hno:¬LetsOut Q) (hd:noDeferB ops=true) (hm:P.follows .mixedOrders=true) (hn:ops.size=n) (hl:Array.replicate n false=l') (hS:S w.drew)
 (h:S w.drew→wpAnyLast P .any ops Q S ds n l' a w.drew):(Code.region id ops true).wpIn (Fence.wide.inRound l) m P Q a w:=by
 subst hn;subst hl;exact wpIn_region_any hm (wpAnyIn_of l m hno (noDefer_spec hd) _ _ _ _ (wpAny_of_last _ _ _ _ (h hS)))
end Go.Proofs.Ytapjfnfengefpaa.P
end

section
namespace Go.Proofs.Ytapjfnfengefpaa.P
open Go.RowKit Go.Shelf Go.Proofs.YtapjfnfengefpaaW.PrintWords Go.Proofs.YtapjfnfengefpaaW.PrintLast Go.Proofs.YtapjfnfengefpaaW.PrintMore
set_option linter.unusedVariables false
set_option linter.unusedSimpArgs false
attribute [local go_sem] Oper.semAt_some
def Keeps (bad:Nat→Prop) (W W':World):Prop:=∀k o,bad k→W.heap[k]?=some o→o.isCells=true→W'.heap[k]?=some o
theorem Keeps.refl (bad:Nat→Prop) (W:World):Keeps bad W W:=fun _ _ _ h _=>h
theorem Keeps.trans {bad:Nat→Prop}{A B C:World}(h:Keeps bad A B) (k:Keeps bad B C):Keeps bad A C:=fun i o hb ho hc=>k i o hb (h i o hb ho hc) hc
theorem Keeps.mono {bad bad':Nat→Prop}{A B:World}(h:Keeps bad A B) (hm:∀k,bad' k→bad k):Keeps bad' A B:=fun i o hb ho hc=>h i o (hm i hb) ho hc
theorem Keeps.below {bad:Nat→Prop}{A B:World}(h:Below A.heap.size A B):Keeps bad A B:=fun i o _ ho _=>bF ho h
theorem Keeps.grown {bad:Nat→Prop}{A B:World}{row:Option Nat}(hg:A.grownBy B row) (h:∀k,bad k→some k≠row):Keeps bad A B:=fun i o hb ho _=>(hg.block i (bN ho) (h i hb)).trans ho
theorem Keeps.set {bad:Nat→Prop}{A:World}{p:Addr}(h:¬bad p.block) (u:Value):Keeps bad A (A.setCell p u):=fun i o hb ho _=>(Below.heap_setCell A p u i (fun e=>h (e ▸ hb))).trans ho
theorem Keeps.kept {bad:Nat→Prop}{A B:World}{S:Nat→Prop}(h:Kept A B S) (hb:∀k,bad k→¬S k):Keeps bad A B:=fun i o hi ho _=>(h.2 i (bN ho) (hb i hi)).trans ho
theorem PS.other {bad:Nat→Prop}{W W':World}{base PB:Nat}{st:List S43}{sp:List Int}(h:PS bad W base PB st sp) {row:Option Nat}(hg:W.grownBy W' row) (hr:∀r,row=some r→∃o:Obj,W.heap[r]?=some o∧o.isCells=false):PS bad W' base PB st sp:=by
 obtain⟨vs,vt,h0,h1,h2,h3⟩:=h
 have hne:∀k cells q,W.heap[k]?=some (.cells cells q (0,0))→some k≠row:=fun k cells q hk e=>by
  obtain⟨o,ho,hc⟩:=hr k e.symm;rw [hk] at ho
  cases ho
  cases hc
 refine⟨vs,vt,blk_grown h0 hg (hne _ _ _ h0),h1,?_,?_⟩
 ·exact Kd.R_mono (Kd.R_grown (Kd.R_bound h2) hg (fun k hk=>by obtain⟨_,_,_,q,_,cells,hc⟩:=hk;exact hne _ _ _ hc)) (fun k hk=>hk.1)
 ·exact Kd.R_mono (Kd.R_grown (Kd.R_bound h3) hg (fun k hk=>by obtain⟨_,_,_,q,_,cells,hc⟩:=hk;exact hne _ _ _ hc)) (fun k hk=>hk.1)
theorem Keeps.other {bad:Nat→Prop}{A W W':World}(h:Keeps bad A W) {row:Option Nat}(hg:W.grownBy W' row) (hr:∀r,row=some r→∃o:Obj,W.heap[r]?=some o∧o.isCells=false):Keeps bad A W':=fun i o hb ho hc=>by
 have hX:=h i o hb ho hc;refine(hg.block i (bN hX) (fun e=>?_)).trans hX
 obtain⟨o',ho',hc'⟩:=hr i e.symm;rw [hX] at ho'
 cases ho';rw [hc] at hc'
 cases hc'
def noPanic (Q:Exit→Act→World→Prop):Exit→Act→World→Prop
 | .panic _,_,_=>False
 |e,a,w=>Q e a w
theorem noPanic_imp {Q:Exit→Act→World→Prop}:∀(e:Exit) (a:Act) (w:World),noPanic Q e a w→Q e a w
 | .panic _,_,_,h=>h.elim
 | .normal,_,_,h=>h
 | .ret,_,_,h=>h
 | .exit _,_,_,h=>h
 | .goto _,_,_,h=>h
 | .outgrown,_,_,h=>h
set_option maxHeartbeats 4000000 in
set_option maxRecDepth 100000 in
theorem expand_any (bad:Nat→Prop) (cA:Option Addr) (cB:Nat) (aW:List ByteArray) (cE:Option Addr) (cF:Nat) (aX:List (S72)) (bM:Int) (bO:Int) (cK:Option Addr) (cG:Nat) (aV:List (S35)) (prod:Int) (st:List S43) (sp:List Int) (PB:Nat) (w0 W:World)
 (hPS:PS bad W w0.heap.size PB st sp) (hw:Below w0.heap.size w0 W) (hbad:∀k,bad k→k<W.heap.size) (hPB:¬bad PB) (hr4:Kd.C k35 w0 cK aV.length aV) (h0:0≤prod) (h1:prod<(aV.length:Int))
 (hr:(rd_T35 aV prod).f1.length≤1000000) (hst:st.length≤1000000) (hsp:sp.length≤1000000):
 Calls Try.prog 53 #[.pointer (some ⟨PB,0,none⟩),.agg #[.slice cA aW.length cB,.slice cE aX.length cF,.int .i64 bM,.int .i64 bO,.slice cK aV.length cG],.int .i64 prod] W fun e w'=>
  e= .returned (.bool (decide (((rd_T35 aV prod).f1++st).length≤10000) && decide ((sp++ [prod]).length≤10000)))∧PS bad w' w0.heap.size PB ((rd_T35 aV prod).f1++st) (sp++ [prod])∧Below w0.heap.size w0 w'∧Keeps bad W w'∧W.heap.size≤w'.heap.size:=by
 obtain⟨ad,A5,c5,ea,_,e1,_,hC5⟩:=at_T35 hr4 prod h0 h1;generalize (rd_T35 aV prod).f1=r at e1 hC5 hr ⊢;subst ea;have HW:=aM hw;have HBAD:Aside0 (∀k,(bad k∨k=W.heap.size∨k=W.heap.size+1)→k<W.heap.size+2):=⟨fun k hk=>by rcases hk with h|h|h;have:=hbad k h;omega;omega;omega⟩
 have HP1:Aside0 (PS (fun k=>bad k∨k=W.heap.size∨k=W.heap.size+1) ((W.alloc (.cells #[.pointer (some ⟨PB,0,none⟩)] 81)).alloc (.cells #[.slice cA aW.length cB,.slice cE aX.length cF,.int .i64 bM,.int .i64 bO,.slice (some ad) aV.length cG] 26)) w0.heap.size PB st sp):=⟨((PS.mono hPS.bound (fun k hk=>by rcases hk with h|h|h;exact .inl h;exact .inr (by omega);exact .inr (by omega))).alloc _).alloc _⟩
 have hBW:Below W.heap.size W ((W.alloc (.cells #[.pointer (some ⟨PB,0,none⟩)] 81)).alloc (.cells #[.slice cA aW.length cB,.slice cE aX.length cF,.int .i64 bM,.int .i64 bO,.slice (some ad) aV.length cG] 26)):=((Below.refl _ W).alloc (Nat.le_refl _) _).alloc (by simp) _;have HK1:Aside0 (Keeps bad W ((W.alloc (.cells #[.pointer (some ⟨PB,0,none⟩)] 81)).alloc (.cells #[.slice cA aW.length cB,.slice cE aX.length cF,.int .i64 bM,.int .i64 bO,.slice (some ad) aV.length cG] 26))):=⟨Keeps.below hBW⟩;have HB1:Aside0 (Below w0.heap.size w0 ((W.alloc (.cells #[.pointer (some ⟨PB,0,none⟩)] 81)).alloc (.cells #[.slice cA aW.length cB,.slice cE aX.length cF,.int .i64 bM,.int .i64 bO,.slice (some ad) aV.length cG] 26))):=⟨hw.trans (hBW.mono hw.size)⟩;have HTB:Aside0 (((W.alloc (.cells #[.pointer (some ⟨PB,0,none⟩)] 81)).alloc (.cells #[.slice cA aW.length cB,.slice cE aX.length cF,.int .i64 bM,.int .i64 bO,.slice (some ad) aV.length cG] 26)).heap[W.heap.size]?=some (.cells #[.pointer (some ⟨PB,0,none⟩)] 81 (0,0))):=⟨aI (blk_new _ _) _⟩;have HSB:Aside0 (((W.alloc (.cells #[.pointer (some ⟨PB,0,none⟩)] 81)).alloc (.cells #[.slice cA aW.length cB,.slice cE aX.length cF,.int .i64 bM,.int .i64 bO,.slice (some ad) aV.length cG] 26)).heap[W.heap.size+1]?=some (.cells #[.slice cA aW.length cB,.slice cE aX.length cF,.int .i64 bM,.int .i64 bO,.slice (some ad) aV.length cG] 26 (0,0))):=⟨by have h:=blk_new (W.alloc (.cells #[.pointer (some ⟨PB,0,none⟩)] 81)) (.cells #[.slice cA aW.length cB,.slice cE aX.length cF,.int .i64 bM,.int .i64 bO,.slice (some ad) aV.length cG] 26);rw [World.size_alloc] at h;exact h⟩;have HSZ1:Aside0 (W.heap.size+2≤((W.alloc (.cells #[.pointer (some ⟨PB,0,none⟩)] 81)).alloc (.cells #[.slice cA aW.length cB,.slice cE aX.length cF,.int .i64 bM,.int .i64 bO,.slice (some ad) aV.length cG] 26)).heap.size):=⟨by simp⟩;have HPBN:Aside0 (¬(bad PB∨PB=W.heap.size∨PB=W.heap.size+1)):=⟨by obtain⟨_,_,hb,_⟩:=hPS;have:=bN hb;rintro(h|h|h);exact hPB h;omega;omega⟩;have E1:=aM e1;have HC5:=aM hC5;have HR:=aM hr;have HST:=aM hst;have HSP:=aM hsp;have HPR:=aM (And.intro h0 h1);clear hPS hw hbad hPB hr4 h0 h1 hr hst hsp e1 hC5 hBW;refine(callsIn_wide (n:=5)).1 (callsIn_of_wp_marks Try.func53 rfl trivial (wpIn_mono (wpIn_wide.2 ?_) noPanic_imp) rfl)
 simp only [Try.ntmps53,List.size_toArray,List.length_cons,List.length_nil,Nat.reduceAdd,Nat.reduceSub,Array.replicate_succ,Array.replicate_zero,List.push_toArray,List.append_toArray,List.nil_append,List.cons_append]
 obtain⟨Q',hQ'⟩:∃Q',Q'=bodyPostM Fence.wide 5 Try.prog Try.f53 fun e w'=>
  e= .returned (.bool (decide ((r++st).length≤10000) && decide ((sp++ [prod]).length≤10000)))∧PS bad w' w0.heap.size PB (r++st) (sp++ [prod])∧Below w0.heap.size w0 w'∧Keeps bad W w'∧W.heap.size≤w'.heap.size:=⟨_,rfl⟩
 rw [←hQ'];have HQ':=aM hQ';clear hQ'
 go_upto_region 1 with fail
 have HZ1:Aside0 (W.heap.size≤((W.alloc (.cells #[.pointer (some ⟨PB,0,none⟩)] 81)).alloc (.cells #[.slice cA aW.length cB,.slice cE aX.length cF,.int .i64 bM,.int .i64 bO,.slice (some ad) aV.length cG] 26)).heap.size):=⟨by have:=HSZ1.out;omega⟩;generalize ((W.alloc (.cells #[.pointer (some ⟨PB,0,none⟩)] 81)).alloc (.cells #[.slice cA aW.length cB,.slice cE aX.length cF,.int .i64 bM,.int .i64 bO,.slice (some ad) aV.length cG] 26))=w1 at HP1 HK1 HB1 HTB HSB HSZ1 HZ1 ⊢;generalize hSBn:W.heap.size+1=SB at HP1 HSB HBAD HPBN ⊢;generalize hTBn:W.heap.size=TB at HP1 HTB HBAD HSZ1 HPBN ⊢;have HNE:Aside0 (TB≠SB):=⟨by omega⟩;clear hSBn hTBn;have hbad1:∀k,w1.heap.size≤k→¬(bad k∨k=TB∨k=SB):=fun k hk h=>by have:=HBAD.out k h;have:=HSZ1.out;omega
 have HBN:=aM hbad1;clear hbad1;obtain⟨vs,vt,h0,h1,h2,h3⟩:=HP1.out;have H0:=aM h0;have H1:=aM h1;have H2:=aM h2;have H3:=aM h3;clear h0 h1 h2 h3 HP1;refine start_ (n:=11) (S:=fun w'=>w'.cell? ⟨TB,0,none⟩=some (.pointer (some ⟨PB,0,none⟩))∧w'.cell? ⟨PB,1,none⟩=some vt) (ds:= [10]) #[false,false,false,false,false,false,false,false,false,false,false] (by kernel_rfl) rfl rfl ⟨(aG HTB.out 0).trans rfl,(aG H0.out 1).trans rfl⟩ (fun hHeld=>?_)
 refine pure_ (i:=5) (N:=some 14) (v:=?_) (a':=?_) #[false,false,false,false,false,true,false,false,false,false,false] rfl rfl (by kernel_rfl) (fun _ _ _ h=>h) (Or.inl ⟨by rfl,?_⟩) ?_ ?_
 rotate_left;(intro w';go_simp;with_reducible rfl);rotate_left;(simp only [pq];rfl)
 refine take_ (i:=0) (N:=some 9) (v:=?_) (a':=?_) #[true,false,false,false,false,true,false,false,false,false,false] rfl rfl (by kernel_rfl) (fun _ _ _ h=>h) (Or.inl ⟨by rfl,?_⟩) hHeld ?_ ?_
 rotate_left
 ·rintro w' ⟨s0,s1⟩
  go_simp
  with_reducible rfl
 rotate_left
 ·simp only [pq]
  rfl
 refine take_ (i:=1) (N:=some 10) (v:=?_) (a':=?_) #[true,true,false,false,false,true,false,false,false,false,false] rfl rfl (by kernel_rfl) (fun _ _ _ h=>h) (Or.inl ⟨by rfl,?_⟩) hHeld ?_ ?_
 rotate_left
 ·rintro w' ⟨s0,s1⟩
  go_simp
  with_reducible rfl
 rotate_left
 ·simp only [pq]
  rfl
 refine pure_ (i:=2) (N:=some 11) (v:=?_) (a':=?_) #[true,true,true,false,false,true,false,false,false,false,false] rfl rfl (by kernel_rfl) (fun _ _ _ h=>h) (Or.inl ⟨by rfl,?_⟩) ?_ ?_
 rotate_left;(intro w';go_simp;with_reducible rfl);rotate_left;(simp only [pq];rfl)
 refine pure_ (i:=3) (N:=some 12) (v:=?_) (a':=?_) #[true,true,true,true,false,true,false,false,false,false,false] rfl rfl (by kernel_rfl) (fun _ _ _ h=>h) (Or.inl ⟨by rfl,?_⟩) ?_ ?_
 rotate_left;(intro w';go_simp;with_reducible rfl);rotate_left;(simp only [pq];rfl)
 refine take_ (i:=4) (N:=some 13) (v:=?_) (a':=?_) #[true,true,true,true,true,true,false,false,false,false,false] rfl rfl (by kernel_rfl) (fun _ _ _ h=>h) (Or.inl ⟨by rfl,?_⟩) hHeld ?_ ?_
 rotate_left
 ·rintro w' ⟨s0,s1⟩
  go_simp
  with_reducible rfl
 rotate_left
 ·simp only [pq]
  rfl
 refine one_ (i:=6) (N:=some 15) #[true,true,true,true,true,true,true,false,false,false,false] rfl rfl (by kernel_rfl) (by decide) (fun K hK=>?_)
 refine value_ (w1:=?_) (v:=?_) (by rfl) rfl ?_ ?_
 rotate_left 2
 ·go_simp
  constructor
  ·rfl
  ·rfl
 refine hK.out _ _ ⟨(aG (aI HTB.out _) 0).trans rfl,(aG (aI H0.out _) 1).trans rfl⟩ (fun hHeld=>?_)
 clear hK K;refine norm_ (a':=?_) ?_ ?_
 rotate_left
 ·show Act.put _ (some 15) _=_
  simp only [pq];rfl
 refine one_ (i:=7) (N:=some 16) #[true,true,true,true,true,true,true,true,false,false,false] rfl rfl (by kernel_rfl) (by decide) (fun K hK=>?_)
 rw [show(w1.alloc (.cells #[.int .i64 prod] 3)).drew=w1.drew.alloc (.cells #[.int .i64 prod] 3) from rfl];refine Kd.R_append_step (Kd.int .i64) (w0:=w1.drew) w0.heap.size (by rfl) (.tmp 13) (.tmp 15) 32 3 (.int .i64 0) 8 rfl Try.underlying32 miInt rfl (by decide) (by omega) vt sp prod [.int .i64 prod] (fun k=>¬(bad k∨k=TB∨k=SB)) (fun _=>False) rfl rfl rfl (fun _ hk=>hk.elim) HBN.out (aC H3.out) (Below.refl _ _) HB1.out.size (by have:=HSP.out;omega) ?_
 intro v1 w2 ho hb hg hat;obtain⟨As,ls,cs_,rfl⟩:∃An ln cn,v1= .slice An ln cn:=by obtain⟨An,cn,e⟩:=Kd.R_slice ho;exact⟨An,_,cn,e⟩
 have H02:=aM (blk_grown (aK H0.out) hg (Kd.R_ne H3.out H0.out (by decide)));have HTB2:=aM (blk_grown (aK HTB.out) hg (Kd.R_away H3.out (fun k hk e=>hk (.inr (.inl e)))));have HSB2:=aM (blk_grown (aK HSB.out) hg (Kd.R_away H3.out (fun k hk e=>hk (.inr (.inr e)))));have H22:=aM (Kd.R_over (aC H2.out) (aC H3.out) (by decide) hg);have Tv:=aM ho;have HB2:Aside0 (Below w0.heap.size w0 w2):=⟨(aO HB1.out).trans hb⟩;have HK2:Aside0 (Keeps bad W w2):=⟨(show Keeps bad W w1.drew from HK1.out).trans (Keeps.grown hg (fun k hk=>Kd.R_away H3.out (fun j hj e=>hj (.inl (e ▸ hk)))))⟩;have HS2:=aM hg.size;have f3:=aH H02.out 1;clear ho hb hg hat;refine hK.out _ _ ⟨(aG HTB2.out 0).trans rfl,(aG H02.out 1).trans rfl⟩ (fun hHeld=>?_)
 clear hK K;refine norm_ (a':=?_) ?_ ?_
 rotate_left
 ·show Act.put _ (some 16) _=_
  simp only [pq];rfl
 refine pure_ (i:=8) (N:=some 17) (v:=?_) (a':=?_) #[true,true,true,true,true,true,true,true,true,false,false] rfl rfl (by kernel_rfl) (fun _ _ _ h=>h) (Or.inl ⟨by rfl,?_⟩) ?_ ?_
 rotate_left;(intro w';go_simp;with_reducible rfl);rotate_left;(simp only [pq];rfl)
 refine pure_ (i:=9) (N:=some 18) (v:=?_) (a':=?_) #[true,true,true,true,true,true,true,true,true,true,false] rfl rfl (by kernel_rfl) (fun _ _ _ h=>h) (Or.inl ⟨by rfl,?_⟩) ?_ ?_
 rotate_left;(intro w';go_simp;with_reducible rfl);rotate_left;(simp only [pq];rfl)
 refine last_ (i:=10) (N:=none) #[true,true,true,true,true,true,true,true,true,true,true] rfl rfl (by kernel_rfl) (by decide) (fun K hK=>?_)
 refine skip_ (w1:=?_) (by rfl) rfl ?_ ?_
 rotate_left
 ·go_simp
  rfl
 refine hK.out _ _ ?_
 clear hK K;refine done_ (by kernel_rfl) ?_
 have HP3:Aside0 (PS (fun k=>bad k∨k=TB∨k=SB) (w2.setCell ⟨PB,1,none⟩ (.slice As ls cs_)) w0.heap.size PB st (sp++ [prod])):=⟨PS.steps H02.out H1.out H22.out Tv.out⟩;have HTB3:=aM (blk_far HTB2.out (p:=⟨PB,1,none⟩) (fun e=>HPBN.out (.inr (.inl e.symm))) (.slice As ls cs_));have HSB3:=aM (blk_far HSB2.out (p:=⟨PB,1,none⟩) (fun e=>HPBN.out (.inr (.inr e.symm))) (.slice As ls cs_));have HB3:Aside0 (Below w0.heap.size w0 (w2.setCell ⟨PB,1,none⟩ (.slice As ls cs_))):=⟨HB2.out.setCell H1.out _⟩;have HK3:Aside0 (Keeps bad W (w2.setCell ⟨PB,1,none⟩ (.slice As ls cs_))):=⟨HK2.out.trans (Keeps.set (p:=⟨PB,1,none⟩) (fun h=>HPBN.out (.inl h)) _)⟩;have HBN3:Aside0 (∀k,(w2.setCell ⟨PB,1,none⟩ (.slice As ls cs_)).heap.size≤k→¬(bad k∨k=TB∨k=SB)):=⟨fun k hk=>HBN.out k (Nat.le_trans HS2.out (by simpa [World.setCell] using hk))⟩;have HZ3:Aside0 (W.heap.size≤(w2.setCell ⟨PB,1,none⟩ (.slice As ls cs_)).heap.size):=⟨Nat.le_trans (Nat.le_trans HZ1.out HS2.out) (by simp [World.setCell])⟩;generalize w2.setCell ⟨PB,1,none⟩ (.slice As ls cs_)=w3 at HZ3 HP3 HTB3 HSB3 HB3 HK3 HBN3 ⊢;clear f3 H0 HTB HSB H2 H3 H02 HTB2 HSB2 H22 Tv HB2 HK2 HS2 HBN HBAD HSZ1 HK1 HB1;have q4:w3.cell? ⟨SB,4,none⟩=some (.slice (some ad) aV.length cG):=(aG HSB3.out 4).trans rfl;have e1:=(HB3.out.cell (World.block_lt_of_cell? _ _ E1.out)).trans E1.out;have b0:(0≤prod)=True:=eq_true HPR.out.1;have b1:(prod<(aV.length:Int))=True:=eq_true HPR.out.2;have hcb:=(callsIn_wide (n:=5)).1 (back_in 5 A5 r.length c5 w3);have PB5:=aM hcb;clear hcb
 go_wp2_with (first|(go_at_call 59;(with_reducible refine PB5.out.mono ?_);rintro e w4 ⟨rfl,rfl⟩;clear q4 e1))
 have HBW4:Aside0 (Below w3.heap.size w3 (w3.alloc (.cells #[.slice A5 r.length c5] 29))):=⟨aN (Below.refl _ w3) _⟩;have HBS4:Aside0 ((w3.alloc (.cells #[.slice A5 r.length c5] 29)).heap[w3.heap.size]?=some (.cells #[.slice A5 r.length c5] 29 (0,0))):=⟨heap_alloc_new w3 _⟩;have HP4:Aside0 (PS (fun k=>(bad k∨k=TB∨k=SB)∨k=w3.heap.size) (w3.alloc (.cells #[.slice A5 r.length c5] 29)) w0.heap.size PB st (sp++ [prod])):=⟨(PS.mono HP3.out.bound (fun k hk=>hk.imp id (fun e=>by omega))).alloc _⟩;have HSZ4:Aside0 (w3.heap.size<(w3.alloc (.cells #[.slice A5 r.length c5] 29)).heap.size):=⟨by simp⟩;have HPB4:Aside0 (¬((bad PB∨PB=TB∨PB=SB)∨PB=w3.heap.size)):=⟨by obtain⟨_,_,hb,_⟩:=HP3.out;have:=bN hb;rintro(h|h);exact HPBN.out h;omega⟩;have HTB4:=aM (bF HTB3.out HBW4.out);have HB4:Aside0 (Below w0.heap.size w0 (w3.alloc (.cells #[.slice A5 r.length c5] 29))):=⟨HB3.out.trans (HBW4.out.mono HB3.out.size)⟩;have HK4:Aside0 (Keeps bad W (w3.alloc (.cells #[.slice A5 r.length c5] 29))):=⟨HK3.out.trans (Keeps.below HBW4.out)⟩
 have HBN4:Aside0 (∀k,(w3.alloc (.cells #[.slice A5 r.length c5] 29)).heap.size≤k→¬((bad k∨k=TB∨k=SB)∨k=w3.heap.size)):=⟨fun k hk h=>by
  have h2:=HSZ4.out;rcases h with h|h
  ·exact HBN3.out k (by omega) h
  ·omega⟩
 have HZ4:Aside0 (W.heap.size≤(w3.alloc (.cells #[.slice A5 r.length c5] 29)).heap.size):=⟨by rw [World.size_alloc];have:=HZ3.out;omega⟩;generalize (w3.alloc (.cells #[.slice A5 r.length c5] 29))=w4 at HZ4 HBW4 HBS4 HP4 HSZ4 HTB4 HB4 HK4 HBN4 ⊢;generalize w3.heap.size=BS at HBS4 HP4 HSZ4 HPB4 HBN4 ⊢;clear HBW4 HP3 HTB3 HSB3 HB3 HK3 HBN3 PB5 b0 b1;have h4n:w0.heap.size≤w4.heap.size:=HB4.out.size;refine(wpIn_wide (n:=5)).1 ?_
 refine wpIn_rangeFunc_ownH (F:=Fence.wide) (n:=5) rfl (by omega) (gf:=62) (lb:=#[.pointer (some ⟨BS,0,none⟩)]) rfl trivial (enters_of Try.func62 (by kernel_rfl) rfl)
  (back_stops 4 (by omega) BS w0.heap.size A5 c5 r w0 w4 rfl HC5.out (by have:=HR.out;omega) HB4.out HBS4.out) (fun h k=>backK_t h k)
  (fun Wx l o o' hl ho hc hw=>⟨belowK_b h4n Wx l o o' hl ho hc hw,fun ob hob=>(World.putObj_heap_other (by have:=HSZ4.out;omega)).trans hob⟩) (Below.refl _ _) (fun _=>rfl)
  (fun pre Wx=>(PS (fun k=>(bad k∨k=TB∨k=SB)∨k=BS) Wx w0.heap.size PB ((pre.map Prod.snd).reverse++st) (sp++ [prod])∧Keeps (fun k=>(bad k∨k=TB∨k=SB)∨k=BS) w4 Wx)∧(Below w0.heap.size w0 Wx∧w4.heap.size≤Wx.heap.size))
  (fun _ _ _=>False)
  (OwnFrom.and (fun pre X Y row hs hg hrow=>⟨PS.other hs.1 hg (fun r e=>(hrow r e).2),Keeps.other hs.2 hg (fun r e=>(hrow r e).2)⟩) (OwnFrom.and (ownFrom_below (Nat.le_refl _) h4n) (fun _ X Y row hs hg _=>Nat.le_trans hs hg.size)))
  (fun _ _ _ _ _ hs _ _=>hs)
  ⟨⟨HP4.out,Keeps.refl _ _⟩,HB4.out,Nat.le_refl _⟩
  (fun x a' Wx=>∃Bx st',PS (fun k=>((bad k∨k=TB∨k=SB)∨k=BS)∨k=Bx) Wx w0.heap.size PB st' (sp++ [prod])∧Wx.heap[Bx]?=some (.cells #[.bool x.2.f0,.int .i64 x.2.f1] 43 (0,0))∧a'={tmps:=#[.pointer (some ⟨PB,0,none⟩),.agg #[.slice cA aW.length cB,.slice cE aX.length cF,.int .i64 bM,.int .i64 bO,.slice (some ad) aV.length cG],.int .i64 prod,.pointer (some ⟨TB,0,none⟩),.pointer (some ⟨SB,0,none⟩),undef,.bool false,undef,.pointer (some ⟨Bx,0,none⟩),.pointer (some ⟨PB,0,none⟩),.pointer (some ⟨PB,0,none⟩),.pointer (some ⟨PB,0,none⟩),.pointer (some ⟨PB,1,none⟩),vt,.int .i64 prod,.slice (some ⟨w1.heap.size,0,none⟩) 1 1,.slice As ls cs_,.pointer (some ⟨PB,0,none⟩),.pointer (some ⟨PB,1,none⟩),.pointer (some ⟨SB,4,none⟩),.slice (some ad) aV.length cG,.int .i64 prod,.pointer (some (ad.add (prod.toNat * 2))),.pointer (some ⟨(ad.add (prod.toNat * 2)).block,(ad.add (prod.toNat * 2)).off+1,none⟩),.slice A5 r.length c5,.func (.func 62) #[] #[.pointer (some ⟨BS,0,none⟩)],.int .i64 (x.1:Int),.agg #[.bool x.2.f0,.int .i64 x.2.f1],undef,undef,undef,undef,undef,undef,undef,undef,undef,undef,undef,undef,undef,undef,undef,undef,undef,undef,undef,undef,undef,undef,undef,undef],defers:= []})
  (fun x a' _ X Y row hs hg hrow=>by
   obtain⟨Bx,st',hps,hb,e⟩:=hs;refine⟨Bx,st',PS.other hps hg (fun r e=>(hrow r e).2),blk_grown hb hg (fun e'=>?_),e⟩
   obtain⟨_,o,ho,hc⟩:=hrow Bx e'.symm;rw [hb] at ho
   cases ho
   cases hc) ?assign ?body ?done ?stop
 case assign=>
  rintro l pre x Wx K ⟨⟨hP,hKp⟩,hB,hsz⟩ hK
  have HSZx:=aM hsz;clear hsz;have HPx:=aM hP;have HKx:=aM hKp;have HBx:=aM hB;clear hP hKp hB
  dsimp only [backEncs]
  gi_wp2
  exact hK _ _ ((KeepsOthers.alloc _ _).from _) ⟨(Below.refl _ Wx).alloc HBx.out.size _,fun o ho=>aI ho _⟩ ⟨⟨HPx.out.alloc _,HKx.out.trans (Keeps.below (aN (Below.refl _ Wx) _))⟩,HBx.out.alloc HBx.out.size _,by rw [World.size_alloc];have:=HSZx.out;omega⟩ ⟨Wx.heap.size,_,(PS.mono HPx.out.bound (fun k hk=>hk.imp id (fun e=>by omega))).alloc _,heap_alloc_new Wx _,rfl⟩
 case body=>
  rintro l pre x a' Wx hl ⟨rl,hrl⟩ ⟨⟨hP,hKp⟩,hB,hsz⟩ ⟨Bx,st',hP',hBx,rfl⟩ hlen
  have hT:=hKp TB _ (.inl (.inr (.inl rfl))) HTB4.out rfl;obtain⟨vs,vt',h0,h1,h2,h3⟩:=hP
  have hnB:some Bx≠vs.ownBlock:=by
   obtain⟨vs2,vt2,h0',_,h2',_⟩:=hP';rw [h0] at h0';injection h0' with h0'
   injection h0' with h0'
   injection h0' with h0'
   injection h0' with e1 _
   subst e1;exact Kd.R_away h2' (fun k hk e=>hk (.inr e))
  have HNB:=aM hnB;clear hnB hP';have t0:Wx.cell? ⟨TB,0,none⟩=some (.pointer (some ⟨PB,0,none⟩)):=(aG hT 0).trans rfl;have p0:Wx.cell? ⟨PB,0,none⟩=some vs:=(aG h0 0).trans rfl;have x0:Wx.cell? ⟨Bx,0,none⟩=some (.bool x.2.f0):=(aG hBx 0).trans rfl;have x1:Wx.cell? ⟨Bx,1,none⟩=some (.int .i64 x.2.f1):=(aG hBx 1).trans rfl;have HKp:=aM hKp;have HBx:=aM hB;have H0:=aM h0;have H1x:=aM h1;have H2:=aM h2;have H3:=aM h3;have HT:=aM hT;have HLEN:=aM hlen;have HSZx:Aside0 (w4.heap.size≤Wx.heap.size):=⟨hsz⟩;clear hsz hKp hB h0 h1 h2 h3 hT hlen hl hrl t0 p0 x0 x1;have HBxx:=aM hBx;clear hBx;refine wpIn_block ?_
  refine startR_ (n:=11) (S:=fun w'=>w'.cell? ⟨TB,0,none⟩=some (.pointer (some ⟨PB,0,none⟩))∧w'.cell? ⟨PB,0,none⟩=some vs∧w'.cell? ⟨Bx,0,none⟩=some (.bool x.2.f0)∧w'.cell? ⟨Bx,1,none⟩=some (.int .i64 x.2.f1)) (ds:= [10]) #[false,false,false,false,false,false,false,false,false,false,false] (fun h=>by obtain⟨_,_,h⟩:=h;exact h) (by kernel_rfl) (by kernel_rfl) rfl rfl ⟨(aG HT.out 0).trans rfl,(aG H0.out 0).trans rfl,(aG HBxx.out 0).trans rfl,(aG HBxx.out 1).trans rfl⟩ (fun hHeld=>?_)
  refine take_ (i:=0) (N:=some 28) (v:=?_) (a':=?_) #[true,false,false,false,false,false,false,false,false,false,false] rfl rfl (by kernel_rfl) (fun _ _ _ h=>h) (Or.inl ⟨by rfl,?_⟩) hHeld ?_ ?_
  rotate_left
  ·rintro w' ⟨s0,s1,s2,s3⟩
   go_simp
   with_reducible rfl
  rotate_left
  ·simp only [pq]
   rfl
  refine take_ (i:=1) (N:=some 29) (v:=?_) (a':=?_) #[true,true,false,false,false,false,false,false,false,false,false] rfl rfl (by kernel_rfl) (fun _ _ _ h=>h) (Or.inl ⟨by rfl,?_⟩) hHeld ?_ ?_
  rotate_left
  ·rintro w' ⟨s0,s1,s2,s3⟩
   go_simp
   with_reducible rfl
  rotate_left
  ·simp only [pq]
   rfl
  refine pure_ (i:=2) (N:=some 30) (v:=?_) (a':=?_) #[true,true,true,false,false,false,false,false,false,false,false] rfl rfl (by kernel_rfl) (fun _ _ _ h=>h) (Or.inl ⟨by rfl,?_⟩) ?_ ?_
  rotate_left;(intro w';go_simp;with_reducible rfl);rotate_left;(simp only [pq];rfl)
  refine pure_ (i:=3) (N:=some 31) (v:=?_) (a':=?_) #[true,true,true,true,false,false,false,false,false,false,false] rfl rfl (by kernel_rfl) (fun _ _ _ h=>h) (Or.inl ⟨by rfl,?_⟩) ?_ ?_
  rotate_left;(intro w';go_simp;with_reducible rfl);rotate_left;(simp only [pq];rfl)
  refine take_ (i:=4) (N:=some 32) (v:=?_) (a':=?_) #[true,true,true,true,true,false,false,false,false,false,false] rfl rfl (by kernel_rfl) (fun _ _ _ h=>h) (Or.inl ⟨by rfl,?_⟩) hHeld ?_ ?_
  rotate_left
  ·rintro w' ⟨s0,s1,s2,s3⟩
   go_simp
   with_reducible rfl
  rotate_left
  ·simp only [pq]
   rfl
  refine take_ (i:=5) (N:=some 33) (v:=?_) (a':=?_) #[true,true,true,true,true,true,false,false,false,false,false] rfl rfl (by kernel_rfl) (fun _ _ _ h=>h) (Or.inl ⟨by rfl,?_⟩) hHeld ?_ ?_
  rotate_left
  ·rintro w' ⟨s0,s1,s2,s3⟩
   go_simp
   with_reducible rfl
  rotate_left
  ·simp only [pq]
   rfl
  refine one_ (i:=6) (N:=some 34) #[true,true,true,true,true,true,true,false,false,false,false] rfl rfl (by kernel_rfl) (by decide) (fun K hK=>?_)
  refine value_ (w1:=?_) (v:=?_) (by rfl) rfl ?_ ?_
  rotate_left 2
  ·go_simp
   constructor
   ·rfl
   ·rfl
  refine hK.out _ _ ⟨(aG (aI HT.out _) 0).trans rfl,(aG (aI H0.out _) 0).trans rfl,(aG (aI HBxx.out _) 0).trans rfl,(aG (aI HBxx.out _) 1).trans rfl⟩ (fun hHeld=>?_)
  clear hK K;refine norm_ (a':=?_) ?_ ?_
  rotate_left
  ·show Act.put _ (some 34) _=_
   simp only [pq];rfl
  refine one_ (i:=7) (N:=some 35) #[true,true,true,true,true,true,true,true,false,false,false] rfl rfl (by kernel_rfl) (by decide) (fun K hK=>?_)
  rw [show(Wx.alloc (.cells #[.bool x.2.f0,.int .i64 x.2.f1] 43)).drew=Wx.drew.alloc (.cells #[.bool x.2.f0,.int .i64 x.2.f1] 43) from rfl];refine Kd.R_append_step k43 (w0:=Wx.drew) w0.heap.size (by rfl) (.tmp 32) (.tmp 34) 29 43 (.agg #[.bool false,.int .i64 0]) 16 rfl Try.underlying29 info43 rfl (by decide) (by omega) vs _ x.2 [.bool x.2.f0,.int .i64 x.2.f1] (fun k=>¬((bad k∨k=TB∨k=SB)∨k=BS)) (fun _=>False) rfl rfl (k43_mkM _ _ _ x.2) (fun _ hk=>hk.elim) (fun k hk=>HBN4.out k (Nat.le_trans HSZx.out hk)) (aC H2.out) (Below.refl _ _) HBx.out.size (by have:=HR.out;have:=HST.out;have:=HLEN.out;simp only [List.length_reverse,List.length_append,List.length_map];omega) ?_
  intro v1 w5 ho hb hg hat;obtain⟨Aq,lq,cq,rfl⟩:∃An ln cn,v1= .slice An ln cn:=by obtain⟨An,cn,e⟩:=Kd.R_slice ho;exact⟨An,_,cn,e⟩
  have H05:=aM (blk_grown (aK H0.out) hg (Kd.R_ne H2.out H0.out (by decide)));have H35:=aM (Kd.R_over (aC H3.out) (aC H2.out) (by decide) hg);have Sb:=aM ho;have HB5:Aside0 (Below w0.heap.size Wx w5):=⟨(aO (Below.refl _ Wx)).trans hb⟩;have HK5:Aside0 (Keeps (fun k=>(bad k∨k=TB∨k=SB)∨k=BS) Wx w5):=⟨(show Keeps _ Wx Wx.drew from Keeps.refl _ _).trans (Keeps.grown hg (fun k hk=>Kd.R_away H2.out (fun j hj e=>hj (e ▸ hk))))⟩;have HG5:Aside0 (KeepsOthers Wx w5):=⟨(KeepsOthers.drew Wx).trans (KeepsOthers.of_grownBy hg (fun j o hj ho'=>by obtain⟨cells,hc⟩:=Kd.R_typed H2.out j hj;rw [show Wx.drew.heap[j]?=Wx.heap[j]? from rfl,hc] at ho';cases ho';rfl))⟩;have HT5:=aM (blk_grown (aK HT.out) hg (Kd.R_away H2.out (fun k hk e=>hk (.inl (.inr (.inl e))))));have HBx5:=aM (blk_grown (aK HBxx.out) hg HNB.out);have f5:=aH H05.out 0;clear ho hb hg hat;refine hK.out _ _ ⟨(aG HT5.out 0).trans rfl,(aG H05.out 0).trans rfl,(aG HBx5.out 0).trans rfl,(aG HBx5.out 1).trans rfl⟩ (fun hHeld=>?_)
  clear hK K;refine norm_ (a':=?_) ?_ ?_
  rotate_left
  ·show Act.put _ (some 35) _=_
   simp only [pq];rfl
  refine pure_ (i:=8) (N:=some 36) (v:=?_) (a':=?_) #[true,true,true,true,true,true,true,true,true,false,false] rfl rfl (by kernel_rfl) (fun _ _ _ h=>h) (Or.inl ⟨by rfl,?_⟩) ?_ ?_
  rotate_left;(intro w';go_simp;with_reducible rfl);rotate_left;(simp only [pq];rfl)
  refine pure_ (i:=9) (N:=some 37) (v:=?_) (a':=?_) #[true,true,true,true,true,true,true,true,true,true,false] rfl rfl (by kernel_rfl) (fun _ _ _ h=>h) (Or.inl ⟨by rfl,?_⟩) ?_ ?_
  rotate_left;(intro w';go_simp;with_reducible rfl);rotate_left;(simp only [pq];rfl)
  refine last_ (i:=10) (N:=none) #[true,true,true,true,true,true,true,true,true,true,true] rfl rfl (by kernel_rfl) (by decide) (fun K hK=>?_)
  refine skip_ (w1:=?_) (by rfl) rfl ?_ ?_
  rotate_left
  ·go_simp
   rfl
  refine hK.out _ _ ?_
  clear hK K;refine done_ (by kernel_rfl) ?_
  have hBS:=HKp.out BS _ (.inr rfl) HBS4.out rfl
  have hst2:Kd.R k43 43 w5 w0.heap.size (fun k=>¬((bad k∨k=TB∨k=SB)∨k=BS)) (.slice Aq lq cq) (((pre++ [x]).map Prod.snd).reverse++st).reverse:=by
   have h:=Sb.out;have e:(((pre++ [x]).map Prod.snd).reverse++st).reverse=(((pre.map Prod.snd).reverse++st).reverse)++ [x.2]:=by simp
   rw [e];exact h
  exact⟨(HG5.out.trans (KeepsOthers.setCell _ _ _)).from _,⟨HB5.out.setCell (p:=⟨PB,0,none⟩) H1x.out _,fun o ho=>by
   rw [hBS] at ho
   cases ho;exact(HK5.out.trans (Keeps.set (p:=⟨PB,0,none⟩) HPB4.out _)) BS _ (.inr rfl) hBS rfl⟩,⟨PS.stack H05.out H1x.out hst2 H35.out,HKp.out.trans (HK5.out.trans (Keeps.set (p:=⟨PB,0,none⟩) HPB4.out _))⟩,(HBx.out.trans HB5.out).setCell (p:=⟨PB,0,none⟩) H1x.out _,by have h1:=HSZx.out;have h2:=HG5.out.size;have h3:w5.heap.size≤(w5.setCell ⟨PB,0,none⟩ (.slice Aq lq cq)).heap.size:=(by simp [World.setCell]);omega⟩
 case done=>
  rintro D ys Wd hD hys ⟨⟨hP,hKp⟩,hB,hsz⟩ hK
  have hT:=hKp TB _ (.inl (.inr (.inl rfl))) HTB4.out rfl;obtain⟨vs,vt',h0,h1,h2,h3⟩:=hP;rw [hys,List.reverse_reverse] at h2;obtain⟨Av,cv,rfl⟩:=Kd.R_slice h2;obtain⟨Au,cu,rfl⟩:=Kd.R_slice h3;have t0:Wd.cell? ⟨TB,0,none⟩=some (.pointer (some ⟨PB,0,none⟩)):=(aG hT 0).trans rfl;have p0:=(aG h0 0);have p1:=(aG h0 1)
  have hrow:∀q,(some D:Option Nat)=some q→∃o:Obj,Wd.heap[q]?=some o∧o.isCells=false:=fun q e=>by
   injection e with e
   subst e;exact⟨_,hK,rfl⟩
  have HPd:=aM (PS.mono (PS.other ⟨_,_,h0,h1,h2,h3⟩ (grownBy_putObj' Wd D (.deferred none)) hrow) (fun k (hk:bad k)=> .inl (.inl hk)));have HBd:=aM (hB.trans (belowK_b (w:=w4) h4n Wd D _ (.deferred none) hD hK rfl rfl));have HKd:=aM (HK4.out.trans (Keeps.mono (Keeps.other hKp (grownBy_putObj' Wd D (.deferred none)) hrow) (fun k (hk:bad k)=> .inl (.inl hk))));have HD:=aM hK;have HZd:Aside0 (W.heap.size≤(Wd.putObj D (.deferred none)).heap.size):=⟨Nat.le_trans (Nat.le_trans HZ4.out hsz) (grownBy_putObj' Wd D (.deferred none)).size⟩;have HL1:Aside0 ((r++st).length=r.length+st.length):=⟨List.length_append⟩;have HL2:Aside0 ((sp++ [prod]).length=sp.length+1):=⟨by simp⟩;clear hK hrow hB hKp h0 h1 h2 h3 hT hsz hys hD;go_wp2
  ·show Q' .ret _ _
   rw [HQ'.out];refine⟨by simp,.inl ⟨_,_,rfl,run_takeDeferred HD.out,_,results_tmp rfl _ _ _,?_,HPd.out,HBd.out,HKd.out,HZd.out⟩⟩
   rename_i hl
   rw [HL1.out,decide_eq_true (by omega:r.length+st.length≤10000)];simp
   omega
  ·show Q' .ret _ _
   rw [HQ'.out];refine⟨by simp,.inl ⟨_,_,rfl,run_takeDeferred HD.out,_,results_tmp rfl _ _ _,?_,HPd.out,HBd.out,HKd.out,HZd.out⟩⟩
   rename_i hl
   rw [HL1.out,decide_eq_false (by omega:¬r.length+st.length≤10000)];rfl
 case stop=>
  rintro D c pre Wx _ _ h _
  exact h.elim
end Go.Proofs.Ytapjfnfengefpaa.P
end

section
namespace Go.Proofs.Ytapjfnfengefpaa.P
open Go.RowKit Go.Proofs.YtapjfnfengefpaaW.PrintWords Go.Proofs.YtapjfnfengefpaaW.PrintLast Go.Proofs.YtapjfnfengefpaaW.PrintMore
set_option linter.unusedVariables false
set_option linter.unusedSimpArgs false
def mEnt (tb:List (List Int)) (x look:Int):Int:=(tb.getD x.toNat []).getD look.toNat 0
def mFeed (nt:Nat) (ps:List S35) (tb:List (List Int)) (look:Int):Nat→List S43→List Int→Option (Int×List S43×List Int)
 |0,_,_=>none
 |k+1,[],sp=>some (if look<(nt:Int) then 80 else 0,[],sp)
 |k+1,x::st,sp=>
  if x.f0=true∧x.f1=look then some (0,st,sp)
  else if x.f0=true∨mEnt tb x.f1 look<0 then some (80,st,sp)
  else if decide (((rd_T35 ps (mEnt tb x.f1 look)).f1++st).length≤10000) && decide ((sp++ [mEnt tb x.f1 look]).length≤10000) then mFeed nt ps tb look k ((rd_T35 ps (mEnt tb x.f1 look)).f1++st) (sp++ [mEnt tb x.f1 look])
  else some (2,(rd_T35 ps (mEnt tb x.f1 look)).f1++st,[])
def TabOk (nn nt:Nat) (ps:List S35) (tb:List (List Int)):Prop:=tb.length=nn∧∀i,i<tb.length→(tb.getD i []).length=nt+1∧∀q∈tb.getD i [],q<(ps.length:Int)
theorem rowsOk_spec {nt:Nat}{ps:List S35}:∀(tb:List (List Int)) (r:Nat),rowsOk nt ps r tb=true→∀i,i<tb.length→(tb.getD i []).length=nt+1∧∀q∈tb.getD i [],okEnt ps ((r+i:Nat):Int) q=true
 | [],_,_,i,h=>by simp at h
 |row::tb,r,h,i,hi=>by
  simp only [rowsOk,Bool.and_eq_true,decide_eq_true_eq] at h;obtain⟨⟨h1,h2⟩,h3⟩:=h
  cases i with
  |zero=>exact⟨by simpa using h1,fun q hq=>by rw [Nat.add_zero];exact List.all_eq_true.1 h2 q (by simpa using hq)⟩
  |succ i=>
   have:=rowsOk_spec tb (r+1) h3 i (by simp at hi;omega);rw [show r+1+i=r+(i+1) by omega] at this
   simpa using this
theorem tbRight_tab {nn nt:Nat}{ps:List S35}{tb:List (List Int)}(h:tbRight nn nt ps tb=true):TabOk nn nt ps tb:=by
 simp only [tbRight,Bool.and_eq_true,decide_eq_true_eq] at h;obtain⟨_,_,h1,h2⟩:=h;refine⟨h1,fun i hi=>?_⟩
 obtain⟨h3,h4⟩:=rowsOk_spec tb 0 h2 i hi;refine⟨h3,fun q hq=>?_⟩
 have h5:=h4 q hq;simp only [okEnt,Bool.and_eq_true,decide_eq_true_eq] at h5;exact h5.1.2
theorem tbRight_prods {nn nt:Nat}{ps:List S35}{tb:List (List Int)}(h:tbRight nn nt ps tb=true):ps.all (okProd nn nt)=true:=by
 simp only [tbRight,Bool.and_eq_true] at h;exact h.1
set_option maxHeartbeats 4000000 in
set_option maxRecDepth 100000 in
theorem feed_any (bad:Nat→Prop) (cA:Option Addr) (cB:Nat) (aW:List ByteArray) (cE:Option Addr) (cF:Nat) (aX:List (S72)) (bM:Int) (bO:Int) (cK:Option Addr) (cG:Nat) (aV:List (S35)) (A1:Option Addr) (c1:Nat) (tb:List (List Int)) (look:Int) (st:List S43) (sp:List Int) (PB:Nat) (w0 W:World) (k:Nat) (R:Int×List S43×List Int)
 (hPS:PS bad W w0.heap.size PB st sp) (hbad:∀k,bad k→k<W.heap.size) (hPB:¬bad PB) (hw:Below w0.heap.size w0 W) (hr4:Kd.C k35 w0 cK aV.length aV) (ht:Kd.C (Kd.slice 3 (Kd.int .i64)) w0 A1 tb.length tb)
 (hps:aV.all (okProd aW.length aX.length)=true) (htab:TabOk aW.length aX.length aV tb) (hst:st.all (okSym aW.length aX.length)=true) (h0:0≤look) (h1:look≤(aX.length:Int)) (hsz:∀p∈aV,p.f1.length≤1000000) (hl:st.length≤10000) (hs:sp.length≤10000)
 (h:mFeed aX.length aV tb look k st sp=some R):
 Calls Try.prog 38 #[.pointer (some ⟨PB,0,none⟩),.agg #[.slice cA aW.length cB,.slice cE aX.length cF,.int .i64 bM,.int .i64 bO,.slice cK aV.length cG],.slice A1 tb.length c1,.int .i64 look] W fun e w'=>
  e= .returned (.int .i64 R.1)∧PS bad w' w0.heap.size PB R.2.1 R.2.2∧Below w0.heap.size w0 w'∧Keeps bad W w':=by
 have HR4:=aM hr4;have HT:=aM ht;have HPS:=aM hps;have HTAB:=aM htab;have HLK:=aM (And.intro h0 h1);have HSZ:=aM hsz;have HP1:Aside0 (PS (fun k=>bad k∨k=W.heap.size) (W.alloc (.cells #[.slice cA aW.length cB,.slice cE aX.length cF,.int .i64 bM,.int .i64 bO,.slice cK aV.length cG] 26)) w0.heap.size PB st sp):=⟨(PS.mono hPS.bound (fun k hk=>hk.imp id (fun e=>by omega))).alloc _⟩;have HB1:Aside0 (Below w0.heap.size w0 (W.alloc (.cells #[.slice cA aW.length cB,.slice cE aX.length cF,.int .i64 bM,.int .i64 bO,.slice cK aV.length cG] 26))):=⟨hw.trans ((aN (Below.refl _ W) _).mono hw.size)⟩;have HSB:Aside0 ((W.alloc (.cells #[.slice cA aW.length cB,.slice cE aX.length cF,.int .i64 bM,.int .i64 bO,.slice cK aV.length cG] 26)).heap[W.heap.size]?=some (.cells #[.slice cA aW.length cB,.slice cE aX.length cF,.int .i64 bM,.int .i64 bO,.slice cK aV.length cG] 26 (0,0))):=⟨heap_alloc_new W _⟩;have HPBN:Aside0 (¬(bad PB∨PB=W.heap.size)):=⟨by obtain⟨_,_,hb,_⟩:=hPS;have:=bN hb;rintro(h|h);exact hPB h;omega⟩;have HKW:Aside0 (Keeps bad W (W.alloc (.cells #[.slice cA aW.length cB,.slice cE aX.length cF,.int .i64 bM,.int .i64 bO,.slice cK aV.length cG] 26))):=⟨Keeps.below (aN (Below.refl _ W) _)⟩;have HBAD:=aM hbad;have HALL:=aM hst;have HL:=aM (And.intro hl hs);have HF:=aM h;clear hPS hbad hPB hw hr4 ht hps htab hst h0 h1 hsz hl hs h;go_enter Try.func38,Try.ntmps38
 go_wp2
 generalize W.alloc (.cells #[.slice cA aW.length cB,.slice cE aX.length cF,.int .i64 bM,.int .i64 bO,.slice cK aV.length cG] 26)=w1 at HP1 HB1 HSB HKW ⊢;have HSBW:Aside0 (∀k,bad k∨k=W.heap.size→k<w1.heap.size):=⟨fun k hk=>by have:=bN HSB.out;rcases hk with h|h;have:=HBAD.out k h;omega;omega⟩
 generalize W.heap.size=SB at HP1 HSB HPBN HSBW ⊢
 go_loopg [9] k (fun kq v9 wr=>∃(st:List S43) (sp:List Int),Aside0 (mFeed aX.length aV tb look kq st sp=some R)∧Aside0 (PS (fun k=>bad k∨k=SB) wr w0.heap.size PB st sp)∧Aside0 (Keeps (fun k=>bad k∨k=SB) w1 wr)∧Aside0 (Below w0.heap.size w0 wr∧w1.heap.size≤wr.heap.size)∧Aside0 (st.all (okSym aW.length aX.length)=true)∧Aside0 (st.length≤10000∧sp.length≤10000))
 case atStart=>exact⟨st,sp,HF,HP1,⟨Keeps.refl _ _⟩,⟨HB1.out,Nat.le_refl _⟩,HALL,HL⟩
 case round=>
  clear HF HP1 HB1 HALL HL;obtain⟨st,sp,HF,HP,HK,HBZ,HALL,HL⟩:=hrel;have HB:=aM HBZ.out.1;have HW1r:=aM HBZ.out.2;clear HBZ
  cases gk with
  |zero=>exact absurd HF.out (by simp [mFeed])
  |succ gk=>
   obtain⟨vs,vt,g0,g1,g2,g3⟩:=HP.out;obtain⟨Av,cv,rfl⟩:=Kd.R_slice g2;obtain⟨Au,cu,rfl⟩:=Kd.R_slice g3
   cases st with
   |nil=>
    have p0:wr.cell? ⟨PB,0,none⟩=some (.slice Av 0 cv):=(aG g0 0).trans rfl;have hS:=HK.out SB _ (.inr rfl) HSB.out rfl;have q1:wr.cell? ⟨SB,1,none⟩=some (.slice cE aX.length cF):=(aG hS 1).trans rfl;have hf:=HF.out;rw [mFeed] at hf;have HF2:=aM (Option.some.inj hf).symm;clear hf hS g0 g1 g2 g3 HF
    by_cases hlk:look<(aX.length:Int)
    ·have d1:decide (look<(aX.length:Int))=true:=decide_eq_true hlk
     have HQ:=aM (if_pos hlk:(if look<(aX.length:Int) then(80:Int) else 0)=80);clear d1;go_wp2
     go_ret
     exact⟨by rw [HF2.out,HQ.out];rfl,by rw [HF2.out];exact PS.mono HP.out (fun _ h=> .inl h),HB.out,HKW.out.trans (Keeps.mono HK.out (fun _ h=> .inl h))⟩
    ·have HQ:=aM (if_neg hlk:(if look<(aX.length:Int) then(80:Int) else 0)=0)
     go_wp2
     go_ret
     exact⟨by rw [HF2.out,HQ.out];rfl,by rw [HF2.out];exact PS.mono HP.out (fun _ h=> .inl h),HB.out,HKW.out.trans (Keeps.mono HK.out (fun _ h=> .inl h))⟩
   |cons x st=>
    have p0:wr.cell? ⟨PB,0,none⟩=some (.slice Av (x::st).reverse.length cv):=(aG g0 0).trans rfl;have hlen:(x::st).reverse.length=st.length+1:=by simp
    rw [hlen] at p0;have PP:=aM (pop_any (fun k=>bad k∨k=SB) x st sp w0.heap.size PB wr HP.out (by have:=HL.out.1;simp only [List.length_cons] at this;omega));have H1:=aM g1;obtain⟨n,hn⟩:∃n,n=st.length:=⟨_,rfl⟩;rw [←hn] at p0;have hn0:decide ((0:Int)<(n:Int)+1)=true:=decide_eq_true (by omega);clear g0 g1 g2 g3 hlen HP hn
    go_upto_region 3 with(first|(go_at_call 52;(with_reducible refine PP.out.mono ?_);rintro e w2 ⟨rfl,hp2,hk2,hb2⟩;have HP2:=aM hp2;have HK2:Aside0 (Keeps (fun k=>bad k∨k=SB) w1 w2):=⟨HK.out.trans (Keeps.kept hk2 (fun k hk e=>HPBN.out (by rw [←e];exact hk)))⟩;have HB2:=aM (hb2 _ _ H1.out HB.out);have HW12:Aside0 (w1.heap.size≤w2.heap.size):=⟨Nat.le_trans HW1r.out hk2.1⟩;clear hp2 hk2 hb2 PP))
    have HXB:Aside0 ((w2.alloc (.cells #[.bool x.f0,.int .i64 x.f1] 43)).heap[w2.heap.size]?=some (.cells #[.bool x.f0,.int .i64 x.f1] 43 (0,0))):=⟨heap_alloc_new w2 _⟩;have HP3:=aM (HP2.out.alloc (.cells #[.bool x.f0,.int .i64 x.f1] 43));have HK3:Aside0 (Keeps (fun k=>bad k∨k=SB) w1 (w2.alloc (.cells #[.bool x.f0,.int .i64 x.f1] 43))):=⟨HK2.out.trans (Keeps.below (aN (Below.refl _ w2) _))⟩;have HB3:Aside0 (Below w0.heap.size w0 (w2.alloc (.cells #[.bool x.f0,.int .i64 x.f1] 43))):=⟨HB2.out.trans ((aN (Below.refl _ w2) _).mono HB2.out.size)⟩;have HW13:Aside0 (w1.heap.size≤(w2.alloc (.cells #[.bool x.f0,.int .i64 x.f1] 43)).heap.size):=⟨by rw [World.size_alloc];have:=HW12.out;omega⟩;generalize w2.alloc (.cells #[.bool x.f0,.int .i64 x.f1] 43)=w3 at HXB HP3 HK3 HB3 HW13 ⊢;generalize w2.heap.size=XB at HXB ⊢;have x0:w3.cell? ⟨XB,0,none⟩=some (.bool x.f0):=(aG HXB.out 0).trans rfl;have x1:w3.cell? ⟨XB,1,none⟩=some (.int .i64 x.f1):=(aG HXB.out 1).trans rfl;clear p0 hn0 HP2 HK2 HB2 HK HB;have hf:=HF.out;rw [mFeed] at hf;have hxok:=List.all_eq_true.1 HALL.out x List.mem_cons_self;have HALL2:Aside0 (st.all (okSym aW.length aX.length)=true):=⟨by have:=HALL.out;rw [List.all_cons,Bool.and_eq_true] at this;exact this.2⟩;have HL2:Aside0 (st.length+1≤10000∧sp.length≤10000):=⟨by have:=HL.out;simpa using this⟩;obtain⟨xf,xn⟩:=x;simp only at x0 x1 hf hxok;have HXOK:=aM hxok
    cases xf with
    |true=>
     by_cases hxl:xn=look
     ·rw [if_pos ⟨rfl,hxl⟩] at hf
      have HF2:=aM (Option.some.inj hf).symm;subst hxl;clear hf hxok HF HALL HL;go_wp2
      go_ret
      exact⟨by rw [HF2.out];rfl,by rw [HF2.out];exact PS.mono HP3.out (fun _ h=> .inl h),HB3.out,HKW.out.trans (Keeps.mono HK3.out (fun _ h=> .inl h))⟩
     ·rw [if_neg (fun h=>hxl h.2),if_pos (.inl rfl)] at hf
      have HF2:=aM (Option.some.inj hf).symm;have y1:(xn==look)=false:=by simp [hxl]
      have y2:decide (xn=look)=false:=decide_eq_false hxl;clear hf hxok HF HALL HL;go_wp2
      go_ret
      exact⟨by rw [HF2.out];rfl,by rw [HF2.out];exact PS.mono HP3.out (fun _ h=> .inl h),HB3.out,HKW.out.trans (Keeps.mono HK3.out (fun _ h=> .inl h))⟩
    |false=>
     rw [if_neg (fun h=>by cases h.1)] at hf;obtain⟨hx0,hx1⟩:0≤xn∧xn<(aW.length:Int):=by simpa [okSym] using hxok
     have htl:=HTAB.out.1;obtain⟨hrl,hrq⟩:=HTAB.out.2 xn.toNat (by omega);obtain⟨adt,A9,c9,eat,ht0,_,hC9⟩:=at_rowi (bD HT.out HB3.out) xn hx0 (by omega);obtain⟨adr,ear,hr0⟩:=Kd.at_int hC9 look HLK.out.1 (by have:=HLK.out.2;omega);rw [show rd (tb.getD xn.toNat []) look=mEnt tb xn look from rfl] at hr0
     have hrm:mEnt tb xn look<(aV.length:Int):=hrq _ (by
      unfold mEnt
      generalize tb.getD xn.toNat []=row at hrl ⊢;rw [List.getD_eq_getElem?_getD,List.getElem?_eq_getElem (by have:=HLK.out;omega)];exact List.getElem_mem _)
     generalize mEnt tb xn look=q at hf hr0 hrm;obtain⟨n9,hn9⟩:∃n9,n9=(tb.getD xn.toNat []).length:=⟨_,rfl⟩;rw [←hn9] at ht0 hrl;subst eat;subst ear;have b4:(0≤xn)=True:=eq_true hx0;have b5:(xn<(tb.length:Int))=True:=eq_true (by omega);have b6:(0≤look)=True:=eq_true HLK.out.1;have b7:(look<(n9:Int))=True:=eq_true (by have:=HLK.out.2;omega);have HT0:=aM ht0;have HR0:=aM hr0;have HRM:=aM hrm
     by_cases hq:q<0
     ·rw [if_pos (.inr hq)] at hf
      have HF2:=aM (Option.some.inj hf).symm;have y1:decide (q<0)=true:=decide_eq_true hq;clear hf hxok HF HALL HL hrm hn9 hrl hrq htl hx0 hx1 hC9 hq;go_wp2
      go_ret
      exact⟨by rw [HF2.out];rfl,by rw [HF2.out];exact PS.mono HP3.out (fun _ h=> .inl h),HB3.out,HKW.out.trans (Keeps.mono HK3.out (fun _ h=> .inl h))⟩
     ·rw [if_neg (fun h=>by rcases h with h|h;cases h;exact hq h)] at hf
      have y1:decide (q<0)=false:=decide_eq_false hq;have HF2:=aM hf;have HQ:=aM (by omega:0≤q);clear hf hxok HF HALL HL hrm hn9 hrl hrq htl hx0 hx1 hC9 hq
      go_upto_region 7 with fail
      have HSX:=aM (HK3.out SB _ (.inr rfl) HSB.out rfl);have X1:=aM x1
      have hpl:(rd_T35 aV q).f1.length≤1000000∧okProd aW.length aX.length (rd_T35 aV q)=true:=by
       have hm:rd_T35 aV q∈aV:=by
        rw [rd_T35,List.getD_eq_getElem?_getD,List.getElem?_eq_getElem (by have:=HQ.out;have:=HRM.out;omega)];exact List.getElem_mem _
       exact⟨HSZ.out _ hm,List.all_eq_true.1 HPS.out _ hm⟩
      have PE:=aM (expand_any (fun k=>bad k∨k=SB) cA cB aW cE cF aX bM bO cK cG aV q st sp PB w0 w3.drew HP3.out.drew (aO HB3.out) (fun k hk=>Nat.lt_of_lt_of_le (HSBW.out k hk) (by have:=HW13.out;exact this)) HPBN.out HR4.out HQ.out HRM.out hpl.1 (by have:=HL2.out;omega) (by have:=HL2.out;omega));have HPL:=aM hpl;generalize hbb:(decide (((rd_T35 aV q).f1++st).length≤10000) && decide ((sp++ [q]).length≤10000))=tt at HF2 PE;have HBB:=aM hbb;clear hbb x0 x1 hpl;refine start_ (n:=12) (S:=fun w'=>w'.cell? ⟨SB,0,none⟩=some (.slice cA aW.length cB)∧w'.cell? ⟨SB,1,none⟩=some (.slice cE aX.length cF)∧w'.cell? ⟨SB,2,none⟩=some (.int .i64 bM)∧w'.cell? ⟨SB,3,none⟩=some (.int .i64 bO)∧w'.cell? ⟨SB,4,none⟩=some (.slice cK aV.length cG)∧w'.cell? ⟨XB,1,none⟩=some (.int .i64 xn)∧w'.cell? (adt.add xn.toNat)=some (.slice (some adr) n9 c9)∧w'.cell? (adr.add look.toNat)=some (.int .i64 q)) (ds:= [10]) #[F,F,F,F,F,F,F,F,F,F,F,F] (by kernel_rfl) rfl rfl ⟨(aG HSX.out 0).trans rfl,(aG HSX.out 1).trans rfl,(aG HSX.out 2).trans rfl,(aG HSX.out 3).trans rfl,(aG HSX.out 4).trans rfl,X1.out,HT0.out,HR0.out⟩ (fun hHeld=>?_)
      refine pure_ (i:=0) (N:=some 35) (v:=?_) (a':=?_) #[T,F,F,F,F,F,F,F,F,F,F,F] rfl rfl (by kernel_rfl) (fun _ _ _ h=>h) (Or.inl ⟨by rfl,?_⟩) ?_ ?_
      rotate_left;(intro w';go_simp;with_reducible rfl);rotate_left;(simp only [pq];rfl)
      refine pure_ (i:=2) (N:=some 37) (v:=?_) (a':=?_) #[T,F,T,F,F,F,F,F,F,F,F,F] rfl rfl (by kernel_rfl) (fun _ _ _ h=>h) (Or.inl ⟨by rfl,?_⟩) ?_ ?_
      rotate_left;(intro w';go_simp;with_reducible rfl);rotate_left;(simp only [pq];rfl)
      refine pure_ (i:=3) (N:=some 38) (v:=?_) (a':=?_) #[T,F,T,T,F,F,F,F,F,F,F,F] rfl rfl (by kernel_rfl) (fun _ _ _ h=>h) (Or.inl ⟨by rfl,?_⟩) ?_ ?_
      rotate_left;(intro w';go_simp;with_reducible rfl);rotate_left;(simp only [pq];rfl)
      refine pure_ (i:=7) (N:=some 42) (v:=?_) (a':=?_) #[T,F,T,T,F,F,F,T,F,F,F,F] rfl rfl (by kernel_rfl) (fun _ _ _ h=>h) (Or.inl ⟨by rfl,?_⟩) ?_ ?_
      rotate_left;(intro w';go_simp;with_reducible rfl);rotate_left;(simp only [pq];rfl)
      refine take_ (i:=1) (N:=some 36) (v:=?_) (a':=?_) #[T,T,T,T,F,F,F,T,F,F,F,F] rfl rfl (by kernel_rfl) (fun _ _ _ h=>h) (Or.inl ⟨by rfl,?_⟩) hHeld ?_ ?_
      rotate_left
      ·rintro w' ⟨s0,s1,s2,s3,s4,s5,s6,s7⟩
       go_simp
       with_reducible rfl
      rotate_left
      ·simp only [pq]
       rfl
      refine take_ (i:=4) (N:=some 39) (v:=?_) (a':=?_) #[T,T,T,T,T,F,F,T,F,F,F,F] rfl rfl (by kernel_rfl) (fun _ _ _ h=>h) (Or.inl ⟨by rfl,?_⟩) hHeld ?_ ?_
      rotate_left
      ·rintro w' ⟨s0,s1,s2,s3,s4,s5,s6,s7⟩
       go_simp
       with_reducible rfl
      rotate_left
      ·simp only [pq]
       rfl
      refine pure_ (i:=5) (N:=some 40) (v:=?_) (a':=?_) #[T,T,T,T,T,T,F,T,F,F,F,F] rfl rfl (by kernel_rfl) (fun _ _ _ h=>h) (Or.inl ⟨by rfl,?_⟩) ?_ ?_
      rotate_left;(intro w';go_simp;with_reducible rfl);rotate_left;(simp only [pq];rfl)
      refine take_ (i:=6) (N:=some 41) (v:=?_) (a':=?_) #[T,T,T,T,T,T,T,T,F,F,F,F] rfl rfl (by kernel_rfl) (fun _ _ _ h=>h) (Or.inl ⟨by rfl,?_⟩) hHeld ?_ ?_
      rotate_left
      ·rintro w' ⟨s0,s1,s2,s3,s4,s5,s6,s7⟩
       go_simp
       with_reducible rfl
      rotate_left
      ·simp only [pq]
       rfl
      refine pure_ (i:=8) (N:=some 43) (v:=?_) (a':=?_) #[T,T,T,T,T,T,T,T,T,F,F,F] rfl rfl (by kernel_rfl) (fun _ _ _ h=>h) (Or.inl ⟨by rfl,?_⟩) ?_ ?_
      rotate_left;(intro w';go_simp;with_reducible rfl);rotate_left;(simp only [pq];rfl)
      refine take_ (i:=9) (N:=some 44) (v:=?_) (a':=?_) #[T,T,T,T,T,T,T,T,T,T,F,F] rfl rfl (by kernel_rfl) (fun _ _ _ h=>h) (Or.inl ⟨by rfl,?_⟩) hHeld ?_ ?_
      rotate_left
      ·rintro w' ⟨s0,s1,s2,s3,s4,s5,s6,s7⟩
       go_simp
       with_reducible rfl
      rotate_left
      ·simp only [pq]
       rfl
      refine last_ (i:=10) (N:=some 45) #[T,T,T,T,T,T,T,T,T,T,T,F] rfl rfl (by kernel_rfl) (by decide) (fun K hK=>?_)
      refine goes_ Try.func53 (by kernel_rfl) rfl #[.pointer (some ⟨PB,0,none⟩),.agg #[.slice cA aW.length cB,.slice cE aX.length cF,.int .i64 bM,.int .i64 bO,.slice cK aV.length cG],.int .i64 q] (by rfl) rfl rfl (by simp only [List.map_toArray,List.map_cons,List.map_nil];rfl) ?_
      with_reducible refine(PE.out).mono ?_
      rintro e w4 ⟨rfl,hp4,hb4,hk4,hz4⟩
      refine⟨_,rfl,?_⟩
      have HP4:=aM hp4;have HB4:=aM hb4;have HW14:Aside0 (w1.heap.size≤w4.heap.size):=⟨Nat.le_trans HW13.out hz4⟩;have HK4:Aside0 (Keeps (fun k=>bad k∨k=SB) w1 w4):=⟨(show Keeps _ w1 w3.drew from HK3.out).trans hk4⟩;clear hp4 hb4 hk4 hz4;refine hK.out _ _ ?_
      clear hK K;refine norm_ (a':=?_) ?_ ?_
      rotate_left
      ·show Act.put _ (some 45) _=_
       simp only [pq];rfl
      refine pure_ (i:=11) (N:=some 46) (v:=?_) (a':=?_) #[T,T,T,T,T,T,T,T,T,T,T,T] rfl rfl (by kernel_rfl) (fun _ _ _ h=>h) (Or.inl ⟨by rfl,?_⟩) ?_ ?_
      rotate_left;(intro w';go_simp;with_reducible rfl);rotate_left;(simp only [pq];rfl)
      refine done_ (by kernel_rfl) ?_
      have HALL3:Aside0 (((rd_T35 aV q).f1++st).all (okSym aW.length aX.length)=true):=⟨by
       rw [List.all_append,Bool.and_eq_true];refine⟨?_,HALL2.out⟩
       have:=HPL.out.2;simp only [okProd,Bool.and_eq_true] at this;exact this.2⟩
      generalize (rd_T35 aV q).f1=pr at HF2 HP4 HALL3 HBB;clear b4 b5 b6 b7
      cases tt with
      |true=>
       have HL3:Aside0 ((pr++st).length≤10000∧(sp++ [q]).length≤10000):=⟨by have:=HBB.out;simpa only [Bool.and_eq_true,decide_eq_true_eq] using this⟩;have HF3:Aside0 (mFeed aX.length aV tb look gk (pr++st) (sp++ [q])=some R):=⟨by have:=HF2.out;rwa [if_pos rfl] at this⟩;clear HF2 HBB;go_wp2
       go_roundg gk
       case measure=>omega
       case rel=>exact⟨pr++st,sp++ [q],HF3,HP4,HK4,⟨HB4.out,HW14.out⟩,HALL3,HL3⟩
      |false=>
       have HF3:Aside0 (R=(2,pr++st,[])):=⟨by have:=HF2.out;rw [if_neg (by simp)] at this;exact(Option.some.inj this).symm⟩;obtain⟨vs4,vt4,g0,g1,g2,g3⟩:=HP4.out;obtain⟨Au4,cu4,rfl⟩:=Kd.R_slice g3;have p1:=aG g0 1;have f1:=aH g0 1;have G0:=aM g0;have G1:=aM g1;have G2:=aM g2;clear HF2 HBB g0 g1 g2 g3;go_wp2
       go_ret
       exact⟨by rw [HF3.out];rfl,by rw [HF3.out];exact PS.mono (PS.steps G0.out G1.out G2.out (Kd.R_nil _ _ _ _ _)) (fun _ h=> .inl h),HB4.out.setCell (p:=⟨PB,1,none⟩) G1.out _,HKW.out.trans ((Keeps.mono HK4.out (fun _ h=> .inl h)).trans (Keeps.set (p:=⟨PB,1,none⟩) (fun h=>HPBN.out (.inl h)) _))⟩
def mOut:Option (Int×List S43×List Int)→List S43×Bool×List Int×Int
 |none=>([],true,[],2)
 |some (e,st,sp)=>if e=0 then(st.reverse,false,sp,0) else([],true,sp,e)
def mFeedAll (nn nt:Nat) (ps:List S35) (tb:List (List Int)) (stack:List S43) (dead:Bool) (look:Int):List S43×Bool×List Int×Int:=
 if tbRight nn nt ps tb=true∧stAwaits nn nt stack=true∧0≤look∧look≤(nt:Int) then
  if dead=true then([],true,[],80) else mOut (mFeed nt ps tb look 10002 stack.reverse [])
 else([],true,[],1)
theorem mFeed_some {nt:Nat}{ps:List S35}{tb:List (List Int)}{look:Int}:∀(k:Nat) (st:List S43) (sp:List Int),10001≤k+sp.length→sp.length≤10000→∃R,mFeed nt ps tb look k st sp=some R
 |0,_,_,h,h'=>by omega
 |k+1,[],sp,_,_=>⟨_,rfl⟩
 |k+1,x::st,sp,h,_=>by
  rw [mFeed]
  split
  ·exact⟨_,rfl⟩
  ·split
   ·exact⟨_,rfl⟩
   ·split
    ·rename_i hc
     simp only [Bool.and_eq_true,decide_eq_true_eq] at hc;exact mFeed_some k _ _ (by simp only [List.length_append,List.length_singleton];omega) hc.2
    ·exact⟨_,rfl⟩
def machine_Feed.f (aW:List ByteArray) (aX:List (S72)) (bM:Int) (bO:Int) (aV:List (S35)) (l1:List (List Int)) (dD:List (S43)) (eK:Bool) (a3:Int):Option (List (S43)×Bool×List Int×Int):=
 if aX.length≤1000000000∧l1.length≤1000000000∧aV.length≤1000000000∧aV.all (fun p=>decide (p.f1.length≤1000000))=true∧l1.all (fun p=>decide (p.length≤9223372036854775807))=true then some (mFeedAll aW.length aX.length aV l1 dD eK a3) else none
set_option maxHeartbeats 4000000 in
set_option maxRecDepth 100000 in
theorem machine_Feed.calls (cA:Option Addr) (cB:Nat) (aW:List ByteArray) (cE:Option Addr) (cF:Nat) (aX:List (S72)) (bM:Int) (bO:Int) (cK:Option Addr) (cG:Nat) (aV:List (S35)) (A1:Option Addr) (c1:Nat) (l1:List (List Int)) (fQ:Option Addr) (fR:Nat) (dD:List (S43)) (eK:Bool) (a3:Int) (r1:List (S43)) (r2:Bool) (r3:List Int) (r4:Int) (w:World)
 (fU:Kd.C Kd.string w cA aW.length aW) (gG:aW.length≤cB) (gH:Kd.C k72 w cE aX.length aX) (hU:aX.length≤cF) (gA:Kd.C k35 w cK aV.length aV) (iB:aV.length≤cG) (hr1:Kd.C (Kd.slice 3 (Kd.int .i64)) w A1 l1.length l1) (hc1:l1.length≤c1) (pZ:Kd.C k43 w fQ dD.length dD) (qA:dD.length≤fR)
 (h:machine_Feed.f aW aX bM bO aV l1 dD eK a3=some (r1,r2,r3,r4)):
 Calls Try.prog 23 #[.agg #[.slice cA aW.length cB,.slice cE aX.length cF,.int .i64 bM,.int .i64 bO,.slice cK aV.length cG],.slice A1 l1.length c1,.agg #[.slice fQ dD.length fR,.bool eK],.int .i64 a3] w fun e w'=>∃v0_ v1_:Value,e= .returned (.tuple #[.agg #[v0_,.bool r2],v1_,.int .i64 r4])∧Kd.R k43 43 w' w.heap.size (fun _=>True) v0_ r1∧Kd.R (Kd.int .i64) 3 w' w.heap.size (fun _=>True) v1_ r3∧Below w.heap.size w w':=by
 unfold machine_Feed.f at h
 split at h
 case isFalse=>simp at h
 rename_i hbig
 obtain⟨hb1,hb2,hb3,hb4,hb5⟩:=hbig;have he:=Option.some.inj h;clear h
 have hmr:machine_Right.f aW aX bM bO aV l1=some (tbRight aW.length aX.length aV l1):=by
  unfold machine_Right.f
  rw [if_pos ⟨hb1,hb2,hb3,List.all_eq_true.2 (fun p hp=>decide_eq_true (by have:=of_decide_eq_true (List.all_eq_true.1 hb4 p hp);omega)),hb5⟩]
 have hp1:∀p∈aV,p.f1.length≤1000000:=fun p hp=>of_decide_eq_true (List.all_eq_true.1 hb4 p hp)
 have HE:=aM he;have HP1:=aM hp1;have HMR:=aM hmr;have HBIG:=aM hb1;have H00:=aM (And.intro fU gG);have H01:=aM (And.intro gH hU);have H04:=aM (And.intro gA iB);have H1:=aM (And.intro hr1 hc1);have H2:=aM (And.intro pZ qA);clear he hp1 hmr hb1 hb2 hb3 hb4 hb5 fU gG gH hU gA iB hr1 hc1 pZ qA;go_enter Try.func23,Try.ntmps23
 go_upto_region 1 with fail
 have HW1:Aside0 (Below w.heap.size w (((w.alloc (.cells #[.slice cA aW.length cB,.slice cE aX.length cF,.int .i64 bM,.int .i64 bO,.slice cK aV.length cG] 26)).alloc (.cells #[.slice fQ dD.length fR,.bool eK] 31)).alloc (.cells #[.slice none 0 0,.bool false] 31))):=⟨(((Below.refl _ w).alloc (Nat.le_refl _) _).alloc (by simp) _).alloc (by simp;omega) _⟩;have HS1:Aside0 ((((w.alloc (.cells #[.slice cA aW.length cB,.slice cE aX.length cF,.int .i64 bM,.int .i64 bO,.slice cK aV.length cG] 26)).alloc (.cells #[.slice fQ dD.length fR,.bool eK] 31)).alloc (.cells #[.slice none 0 0,.bool false] 31)).heap[w.heap.size]?=some (.cells #[.slice cA aW.length cB,.slice cE aX.length cF,.int .i64 bM,.int .i64 bO,.slice cK aV.length cG] 26 (0,0))):=⟨aI (aI (blk_new _ _) _) _⟩;have HM1:Aside0 ((((w.alloc (.cells #[.slice cA aW.length cB,.slice cE aX.length cF,.int .i64 bM,.int .i64 bO,.slice cK aV.length cG] 26)).alloc (.cells #[.slice fQ dD.length fR,.bool eK] 31)).alloc (.cells #[.slice none 0 0,.bool false] 31)).heap[w.heap.size+1]?=some (.cells #[.slice fQ dD.length fR,.bool eK] 31 (0,0))):=⟨by have h:=aI (blk_new (w.alloc (.cells #[.slice cA aW.length cB,.slice cE aX.length cF,.int .i64 bM,.int .i64 bO,.slice cK aV.length cG] 26)) (.cells #[.slice fQ dD.length fR,.bool eK] 31)) (.cells #[.slice none 0 0,.bool false] 31);rw [World.size_alloc] at h;exact h⟩;have HR1:Aside0 ((((w.alloc (.cells #[.slice cA aW.length cB,.slice cE aX.length cF,.int .i64 bM,.int .i64 bO,.slice cK aV.length cG] 26)).alloc (.cells #[.slice fQ dD.length fR,.bool eK] 31)).alloc (.cells #[.slice none 0 0,.bool false] 31)).heap[w.heap.size+1+1]?=some (.cells #[.slice none 0 0,.bool false] 31 (0,0))):=⟨by have h:=blk_new ((w.alloc (.cells #[.slice cA aW.length cB,.slice cE aX.length cF,.int .i64 bM,.int .i64 bO,.slice cK aV.length cG] 26)).alloc (.cells #[.slice fQ dD.length fR,.bool eK] 31)) (.cells #[.slice none 0 0,.bool false] 31);rw [World.size_alloc,World.size_alloc] at h;exact h⟩;generalize (((w.alloc (.cells #[.slice cA aW.length cB,.slice cE aX.length cF,.int .i64 bM,.int .i64 bO,.slice cK aV.length cG] 26)).alloc (.cells #[.slice fQ dD.length fR,.bool eK] 31)).alloc (.cells #[.slice none 0 0,.bool false] 31))=w1 at HW1 HS1 HM1 HR1 ⊢;have HSZ:Aside0 (w.heap.size≤w.heap.size):=⟨Nat.le_refl _⟩;have HRW:Aside0 (w.heap.size≤w.heap.size+1+1):=⟨by omega⟩;generalize w.heap.size+1+1=RB at HR1 HRW ⊢;generalize w.heap.size+1=MB at HM1 ⊢
 have HBLK:Aside0 (∀W,Below w1.heap.size w1 W→(W.cell? ⟨w.heap.size,0,none⟩=some (.slice cA aW.length cB)∧W.cell? ⟨w.heap.size,1,none⟩=some (.slice cE aX.length cF)∧W.cell? ⟨w.heap.size,2,none⟩=some (.int .i64 bM)∧W.cell? ⟨w.heap.size,3,none⟩=some (.int .i64 bO)∧W.cell? ⟨w.heap.size,4,none⟩=some (.slice cK aV.length cG))∧W.cell? ⟨MB,0,none⟩=some (.slice fQ dD.length fR)∧W.cell? ⟨MB,1,none⟩=some (.bool eK)∧W.heap[RB]?=some (.cells #[.slice none 0 0,.bool false] 31 (0,0))):=⟨fun W hW=>by
  have hb:=bF HS1.out hW;have hm:=bF HM1.out hW;exact⟨⟨(aG hb 0).trans rfl,(aG hb 1).trans rfl,(aG hb 2).trans rfl,(aG hb 3).trans rfl,(aG hb 4).trans rfl⟩,(aG hm 0).trans rfl,(aG hm 1).trans rfl,bF HR1.out hW⟩⟩
 have PR:=aM (machine_Right.calls cA cB aW cE cF aX bM bO cK cG aV A1 c1 l1 _ w1 (bD H00.out.1 HW1.out) H00.out.2 (bD H01.out.1 HW1.out) H01.out.2 (bD H04.out.1 HW1.out) H04.out.2 (bD H1.out.1 HW1.out) H1.out.2 HMR.out);have PA:Aside0 (∀W,Below w1.heap.size w1 W→Calls Try.prog 35 #[.agg #[.slice cA aW.length cB,.slice cE aX.length cF,.int .i64 bM,.int .i64 bO,.slice cK aV.length cG],.slice fQ dD.length fR] W fun e w'=>e= .returned (.bool (stAwaits aW.length aX.length dD))∧Below W.heap.size W w'):=⟨fun W hW=>awaits_any cA cB aW cE cF aX bM bO cK cG aV fQ fR dD W (bD H2.out.1 (HW1.out.trans (hW.mono HW1.out.size)))⟩;obtain⟨⟨q0,q1,q2,q3,q4⟩,_,_,_⟩:=HBLK.out w1 (Below.refl _ _);have hsum:mFeedAll aW.length aX.length aV l1 dD eK a3=if(tbRight aW.length aX.length aV l1 && (stAwaits aW.length aX.length dD && (decide (0≤a3) && decide (a3≤(aX.length:Int)))))=true then(if eK=true then([],true,[],80) else mOut (mFeed aX.length aV l1 a3 10002 dD.reverse [])) else([],true,[],1):=by simp [mFeedAll]
 have HSUM:=aM hsum;have HTAB:Aside0 (tbRight aW.length aX.length aV l1=true→TabOk aW.length aX.length aV l1∧aV.all (okProd aW.length aX.length)=true):=⟨fun h=>⟨tbRight_tab h,tbRight_prods h⟩⟩;have HAW:Aside0 (stAwaits aW.length aX.length dD=true→dD.length≤10000∧dD.all (okSym aW.length aX.length)=true):=⟨fun h=>by simpa [stAwaits] using h⟩;clear hsum;generalize tbRight aW.length aX.length aV l1=g1 at PR HSUM HTAB;generalize stAwaits aW.length aX.length dD=g2 at PA HSUM HAW;generalize hok:(g1 && (g2 && (decide (0≤a3) && decide (a3≤(aX.length:Int)))))=ok at HSUM;have HOK:=aM hok;clear hok
 go_cut [13] (fun s13 wc=>s13= .bool (!ok)∧Aside0 (Below w1.heap.size w1 wc))
 case first=>
  cases g1 with
  |false=>
   have ho:ok=false:=by rw [←HOK.out];rfl
   subst ho
   go_wp2_with (first|(go_at_call 25;(with_reducible refine PR.out.mono ?_);rintro e w2 ⟨rfl,hb2⟩;have HB2:=aM hb2;clear hb2 PR q0 q1 q2 q3 q4))
   go_meet
   case rel=>exact⟨rfl,HB2⟩
  |true=>
   cases g2 with
   |false=>
    have ho:ok=false:=by rw [←HOK.out];rfl
    subst ho
    go_wp2_with (first|(go_at_call 25;(with_reducible refine PR.out.mono ?_);rintro e w2 ⟨rfl,hb2⟩;have HB2:=aM hb2;have P2:=aM (PA.out w2 hb2);clear hb2 PR q0 q1 q2 q3 q4;obtain⟨⟨q0,q1,q2,q3,q4⟩,m0,_,_⟩:=HBLK.out w2 HB2.out)|(go_at_call 35;(with_reducible refine P2.out.mono ?_);rintro e w3 ⟨rfl,hb3⟩;have HB3:Aside0 (Below w1.heap.size w1 w3):=⟨HB2.out.trans (hb3.mono HB2.out.size)⟩;clear hb3 P2 q0 q1 q2 q3 q4 m0))
    go_meet
    case rel=>exact⟨rfl,HB3⟩
   |true=>
    by_cases ha:a3<0
    ·have ho:ok=false:=by rw [←HOK.out,decide_eq_false (by omega:¬0≤a3)];rfl
     subst ho;have HA:=aM (decide_eq_true ha);clear ha
     go_wp2_with (first|(go_at_call 25;(with_reducible refine PR.out.mono ?_);rintro e w2 ⟨rfl,hb2⟩;have HB2:=aM hb2;have P2:=aM (PA.out w2 hb2);clear hb2 PR q0 q1 q2 q3 q4;obtain⟨⟨q0,q1,q2,q3,q4⟩,m0,_,_⟩:=HBLK.out w2 HB2.out)|(go_at_call 35;(with_reducible refine P2.out.mono ?_);rintro e w3 ⟨rfl,hb3⟩;have HB3:Aside0 (Below w1.heap.size w1 w3):=⟨HB2.out.trans (hb3.mono HB2.out.size)⟩;clear hb3 P2 q0 q1 q2 q3 q4 m0;have ha:=HA.out))
     go_meet
     case rel=>exact⟨rfl,HB3⟩
    ·by_cases hl:a3≤(aX.length:Int)
     ·have ho:ok=true:=by rw [←HOK.out,decide_eq_true (by omega:0≤a3),decide_eq_true hl];rfl
      subst ho;have HA:=aM (And.intro (decide_eq_false ha) (decide_eq_false (by omega:¬(aX.length:Int)<a3)));clear ha hl
      go_wp2_with (first|(go_at_call 25;(with_reducible refine PR.out.mono ?_);rintro e w2 ⟨rfl,hb2⟩;have HB2:=aM hb2;have P2:=aM (PA.out w2 hb2);clear hb2 PR q0 q1 q2 q3 q4;obtain⟨⟨q0,q1,q2,q3,q4⟩,m0,_,_⟩:=HBLK.out w2 HB2.out)|(go_at_call 35;(with_reducible refine P2.out.mono ?_);rintro e w3 ⟨rfl,hb3⟩;have HB3:Aside0 (Below w1.heap.size w1 w3):=⟨HB2.out.trans (hb3.mono HB2.out.size)⟩;clear hb3 P2 q0 q1 q2 q3 q4 m0;obtain⟨⟨q0,q1,q2,q3,q4⟩,m0,_,_⟩:=HBLK.out w3 HB3.out;have ha:=HA.out.1;have hl:=HA.out.2))
      go_meet
      case rel=>exact⟨rfl,HB3⟩
     ·have ho:ok=false:=by rw [←HOK.out,decide_eq_false hl];simp
      subst ho;have HA:=aM (And.intro (decide_eq_false ha) (decide_eq_true (by omega:(aX.length:Int)<a3)));clear ha hl
      go_wp2_with (first|(go_at_call 25;(with_reducible refine PR.out.mono ?_);rintro e w2 ⟨rfl,hb2⟩;have HB2:=aM hb2;have P2:=aM (PA.out w2 hb2);clear hb2 PR q0 q1 q2 q3 q4;obtain⟨⟨q0,q1,q2,q3,q4⟩,m0,_,_⟩:=HBLK.out w2 HB2.out)|(go_at_call 35;(with_reducible refine P2.out.mono ?_);rintro e w3 ⟨rfl,hb3⟩;have HB3:Aside0 (Below w1.heap.size w1 w3):=⟨HB2.out.trans (hb3.mono HB2.out.size)⟩;clear hb3 P2 q0 q1 q2 q3 q4 m0;obtain⟨⟨q0,q1,q2,q3,q4⟩,m0,_,_⟩:=HBLK.out w3 HB3.out;have ha:=HA.out.1;have hl:=HA.out.2))
      go_meet
      case rel=>exact⟨rfl,HB3⟩
 case rest=>
  clear q0 q1 q2 q3 q4 PR PA;obtain⟨rfl,HBC⟩:=hcut
  cases ok with
  |false=>
   have HE2:Aside0 ((([]:List S43),true,([]:List Int),(1:Int))=(r1,r2,r3,r4)):=⟨by rw [←HE.out,HSUM.out];simp⟩;injection HE2.out with e1 e2
   injection e2 with e2 e3
   injection e3 with e3 e4
   subst e1 e2 e3 e4
   go_wp2_with (first|(go_at_call 36;(with_reducible refine(machine_dead.calls [] true wc rfl).mono ?_);rintro e w2 ⟨v0,rfl,ho,hb2⟩;obtain⟨Av,cv,rfl⟩:=Kd.R_slice ho;have HO:=aM ho;have HB2:Aside0 (Below w1.heap.size w1 w2):=⟨HBC.out.trans (hb2.mono HBC.out.size)⟩;clear ho hb2;obtain⟨_,_,_,hrb⟩:=HBLK.out w2 HB2.out;have HRB2:=aM hrb;have s0:=aG hrb 0;have s1:=aG hrb 1;have f0:=aH hrb 0;have f1:=aH hrb 1;clear hrb))
   refine bodyPost_ret (results_ctt rfl _ _ RB 31 #[.slice Av 0 cv,.bool true] (0,0) _ rfl (blk_put (blk_put HRB2.out 0 _ rfl) 1 _ rfl) Try.underlying31 rfl (by kernel_rfl)) rfl ?_
   exact⟨_,_,rfl,bL (Kd.R_set (Kd.R_set HO.out HRB2.out (by decide) 0 _) (blk_put HRB2.out 0 _ rfl) (by decide) 1 _) (Nat.le_trans HW1.out.size HBC.out.size),Kd.R_nil _ _ _ _ _,((HW1.out.trans (HB2.out.mono HW1.out.size)).setCell (p:=⟨RB,0,none⟩) HRW.out _).setCell (p:=⟨RB,1,none⟩) HRW.out _⟩
  |true=>
   obtain⟨⟨q0,q1,q2,q3,q4⟩,m0,m1,_⟩:=HBLK.out wc HBC.out;have hg:g1=true∧g2=true∧0≤a3∧a3≤(aX.length:Int):=by have:=HOK.out;simpa only [Bool.and_eq_true,decide_eq_true_eq] using this
   have HG:=aM hg;clear hg
   cases eK with
   |true=>
    have HE2:Aside0 ((([]:List S43),true,([]:List Int),(80:Int))=(r1,r2,r3,r4)):=⟨by rw [←HE.out,HSUM.out];simp⟩;injection HE2.out with e1 e2
    injection e2 with e2 e3
    injection e3 with e3 e4
    subst e1 e2 e3 e4
    go_wp2_with (first|(go_at_call 36;(with_reducible refine(machine_dead.calls [] true wc rfl).mono ?_);rintro e w2 ⟨v0,rfl,ho,hb2⟩;obtain⟨Av,cv,rfl⟩:=Kd.R_slice ho;have HO:=aM ho;have HB2:Aside0 (Below w1.heap.size w1 w2):=⟨HBC.out.trans (hb2.mono HBC.out.size)⟩;clear ho hb2;obtain⟨_,_,_,hrb⟩:=HBLK.out w2 HB2.out;have HRB2:=aM hrb;have s0:=aG hrb 0;have s1:=aG hrb 1;have f0:=aH hrb 0;have f1:=aH hrb 1;clear hrb))
    refine bodyPost_ret (results_ctt rfl _ _ RB 31 #[.slice Av 0 cv,.bool true] (0,0) _ rfl (blk_put (blk_put HRB2.out 0 _ rfl) 1 _ rfl) Try.underlying31 rfl (by kernel_rfl)) rfl ?_
    exact⟨_,_,rfl,bL (Kd.R_set (Kd.R_set HO.out HRB2.out (by decide) 0 _) (blk_put HRB2.out 0 _ rfl) (by decide) 1 _) (Nat.le_trans HW1.out.size HBC.out.size),Kd.R_nil _ _ _ _ _,((HW1.out.trans (HB2.out.mono HW1.out.size)).setCell (p:=⟨RB,0,none⟩) HRW.out _).setCell (p:=⟨RB,1,none⟩) HRW.out _⟩
   |false=>
    have PC:=aM (cloneSym_any fQ fR dD wc (bD H2.out.1 (HW1.out.trans (HBC.out.mono HW1.out.size))) (by have:=(HAW.out HG.out.2.1).1;omega));clear q0 q1 q2 q3 q4
    go_upto_region 6 with(first|(go_at_call 37;(with_reducible refine PC.out.mono ?_);rintro e w2 ⟨v0,rfl,ho,hb2⟩;obtain⟨Av,cv,rfl⟩:=Kd.R_slice ho;have HO:=aM ho;have HB2:Aside0 (Below w1.heap.size w1 w2):=⟨HBC.out.trans (hb2.mono HBC.out.size)⟩;clear ho hb2 m0 m1 PC))
    have HPB:Aside0 ((w2.alloc (.cells #[.slice Av dD.length cv,.slice none 0 0] 84)).heap[w2.heap.size]?=some (.cells #[.slice Av dD.length cv,.slice none 0 0] 84 (0,0))):=⟨heap_alloc_new w2 _⟩;have hle2:w.heap.size≤w2.heap.size:=Nat.le_trans HW1.out.size HB2.out.size;have HRLT:Aside0 (RB<w1.heap.size):=⟨bN HR1.out⟩;have HPS:Aside0 (PS (fun k=>k=RB) (w2.alloc (.cells #[.slice Av dD.length cv,.slice none 0 0] 84)) w.heap.size w2.heap.size dD.reverse []):=⟨⟨_,_,HPB.out,hle2,by rw [List.reverse_reverse];exact aA (bL (Kd.R_mono (Kd.R_bound HO.out) (fun k hk e=>by have h1:=hk.2.1;have h2:=HRLT.out;have h3:=HBC.out.size;omega)) (Nat.le_trans HW1.out.size HBC.out.size)) _,Kd.R_nil _ _ _ _ _⟩⟩;have HPRB:Aside0 (RB<w2.heap.size):=⟨Nat.lt_of_lt_of_le HRLT.out HB2.out.size⟩;have HB3:Aside0 (Below w1.heap.size w1 (w2.alloc (.cells #[.slice Av dD.length cv,.slice none 0 0] 84))):=⟨HB2.out.trans ((aN (Below.refl _ w2) _).mono HB2.out.size)⟩;generalize w2.alloc (.cells #[.slice Av dD.length cv,.slice none 0 0] 84)=w3 at HPB HPS HB3 ⊢;have HPW:Aside0 (w.heap.size≤w2.heap.size):=⟨hle2⟩;generalize w2.heap.size=PB at HPB HPS HPW HPRB ⊢;obtain⟨⟨q0,q1,q2,q3,q4⟩,_,_,_⟩:=HBLK.out w3 HB3.out;obtain⟨R,hR⟩:=mFeed_some (nt:=aX.length) (ps:=aV) (tb:=l1) (look:=a3) 10002 dD.reverse [] (by omega) (by simp);have HS:Aside0 (mOut (some R)=(r1,r2,r3,r4)):=⟨by have h:=HSUM.out.symm.trans HE.out;simpa [hR] using h⟩;have PF:=aM (feed_any (fun k=>k=RB) cA cB aW cE cF aX bM bO cK cG aV A1 c1 l1 a3 dD.reverse [] PB w w3 10002 R HPS.out (fun k hk=>by rw [hk];exact Nat.lt_of_lt_of_le HRLT.out HB3.out.size) (fun e=>by have:=HPRB.out;omega) (HW1.out.trans (HB3.out.mono HW1.out.size)) H04.out.1 H1.out.1 (HTAB.out HG.out.1).2 (HTAB.out HG.out.1).1 (by rw [List.all_reverse];exact(HAW.out HG.out.2.1).2) HG.out.2.2.1 HG.out.2.2.2 HP1.out (by rw [List.length_reverse];exact(HAW.out HG.out.2.1).1) (by simp) hR);clear hR hle2;obtain⟨e,st,sp⟩:=R
    go_upto_if 52 with(first|(go_at_call 38;(with_reducible refine PF.out.mono ?_);rintro e_ w4 ⟨rfl,hp4,hb4,hk4⟩;have HP4:=aM hp4;have HW4:=aM hb4;have HRB4:=aM (hk4 RB _ rfl (HBLK.out w3 HB3.out).2.2.2 rfl);clear hp4 hb4 hk4 PF q0 q1 q2 q3 q4))
    obtain⟨vs,vt,g0,g1,g2,g3⟩:=HP4.out;simp only at g2 g3;obtain⟨As,cs_,rfl⟩:=Kd.R_slice g2;obtain⟨Au,cu,rfl⟩:=Kd.R_slice g3;rw [List.length_reverse] at g0 g2;have G0:=aM g0;have G2:=aM g2;have G3:=aM g3;clear g0 g1 g2 g3;have HPNR:Aside0 (PB≠RB):=⟨by have:=HPRB.out;omega⟩
    by_cases he0:e=0
    ·subst he0
     have HS2:Aside0 ((st.reverse,false,sp,(0:Int))=(r1,r2,r3,r4)):=⟨by have:=HS.out;rwa [mOut,if_pos rfl] at this⟩;injection HS2.out with e1 e2
     injection e2 with e2 e3
     injection e3 with e3 e4
     subst e1 e2 e3 e4;have y1:((0:Int) !=0)=false:=by simp
     go_upto_region 9 with fail
     have s0:=aG HRB4.out 0;have s1:=aG HRB4.out 1;have f0:=aH HRB4.out 0;have f1:=aH HRB4.out 1;refine start_ (n:=12) (S:=fun w'=>w'.cell? ⟨PB,0,none⟩=some (.slice As st.length cs_)∧w'.cell? ⟨PB,1,none⟩=some (.slice Au sp.length cu)) (ds:= []) #[F,F,F,F,F,F,F,F,F,F,F,F] (by kernel_rfl) rfl rfl ⟨(aG G0.out 0).trans rfl,(aG G0.out 1).trans rfl⟩ (fun hHeld=>?_)
     refine pure_ (i:=0) (N:=some 59) (v:=?_) (a':=?_) #[T,F,F,F,F,F,F,F,F,F,F,F] rfl rfl (by kernel_rfl) (fun _ _ _ h=>h) (Or.inl ⟨by rfl,?_⟩) ?_ ?_
     rotate_left;(intro w';go_simp;with_reducible rfl);rotate_left;(simp only [pq];rfl)
     refine pure_ (i:=1) (N:=some 60) (v:=?_) (a':=?_) #[T,T,F,F,F,F,F,F,F,F,F,F] rfl rfl (by kernel_rfl) (fun _ _ _ h=>h) (Or.inl ⟨by rfl,?_⟩) ?_ ?_
     rotate_left;(intro w';go_simp;with_reducible rfl);rotate_left;(simp only [pq];rfl)
     refine pure_ (i:=2) (N:=some 61) (v:=?_) (a':=?_) #[T,T,T,F,F,F,F,F,F,F,F,F] rfl rfl (by kernel_rfl) (fun _ _ _ h=>h) (Or.inl ⟨by rfl,?_⟩) ?_ ?_
     rotate_left;(intro w';go_simp;with_reducible rfl);rotate_left;(simp only [pq];rfl)
     refine pure_ (i:=5) (N:=some 64) (v:=?_) (a':=?_) #[T,T,T,F,F,T,F,F,F,F,F,F] rfl rfl (by kernel_rfl) (fun _ _ _ h=>h) (Or.inl ⟨by rfl,?_⟩) ?_ ?_
     rotate_left;(intro w';go_simp;with_reducible rfl);rotate_left;(simp only [pq];rfl)
     refine pure_ (i:=6) (N:=some 65) (v:=?_) (a':=?_) #[T,T,T,F,F,T,T,F,F,F,F,F] rfl rfl (by kernel_rfl) (fun _ _ _ h=>h) (Or.inl ⟨by rfl,?_⟩) ?_ ?_
     rotate_left;(intro w';go_simp;with_reducible rfl);rotate_left;(simp only [pq];rfl)
     refine pure_ (i:=7) (N:=some 66) (v:=?_) (a':=?_) #[T,T,T,F,F,T,T,T,F,F,F,F] rfl rfl (by kernel_rfl) (fun _ _ _ h=>h) (Or.inl ⟨by rfl,?_⟩) ?_ ?_
     rotate_left;(intro w';go_simp;with_reducible rfl);rotate_left;(simp only [pq];rfl)
     refine take_ (i:=3) (N:=some 62) (v:=?_) (a':=?_) #[T,T,T,T,F,T,T,T,F,F,F,F] rfl rfl (by kernel_rfl) (fun _ _ _ h=>h) (Or.inl ⟨by rfl,?_⟩) hHeld ?_ ?_
     rotate_left
     ·rintro w' ⟨s0,s1⟩
      go_simp
      with_reducible rfl
     rotate_left
     ·simp only [pq]
      rfl
     refine pure_ (i:=4) (N:=some 63) (v:=?_) (a':=?_) #[T,T,T,T,T,T,T,T,F,F,F,F] rfl rfl (by kernel_rfl) (fun _ _ _ h=>h) (Or.inl ⟨by rfl,?_⟩) ?_ ?_
     rotate_left;(intro w';go_simp;with_reducible rfl);rotate_left;(simp only [pq];rfl)
     refine take_ (i:=8) (N:=some 67) (v:=?_) (a':=?_) #[T,T,T,T,T,T,T,T,T,F,F,F] rfl rfl (by kernel_rfl) (fun _ _ _ h=>h) (Or.inl ⟨by rfl,?_⟩) hHeld ?_ ?_
     rotate_left
     ·rintro w' ⟨s0,s1⟩
      go_simp
      with_reducible rfl
     rotate_left
     ·simp only [pq]
      rfl
     refine one_ (i:=9) (N:=none) #[T,T,T,T,T,T,T,T,T,T,F,F] rfl rfl (by kernel_rfl) (by decide) (fun K hK=>?_)
     refine skip_ (w1:=?_) (by rfl) rfl ?_ ?_
     rotate_left
     ·go_simp
      rfl
     refine hK.out _ _ ⟨(aG (blk_far (blk_far (aK G0.out) (p:=⟨RB,0,none⟩) HPNR.out _) (p:=⟨RB,1,none⟩) HPNR.out _) 0).trans rfl,(aG (blk_far (blk_far (aK G0.out) (p:=⟨RB,0,none⟩) HPNR.out _) (p:=⟨RB,1,none⟩) HPNR.out _) 1).trans rfl⟩ (fun hHeld=>?_)
     clear hK K;refine pure_ (i:=10) (N:=some 9) (v:=?_) (a':=?_) #[T,T,T,T,T,T,T,T,T,T,T,F] rfl rfl (by kernel_rfl) (fun _ _ _ h=>h) (Or.inl ⟨by rfl,?_⟩) ?_ ?_
     rotate_left;(intro w';go_simp;with_reducible rfl);rotate_left;(simp only [pq];rfl)
     refine pure_ (i:=11) (N:=some 10) (v:=?_) (a':=?_) #[T,T,T,T,T,T,T,T,T,T,T,T] rfl rfl (by kernel_rfl) (fun _ _ _ h=>h) (Or.inl ⟨by rfl,?_⟩) ?_ ?_
     rotate_left;(intro w';go_simp;with_reducible rfl);rotate_left;(simp only [pq];rfl)
     refine done_ (by kernel_rfl) ?_
     go_wp2
     refine bodyPost_ret (results_ctt rfl _ _ RB 31 #[.slice As st.length cs_,.bool false] (0,0) _ rfl (blk_put (blk_put (aK HRB4.out) 0 _ rfl) 1 _ rfl) Try.underlying31 rfl (by kernel_rfl)) rfl ?_
     exact⟨_,_,rfl,Kd.R_mono (Kd.R_set (Kd.R_set (aC G2.out) (aK HRB4.out) (by decide) 0 _) (blk_put (aK HRB4.out) 0 _ rfl) (by decide) 1 _) (fun _ _=>trivial),Kd.R_mono (Kd.R_set (Kd.R_set (aC G3.out) (aK HRB4.out) (by decide) 0 _) (blk_put (aK HRB4.out) 0 _ rfl) (by decide) 1 _) (fun _ _=>trivial),((aO HW4.out).setCell (p:=⟨RB,0,none⟩) HRW.out _).setCell (p:=⟨RB,1,none⟩) HRW.out _⟩
    ·have HS2:Aside0 ((([]:List S43),true,sp,e)=(r1,r2,r3,r4)):=⟨by have:=HS.out;rwa [mOut,if_neg he0] at this⟩
     injection HS2.out with e1 e2
     injection e2 with e2 e3
     injection e3 with e3 e4
     subst e1 e2 e3 e4;have y1:(e !=0)=true:=by simp [he0]
     go_upto_region 8 with fail
     refine start_ (n:=9) (S:=fun w'=>w'.cell? ⟨PB,1,none⟩=some (.slice Au sp.length cu)) (ds:= []) #[F,F,F,F,F,F,F,F,F] (by kernel_rfl) rfl rfl ((aG G0.out 1).trans rfl) (fun hHeld=>?_)
     refine pure_ (i:=1) (N:=some 54) (v:=?_) (a':=?_) #[F,T,F,F,F,F,F,F,F] rfl rfl (by kernel_rfl) (fun _ _ _ h=>h) (Or.inl ⟨by rfl,?_⟩) ?_ ?_
     rotate_left;(intro w';go_simp;with_reducible rfl);rotate_left;(simp only [pq];rfl)
     refine pure_ (i:=2) (N:=some 55) (v:=?_) (a':=?_) #[F,T,T,F,F,F,F,F,F] rfl rfl (by kernel_rfl) (fun _ _ _ h=>h) (Or.inl ⟨by rfl,?_⟩) ?_ ?_
     rotate_left;(intro w';go_simp;with_reducible rfl);rotate_left;(simp only [pq];rfl)
     refine pure_ (i:=3) (N:=some 56) (v:=?_) (a':=?_) #[F,T,T,T,F,F,F,F,F] rfl rfl (by kernel_rfl) (fun _ _ _ h=>h) (Or.inl ⟨by rfl,?_⟩) ?_ ?_
     rotate_left;(intro w';go_simp;with_reducible rfl);rotate_left;(simp only [pq];rfl)
     refine pure_ (i:=5) (N:=some 58) (v:=?_) (a':=?_) #[F,T,T,T,F,T,F,F,F] rfl rfl (by kernel_rfl) (fun _ _ _ h=>h) (Or.inl ⟨by rfl,?_⟩) ?_ ?_
     rotate_left;(intro w';go_simp;with_reducible rfl);rotate_left;(simp only [pq];rfl)
     refine take_ (i:=4) (N:=some 57) (v:=?_) (a':=?_) #[F,T,T,T,T,T,F,F,F] rfl rfl (by kernel_rfl) (fun _ _ _ h=>h) (Or.inl ⟨by rfl,?_⟩) hHeld ?_ ?_
     rotate_left
     ·intro w' s0
      go_simp
      with_reducible rfl
     rotate_left
     ·simp only [pq]
      rfl
     refine one_ (i:=0) (N:=some 53) #[T,T,T,T,T,T,F,F,F] rfl rfl (by kernel_rfl) (by decide) (fun K hK=>?_)
     refine goes_ Try.func36 (by kernel_rfl) rfl #[] (by rfl) rfl rfl (by simp only [List.map_toArray,List.map_cons,List.map_nil]) ?_
     with_reducible refine(machine_dead.calls [] true w4.drew rfl).mono ?_
     rintro e w5 ⟨v0,rfl,ho,hb5⟩
     refine⟨_,rfl,?_⟩
     obtain⟨Aq,cq,rfl⟩:=Kd.R_slice ho;have Sb:=aM ho;have HW5:Aside0 (Below w.heap.size w w5):=⟨(aO HW4.out).trans (hb5.mono (aO HW4.out).size)⟩;have HP5:=aM (bF (aK G0.out) hb5);have HRB5:=aM (bF (aK HRB4.out) hb5);have HG35:=aM (aD (aC G3.out) hb5);have s0:=aG HRB5.out 0;have s1:=aG HRB5.out 1;have f0:=aH HRB5.out 0;have f1:=aH HRB5.out 1;clear ho hb5;refine hK.out _ _ ((aG HP5.out 1).trans rfl) (fun hHeld=>?_)
     clear hK K;refine norm_ (a':=?_) ?_ ?_
     rotate_left
     ·show Act.put _ (some 53) _=_
      simp only [pq];rfl
     refine one_ (i:=6) (N:=none) #[T,T,T,T,T,T,T,F,F] rfl rfl (by kernel_rfl) (by decide) (fun K hK=>?_)
     refine skip_ (w1:=?_) (by rfl) rfl ?_ ?_
     rotate_left
     ·go_simp
      rfl
     refine hK.out _ _ ((aG (blk_far (blk_far HP5.out (p:=⟨RB,0,none⟩) HPNR.out _) (p:=⟨RB,1,none⟩) HPNR.out _) 1).trans rfl) (fun hHeld=>?_)
     clear hK K;refine pure_ (i:=7) (N:=some 9) (v:=?_) (a':=?_) #[T,T,T,T,T,T,T,T,F] rfl rfl (by kernel_rfl) (fun _ _ _ h=>h) (Or.inl ⟨by rfl,?_⟩) ?_ ?_
     rotate_left;(intro w';go_simp;with_reducible rfl);rotate_left;(simp only [pq];rfl)
     refine pure_ (i:=8) (N:=some 10) (v:=?_) (a':=?_) #[T,T,T,T,T,T,T,T,T] rfl rfl (by kernel_rfl) (fun _ _ _ h=>h) (Or.inl ⟨by rfl,?_⟩) ?_ ?_
     rotate_left;(intro w';go_simp;with_reducible rfl);rotate_left;(simp only [pq];rfl)
     refine done_ (by kernel_rfl) ?_
     go_wp2
     refine bodyPost_ret (results_ctt rfl _ _ RB 31 #[.slice Aq 0 cq,.bool true] (0,0) _ rfl (blk_put (blk_put HRB5.out 0 _ rfl) 1 _ rfl) Try.underlying31 rfl (by kernel_rfl)) rfl ?_
     exact⟨_,_,rfl,Kd.R_mono (bL (Kd.R_set (Kd.R_set Sb.out HRB5.out (by decide) 0 _) (blk_put HRB5.out 0 _ rfl) (by decide) 1 _) (aO HW4.out).size) (fun _ _=>trivial),Kd.R_mono (Kd.R_set (Kd.R_set HG35.out HRB5.out (by decide) 0 _) (blk_put HRB5.out 0 _ rfl) (by decide) 1 _) (fun _ _=>trivial),(HW5.out.setCell (p:=⟨RB,0,none⟩) HRW.out _).setCell (p:=⟨RB,1,none⟩) HRW.out _⟩
end Go.Proofs.Ytapjfnfengefpaa.P
end
