/- Packed texts of this claim: the walks of the functions, and their plain laws; see the claim's last text. -/
import Derived.WalkMore
import Derived.Deep.AppendLies
import Derived.Deep.Cut
import Derived.Deep.CutRange
import Derived.Shelf.Abstract
import Derived.Test.YtapjfnfengefpaaKMachineDerives6
section
namespace Go.Proofs.Ytapjfnfengefpaa.P
open Go.RowKit Go.Proofs.YtapjfnfengefpaaW.PrintWords Go.Proofs.YtapjfnfengefpaaW.PrintLast Go.Proofs.YtapjfnfengefpaaW.PrintMore
attribute [local go_sem] max2_int min2_int max_two min_two max_three min_three max_four min_four   -- for this text's walks alone
set_option linter.unusedVariables false
set_option linter.unusedSimpArgs false
mutual
def regletlaw16_MachineDerives.j0:Nat→List Int→Bool→List ByteArray→List (S72)→Int→Int→List (S35)→Option (Bool)
 |0,_,_,_,_,_,_,_=>none
 |k+1,x1,x7,x629000,x629001,x629002,x629003,x629004=>(regletlaw16_table.f k x629000 x629001 x629002 x629003 x629004 255 0).bind fun t640=>((regletlaw16_tokens.f k x1 (x629001.length:Int)).bind fun t643=>((machine_Run.f k x629000 x629001 x629002 x629003 x629004 t640 t643).bind fun sV=>(if sV.2.1=0 then(regletlaw16_MachineDerives.l0 k x7 t643 sV.1 (([(⟨false,0⟩:S43)]:List (S43))) 0 x629000 x629001 x629002 x629003 x629004) else(some x7))))
def regletlaw16_MachineDerives.l0:Nat→Bool→List Int→List Int→List (S43)→Int→List ByteArray→List (S72)→Int→Int→List (S35)→Option (Bool)
 |0,_,_,_,_,_,_,_,_,_,_=>none
 |k+1,x7,x10,x11,x14,x15,x629000,x629001,x629002,x629003,x629004=>if x15<(x11.length:Int) then(regletlaw16_MachineDerives.l1 k x7 x10 x11 x14 x15 0 x629000 x629001 x629002 x629003 x629004) else(if(x14.length:Int)=(x10.length:Int) then(regletlaw16_MachineDerives.l2 k x7 x10 x14 0) else(none))
def regletlaw16_MachineDerives.l1:Nat→Bool→List Int→List Int→List (S43)→Int→Int→List ByteArray→List (S72)→Int→Int→List (S35)→Option (Bool)
 |0,_,_,_,_,_,_,_,_,_,_,_=>none
 |k+1,x7,x10,x11,x14,x15,x16,x629000,x629001,x629002,x629003,x629004=>if x16<(x14.length:Int) then(if 0≤x16 then(if(rd_T43 x14 x16).f0=true then(regletlaw16_MachineDerives.l1 k x7 x10 x11 x14 x15 (wrap64 (x16+1)) x629000 x629001 x629002 x629003 x629004) else(if x16=(x14.length:Int) then(none) else(if 0≤x15 then(if x15<(x11.length:Int) then(if(rd x11 x15)<0 then(none) else(if(rd x11 x15)≥(x629004.length:Int) then(none) else(if 0≤(rd x11 x15) then(if(rd x11 x15)<(x629004.length:Int) then(if((rd_T35 x629004 (rd x11 x15)).f0)=((rd_T43 x14 x16).f1) then(if x16≤(x14.length:Int) then((some (x14.take (x16:Int).toNat:List (S43))).bind fun y660=>(if([]:List (S43)).length+y660.length<8796093022208 then((some (([]:List (S43))++y660:List (S43))).bind fun y664=>(if y664.length+((rd_T35 x629004 (rd x11 x15)).f1).length<8796093022208 then((some (y664++((rd_T35 x629004 (rd x11 x15)).f1):List (S43))).bind fun y669=>(if 0≤(wrap64 (x16+1)) then(if(wrap64 (x16+1))≤(x14.length:Int) then((some (x14.drop ((wrap64 (x16+1)):Int).toNat:List (S43))).bind fun y672=>(if y669.length+y672.length<8796093022208 then(regletlaw16_MachineDerives.l0 k x7 x10 x11 (y669++y672) (wrap64 (x15+1)) x629000 x629001 x629002 x629003 x629004) else(none))) else(none)) else(none))) else(none))) else(none))) else(none)) else(none)) else(none)) else(none)))) else(none)) else(none)))) else(none)) else(if x16=(x14.length:Int) then(none) else(if 0≤x15 then(if x15<(x11.length:Int) then(if(rd x11 x15)<0 then(none) else(if(rd x11 x15)≥(x629004.length:Int) then(none) else(if 0≤(rd x11 x15) then(if(rd x11 x15)<(x629004.length:Int) then(if 0≤x16 then(none) else(none)) else(none)) else(none)))) else(none)) else(none)))
def regletlaw16_MachineDerives.l2:Nat→Bool→List Int→List (S43)→Int→Option (Bool)
 |0,_,_,_,_=>none
 |k+1,x7,x10,x14,x18=>if x18<(x10.length:Int) then(if 0≤x18 then(if x18<(x14.length:Int) then(if((rd_T43 x14 x18).f0=true) then(if((rd_T43 x14 x18).f1)=(rd x10 x18) then(regletlaw16_MachineDerives.l2 k x7 x10 x14 (wrap64 (x18+1))) else(none)) else(none)) else(none)) else(none)) else(some x7)
end
def regletlaw16_MachineDerives.f (k:Nat) (l0:List Int) (l1:List Int) (a2:Bool):Option (Bool):=(regletlaw16_awake.f k).bind fun t616=>(if t616=true then((regletlaw13_Made.f k l0).bind fun iR=>(if a2=true then((regletlaw14_Clear.f k l0).bind fun fR=>(regletlaw16_MachineDerives.j0 k l1 t616 fR.1 fR.2.1 fR.2.2.1 fR.2.2.2.1 fR.2.2.2.2)) else(regletlaw16_MachineDerives.j0 k l1 t616 iR.1 iR.2.1 iR.2.2.1 iR.2.2.2.1 iR.2.2.2.2))) else(none))
def regletlaw16_MachineDerives.T19:Bool×List (List Nat×List Nat):=(true,[([],[]),([],[]),([1],[1]),([0,2],[0,2]),([3],[3]),([4],[4]),([4],[4]),([5,6,4],[4,5,6]),([7,4],[4,7]),([8,4],[4,8]),([4,9],[4,9]),([10,4],[10]),([11],[11]),([11],[11]),([12,13,11],[11,12,13]),([14,11],[11,14]),([11],[11]),([16,11],[11,16]),([17,11],[11,17]),([15,18,11],[11,15,18]),([11,19],[11,19]),([20,11],[20]),([21],[21]),([22,21],[21,22]),([21],[21]),([21],[21]),([24,25,21],[21,24,25]),([26,21],[21,26]),([23,27,21],[21,23,27]),([28,21],[21,28]),([29,21],[21,29]),([21],[21]),([21],[21]),([31,32,21],[21,31,32]),([33,21],[21,33]),([34,21],[21,34]),([30,35,21],[21,30,35]),([21,36],[21,36])])
def regletlaw16_MachineDerives.B19:List Nat:= [0,0,2,7,15,31,31,127,255,511,1023,2047,4095,4095,16383,32767,4095,69631,200703,524287,1048575,2097151,4194303,8388607,4194303,4194303,54525951,121634815,268435455,536870911,1073741823,4194303,4194303,6446645247,15036579839,32216449023,68719476735,137438953471]
theorem regletlaw16_MachineDerives.tab19:rtab .any (opsOf Try.f7 19)=regletlaw16_MachineDerives.T19:=by kernel_rfl
theorem regletlaw16_MachineDerives.bits19:waitsOk regletlaw16_MachineDerives.T19.2 regletlaw16_MachineDerives.B19=true:=by kernel_rfl
def regletlaw16_MachineDerives.T23:Bool×List (List Nat×List Nat):=(true,[([],[]),([],[]),([1],[1]),([],[]),([],[]),([3,4],[3,4]),([5],[5]),([2,6],[2,6]),([7],[7]),([8],[8]),([0,9],[0,9]),([10,10,0,1,2,3,4,5,6,7,8,9,10],[0,10])])
def regletlaw16_MachineDerives.B23:List Nat:= [0,0,2,0,0,24,56,126,254,510,1023,2047]
theorem regletlaw16_MachineDerives.tab23:rtab .any (opsOf Try.f7 23)=regletlaw16_MachineDerives.T23:=by kernel_rfl
theorem regletlaw16_MachineDerives.bits23:waitsOk regletlaw16_MachineDerives.T23.2 regletlaw16_MachineDerives.B23=true:=by kernel_rfl
def regletlaw16_MachineDerives.T31:Bool×List (List Nat×List Nat):=(true,[([],[]),([],[]),([0,1],[0,1]),([2],[2]),([3],[3]),([4],[4]),([5],[5]),([6],[6]),([6],[6]),([7,8,6],[6,7,8]),([9,6],[6,9]),([10,6],[6,10]),([6],[6]),([6],[6]),([12,13,6],[6,12,13]),([14,6],[6,14]),([11,15,6],[6,11,15]),([6,16],[6,16])])
def regletlaw16_MachineDerives.B31:List Nat:= [0,0,3,7,15,31,63,127,127,511,1023,2047,127,127,12415,28799,65535,131071]
theorem regletlaw16_MachineDerives.tab31:rtab .any (opsOf Try.f7 31)=regletlaw16_MachineDerives.T31:=by kernel_rfl
theorem regletlaw16_MachineDerives.bits31:waitsOk regletlaw16_MachineDerives.T31.2 regletlaw16_MachineDerives.B31=true:=by kernel_rfl
set_option maxHeartbeats 8000000 in
set_option maxRecDepth 100000 in
theorem regletlaw16_MachineDerives.calls (k:Nat) (A0:Option Addr) (c0:Nat) (l0:List Int) (A1:Option Addr) (c1:Nat) (l1:List Int) (a2:Bool) (r:Bool) (w:World) (hr0:Kd.C (Kd.int .u8) w A0 l0.length l0) (hc0:l0.length≤c0) (hr1:Kd.C (Kd.int .u8) w A1 l1.length l1) (hc1:l1.length≤c1) (h:regletlaw16_MachineDerives.f k l0 l1 a2=some r):
 Calls Try.prog 7 #[.slice A0 l0.length c0,.slice A1 l1.length c1,.bool a2] w fun e w'=>e= .returned (.bool r)∧Below w.heap.size w w':=by
 have hu26:=Try.underlying26;have hu43:=Try.underlying43;have HR0:=aM hr0;have HC0:=aM hc0;clear hr0 hc0;have HR1:=aM hr1;have HC1:=aM hc1;clear hr1 hc1;have HB:=aM (Below.refl w.heap.size w);have H:((regletlaw16_awake.f k).bind fun t616=>(if t616=true then((regletlaw13_Made.f k l0).bind fun iR=>(if a2=true then((regletlaw14_Clear.f k l0).bind fun fR=>(regletlaw16_MachineDerives.j0 k l1 t616 fR.1 fR.2.1 fR.2.2.1 fR.2.2.2.1 fR.2.2.2.2)) else(regletlaw16_MachineDerives.j0 k l1 t616 iR.1 iR.2.1 iR.2.2.1 iR.2.2.2.1 iR.2.2.2.2))) else(none)))=some r:=h;clear h;replace H:=Option.bind_eq_some_iff.mp H;obtain⟨t616,A40,H⟩:=H;replace H:(if t616=true then((regletlaw13_Made.f k l0).bind fun iR=>(if a2=true then((regletlaw14_Clear.f k l0).bind fun fR=>(regletlaw16_MachineDerives.j0 k l1 t616 fR.1 fR.2.1 fR.2.2.1 fR.2.2.2.1 fR.2.2.2.2)) else(regletlaw16_MachineDerives.j0 k l1 t616 iR.1 iR.2.1 iR.2.2.1 iR.2.2.2.1 iR.2.2.2.2))) else(none))=some r:=H;have A4:=aM A40;clear A40
 by_cases c5:t616=true
 ·subst c5
  have H1:((regletlaw13_Made.f k l0).bind fun iR=>(if a2=true then((regletlaw14_Clear.f k l0).bind fun fR=>(regletlaw16_MachineDerives.j0 k l1 true fR.1 fR.2.1 fR.2.2.1 fR.2.2.2.1 fR.2.2.2.2)) else(regletlaw16_MachineDerives.j0 k l1 true iR.1 iR.2.1 iR.2.2.1 iR.2.2.2.1 iR.2.2.2.2)))=some r:=by rw [if_pos rfl] at H;exact H
  clear H;have H:=H1;clear H1;replace H:=Option.bind_eq_some_iff.mp H;obtain⟨⟨t617,t620,t623,t624,t625⟩,A60,H⟩:=H;replace H:(if a2=true then((regletlaw14_Clear.f k l0).bind fun fR=>(regletlaw16_MachineDerives.j0 k l1 true fR.1 fR.2.1 fR.2.2.1 fR.2.2.2.1 fR.2.2.2.2)) else(regletlaw16_MachineDerives.j0 k l1 true t617 t620 t623 t624 t625))=some r:=H;have A6:=aM A60;clear A60;have HC7:=aM H;clear H;go_enter Try.func7,Try.ntmps7
  go_upto_if 24 with(first|((with_reducible refine bI (f:=10) rfl ?_);refine goesL_ (some 19) rfl rfl Try.func10 (by kernel_rfl) rfl #[] rfl (by(try simp only [List.map_toArray,List.map_cons,List.map_nil]);first|done|rfl|(simp only [List.length_drop,List.length_take];rfl)) ?_;(with_reducible refine(regletlaw16_awake.calls k  true _ A4.out).mono ?_);rintro e w8 ⟨rfl,hb⟩;refine⟨_,rfl,?_⟩;have cH:=aM (bG (gW HB.out) hb);clear HB;have HB:=cH;clear cH;(try clear hb);(try clear hb2);(try clear hk);(try clear hi))|((with_reducible refine bI (f:=13) rfl ?_);refine goesL_ (some 23) rfl rfl Try.func13 (by kernel_rfl) rfl #[.slice A0 l0.length c0] rfl (by(try simp only [List.map_toArray,List.map_cons,List.map_nil]);first|done|rfl|(simp only [List.length_drop,List.length_take];rfl)) ?_;(with_reducible refine(regletlaw13_Made.calls k _ _ l0 t617 t620 t623 t624 t625 _ ?side1 ?side2 A6.out).mono ?_);(case side1=>exact gC (bD HR0.out HB.out));(case side2=>exact HC0.out);rintro e w9 ⟨v618,v621,v626,rfl,ho0,ho1,ho2,hb⟩;refine⟨_,rfl,?_⟩;have cH:=aM (bL ho0 (bH (gW HB.out)));have cI:=aM (bL ho1 (bH (gW HB.out)));have cK:=aM (Kd.S_lower ho2 (bH (gW HB.out)));have cQ:=aM (bG (gW HB.out) hb);clear HB;have sF:=cH;have sG:=cI;have sH:=cK;have HB:=cQ;clear cH cI cK cQ;(try clear hb);(try clear hb2);(try clear hk);(try clear hi);(try clear ho0);(try clear ho1);(try clear ho2))|((with_reducible refine bJ (N:=8) rfl ?_);(try(refine gate_guard (by rfl) ?_;dsimp only));refine box_event ?hg (N:=8) ?hd (cs:=#[.slice none 0 0,.slice none 0 0,.int .i64 0,.int .i64 0,.slice none 0 0]) (t:=26) ?hr ?_;(case hd=>rfl);(case hg=>rfl);(case hr=>first|(go_simp;done)|(go_simp;rfl));intro cN hg w10 hbox hb;have cH:=aM (aD (gR sF.out) hb);have cI:=aM (aD (gR sG.out) hb);have cK:=aM (Kd.S_below (gS sH.out) hb);have cQ:=aM (bG (gW HB.out) hb);have dI:=aM (hbox);have dR:=aM ((by rw [hg];exact(bH (gW HB.out)):w.heap.size≤cN));have dV:=aM ((by rw [hg];exact(bH (gW HB.out)):w.heap.size≤cN));clear sF;clear sG;clear sH;clear HB;have sF:=cH;have sG:=cI;have sH:=cK;have HB:=cQ;have cA:=dI;have GW628:=dR;have wA:=dV;clear cH cI cK cQ dI dR dV;clear hb hbox hg;obtain⟨mT,mU,IF⟩:=Kd.R_slice sF.out;subst IF;have jD:w10.cell? ⟨cN,0,none⟩=some (.slice none 0 0):=(aG cA.out 0).trans rfl;have jE:w10.cell? ⟨cN,1,none⟩=some (.slice none 0 0):=(aG cA.out 1).trans rfl;have yN:w10.cell? ⟨cN,2,none⟩=some (.int .i64 0):=(aG cA.out 2).trans rfl;have yO:w10.cell? ⟨cN,3,none⟩=some (.int .i64 0):=(aG cA.out 3).trans rfl;have yP:w10.cell? ⟨cN,4,none⟩=some (.slice none 0 0):=(aG cA.out 4).trans rfl;have jF:=aH cA.out 0;have jG:=aH cA.out 1;have yQ:=aH cA.out 2;have yR:=aH cA.out 3;have yS:=aH cA.out 4;obtain⟨nB,mS,Mk⟩:=Kd.R_slice sG.out;subst Mk;obtain⟨oH,nQ,Sb⟩:=Kd.S_slice sH.out;subst Sb))
  (try simp only [Act.put,List.setIfInBounds_toArray,List.set_cons_zero,List.set_cons_succ])
  go_cut [] (fun wc=>∃(kq:Nat) (cU:List ByteArray) (cO:List (S72)) (dA:Int) (dB:Int) (bQ:List (S35)) (u629000:Value) (u629001:Value) (u629004:Value),Aside0 (regletlaw16_MachineDerives.j0 kq l1 true cU cO dA dB bQ=some r)∧Aside0 (kq≤k)∧Aside0 (Kd.R Kd.string 9 wc w.heap.size (fun _=>True) u629000 cU)∧Aside0 (Kd.R k72 72 wc w.heap.size (fun _=>True) u629001 cO)∧Aside0 (Kd.S k35 35 wc w.heap.size (fun _=>True) u629004 bQ)∧Aside0 (wc.heap[cN]?=some (.cells #[u629000,u629001,.int .i64 dA,.int .i64 dB,u629004] 26 (0,0)))∧Aside0 (Below w.heap.size w wc))
  case first=>
   have H:=HC7.out;clear HC7
   by_cases c15:a2=true
   ·subst c15
    have H1:((regletlaw14_Clear.f k l0).bind fun fR=>(regletlaw16_MachineDerives.j0 k l1 true fR.1 fR.2.1 fR.2.2.1 fR.2.2.2.1 fR.2.2.2.2))=some r:=by rw [if_pos rfl] at H;exact H
    clear H;have H:=H1;clear H1;replace H:=Option.bind_eq_some_iff.mp H;obtain⟨⟨t629,t632,t635,t636,t637⟩,A160,H⟩:=H;replace H:(regletlaw16_MachineDerives.j0 k l1 true t629 t632 t635 t636 t637)=some r:=H;have A16:=aM A160;clear A160;have H':=aM H;clear H
    go_wp2_with (first|((with_reducible refine bI (f:=19) rfl ?_);refine goesL_ (some 26) rfl rfl Try.func19 (by kernel_rfl) rfl #[.slice A0 l0.length c0] rfl (by(try simp only [List.map_toArray,List.map_cons,List.map_nil]);first|done|rfl|(simp only [List.length_drop,List.length_take];rfl)) ?_;(with_reducible refine(regletlaw14_Clear.calls k _ _ l0 t629 t632 t635 t636 t637 _ ?side1 ?side2 A16.out).mono ?_);(case side1=>exact bD HR0.out (by repeat(first|(with_reducible first|exact HB.out|apply aN|apply aP|apply aO|refine aL ?_ wA.out)|exact HB.out)));(case side2=>exact HC0.out);rintro e w17 ⟨v630,v633,v638,rfl,ho0,ho1,ho2,hb⟩;refine⟨_,rfl,?_⟩;have cH:=aM (bE (by(with_reducible repeat(first|apply aA|apply aB|apply aC));exact(Kd.R_mono (aE (p:=⟨cN,4,none⟩) (aE (p:=⟨cN,3,none⟩) (aE (p:=⟨cN,2,none⟩) (aE (p:=⟨cN,1,none⟩) (aE (p:=⟨cN,0,none⟩) (Kd.R_types sF.out cA.out (by decide)) (fun _ hk=>hk.2) (.slice mT t617.length mU)) (fun _ hk=>hk.2) (.slice nB t620.length mS)) (fun _ hk=>hk.2) (.int .i64 t623)) (fun _ hk=>hk.2) (.int .i64 t624)) (fun _ hk=>hk.2) (.slice oH t625.length nQ)) (fun _ h_=>h_.1))) (Kd.R_base ho0) hb);have cI:=aM (bE (by(with_reducible repeat(first|apply aA|apply aB|apply aC));exact(Kd.R_mono (aE (p:=⟨cN,4,none⟩) (aE (p:=⟨cN,3,none⟩) (aE (p:=⟨cN,2,none⟩) (aE (p:=⟨cN,1,none⟩) (aE (p:=⟨cN,0,none⟩) (Kd.R_types sG.out cA.out (by decide)) (fun _ hk=>hk.2) (.slice mT t617.length mU)) (fun _ hk=>hk.2) (.slice nB t620.length mS)) (fun _ hk=>hk.2) (.int .i64 t623)) (fun _ hk=>hk.2) (.int .i64 t624)) (fun _ hk=>hk.2) (.slice oH t625.length nQ)) (fun _ h_=>h_.1))) (Kd.R_base ho1) hb);have cK:=aM (Kd.S_elder' (by(with_reducible repeat(first|apply Kd.S_alloc|apply aV|apply aW));exact(Kd.S_mono (Kd.S_far (p:=⟨cN,4,none⟩) (Kd.S_far (p:=⟨cN,3,none⟩) (Kd.S_far (p:=⟨cN,2,none⟩) (Kd.S_far (p:=⟨cN,1,none⟩) (Kd.S_far (p:=⟨cN,0,none⟩) (Kd.S_types sH.out cA.out (by decide)) (fun _ hk=>hk.2) (.slice mT t617.length mU)) (fun _ hk=>hk.2) (.slice nB t620.length mS)) (fun _ hk=>hk.2) (.int .i64 t623)) (fun _ hk=>hk.2) (.int .i64 t624)) (fun _ hk=>hk.2) (.slice oH t625.length nQ)) (fun _ h_=>h_.1))) (Kd.S_base ho2) hb);have cQ:=aM (bL (Kd.R_new' ho0 (Kd.R_lt (by(with_reducible repeat(first|apply aA|apply aB|apply aC));exact(Kd.R_mono (aE (p:=⟨cN,4,none⟩) (aE (p:=⟨cN,3,none⟩) (aE (p:=⟨cN,2,none⟩) (aE (p:=⟨cN,1,none⟩) (aE (p:=⟨cN,0,none⟩) (Kd.R_types sF.out cA.out (by decide)) (fun _ hk=>hk.2) (.slice mT t617.length mU)) (fun _ hk=>hk.2) (.slice nB t620.length mS)) (fun _ hk=>hk.2) (.int .i64 t623)) (fun _ hk=>hk.2) (.int .i64 t624)) (fun _ hk=>hk.2) (.slice oH t625.length nQ)) (fun _ h_=>h_.1))))) (bH (by repeat(first|(with_reducible first|exact HB.out|apply aN|apply aP|apply aO|refine aL ?_ wA.out)|exact HB.out))));have dI:=aM (bL (Kd.R_new' ho1 (Kd.R_lt (by(with_reducible repeat(first|apply aA|apply aB|apply aC));exact(Kd.R_mono (aE (p:=⟨cN,4,none⟩) (aE (p:=⟨cN,3,none⟩) (aE (p:=⟨cN,2,none⟩) (aE (p:=⟨cN,1,none⟩) (aE (p:=⟨cN,0,none⟩) (Kd.R_types sG.out cA.out (by decide)) (fun _ hk=>hk.2) (.slice mT t617.length mU)) (fun _ hk=>hk.2) (.slice nB t620.length mS)) (fun _ hk=>hk.2) (.int .i64 t623)) (fun _ hk=>hk.2) (.int .i64 t624)) (fun _ hk=>hk.2) (.slice oH t625.length nQ)) (fun _ h_=>h_.1))))) (bH (by repeat(first|(with_reducible first|exact HB.out|apply aN|apply aP|apply aO|refine aL ?_ wA.out)|exact HB.out))));have dR:=aM (Kd.S_lower (Kd.S_new' ho2 (Kd.S_lt (by(with_reducible repeat(first|apply Kd.S_alloc|apply aV|apply aW));exact(Kd.S_mono (Kd.S_far (p:=⟨cN,4,none⟩) (Kd.S_far (p:=⟨cN,3,none⟩) (Kd.S_far (p:=⟨cN,2,none⟩) (Kd.S_far (p:=⟨cN,1,none⟩) (Kd.S_far (p:=⟨cN,0,none⟩) (Kd.S_types sH.out cA.out (by decide)) (fun _ hk=>hk.2) (.slice mT t617.length mU)) (fun _ hk=>hk.2) (.slice nB t620.length mS)) (fun _ hk=>hk.2) (.int .i64 t623)) (fun _ hk=>hk.2) (.int .i64 t624)) (fun _ hk=>hk.2) (.slice oH t625.length nQ)) (fun _ h_=>h_.1))))) (bH (by repeat(first|(with_reducible first|exact HB.out|apply aN|apply aP|apply aO|refine aL ?_ wA.out)|exact HB.out))));have dV:=aM (bF (g:=cN) (o:= .cells #[.slice mT t617.length mU,.slice nB t620.length mS,.int .i64 t623,.int .i64 t624,.slice oH t625.length nQ] 26 (0,0)) (by(with_reducible repeat(first|refine aJ ?_ _|refine aK ?_|refine aI ?_ _));refine blk_put (cs:=#[.slice mT t617.length mU,.slice nB t620.length mS,.int .i64 t623,.int .i64 t624,.slice none 0 0]) ?_ 4 _ rfl;(with_reducible repeat(first|refine aJ ?_ _|refine aK ?_|refine aI ?_ _));refine blk_put (cs:=#[.slice mT t617.length mU,.slice nB t620.length mS,.int .i64 t623,.int .i64 0,.slice none 0 0]) ?_ 3 _ rfl;(with_reducible repeat(first|refine aJ ?_ _|refine aK ?_|refine aI ?_ _));refine blk_put (cs:=#[.slice mT t617.length mU,.slice nB t620.length mS,.int .i64 0,.int .i64 0,.slice none 0 0]) ?_ 2 _ rfl;(with_reducible repeat(first|refine aJ ?_ _|refine aK ?_|refine aI ?_ _));refine blk_put (cs:=#[.slice mT t617.length mU,.slice none 0 0,.int .i64 0,.int .i64 0,.slice none 0 0]) ?_ 1 _ rfl;(with_reducible repeat(first|refine aJ ?_ _|refine aK ?_|refine aI ?_ _));refine blk_put (cs:=#[.slice none 0 0,.slice none 0 0,.int .i64 0,.int .i64 0,.slice none 0 0]) ?_ 0 _ rfl;(with_reducible repeat(first|refine aJ ?_ _|refine aK ?_|refine aI ?_ _));exact cA.out) hb);have eV:=aM (bG (by repeat(first|(with_reducible first|exact HB.out|apply aN|apply aP|apply aO|refine aL ?_ wA.out)|exact HB.out)) hb);clear sF;clear sG;clear sH;clear cA;clear HB;have sF:=cH;have sG:=cI;have sH:=cK;have Rb:=cQ;have Rc:=dI;have Rd:=dR;have cA:=dV;have HB:=eV;clear cH cI cK cQ dI dR dV eV;(try clear hb);(try clear hb2);(try clear hk);(try clear hi);(try clear ho0);(try clear ho1);(try clear ho2);obtain⟨wH,sW,Ic⟩:=Kd.R_slice Rb.out;subst Ic;have uX:w17.cell? ⟨cN,0,none⟩=some (.slice mT t617.length mU):=(aG cA.out 0).trans rfl;have uY:w17.cell? ⟨cN,1,none⟩=some (.slice nB t620.length mS):=(aG cA.out 1).trans rfl;have yT:w17.cell? ⟨cN,2,none⟩=some (.int .i64 t623):=(aG cA.out 2).trans rfl;have yU:w17.cell? ⟨cN,3,none⟩=some (.int .i64 t624):=(aG cA.out 3).trans rfl;have yV:w17.cell? ⟨cN,4,none⟩=some (.slice oH t625.length nQ):=(aG cA.out 4).trans rfl;have uZ:=aH cA.out 0;have vA:=aH cA.out 1;have yW:=aH cA.out 2;have yX:=aH cA.out 3;have yY:=aH cA.out 4;obtain⟨jN,jH,zR⟩:=Kd.R_slice Rc.out;subst zR;obtain⟨Dh,sE,Ox⟩:=Kd.S_slice Rd.out;subst Ox))
    go_meet
    case rel=>exact⟨_,(t629),(t632),(t635),(t636),(t637),(.slice wH t629.length sW),(.slice jN t632.length jH),(.slice Dh t637.length sE),H',⟨by first|omega|exact Nat.le_refl _⟩,⟨by(with_reducible repeat(first|apply aA|apply aB|apply aC));exact Kd.R_mono (aE (p:=⟨cN,4,none⟩) (aE (p:=⟨cN,3,none⟩) (aE (p:=⟨cN,2,none⟩) (aE (p:=⟨cN,1,none⟩) (aE (p:=⟨cN,0,none⟩) (Kd.R_types Rb.out cA.out (by decide)) (fun _ hk=>hk.2) (.slice wH t629.length sW)) (fun _ hk=>hk.2) (.slice jN t632.length jH)) (fun _ hk=>hk.2) (.int .i64 t635)) (fun _ hk=>hk.2) (.int .i64 t636)) (fun _ hk=>hk.2) (.slice Dh t637.length sE)) (fun _ hk=>trivial)⟩,⟨by(with_reducible repeat(first|apply aA|apply aB|apply aC));exact Kd.R_mono (aE (p:=⟨cN,4,none⟩) (aE (p:=⟨cN,3,none⟩) (aE (p:=⟨cN,2,none⟩) (aE (p:=⟨cN,1,none⟩) (aE (p:=⟨cN,0,none⟩) (Kd.R_types Rc.out cA.out (by decide)) (fun _ hk=>hk.2) (.slice wH t629.length sW)) (fun _ hk=>hk.2) (.slice jN t632.length jH)) (fun _ hk=>hk.2) (.int .i64 t635)) (fun _ hk=>hk.2) (.int .i64 t636)) (fun _ hk=>hk.2) (.slice Dh t637.length sE)) (fun _ hk=>trivial)⟩,⟨by(with_reducible repeat(first|apply Kd.S_alloc|apply aV|apply aW));exact Kd.S_mono (Kd.S_far (p:=⟨cN,4,none⟩) (Kd.S_far (p:=⟨cN,3,none⟩) (Kd.S_far (p:=⟨cN,2,none⟩) (Kd.S_far (p:=⟨cN,1,none⟩) (Kd.S_far (p:=⟨cN,0,none⟩) (Kd.S_types Rd.out cA.out (by decide)) (fun _ hk=>hk.2) (.slice wH t629.length sW)) (fun _ hk=>hk.2) (.slice jN t632.length jH)) (fun _ hk=>hk.2) (.int .i64 t635)) (fun _ hk=>hk.2) (.int .i64 t636)) (fun _ hk=>hk.2) (.slice Dh t637.length sE)) (fun _ hk=>trivial)⟩,⟨by(with_reducible repeat(first|refine aJ ?_ _|refine aK ?_|refine aI ?_ _));refine blk_put (cs:=#[.slice wH t629.length sW,.slice jN t632.length jH,.int .i64 t635,.int .i64 t636,.slice oH t625.length nQ]) ?_ 4 _ rfl;(with_reducible repeat(first|refine aJ ?_ _|refine aK ?_|refine aI ?_ _));refine blk_put (cs:=#[.slice wH t629.length sW,.slice jN t632.length jH,.int .i64 t635,.int .i64 t624,.slice oH t625.length nQ]) ?_ 3 _ rfl;(with_reducible repeat(first|refine aJ ?_ _|refine aK ?_|refine aI ?_ _));refine blk_put (cs:=#[.slice wH t629.length sW,.slice jN t632.length jH,.int .i64 t623,.int .i64 t624,.slice oH t625.length nQ]) ?_ 2 _ rfl;(with_reducible repeat(first|refine aJ ?_ _|refine aK ?_|refine aI ?_ _));refine blk_put (cs:=#[.slice wH t629.length sW,.slice nB t620.length mS,.int .i64 t623,.int .i64 t624,.slice oH t625.length nQ]) ?_ 1 _ rfl;(with_reducible repeat(first|refine aJ ?_ _|refine aK ?_|refine aI ?_ _));refine blk_put (cs:=#[.slice mT t617.length mU,.slice nB t620.length mS,.int .i64 t623,.int .i64 t624,.slice oH t625.length nQ]) ?_ 0 _ rfl;(with_reducible repeat(first|refine aJ ?_ _|refine aK ?_|refine aI ?_ _));exact cA.out⟩,⟨by repeat(first|(with_reducible first|exact HB.out|apply aN|apply aP|apply aO|refine aL ?_ wA.out)|exact HB.out)⟩⟩
   ·replace c15:=Bool.eq_false_iff.mpr c15
    subst c15;have H1:(regletlaw16_MachineDerives.j0 k l1 true t617 t620 t623 t624 t625)=some r:=by rw [if_neg (show ¬(false=true) by decide)] at H;exact H
    clear H;have H:=H1;clear H1;have H':=aM H;clear H;go_wp2
    go_meet
    case rel=>exact⟨_,(t617),(t620),(t623),(t624),(t625),(.slice mT t617.length mU),(.slice nB t620.length mS),(.slice oH t625.length nQ),H',⟨by first|omega|exact Nat.le_refl _⟩,⟨by(with_reducible repeat(first|apply aA|apply aB|apply aC));exact Kd.R_mono (aE (p:=⟨cN,4,none⟩) (aE (p:=⟨cN,3,none⟩) (aE (p:=⟨cN,2,none⟩) (aE (p:=⟨cN,1,none⟩) (aE (p:=⟨cN,0,none⟩) (Kd.R_types sF.out cA.out (by decide)) (fun _ hk=>hk.2) (.slice mT t617.length mU)) (fun _ hk=>hk.2) (.slice nB t620.length mS)) (fun _ hk=>hk.2) (.int .i64 t623)) (fun _ hk=>hk.2) (.int .i64 t624)) (fun _ hk=>hk.2) (.slice oH t625.length nQ)) (fun _ hk=>trivial)⟩,⟨by(with_reducible repeat(first|apply aA|apply aB|apply aC));exact Kd.R_mono (aE (p:=⟨cN,4,none⟩) (aE (p:=⟨cN,3,none⟩) (aE (p:=⟨cN,2,none⟩) (aE (p:=⟨cN,1,none⟩) (aE (p:=⟨cN,0,none⟩) (Kd.R_types sG.out cA.out (by decide)) (fun _ hk=>hk.2) (.slice mT t617.length mU)) (fun _ hk=>hk.2) (.slice nB t620.length mS)) (fun _ hk=>hk.2) (.int .i64 t623)) (fun _ hk=>hk.2) (.int .i64 t624)) (fun _ hk=>hk.2) (.slice oH t625.length nQ)) (fun _ hk=>trivial)⟩,⟨by(with_reducible repeat(first|apply Kd.S_alloc|apply aV|apply aW));exact Kd.S_mono (Kd.S_far (p:=⟨cN,4,none⟩) (Kd.S_far (p:=⟨cN,3,none⟩) (Kd.S_far (p:=⟨cN,2,none⟩) (Kd.S_far (p:=⟨cN,1,none⟩) (Kd.S_far (p:=⟨cN,0,none⟩) (Kd.S_types sH.out cA.out (by decide)) (fun _ hk=>hk.2) (.slice mT t617.length mU)) (fun _ hk=>hk.2) (.slice nB t620.length mS)) (fun _ hk=>hk.2) (.int .i64 t623)) (fun _ hk=>hk.2) (.int .i64 t624)) (fun _ hk=>hk.2) (.slice oH t625.length nQ)) (fun _ hk=>trivial)⟩,⟨by(with_reducible repeat(first|refine aJ ?_ _|refine aK ?_|refine aI ?_ _));refine blk_put (cs:=#[.slice mT t617.length mU,.slice nB t620.length mS,.int .i64 t623,.int .i64 t624,.slice none 0 0]) ?_ 4 _ rfl;(with_reducible repeat(first|refine aJ ?_ _|refine aK ?_|refine aI ?_ _));refine blk_put (cs:=#[.slice mT t617.length mU,.slice nB t620.length mS,.int .i64 t623,.int .i64 0,.slice none 0 0]) ?_ 3 _ rfl;(with_reducible repeat(first|refine aJ ?_ _|refine aK ?_|refine aI ?_ _));refine blk_put (cs:=#[.slice mT t617.length mU,.slice nB t620.length mS,.int .i64 0,.int .i64 0,.slice none 0 0]) ?_ 2 _ rfl;(with_reducible repeat(first|refine aJ ?_ _|refine aK ?_|refine aI ?_ _));refine blk_put (cs:=#[.slice mT t617.length mU,.slice none 0 0,.int .i64 0,.int .i64 0,.slice none 0 0]) ?_ 1 _ rfl;(with_reducible repeat(first|refine aJ ?_ _|refine aK ?_|refine aI ?_ _));refine blk_put (cs:=#[.slice none 0 0,.slice none 0 0,.int .i64 0,.int .i64 0,.slice none 0 0]) ?_ 0 _ rfl;(with_reducible repeat(first|refine aJ ?_ _|refine aK ?_|refine aI ?_ _));exact cA.out⟩,⟨by repeat(first|(with_reducible first|exact HB.out|apply aN|apply aP|apply aO|refine aL ?_ wA.out)|exact HB.out)⟩⟩
  case rest=>
   clear HC7
   (try clear c1);(try clear p2);(try clear c5);(try clear c7);(try clear c10);(try clear c13);(try clear c15);(try clear c19);(try clear jD);(try clear jE);(try clear yN);(try clear yO);(try clear yP);(try clear uX);(try clear uY);(try clear yT);(try clear yU);(try clear yV);(try clear jF);(try clear jG);(try clear yQ);(try clear yR)
   (try clear yS);(try clear uZ);(try clear vA);(try clear yW);(try clear yX);(try clear yY)
   obtain⟨kq,cU,cO,dA,dB,bQ,u629000,u629001,u629004,HA,HJ6,cE,cF,cB,cA,HB⟩:=hcut
   cases kq with
   |zero=>exact absurd HA.out (by simp [regletlaw16_MachineDerives.j0])
   |succ Di=>
    have H:=HA.out;clear HA;simp only [regletlaw16_MachineDerives.j0] at H;replace H:=Option.bind_eq_some_iff.mp H;obtain⟨t640,A220,H⟩:=H;replace H:((regletlaw16_tokens.f Di l1 (cO.length:Int)).bind fun t643=>((machine_Run.f Di cU cO dA dB bQ t640 t643).bind fun sV=>(if sV.2.1=0 then(regletlaw16_MachineDerives.l0 Di true t643 sV.1 (([(⟨false,0⟩:S43)]:List (S43))) 0 cU cO dA dB bQ) else(some true))))=some r:=H;have A22:=aM A220;clear A220;replace H:=Option.bind_eq_some_iff.mp H;obtain⟨t643,A230,H⟩:=H;replace H:((machine_Run.f Di cU cO dA dB bQ t640 t643).bind fun sV=>(if sV.2.1=0 then(regletlaw16_MachineDerives.l0 Di true t643 sV.1 (([(⟨false,0⟩:S43)]:List (S43))) 0 cU cO dA dB bQ) else(some true)))=some r:=H;have A23:=aM A230;clear A230;replace H:=Option.bind_eq_some_iff.mp H;obtain⟨⟨t646,t649,t650⟩,A240,H⟩:=H;replace H:(if t649=0 then(regletlaw16_MachineDerives.l0 Di true t643 t646 (([(⟨false,0⟩:S43)]:List (S43))) 0 cU cO dA dB bQ) else(some true))=some r:=H;have A24:=aM A240;clear A240
    by_cases c25:t649=0
    ·rw [if_pos c25] at H
     have sP:(t649==0)=true:=beq_iff_eq.mpr c25;have Jr:(t649 !=0)=false:=bne_eq_false_iff_eq.mpr c25;clear c25;obtain⟨y651,Ci⟩:∃y_:List (S43),y_=(([(⟨false,0⟩:S43)]:List (S43))):=⟨_,rfl⟩;replace H:(regletlaw16_MachineDerives.l0 Di true t643 t646 y651 0 cU cO dA dB bQ)=some r:=by first|(rw [Ci];with_reducible exact H)|(have H2_:=(Option.bind_some _ _).symm.trans H;rw [Ci];with_reducible exact H2_)|(have H2_:=(Option.bind_some _ _).symm.trans H;with_reducible exact H2_)|with_reducible exact H|(rw [Ci];exact H)|exact H
     have Re:=aM Ci;clear Ci;have H':=aM H;clear H;have Hf:wc.cell? ⟨cN,0,none⟩=some (u629000):=(aG cA.out 0).trans rfl;have Hg:wc.cell? ⟨cN,1,none⟩=some (u629001):=(aG cA.out 1).trans rfl;have Hh:wc.cell? ⟨cN,2,none⟩=some (.int .i64 dA):=(aG cA.out 2).trans rfl;have Hi:wc.cell? ⟨cN,3,none⟩=some (.int .i64 dB):=(aG cA.out 3).trans rfl;have Hj:wc.cell? ⟨cN,4,none⟩=some (u629004):=(aG cA.out 4).trans rfl;have Hk:=aH cA.out 0;have Hl:=aH cA.out 1;have Hm:=aH cA.out 2;have Hn:=aH cA.out 3;have Ho:=aH cA.out 4;obtain⟨oY,oI,Aw⟩:=Kd.R_slice cE.out;subst Aw;obtain⟨sK,rB,Sc⟩:=Kd.R_slice cF.out;subst Sc;obtain⟨fS,fL,Ji⟩:=Kd.S_slice cB.out;subst Ji
     go_wp2_with (first|((with_reducible refine bI (f:=14) rfl ?_);refine goesL_ (some 28) rfl rfl Try.func14 (by kernel_rfl) rfl #[.agg #[.slice oY cU.length oI,.slice sK cO.length rB,.int .i64 dA,.int .i64 dB,.slice fS bQ.length fL],.int .u8 255,.int .u8 0] rfl (by(try simp only [List.map_toArray,List.map_cons,List.map_nil]);first|done|rfl|(simp only [List.length_drop,List.length_take];rfl)) ?_;(with_reducible refine(regletlaw16_table.calls Di _ _ cU _ _ cO dA dB _ _ bQ 255 0 t640 _ ?side1 ?side2 ?side3 ?side4 ?side5 ?side6 A22.out).mono ?_);(case side1=>exact gC (aF cE.out).2.2);(case side2=>exact(aF cE.out).2.1);(case side3=>exact gC (aF cF.out).2.2);(case side4=>exact(aF cF.out).2.1);(case side5=>exact gC (Kd.S_reads' cB.out).2.2);(case side6=>exact(Kd.S_reads' cB.out).2.1);rintro e w30 ⟨v641,rfl,ho0,hb⟩;refine⟨_,rfl,?_⟩;have cH:=aM (aD (gR cE.out) hb);have cI:=aM (aD (gR cF.out) hb);have cK:=aM (Kd.S_below (gS cB.out) hb);have cQ:=aM (Kd.S_lower ho0 (bH (gW HB.out)));have dI:=aM (bF (gB cA.out) hb);have dR:=aM (bG (gW HB.out) hb);clear cE;clear cF;clear cB;clear cA;clear HB;have cE:=cH;have cF:=cI;have cB:=cK;have iY:=cQ;have cA:=dI;have HB:=dR;clear cH cI cK cQ dI dR;(try clear hb);(try clear hb2);(try clear hk);(try clear hi);(try clear ho0);have nG:w30.cell? ⟨cN,0,none⟩=some (.slice oY cU.length oI):=(aG cA.out 0).trans rfl;have nH:w30.cell? ⟨cN,1,none⟩=some (.slice sK cO.length rB):=(aG cA.out 1).trans rfl;have pA:w30.cell? ⟨cN,2,none⟩=some (.int .i64 dA):=(aG cA.out 2).trans rfl;have pB:w30.cell? ⟨cN,3,none⟩=some (.int .i64 dB):=(aG cA.out 3).trans rfl;have pC:w30.cell? ⟨cN,4,none⟩=some (.slice fS bQ.length fL):=(aG cA.out 4).trans rfl;have nI:=aH cA.out 0;have nJ:=aH cA.out 1;have pD:=aH cA.out 2;have pE:=aH cA.out 3;have pF:=aH cA.out 4)|((with_reducible refine bI (f:=15) rfl ?_);refine goesL_ (some 33) rfl rfl Try.func15 (by kernel_rfl) rfl #[.slice A1 l1.length c1,.int .i64 (cO.length:Int)] rfl (by(try simp only [List.map_toArray,List.map_cons,List.map_nil]);first|done|rfl|(simp only [List.length_drop,List.length_take];rfl)) ?_;(with_reducible refine(regletlaw16_tokens.calls Di _ _ l1 (cO.length:Int) t643 _ ?side1 ?side2 A23.out).mono ?_);(case side1=>exact gC (bD HR1.out HB.out));(case side2=>exact HC1.out);rintro e w32 ⟨v644,rfl,ho0,hb⟩;refine⟨_,rfl,?_⟩;have cH:=aM (aD (gR cE.out) hb);have cI:=aM (bE (gR cF.out) (Kd.R_base ho0) hb);have cK:=aM (Kd.S_below (gS cB.out) hb);have cQ:=aM (Kd.S_elder' (gS iY.out) (Kd.R_base ho0) hb);have dI:=aM (bL ho0 (bH (gW HB.out)));have dR:=aM (bF (gB cA.out) hb);have dV:=aM (bG (gW HB.out) hb);clear cE;clear cF;clear cB;clear iY;clear cA;clear HB;have cE:=cH;have cF:=cI;have cB:=cK;have iY:=cQ;have kJ:=dI;have cA:=dR;have HB:=dV;clear cH cI cK cQ dI dR dV;(try clear hb);(try clear hb2);(try clear hk);(try clear hi);(try clear ho0);have tP:w32.cell? ⟨cN,0,none⟩=some (.slice oY cU.length oI):=(aG cA.out 0).trans rfl;have tQ:w32.cell? ⟨cN,1,none⟩=some (.slice sK cO.length rB):=(aG cA.out 1).trans rfl;have tR:w32.cell? ⟨cN,2,none⟩=some (.int .i64 dA):=(aG cA.out 2).trans rfl;have tS:w32.cell? ⟨cN,3,none⟩=some (.int .i64 dB):=(aG cA.out 3).trans rfl;have tT:w32.cell? ⟨cN,4,none⟩=some (.slice fS bQ.length fL):=(aG cA.out 4).trans rfl;have tU:=aH cA.out 0;have tV:=aH cA.out 1;have tW:=aH cA.out 2;have tX:=aH cA.out 3;have tY:=aH cA.out 4;obtain⟨Uz,Sd,Se⟩:=Kd.S_slice iY.out;subst Se;obtain⟨yZ,zA,IG⟩:=Kd.R_slice kJ.out;subst IG)|((with_reducible refine bI (f:=22) rfl ?_);refine goesL_ (some 38) rfl rfl Try.func22 (by kernel_rfl) rfl #[.agg #[.slice oY cU.length oI,.slice sK cO.length rB,.int .i64 dA,.int .i64 dB,.slice fS bQ.length fL],.slice Uz t640.length Sd,.slice yZ t643.length zA] rfl (by(try simp only [List.map_toArray,List.map_cons,List.map_nil]);first|done|rfl|(simp only [List.length_drop,List.length_take];rfl)) ?_;(with_reducible refine(machine_Run.calls Di _ _ cU _ _ cO dA dB _ _ bQ _ _ t640 _ _ t643 t646 t649 t650 _ ?side1 ?side2 ?side3 ?side4 ?side5 ?side6 ?side7 ?side8 ?side9 ?side10 A24.out).mono ?_);(case side1=>exact gC (aF cE.out).2.2);(case side2=>exact(aF cE.out).2.1);(case side3=>exact gC (aF cF.out).2.2);(case side4=>exact(aF cF.out).2.1);(case side5=>exact gC (Kd.S_reads' cB.out).2.2);(case side6=>exact(Kd.S_reads' cB.out).2.1);(case side7=>exact gC (Kd.S_reads' iY.out).2.2);(case side8=>exact(Kd.S_reads' iY.out).2.1);(case side9=>exact gC (aF kJ.out).2.2);(case side10=>exact(aF kJ.out).2.1);rintro e w36 ⟨v647,rfl,ho0,hb⟩;refine⟨_,rfl,?_⟩;have cH:=aM (aD (gR cE.out) hb);have cI:=aM (bE (gR cF.out) (Kd.R_base ho0) hb);have cK:=aM (Kd.S_below (gS cB.out) hb);have cQ:=aM (Kd.S_elder' (gS iY.out) (Kd.R_base ho0) hb);have dI:=aM (bE (gR kJ.out) (Kd.R_base ho0) hb);have dR:=aM (bL (Kd.R_new' ho0 (Kd.R_lt (gR kJ.out))) (bH (gW HB.out)));have dV:=aM (bF (gB cA.out) hb);have eV:=aM (bG (gW HB.out) hb);clear cE;clear cF;clear cB;clear iY;clear kJ;clear cA;clear HB;have cE:=cH;have cF:=cI;have cB:=cK;have iY:=cQ;have kJ:=dI;have Cj:=dR;have cA:=dV;have HB:=eV;clear cH cI cK cQ dI dR dV eV;(try clear hb);(try clear hb2);(try clear hk);(try clear hi);(try clear ho0))|((with_reducible refine bJ (N:=46) rfl ?_);(try(refine gate_guard (by rfl) ?_;dsimp only));refine Kd.R_lit k43 _ 43 ?hg (N:=46) ?hd (xs:=([(⟨false,0⟩:S43)]:List (S43))) (inner:= [.bool false,.int .i64 0]) (ok:=fun _=>True) (okp:=fun _=>True) ?hr ?hp (fun _ hk=>hk) trivial (Below.refl _ _) (Nat.le_refl _) (by simp) ?_;(case hd=>rfl);(case hg=>rfl);(case hr=>first|(go_simp;done)|(go_simp;rfl));(case hp=>exact(Reps.c2 (show Kd.M k43 _ _ _ (⟨false,0⟩:S43) [.bool false,.int .i64 0] from(k43_mkM _ _ _ (⟨false,0⟩:S43))) (Reps.none _ _)));intro v652 w37 ho38 hb hg_ hnew_;clear hg_ hnew_;(first|rw [←Re.out] at ho38|(simp only [Int.reduceToNat] at ho38;rw [←Re.out] at ho38));have cH:=aM (aD (gR cE.out) hb);have cI:=aM (aD (gR cF.out) hb);have cK:=aM (Kd.S_elder' (gS cB.out) (Kd.R_base ho38) hb);have cQ:=aM (Kd.S_below (gS iY.out) hb);have dI:=aM (aD (gR kJ.out) hb);have dR:=aM (aD (gR Cj.out) hb);have dV:=aM (bL ho38 (bH (gW HB.out)));have eV:=aM (bF (gB cA.out) hb);have fV:=aM (bG (gW HB.out) hb);clear cE;clear cF;clear cB;clear iY;clear kJ;clear Cj;clear cA;clear HB;have cE:=cH;have cF:=cI;have cB:=cK;have iY:=cQ;have kJ:=dI;have Cj:=dR;have Xu:=dV;have cA:=eV;have HB:=fV;clear cH cI cK cQ dI dR dV eV fV;clear hb ho38))
     go_loopg [14,15] Di (fun kq v14 v15 w'=>∃(cW:List (S43)) (cM:Int),v15= .int .i64 cM∧Aside0 (regletlaw16_MachineDerives.l0 kq true t643 t646 cW cM cU cO dA dB bQ=some r)∧Aside0 (kq≤Di)∧Aside0 (Kd.R (Kd.int .i64) 3 w' w.heap.size (fun k_=>some k_≠(v647:Value).ownBlock) (.slice yZ t643.length zA) t643)∧Aside0 (Kd.R (Kd.int .i64) 3 w' w.heap.size (fun k_=>some k_≠((.slice yZ t643.length zA):Value).ownBlock) v647 t646)∧Aside0 (Kd.R k43 43 w' w.heap.size (fun _=>True) v14 cW)∧Aside0 (Kd.R Kd.string 9 w' w.heap.size (fun _=>True) (.slice oY cU.length oI) cU)∧Aside0 (Kd.R k72 72 w' w.heap.size (fun k_=>some k_≠((.slice yZ t643.length zA):Value).ownBlock∧some k_≠(v647:Value).ownBlock) (.slice sK cO.length rB) cO)∧Aside0 (Kd.S k35 35 w' w.heap.size (fun k_=>some k_≠(v14:Value).ownBlock) (.slice fS bQ.length fL) bQ)∧Aside0 (w'.heap[cN]?=some (.cells #[(.slice oY cU.length oI),(.slice sK cO.length rB),.int .i64 dA,.int .i64 dB,(.slice fS bQ.length fL)] 26 (0,0)))∧Aside0 (Below w.heap.size w w'))
     case atStart=>exact⟨(y651),(0),(by first|rfl|(simp;done)|(simp [*];done)),H',⟨Nat.le_refl _⟩,⟨by(with_reducible repeat(first|apply aA|apply aB|apply aC));exact Kd.R_mono kJ.out (fun _ hk=>hk.2)⟩,⟨by(with_reducible repeat(first|apply aA|apply aB|apply aC));exact Kd.R_mono Cj.out (fun _ hk=>hk.2)⟩,⟨gR Xu.out⟩,⟨gR cE.out⟩,⟨by(with_reducible repeat(first|apply aA|apply aB|apply aC));exact Kd.R_mono cF.out (fun _ hk=>⟨hk.1.2,hk.2⟩)⟩,⟨by(with_reducible repeat(first|apply Kd.S_alloc|apply aV|apply aW));exact Kd.S_mono cB.out (fun _ hk=>hk.2)⟩,⟨gB cA.out⟩,⟨gW HB.out⟩⟩
     case round=>
      clear H'
      (try clear c1);(try clear c2);(try clear p2);(try clear c5);(try clear c7);(try clear c10);(try clear c13);(try clear c14);(try clear c15);(try clear c19);(try clear c22);(try clear c25);(try clear sP);(try clear Jr);(try clear jD);(try clear jE);(try clear yN);(try clear yO);(try clear yP);(try clear uX);(try clear uY);(try clear yT);(try clear yU)
      (try clear yV);(try clear Hf);(try clear Hg);(try clear Hh);(try clear Hi);(try clear Hj);(try clear nG);(try clear nH);(try clear pA);(try clear pB);(try clear pC);(try clear tP);(try clear tQ);(try clear tR);(try clear tS);(try clear tT);(try clear jF);(try clear jG);(try clear yQ);(try clear yR);(try clear yS)
      (try clear uZ);(try clear vA);(try clear yW);(try clear yX);(try clear yY);(try clear Hk);(try clear Hl);(try clear Hm);(try clear Hn);(try clear Ho);(try clear nI);(try clear nJ);(try clear pD);(try clear pE);(try clear pF);(try clear tU);(try clear tV);(try clear tW);(try clear tX);(try clear tY);(try clear p2)
      obtain⟨cW,cM,rfl,HA,HK2,dK,hJ,eU,cE,cF,cB,cA,HB⟩:=hrel
      cases gk with
      |zero=>exact absurd HA.out (by simp [regletlaw16_MachineDerives.l0])
      |succ k2=>
       have H:=HA.out;clear HA;simp only [regletlaw16_MachineDerives.l0] at H
       by_cases c39:cM<(t646.length:Int)
       ·rw [if_pos c39] at H
        have Fy:decide (cM<(t646.length:Int))=true:=decide_eq_true c39;clear c39;have H':=aM H;clear H;obtain⟨Su,Sv,IH⟩:=Kd.R_slice hJ.out;subst IH;go_wp2
        go_loopg [16] k2 (fun kq v16 w'=>∃(dN:Int),v16= .int .i64 dN∧Aside0 (regletlaw16_MachineDerives.l1 kq true t643 t646 cW cM dN cU cO dA dB bQ=some r)∧Aside0 (kq≤k2)∧Aside0 (Kd.R (Kd.int .i64) 3 w' w.heap.size (fun k_=>some k_≠((.slice Su t646.length Sv):Value).ownBlock) (.slice yZ t643.length zA) t643)∧Aside0 (Kd.R (Kd.int .i64) 3 w' w.heap.size (fun k_=>some k_≠((.slice yZ t643.length zA):Value).ownBlock) (.slice Su t646.length Sv) t646)∧Aside0 (Kd.R k43 43 w' w.heap.size (fun _=>True) u14 cW)∧Aside0 (Kd.R Kd.string 9 w' w.heap.size (fun _=>True) (.slice oY cU.length oI) cU)∧Aside0 (Kd.R k72 72 w' w.heap.size (fun k_=>some k_≠((.slice yZ t643.length zA):Value).ownBlock∧some k_≠((.slice Su t646.length Sv):Value).ownBlock) (.slice sK cO.length rB) cO)∧Aside0 (Kd.S k35 35 w' w.heap.size (fun k_=>some k_≠(u14:Value).ownBlock) (.slice fS bQ.length fL) bQ)∧Aside0 (w'.heap[cN]?=some (.cells #[(.slice oY cU.length oI),(.slice sK cO.length rB),.int .i64 dA,.int .i64 dB,(.slice fS bQ.length fL)] 26 (0,0)))∧Aside0 (Below w.heap.size w w'))
        case atStart=>exact⟨(0),(by first|rfl|(simp;done)|(simp [*];done)),H',⟨Nat.le_refl _⟩,⟨gR dK.out⟩,⟨gR hJ.out⟩,⟨gR eU.out⟩,⟨gR cE.out⟩,⟨gR cF.out⟩,⟨gS cB.out⟩,⟨gB cA.out⟩,⟨gW HB.out⟩⟩
        case round=>
         clear H'
         (try clear c1);(try clear c2);(try clear p2);(try clear c3);(try clear c5);(try clear c7);(try clear c10);(try clear c13);(try clear c14);(try clear c15);(try clear c19);(try clear c22);(try clear c25);(try clear sP);(try clear Jr);(try clear c39);(try clear Fy);(try clear jD);(try clear jE);(try clear yN);(try clear yO);(try clear yP);(try clear uX);(try clear uY)
         (try clear yT);(try clear yU);(try clear yV);(try clear Hf);(try clear Hg);(try clear Hh);(try clear Hi);(try clear Hj);(try clear nG);(try clear nH);(try clear pA);(try clear pB);(try clear pC);(try clear tP);(try clear tQ);(try clear tR);(try clear tS);(try clear tT);(try clear jF);(try clear jG);(try clear yQ)
         (try clear yR);(try clear yS);(try clear uZ);(try clear vA);(try clear yW);(try clear yX);(try clear yY);(try clear Hk);(try clear Hl);(try clear Hm);(try clear Hn);(try clear Ho);(try clear nI);(try clear nJ);(try clear pD);(try clear pE);(try clear pF);(try clear tU);(try clear tV);(try clear tW);(try clear tX)
         (try clear tY);(try clear p2)
         obtain⟨dN,rfl,HA,HK3,dK,hJ,eU,cE,cF,cB,cA,HB⟩:=hrel
         cases gk with
         |zero=>exact absurd HA.out (by simp [regletlaw16_MachineDerives.l1])
         |succ k3=>
          have H:=HA.out;clear HA;simp only [regletlaw16_MachineDerives.l1] at H
          by_cases c41:dN<(cW.length:Int)
          ·rw [if_pos c41] at H
           have Bi:decide (dN<(cW.length:Int))=true:=decide_eq_true c41;clear c41
           by_cases c42:0≤dN
           rotate_left
           ·rw [if_neg c42] at H
            exact absurd H (by simp)
           rw [if_pos c42] at H;have Qe:decide (0≤dN)=true:=decide_eq_true c42;clear c42;obtain⟨bq43,hbq43⟩:∃b_:Bool,b_=((rd_T43 cW dN).f0):=⟨_,rfl⟩;replace H:(if bq43=true then(regletlaw16_MachineDerives.l1 k3 true t643 t646 cW cM (wrap64 (dN+1)) cU cO dA dB bQ) else(if dN=(cW.length:Int) then(none) else(if 0≤cM then(if cM<(t646.length:Int) then(if(rd t646 cM)<0 then(none) else(if(rd t646 cM)≥(bQ.length:Int) then(none) else(if 0≤(rd t646 cM) then(if(rd t646 cM)<(bQ.length:Int) then(if((rd_T35 bQ (rd t646 cM)).f0)=((rd_T43 cW dN).f1) then(if dN≤(cW.length:Int) then((some (cW.take (dN:Int).toNat:List (S43))).bind fun y660=>(if([]:List (S43)).length+y660.length<8796093022208 then((some (([]:List (S43))++y660:List (S43))).bind fun y664=>(if y664.length+((rd_T35 bQ (rd t646 cM)).f1).length<8796093022208 then((some (y664++((rd_T35 bQ (rd t646 cM)).f1):List (S43))).bind fun y669=>(if 0≤(wrap64 (dN+1)) then(if(wrap64 (dN+1))≤(cW.length:Int) then((some (cW.drop ((wrap64 (dN+1)):Int).toNat:List (S43))).bind fun y672=>(if y669.length+y672.length<8796093022208 then(regletlaw16_MachineDerives.l0 k3 true t643 t646 (y669++y672) (wrap64 (cM+1)) cU cO dA dB bQ) else(none))) else(none)) else(none))) else(none))) else(none))) else(none)) else(none)) else(none)) else(none)))) else(none)) else(none))))=some r:=by rw [←hbq43] at H;exact H
           have Nbq43:=aM hbq43;clear hbq43
           by_cases c44:bq43=true
           ·subst c44
            have H1:(regletlaw16_MachineDerives.l1 k3 true t643 t646 cW cM (wrap64 (dN+1)) cU cO dA dB bQ)=some r:=by rw [if_pos rfl] at H;exact H
            clear H;have H:=H1;clear H1;have H':=aM H;clear H;obtain⟨GA,GB,Sp⟩:=Kd.R_slice eU.out;subst Sp;have p654:0≤(dN:Int):=of_decide_eq_true (by first|(with_reducible assumption)|assumption);have q654:dN<(cW.length:Int):=of_decide_eq_true (by first|(with_reducible assumption)|assumption);obtain⟨iL,e654,zB,Pa⟩:=at_T43 (aF eU.out).2.2 dN p654 q654
            (try rw [←Nbq43.out] at zB)
            cases e654;replace p654:=eq_true p654;replace q654:=eq_true q654;go_wp2
            go_roundg k3
            case measure=>have:=HJ6.out;have:=HK2.out;have:=HK3.out;omega
            case rel=>exact⟨(wrap64 (dN+1)),(by first|rfl|(simp;done)|(simp [*];done)),H',⟨by have:=HJ6.out;have:=HK2.out;have:=HK3.out;omega⟩,⟨gR dK.out⟩,⟨gR hJ.out⟩,⟨gR eU.out⟩,⟨gR cE.out⟩,⟨gR cF.out⟩,⟨gS cB.out⟩,⟨gB cA.out⟩,⟨gW HB.out⟩⟩
           ·replace c44:=Bool.eq_false_iff.mpr c44
            subst c44;have H1:(if dN=(cW.length:Int) then(none) else(if 0≤cM then(if cM<(t646.length:Int) then(if(rd t646 cM)<0 then(none) else(if(rd t646 cM)≥(bQ.length:Int) then(none) else(if 0≤(rd t646 cM) then(if(rd t646 cM)<(bQ.length:Int) then(if((rd_T35 bQ (rd t646 cM)).f0)=((rd_T43 cW dN).f1) then(if dN≤(cW.length:Int) then((some (cW.take (dN:Int).toNat:List (S43))).bind fun y660=>(if([]:List (S43)).length+y660.length<8796093022208 then((some (([]:List (S43))++y660:List (S43))).bind fun y664=>(if y664.length+((rd_T35 bQ (rd t646 cM)).f1).length<8796093022208 then((some (y664++((rd_T35 bQ (rd t646 cM)).f1):List (S43))).bind fun y669=>(if 0≤(wrap64 (dN+1)) then(if(wrap64 (dN+1))≤(cW.length:Int) then((some (cW.drop ((wrap64 (dN+1)):Int).toNat:List (S43))).bind fun y672=>(if y669.length+y672.length<8796093022208 then(regletlaw16_MachineDerives.l0 k3 true t643 t646 (y669++y672) (wrap64 (cM+1)) cU cO dA dB bQ) else(none))) else(none)) else(none))) else(none))) else(none))) else(none)) else(none)) else(none)) else(none)))) else(none)) else(none)))=some r:=by rw [if_neg (show ¬(false=true) by decide)] at H;exact H
            clear H;have H:=H1;clear H1
            by_cases c46:dN=(cW.length:Int)
            ·rw [if_pos c46] at H
             have zV:(dN==(cW.length:Int))=true:=beq_iff_eq.mpr c46;have zW:(dN !=(cW.length:Int))=false:=bne_eq_false_iff_eq.mpr c46;clear c46;exact absurd H (by simp)
            ·rw [if_neg c46] at H
             have zV:(dN==(cW.length:Int))=false:=beq_eq_false_iff_ne.mpr c46;have zW:(dN !=(cW.length:Int))=true:=bne_iff_ne.mpr c46
             by_cases c47:0≤cM
             rotate_left
             ·rw [if_neg c47] at H
              exact absurd H (by simp)
             rw [if_pos c47] at H;have Im:decide (0≤cM)=true:=decide_eq_true c47;clear c47
             by_cases c48:cM<(t646.length:Int)
             rotate_left
             ·rw [if_neg c48] at H
              exact absurd H (by simp)
             rw [if_pos c48] at H;have Qf:decide (cM<(t646.length:Int))=true:=decide_eq_true c48;clear c48
             by_cases c49:(rd t646 cM)<0
             ·rw [if_pos c49] at H
              have Xv:decide ((rd t646 cM)<0)=true:=decide_eq_true c49;clear c49;exact absurd H (by simp)
             ·rw [if_neg c49] at H
              have Xv:decide ((rd t646 cM)<0)=false:=decide_eq_false c49;clear c49
              by_cases c50:(rd t646 cM)≥(bQ.length:Int)
              ·rw [if_pos c50] at H
               have Xw:decide ((bQ.length:Int)≤(rd t646 cM))=true:=decide_eq_true c50;clear c50;exact absurd H (by simp)
              ·rw [if_neg c50] at H
               have Xw:decide ((bQ.length:Int)≤(rd t646 cM))=false:=decide_eq_false c50;clear c50
               by_cases c51:0≤(rd t646 cM)
               rotate_left
               ·rw [if_neg c51] at H
                exact absurd H (by simp)
               rw [if_pos c51] at H;have JM:decide (0≤(rd t646 cM))=true:=decide_eq_true c51;clear c51
               by_cases c52:(rd t646 cM)<(bQ.length:Int)
               rotate_left
               ·rw [if_neg c52] at H
                exact absurd H (by simp)
               rw [if_pos c52] at H;have JN:decide ((rd t646 cM)<(bQ.length:Int))=true:=decide_eq_true c52;clear c52
               by_cases c53:((rd_T35 bQ (rd t646 cM)).f0)=((rd_T43 cW dN).f1)
               rotate_left
               ·rw [if_neg c53] at H
                exact absurd H (by simp)
               rw [if_pos c53] at H;have JO:(((rd_T35 bQ (rd t646 cM)).f0)==((rd_T43 cW dN).f1))=true:=beq_iff_eq.mpr c53;have JP:(((rd_T35 bQ (rd t646 cM)).f0) !=((rd_T43 cW dN).f1))=false:=bne_eq_false_iff_eq.mpr c53;clear c53;have JQ:=eq_true (of_decide_eq_true (by first|(with_reducible assumption)|assumption):0≤dN)
               by_cases c55:dN≤(cW.length:Int)
               rotate_left
               ·rw [if_neg c55] at H
                exact absurd H (by simp)
               rw [if_pos c55] at H;have JR:=eq_true c55;have JS:decide (dN≤(cW.length:Int))=true:=decide_eq_true c55;clear c55;obtain⟨y660,Ck⟩:∃y_:List (S43),y_=(cW.take (dN:Int).toNat):=⟨_,rfl⟩;replace H:(if([]:List (S43)).length+y660.length<8796093022208 then((some (([]:List (S43))++y660:List (S43))).bind fun y664=>(if y664.length+((rd_T35 bQ (rd t646 cM)).f1).length<8796093022208 then((some (y664++((rd_T35 bQ (rd t646 cM)).f1):List (S43))).bind fun y669=>(if 0≤(wrap64 (dN+1)) then(if(wrap64 (dN+1))≤(cW.length:Int) then((some (cW.drop ((wrap64 (dN+1)):Int).toNat:List (S43))).bind fun y672=>(if y669.length+y672.length<8796093022208 then(regletlaw16_MachineDerives.l0 k3 true t643 t646 (y669++y672) (wrap64 (cM+1)) cU cO dA dB bQ) else(none))) else(none)) else(none))) else(none))) else(none))=some r:=by first|(rw [Ck];with_reducible exact H)|(have H2_:=(Option.bind_some _ _).symm.trans H;rw [Ck];with_reducible exact H2_)|(have H2_:=(Option.bind_some _ _).symm.trans H;with_reducible exact H2_)|with_reducible exact H|(rw [Ck];exact H)|exact H
               have Cl:=aM Ck;clear Ck
               by_cases c56:([]:List (S43)).length+y660.length<8796093022208
               rotate_left
               ·rw [if_neg c56] at H
                exact absurd H (by simp)
               rw [if_pos c56] at H;have Xx:=aM c56;clear c56;obtain⟨y664,Cm⟩:∃y_:List (S43),y_=(([]:List (S43))++y660):=⟨_,rfl⟩;replace H:(if y664.length+((rd_T35 bQ (rd t646 cM)).f1).length<8796093022208 then((some (y664++((rd_T35 bQ (rd t646 cM)).f1):List (S43))).bind fun y669=>(if 0≤(wrap64 (dN+1)) then(if(wrap64 (dN+1))≤(cW.length:Int) then((some (cW.drop ((wrap64 (dN+1)):Int).toNat:List (S43))).bind fun y672=>(if y669.length+y672.length<8796093022208 then(regletlaw16_MachineDerives.l0 k3 true t643 t646 (y669++y672) (wrap64 (cM+1)) cU cO dA dB bQ) else(none))) else(none)) else(none))) else(none))=some r:=by first|(rw [Cm];with_reducible exact H)|(have H2_:=(Option.bind_some _ _).symm.trans H;rw [Cm];with_reducible exact H2_)|(have H2_:=(Option.bind_some _ _).symm.trans H;with_reducible exact H2_)|with_reducible exact H|(rw [Cm];exact H)|exact H
               have Xy:=aM Cm;clear Cm
               by_cases c57:y664.length+((rd_T35 bQ (rd t646 cM)).f1).length<8796093022208
               rotate_left
               ·rw [if_neg c57] at H
                exact absurd H (by simp)
               rw [if_pos c57] at H;have Xz:=aM c57;clear c57;obtain⟨y669,Cn⟩:∃y_:List (S43),y_=(y664++((rd_T35 bQ (rd t646 cM)).f1)):=⟨_,rfl⟩;replace H:(if 0≤(wrap64 (dN+1)) then(if(wrap64 (dN+1))≤(cW.length:Int) then((some (cW.drop ((wrap64 (dN+1)):Int).toNat:List (S43))).bind fun y672=>(if y669.length+y672.length<8796093022208 then(regletlaw16_MachineDerives.l0 k3 true t643 t646 (y669++y672) (wrap64 (cM+1)) cU cO dA dB bQ) else(none))) else(none)) else(none))=some r:=by first|(rw [Cn];with_reducible exact H)|(have H2_:=(Option.bind_some _ _).symm.trans H;rw [Cn];with_reducible exact H2_)|(have H2_:=(Option.bind_some _ _).symm.trans H;with_reducible exact H2_)|with_reducible exact H|(rw [Cn];exact H)|exact H
               have Ya:=aM Cn;clear Cn;obtain⟨nC,Js⟩:∃j_:Int,(wrap64 (dN+1))=j_:=⟨_,rfl⟩;replace H:(if 0≤(nC) then(if(nC)≤(cW.length:Int) then((some (cW.drop ((nC):Int).toNat:List (S43))).bind fun y672=>(if y669.length+y672.length<8796093022208 then(regletlaw16_MachineDerives.l0 k3 true t643 t646 (y669++y672) (wrap64 (cM+1)) cU cO dA dB bQ) else(none))) else(none)) else(none))=some r:=by first|(rw [Js] at H;exact H)|(simp only [Js] at H ⊢;exact H)
               have hji58w:(IntKind.i64.wrap (dN+1))=nC:=(i64_w _).trans Js
               by_cases c59:0≤(nC)
               rotate_left
               ·rw [if_neg c59] at H
                exact absurd H (by simp)
               rw [if_pos c59] at H;have JT:=eq_true c59;have JU:decide (0≤(nC))=true:=decide_eq_true c59;clear c59
               by_cases c60:(nC)≤(cW.length:Int)
               rotate_left
               ·rw [if_neg c60] at H
                exact absurd H (by simp)
               rw [if_pos c60] at H;have JV:=eq_true c60;have JW:decide ((nC)≤(cW.length:Int))=true:=decide_eq_true c60;clear c60;obtain⟨y672,Co⟩:∃y_:List (S43),y_=(cW.drop ((nC):Int).toNat):=⟨_,rfl⟩;replace H:(if y669.length+y672.length<8796093022208 then(regletlaw16_MachineDerives.l0 k3 true t643 t646 (y669++y672) (wrap64 (cM+1)) cU cO dA dB bQ) else(none))=some r:=by first|(rw [Co];with_reducible exact H)|(have H2_:=(Option.bind_some _ _).symm.trans H;rw [Co];with_reducible exact H2_)|(have H2_:=(Option.bind_some _ _).symm.trans H;with_reducible exact H2_)|with_reducible exact H|(rw [Co];exact H)|exact H
               have Jt:=aM Co;clear Co
               by_cases c61:y669.length+y672.length<8796093022208
               rotate_left
               ·rw [if_neg c61] at H
                exact absurd H (by simp)
               rw [if_pos c61] at H;have Yb:=aM c61;clear c61;obtain⟨y676,Cp⟩:∃y_:List (S43),y_=(y669++y672):=⟨_,rfl⟩;replace H:(regletlaw16_MachineDerives.l0 k3 true t643 t646 y676 (wrap64 (cM+1)) cU cO dA dB bQ)=some r:=by first|(rw [Cp];with_reducible exact H)|(have H2_:=(Option.bind_some _ _).symm.trans H;rw [Cp];with_reducible exact H2_)|(have H2_:=(Option.bind_some _ _).symm.trans H;with_reducible exact H2_)|with_reducible exact H|(rw [Cp];exact H)|exact H
               have Yc:=aM Cp;clear Cp;have H':=aM H;clear H;obtain⟨LD,oE,II⟩:=Kd.R_slice eU.out;subst II;have p654:0≤(dN:Int):=of_decide_eq_true (by first|(with_reducible assumption)|assumption);have q654:dN<(cW.length:Int):=of_decide_eq_true (by first|(with_reducible assumption)|assumption);obtain⟨iL,e654,zB,Pa⟩:=at_T43 (aF eU.out).2.2 dN p654 q654
               (try rw [←Nbq43.out] at zB)
               cases e654;replace p654:=eq_true p654;replace q654:=eq_true q654
               try go_wp2
               have cH:=aM (aC dK.out);have cI:=aM (aC hJ.out);have cK:=aM (aC eU.out);have cQ:=aM (aC cE.out);have dI:=aM (aC cF.out);have dR:=aM (aW cB.out);have dV:=aM (aK cA.out);have eV:=aM (aO HB.out);clear dK hJ eU cE cF cB cA HB;have dK:=cH;have hJ:=cI;have eU:=cK;have cE:=cQ;have cF:=dI;have cB:=dR;have cA:=dV;have HB:=eV;clear cH cI cK cQ dI dR dV eV;have p655:0≤(cM:Int):=of_decide_eq_true (by first|(with_reducible assumption)|assumption);have q655:cM<(t646.length:Int):=of_decide_eq_true (by first|(with_reducible assumption)|assumption);obtain⟨wB,e655,Hp⟩:=Kd.at_int (aF hJ.out).2.2 cM p655 q655
               cases e655;replace p655:=eq_true p655;replace q655:=eq_true q655;have p656:0≤(cM:Int):=of_decide_eq_true (by first|(with_reducible assumption)|assumption);have q656:cM<(t646.length:Int):=of_decide_eq_true (by first|(with_reducible assumption)|assumption);obtain⟨Yd,e656,Hq⟩:=Kd.at_int (aF hJ.out).2.2 cM p656 q656;obtain rfl:wB=Yd:=(by injection e656);replace p656:=eq_true p656;replace q656:=eq_true q656;have p657:0≤(cM:Int):=of_decide_eq_true (by first|(with_reducible assumption)|assumption);have q657:cM<(t646.length:Int):=of_decide_eq_true (by first|(with_reducible assumption)|assumption);obtain⟨Ye,e657,Hr⟩:=Kd.at_int (aF hJ.out).2.2 cM p657 q657;obtain rfl:wB=Ye:=(by injection e657);replace p657:=eq_true p657;replace q657:=eq_true q657;have p658:0≤((rd t646 cM):Int):=of_decide_eq_true (by first|(with_reducible assumption)|assumption);have q658:(rd t646 cM)<(bQ.length:Int):=of_decide_eq_true (by first|(with_reducible assumption)|assumption);obtain⟨nD,wC,wD,e658,Hs,zC,Ht,Hu⟩:=at_T35 (Kd.S_reads' cB.out).2.2 (rd t646 cM) p658 q658
               cases e658;obtain⟨ce658,hce658,hMe658,hcc658⟩:=Kd.S_get cB.out z35 (rd t646 cM) p658 (by first|exact q658|exact of_decide_eq_true (by first|(with_reducible assumption)|assumption)|(have e_:=(Kd.S_reads' cB.out).1;omega));obtain⟨ve658_1,rfl,ge658_1⟩:=k35_openM hMe658;have hv658_1:=hcc658 1 _ rfl;rw [add_field _ _ 1 (by omega)] at hv658_1;replace hv658_1:=Option.some.inj (hv658_1.symm.trans zC);rw [hv658_1] at ge658_1;have HL658_1:=aM (show Kd.R k43 43 _ _ _ _ ((rd_T35 bQ (rd t646 cM)).f1) from ge658_1);clear hv658_1 ge658_1 hcc658 hce658;have Pb:=aM Hu;have DU:=aM Ht;clear Hu Ht;replace p658:=eq_true p658;replace q658:=eq_true q658;have p659:0≤(dN:Int):=of_decide_eq_true (by first|(with_reducible assumption)|assumption);have q659:dN<(cW.length:Int):=of_decide_eq_true (by first|(with_reducible assumption)|assumption);obtain⟨Yf,e659,zD,Hv⟩:=at_T43 (aF eU.out).2.2 dN p659 q659
               (try rw [←Nbq43.out] at zD)
               obtain rfl:iL=Yf:=(by injection e659);replace p659:=eq_true p659;replace q659:=eq_true q659;refine start_ (n:=38) (S:=fun w'=>w'.cell? ⟨cN,0,none⟩=some (.slice oY cU.length oI)∧w'.cell? ⟨cN,1,none⟩=some (.slice sK cO.length rB)∧w'.cell? ⟨cN,2,none⟩=some (.int .i64 dA)∧w'.cell? ⟨cN,3,none⟩=some (.int .i64 dB)∧w'.cell? ⟨cN,4,none⟩=some (.slice (some nD) bQ.length fL)∧w'.cell? (wB.add (cM).toNat)=some (.int .i64 (rd t646 cM))∧w'.cell? (wB.add (cM).toNat)=some (.int .i64 (rd t646 cM))∧w'.cell? (wB.add (cM).toNat)=some (.int .i64 (rd t646 cM))∧w'.cell? (nD.add (((rd t646 cM)).toNat * 2))=some (.int .i64 ((rd_T35 bQ (rd t646 cM)).f0))∧w'.cell? ⟨(nD.add (((rd t646 cM)).toNat * 2)).block,(nD.add (((rd t646 cM)).toNat * 2)).off+1,none⟩=some (.slice wC ((rd_T35 bQ (rd t646 cM)).f1).length wD)∧w'.cell? (iL.add ((dN).toNat * 2))=some (.bool (false))∧w'.cell? ⟨(iL.add ((dN).toNat * 2)).block,(iL.add ((dN).toNat * 2)).off+1,none⟩=some (.int .i64 ((rd_T43 cW dN).f1))) (ds:= []) #[F,F,F,F,F,F,F,F,F,F,F,F,F,F,F,F,F,F,F,F,F,F,F,F,F,F,F,F,F,F,F,F,F,F,F,F,F,F] (by kernel_rfl) rfl rfl ⟨(aG cA.out 0).trans rfl,(aG cA.out 1).trans rfl,(aG cA.out 2).trans rfl,(aG cA.out 3).trans rfl,(aG cA.out 4).trans rfl,Hp,Hq,Hr,Hs,zC,zD,Hv⟩ (fun hHeld=>?_);refine with_tabW regletlaw16_MachineDerives.tab19 regletlaw16_MachineDerives.bits19 (fun HT_ HW_=>?_)
               generalize wr.drew=w63 at dK hJ eU cE cF cB cA HB HL658_1 Pb Hp Hq Hr Hs zC zD Hv hHeld ⊢;refine pure_ (i:=0) (N:=some 66) (v:=?_) (a':=?_) #[T,F,F,F,F,F,F,F,F,F,F,F,F,F,F,F,F,F,F,F,F,F,F,F,F,F,F,F,F,F,F,F,F,F,F,F,F,F] rfl rfl (any_of HT_.out (by kernel_rfl)) (fun _ _ _ h=>h) (Or.inl ⟨by rfl,?_⟩) ?_ ?_
               rotate_left;(intro w';go_simp;with_reducible rfl);rotate_left;(simp only [pq];rfl)
               refine pure_ (i:=1) (N:=some 67) (v:=?_) (a':=?_) #[T,T,F,F,F,F,F,F,F,F,F,F,F,F,F,F,F,F,F,F,F,F,F,F,F,F,F,F,F,F,F,F,F,F,F,F,F,F] rfl rfl (any_of HT_.out (by kernel_rfl)) (fun _ _ _ h=>h) (Or.inl ⟨by rfl,?_⟩) ?_ ?_
               rotate_left;(intro w';go_simp;with_reducible rfl);rotate_left;(simp only [pq];rfl)
               refine pure_ (i:=2) (N:=some 68) (v:=?_) (a':=?_) #[T,T,T,F,F,F,F,F,F,F,F,F,F,F,F,F,F,F,F,F,F,F,F,F,F,F,F,F,F,F,F,F,F,F,F,F,F,F] rfl rfl (any_of HT_.out (by kernel_rfl)) (fun _ _ _ h=>h) (Or.inl ⟨by rfl,?_⟩) ?_ ?_
               rotate_left;(intro w';go_simp;with_reducible rfl);rotate_left;(simp only [pq];rfl)
               refine pure_ (i:=3) (N:=some 69) (v:=?_) (a':=?_) #[T,T,T,T,F,F,F,F,F,F,F,F,F,F,F,F,F,F,F,F,F,F,F,F,F,F,F,F,F,F,F,F,F,F,F,F,F,F] rfl rfl (any_of HT_.out (by kernel_rfl)) (fun _ _ _ h=>h) (Or.inl ⟨by rfl,?_⟩) ?_ ?_
               rotate_left;(intro w';go_simp;with_reducible rfl);rotate_left;(simp only [pq];rfl)
               refine pure_ (i:=4) (N:=some 70) (v:=?_) (a':=?_) #[T,T,T,T,T,F,F,F,F,F,F,F,F,F,F,F,F,F,F,F,F,F,F,F,F,F,F,F,F,F,F,F,F,F,F,F,F,F] rfl rfl (any_of HT_.out (by kernel_rfl)) (fun _ _ _ h=>h) (Or.inl ⟨by rfl,?_⟩) ?_ ?_
               rotate_left;(intro w';go_simp;with_reducible rfl);rotate_left;(simp only [pq];rfl)
               refine pure_ (i:=5) (N:=some 71) (v:=?_) (a':=?_) #[T,T,T,T,T,T,F,F,F,F,F,F,F,F,F,F,F,F,F,F,F,F,F,F,F,F,F,F,F,F,F,F,F,F,F,F,F,F] rfl rfl (any_of HT_.out (by kernel_rfl)) (fun _ _ _ h=>h) (Or.inl ⟨by rfl,?_⟩) ?_ ?_
               rotate_left;(intro w';go_simp;with_reducible rfl);rotate_left;(simp only [pq];rfl)
               refine pure_ (i:=6) (N:=some 72) (v:=?_) (a':=?_) #[T,T,T,T,T,T,T,F,F,F,F,F,F,F,F,F,F,F,F,F,F,F,F,F,F,F,F,F,F,F,F,F,F,F,F,F,F,F] rfl rfl (any_of HT_.out (by kernel_rfl)) (fun _ _ _ h=>h) (Or.inl ⟨by rfl,?_⟩) ?_ ?_
               rotate_left;(intro w';go_simp;with_reducible rfl);rotate_left;(simp only [pq];rfl)
               refine pure_ (i:=7) (N:=some 73) (v:=?_) (a':=?_) #[T,T,T,T,T,T,T,T,F,F,F,F,F,F,F,F,F,F,F,F,F,F,F,F,F,F,F,F,F,F,F,F,F,F,F,F,F,F] rfl rfl (any_of HT_.out (by kernel_rfl)) (fun _ _ _ h=>h) (Or.inl ⟨by rfl,?_⟩) ?_ ?_
               rotate_left;(intro w';go_simp;with_reducible rfl);rotate_left;(simp only [pq];rfl)
               refine take_ (i:=8) (N:=some 74) (v:=?_) (a':=?_) #[T,T,T,T,T,T,T,T,T,F,F,F,F,F,F,F,F,F,F,F,F,F,F,F,F,F,F,F,F,F,F,F,F,F,F,F,F,F] rfl rfl (take_ofW HT_.out HW_.out (by kernel_rfl)) (fun _ _ _ h=>h) (Or.inl ⟨by rfl,?_⟩) hHeld ?_ ?_
               rotate_left
               ·rintro w' ⟨s0,s1,s2,s3,s4,s5,s6,s7,s8,s9,s10,s11⟩
                go_simp
                with_reducible rfl
               rotate_left
               ·simp only [pq]
                rfl
               refine pure_ (i:=9) (N:=some 75) (v:=?_) (a':=?_) #[T,T,T,T,T,T,T,T,T,T,F,F,F,F,F,F,F,F,F,F,F,F,F,F,F,F,F,F,F,F,F,F,F,F,F,F,F,F] rfl rfl (any_of HT_.out (by kernel_rfl)) (fun _ _ _ h=>h) (Or.inl ⟨by rfl,?_⟩) ?_ ?_
               rotate_left;(intro w';go_simp;with_reducible rfl);rotate_left;(simp only [pq];rfl)
               refine pure_ (i:=10) (N:=some 76) (v:=?_) (a':=?_) #[T,T,T,T,T,T,T,T,T,T,T,F,F,F,F,F,F,F,F,F,F,F,F,F,F,F,F,F,F,F,F,F,F,F,F,F,F,F] rfl rfl (any_of HT_.out (by kernel_rfl)) (fun _ _ _ h=>h) (Or.inl ⟨by rfl,?_⟩) ?_ ?_
               rotate_left;(intro w';go_simp;with_reducible rfl);rotate_left;(simp only [pq];rfl)
               refine pure_ (i:=11) (N:=some 77) (v:=?_) (a':=?_) #[T,T,T,T,T,T,T,T,T,T,T,T,F,F,F,F,F,F,F,F,F,F,F,F,F,F,F,F,F,F,F,F,F,F,F,F,F,F] rfl rfl (any_of HT_.out (by kernel_rfl)) (fun _ _ _ h=>h) (Or.inl ⟨by rfl,?_⟩) ?_ ?_
               rotate_left;(intro w';go_simp;with_reducible rfl);rotate_left;(simp only [pq];rfl)
               refine pure_ (i:=12) (N:=some 78) (v:=?_) (a':=?_) #[T,T,T,T,T,T,T,T,T,T,T,T,T,F,F,F,F,F,F,F,F,F,F,F,F,F,F,F,F,F,F,F,F,F,F,F,F,F] rfl rfl (any_of HT_.out (by kernel_rfl)) (fun _ _ _ h=>h) (Or.inl ⟨by rfl,?_⟩) ?_ ?_
               rotate_left;(intro w';go_simp;with_reducible rfl);rotate_left;(simp only [pq];rfl)
               refine pure_ (i:=13) (N:=some 79) (v:=?_) (a':=?_) #[T,T,T,T,T,T,T,T,T,T,T,T,T,T,F,F,F,F,F,F,F,F,F,F,F,F,F,F,F,F,F,F,F,F,F,F,F,F] rfl rfl (any_of HT_.out (by kernel_rfl)) (fun _ _ _ h=>h) (Or.inl ⟨by rfl,?_⟩) ?_ ?_
               rotate_left;(intro w';go_simp;with_reducible rfl);rotate_left;(simp only [pq];rfl)
               refine pure_ (i:=14) (N:=some 80) (v:=?_) (a':=?_) #[T,T,T,T,T,T,T,T,T,T,T,T,T,T,T,F,F,F,F,F,F,F,F,F,F,F,F,F,F,F,F,F,F,F,F,F,F,F] rfl rfl (any_of HT_.out (by kernel_rfl)) (fun _ _ _ h=>h) (Or.inl ⟨by rfl,?_⟩) ?_ ?_
               rotate_left;(intro w';go_simp;with_reducible rfl);rotate_left;(simp only [pq];rfl)
               refine pure_ (i:=16) (N:=some 82) (v:=?_) (a':=?_) #[T,T,T,T,T,T,T,T,T,T,T,T,T,T,T,F,T,F,F,F,F,F,F,F,F,F,F,F,F,F,F,F,F,F,F,F,F,F] rfl rfl (any_of HT_.out (by kernel_rfl)) (fun _ _ _ h=>h) (Or.inl ⟨by rfl,?_⟩) ?_ ?_
               rotate_left;(intro w';go_simp;with_reducible rfl);rotate_left;(simp only [pq];rfl)
               refine take_ (i:=15) (N:=some 81) (v:=?_) (a':=?_) #[T,T,T,T,T,T,T,T,T,T,T,T,T,T,T,T,T,F,F,F,F,F,F,F,F,F,F,F,F,F,F,F,F,F,F,F,F,F] rfl rfl (take_ofW HT_.out HW_.out (by kernel_rfl)) (fun _ _ _ h=>h) (Or.inl ⟨by rfl,?_⟩) hHeld ?_ ?_
               rotate_left
               ·rintro w' ⟨s0,s1,s2,s3,s4,s5,s6,s7,s8,s9,s10,s11⟩
                go_simp
                with_reducible rfl
               rotate_left
               ·simp only [pq]
                rfl
               refine take_ (i:=17) (N:=some 83) (v:=?_) (a':=?_) #[T,T,T,T,T,T,T,T,T,T,T,T,T,T,T,T,T,T,F,F,F,F,F,F,F,F,F,F,F,F,F,F,F,F,F,F,F,F] rfl rfl (take_ofW HT_.out HW_.out (by kernel_rfl)) (fun _ _ _ h=>h) (Or.inl ⟨by rfl,?_⟩) hHeld ?_ ?_
               rotate_left
               ·rintro w' ⟨s0,s1,s2,s3,s4,s5,s6,s7,s8,s9,s10,s11⟩
                go_simp
                with_reducible rfl
               rotate_left
               ·simp only [pq]
                rfl
               refine pure_ (i:=18) (N:=some 84) (v:=?_) (a':=?_) #[T,T,T,T,T,T,T,T,T,T,T,T,T,T,T,T,T,T,T,F,F,F,F,F,F,F,F,F,F,F,F,F,F,F,F,F,F,F] rfl rfl (any_of HT_.out (by kernel_rfl)) (fun _ _ _ h=>h) (Or.inl ⟨by rfl,?_⟩) ?_ ?_
               rotate_left;(intro w';go_simp;with_reducible rfl);rotate_left;(simp only [pq];rfl)
               refine pure_ (i:=19) (N:=some 85) (v:=?_) (a':=?_) #[T,T,T,T,T,T,T,T,T,T,T,T,T,T,T,T,T,T,T,T,F,F,F,F,F,F,F,F,F,F,F,F,F,F,F,F,F,F] rfl rfl (any_of HT_.out (by kernel_rfl)) (fun _ _ _ h=>h) (Or.inl ⟨by rfl,?_⟩) ?_ ?_
               rotate_left;(intro w';go_simp;with_reducible rfl);rotate_left;(simp only [pq];rfl)
               refine pure_ (i:=20) (N:=some 86) (v:=?_) (a':=?_) #[T,T,T,T,T,T,T,T,T,T,T,T,T,T,T,T,T,T,T,T,T,F,F,F,F,F,F,F,F,F,F,F,F,F,F,F,F,F] rfl rfl (any_of HT_.out (by kernel_rfl)) (fun _ _ _ h=>h) (Or.inl ⟨by rfl,?_⟩) ?_ ?_
               rotate_left;(intro w';go_simp;with_reducible rfl);rotate_left;(simp only [pq];rfl)
               refine pure_ (i:=21) (N:=some 87) (v:=?_) (a':=?_) #[T,T,T,T,T,T,T,T,T,T,T,T,T,T,T,T,T,T,T,T,T,T,F,F,F,F,F,F,F,F,F,F,F,F,F,F,F,F] rfl rfl (any_of HT_.out (by kernel_rfl)) (fun _ _ _ h=>h) (Or.inl ⟨by rfl,?_⟩) ?_ ?_
               rotate_left;(intro w';go_simp;with_reducible rfl);rotate_left;(simp only [pq];rfl)
               refine pure_ (i:=22) (N:=some 88) (v:=?_) (a':=?_) #[T,T,T,T,T,T,T,T,T,T,T,T,T,T,T,T,T,T,T,T,T,T,T,F,F,F,F,F,F,F,F,F,F,F,F,F,F,F] rfl rfl (any_of HT_.out (by kernel_rfl)) (fun _ _ _ h=>h) (Or.inl ⟨by rfl,?_⟩) ?_ ?_
               rotate_left;(intro w';go_simp;with_reducible rfl);rotate_left;(simp only [pq];rfl)
               refine pure_ (i:=24) (N:=some 90) (v:=?_) (a':=?_) #[T,T,T,T,T,T,T,T,T,T,T,T,T,T,T,T,T,T,T,T,T,T,T,F,T,F,F,F,F,F,F,F,F,F,F,F,F,F] rfl rfl (any_of HT_.out (by kernel_rfl)) (fun _ _ _ h=>h) (Or.inl ⟨by rfl,?_⟩) ?_ ?_
               rotate_left;(intro w';go_simp;with_reducible rfl);rotate_left;(simp only [pq];rfl)
               refine pure_ (i:=25) (N:=some 91) (v:=?_) (a':=?_) #[T,T,T,T,T,T,T,T,T,T,T,T,T,T,T,T,T,T,T,T,T,T,T,F,T,T,F,F,F,F,F,F,F,F,F,F,F,F] rfl rfl (any_of HT_.out (by kernel_rfl)) (fun _ _ _ h=>h) (Or.inl ⟨by rfl,?_⟩) ?_ ?_
               rotate_left;(intro w';go_simp;with_reducible rfl);rotate_left;(simp only [pq];rfl)
               refine pure_ (i:=26) (N:=some 92) (v:=?_) (a':=?_) #[T,T,T,T,T,T,T,T,T,T,T,T,T,T,T,T,T,T,T,T,T,T,T,F,T,T,T,F,F,F,F,F,F,F,F,F,F,F] rfl rfl (any_of HT_.out (by kernel_rfl)) (fun _ _ _ h=>h) (Or.inl ⟨by rfl,?_⟩) ?_ ?_
               rotate_left;(intro w';go_simp;with_reducible rfl);rotate_left;(simp only [pq];rfl)
               refine pure_ (i:=31) (N:=some 97) (v:=?_) (a':=?_) #[T,T,T,T,T,T,T,T,T,T,T,T,T,T,T,T,T,T,T,T,T,T,T,F,T,T,T,F,F,F,F,T,F,F,F,F,F,F] rfl rfl (any_of HT_.out (by kernel_rfl)) (fun _ _ _ h=>h) (Or.inl ⟨by rfl,?_⟩) ?_ ?_
               rotate_left;(intro w';go_simp;with_reducible rfl);rotate_left;(simp only [pq];rfl)
               refine pure_ (i:=32) (N:=some 98) (v:=?_) (a':=?_) #[T,T,T,T,T,T,T,T,T,T,T,T,T,T,T,T,T,T,T,T,T,T,T,F,T,T,T,F,F,F,F,T,T,F,F,F,F,F] rfl rfl (any_of HT_.out (by kernel_rfl)) (fun _ _ _ h=>h) (Or.inl ⟨by rfl,?_⟩) ?_ ?_
               rotate_left;(intro w';go_simp;with_reducible rfl);rotate_left;(simp only [pq];rfl)
               refine pure_ (i:=33) (N:=some 99) (v:=?_) (a':=?_) #[T,T,T,T,T,T,T,T,T,T,T,T,T,T,T,T,T,T,T,T,T,T,T,F,T,T,T,F,F,F,F,T,T,T,F,F,F,F] rfl rfl (any_of HT_.out (by kernel_rfl)) (fun _ _ _ h=>h) (Or.inl ⟨by rfl,?_⟩) ?_ ?_
               rotate_left;(intro w';go_simp;with_reducible rfl);rotate_left;(simp only [pq];rfl)
               refine pure_ (i:=34) (N:=some 100) (v:=?_) (a':=?_) #[T,T,T,T,T,T,T,T,T,T,T,T,T,T,T,T,T,T,T,T,T,T,T,F,T,T,T,F,F,F,F,T,T,T,T,F,F,F] rfl rfl (any_of HT_.out (by kernel_rfl)) (fun _ _ _ h=>h) (Or.inl ⟨by rfl,?_⟩) ?_ ?_
               rotate_left;(intro w';go_simp;with_reducible rfl);rotate_left;(simp only [pq];rfl)
               refine take_ (i:=23) (N:=some 89) (v:=?_) (a':=?_) #[T,T,T,T,T,T,T,T,T,T,T,T,T,T,T,T,T,T,T,T,T,T,T,T,T,T,T,F,F,F,F,T,T,T,T,F,F,F] rfl rfl (take_ofW HT_.out HW_.out (by kernel_rfl)) (fun _ _ _ h=>h) (Or.inl ⟨by rfl,?_⟩) hHeld ?_ ?_
               rotate_left
               ·rintro w' ⟨s0,s1,s2,s3,s4,s5,s6,s7,s8,s9,s10,s11⟩
                go_simp
                with_reducible rfl
               rotate_left
               ·simp only [pq]
                rfl
               refine take_ (i:=27) (N:=some 93) (v:=?_) (a':=?_) #[T,T,T,T,T,T,T,T,T,T,T,T,T,T,T,T,T,T,T,T,T,T,T,T,T,T,T,T,F,F,F,T,T,T,T,F,F,F] rfl rfl (take_ofW HT_.out HW_.out (by kernel_rfl)) (fun _ _ _ h=>h) (Or.inl ⟨by rfl,?_⟩) hHeld ?_ ?_
               rotate_left
               ·rintro w' ⟨s0,s1,s2,s3,s4,s5,s6,s7,s8,s9,s10,s11⟩
                go_simp
                with_reducible rfl
               rotate_left
               ·simp only [pq]
                rfl
               refine pure_ (i:=28) (N:=some 94) (v:=?_) (a':=?_) #[T,T,T,T,T,T,T,T,T,T,T,T,T,T,T,T,T,T,T,T,T,T,T,T,T,T,T,T,T,F,F,T,T,T,T,F,F,F] rfl rfl (any_of HT_.out (by kernel_rfl)) (fun _ _ _ h=>h) (Or.inl ⟨by rfl,?_⟩) ?_ ?_
               rotate_left;(intro w';go_simp;with_reducible rfl);rotate_left;(simp only [pq];rfl)
               refine pure_ (i:=29) (N:=some 95) (v:=?_) (a':=?_) #[T,T,T,T,T,T,T,T,T,T,T,T,T,T,T,T,T,T,T,T,T,T,T,T,T,T,T,T,T,T,F,T,T,T,T,F,F,F] rfl rfl (any_of HT_.out (by kernel_rfl)) (fun _ _ _ h=>h) (Or.inl ⟨by rfl,?_⟩) ?_ ?_
               rotate_left;(intro w';go_simp;with_reducible rfl);rotate_left;(simp only [pq];rfl)
               refine take_ (i:=30) (N:=some 96) (v:=?_) (a':=?_) #[T,T,T,T,T,T,T,T,T,T,T,T,T,T,T,T,T,T,T,T,T,T,T,T,T,T,T,T,T,T,T,T,T,T,T,F,F,F] rfl rfl (take_ofW HT_.out HW_.out (by kernel_rfl)) (fun _ _ _ h=>h) (Or.inl ⟨by rfl,?_⟩) hHeld ?_ ?_
               rotate_left
               ·rintro w' ⟨s0,s1,s2,s3,s4,s5,s6,s7,s8,s9,s10,s11⟩
                go_simp
                with_reducible rfl
               rotate_left
               ·simp only [pq]
                rfl
               refine take_ (i:=35) (N:=some 101) (v:=?_) (a':=?_) #[T,T,T,T,T,T,T,T,T,T,T,T,T,T,T,T,T,T,T,T,T,T,T,T,T,T,T,T,T,T,T,T,T,T,T,T,F,F] rfl rfl (take_ofW HT_.out HW_.out (by kernel_rfl)) (fun _ _ _ h=>h) (Or.inl ⟨by rfl,?_⟩) hHeld ?_ ?_
               rotate_left
               ·rintro w' ⟨s0,s1,s2,s3,s4,s5,s6,s7,s8,s9,s10,s11⟩
                go_simp
                with_reducible rfl
               rotate_left
               ·simp only [pq]
                rfl
               refine pure_ (i:=36) (N:=some 102) (v:=?_) (a':=?_) #[T,T,T,T,T,T,T,T,T,T,T,T,T,T,T,T,T,T,T,T,T,T,T,T,T,T,T,T,T,T,T,T,T,T,T,T,T,F] rfl rfl (any_of HT_.out (by kernel_rfl)) (fun _ _ _ h=>h) (Or.inl ⟨by rfl,?_⟩) ?_ ?_
               rotate_left;(intro w';go_simp;with_reducible rfl);rotate_left;(simp only [pq];rfl)
               refine pure_ (i:=37) (N:=some 103) (v:=?_) (a':=?_) #[T,T,T,T,T,T,T,T,T,T,T,T,T,T,T,T,T,T,T,T,T,T,T,T,T,T,T,T,T,T,T,T,T,T,T,T,T,T] rfl rfl (any_of HT_.out (by kernel_rfl)) (fun _ _ _ h=>h) (Or.inl ⟨by rfl,?_⟩) ?_ ?_
               rotate_left;(intro w';go_simp;with_reducible rfl);rotate_left;(simp only [pq];rfl)
               refine done_ (done_of HT_.out (by kernel_rfl)) ?_
               have q64:(dN:Int)≤((cW.length:Int):Int):=of_decide_eq_true (by first|(with_reducible assumption)|assumption);obtain⟨i064,hi064,_,hsz64,_⟩:=info_parts info43;have hroom64:cW.length≤oE:=(aF eU.out).2.1;have hC64:Kd.C k43 _ (some iL) cW.length cW:=(aF eU.out).2.2;have hcut64:=cut_to (P:=Try.prog) 29 43 .i64 Try.underlying29 hi064 (some iL) cW.length oE dN (of_decide_eq_true (by first|(with_reducible assumption)|assumption)) q64 hroom64;have hr64:=Kd.C_take (m:=(dN:Int).toNat) hC64 (by omega);have Sw:y660.length=(dN:Int).toNat:=(by rw [Cl.out,List.length_take];omega);rw [←Cl.out] at hr64;rw [←Sw] at hcut64;have HR663:=aM hr64;have HC663:=aM (show y660.length≤oE from by omega);clear hr64 hC64 hroom64 hi064 hsz64;have KY64:=aM Sw;clear Sw;have KL64:=aM (show(dN:Int).toNat≤cW.length from by omega);replace q64:=eq_true q64
               try go_wp2_with (first|((with_reducible refine gate_builtin (b:= .append) (xs:=#[.tmp 104,.tmp 107]) rfl ?_);(try(refine gate_guard (by rfl) ?_;dsimp only));at_builtin;refine Kd.R_append_rows k43 (w0:=w) w.heap.size rfl (.tmp 104) (.tmp 107) 29 43 (.agg #[(.bool false),(.int .i64 0)]) 16 rfl Try.underlying29 info43 rfl (by decide) (by omega) (.slice none 0 0) ([]:List (S43)) y660 _ _ _ (fun k_=>some k_≠(.slice (some iL) cW.length oE:Value).ownBlock∧some k_≠(.slice wC ((rd_T35 bQ (rd t646 cM)).f1).length wD:Value).ownBlock) (fun _=>False) rfl rfl ?aO ?aR (fun _ _ h=>h) (fun _ h=>h.elim) ?aF ?aB ?aS ?aL ?_;(case aR=>exact gC (by repeat(first|(with_reducible exact HR663.out)|(with_reducible refine Kd.C_alloc ?_ _)|(with_reducible refine Kd.C_drewN ?_ _)|(with_reducible refine bC ?_)|exact HR663.out)));(case aB=>exact(gW HB.out));(case aF=>exact(fun k_ hk=>⟨Kd.fresh' (Kd.R_lt (gR eU.out)) k_ hk,Kd.fresh' (Kd.R_lt (gR HL658_1.out)) k_ hk⟩));(case aO=>exact((Kd.R_nil _ _ _ _ (fun k_=>some k_≠(.slice (some iL) cW.length oE:Value).ownBlock∧some k_≠(.slice wC ((rd_T35 bQ (rd t646 cM)).f1).length wD:Value).ownBlock))));(case aS=>exact(bH (gW HB.out)));(case aL=>have:=Xx.out;omega);intro v665 w65 ho hb hg hat;rw [←Xy.out] at ho;have cH:=aM (Kd.R_grown (gR dK.out) hg (fun _ _=>by simp [Value.ownBlock]));have cI:=aM (Kd.R_grown (gR hJ.out) hg (fun _ _=>by simp [Value.ownBlock]));have cK:=aM (Kd.R_after (Kd.R_apart_nil (gR eU.out)) hg hat);have cQ:=aM (Kd.R_grown (gR cE.out) hg (fun _ _=>by simp [Value.ownBlock]));have dI:=aM (Kd.R_grown (gR cF.out) hg (fun _ _=>by simp [Value.ownBlock]));have dR:=aM (Kd.S_after (Kd.S_apart_nil (gS cB.out)) hg hat);have dV:=aM (blk_grown (gB cA.out) hg (by simp [Value.ownBlock]));have eV:=aM (Kd.R_after (Kd.R_apart_nil (gR HL658_1.out)) hg hat);have fV:=aM (hb);have gQ:=aM ((show Kd.C k43 w65 (some iL) y660.length y660 from by rw [Cl.out];exact Kd.C_take (m:=(dN:Int).toNat) ((aF (Kd.R_after (Kd.R_apart_nil (gR eU.out)) hg hat)).2.2) KL64.out));have eS:=aM (ho);clear dK;clear hJ;clear eU;clear cE;clear cF;clear cB;clear cA;clear HL658_1;clear HB;clear HR663;have dK:=cH;have hJ:=cI;have eU:=cK;have cE:=cQ;have cF:=dI;have cB:=dR;have cA:=dV;have HL658_1:=eV;have HB:=fV;have HR663:=gQ;have oZ:=eS;clear cH cI cK cQ dI dR dV eV fV gQ eS;clear ho hb hg hat))
               have cH:=aM (aC dK.out);have cI:=aM (aC hJ.out);have cK:=aM (aC eU.out);have cQ:=aM (aC cE.out);have dI:=aM (aC cF.out);have dR:=aM (aW cB.out);have dV:=aM (aC HL658_1.out);have eV:=aM (aC oZ.out);have fV:=aM (aK cA.out);have gQ:=aM (bC HR663.out);have eS:=aM (aO HB.out);clear dK hJ eU cE cF cB HL658_1 oZ cA HR663 HB;have dK:=cH;have hJ:=cI;have eU:=cK;have cE:=cQ;have cF:=dI;have cB:=dR;have HL658_1:=dV;have oZ:=eV;have cA:=fV;have HR663:=gQ;have HB:=eS;clear cH cI cK cQ dI dR dV eV fV gQ eS;have p667:0≤(cM:Int):=of_decide_eq_true (by first|(with_reducible assumption)|assumption);have q667:cM<(t646.length:Int):=of_decide_eq_true (by first|(with_reducible assumption)|assumption);obtain⟨Yg,e667,zE⟩:=Kd.at_int (aF hJ.out).2.2 cM p667 q667;obtain rfl:wB=Yg:=(by injection e667);replace p667:=eq_true p667;replace q667:=eq_true q667;have p668:0≤((rd t646 cM):Int):=of_decide_eq_true (by first|(with_reducible assumption)|assumption);have q668:(rd t646 cM)<(bQ.length:Int):=of_decide_eq_true (by first|(with_reducible assumption)|assumption);obtain⟨Yh,Sx,Sy,e668,zF,vB,Hw,Hx⟩:=at_T35 (Kd.S_reads' cB.out).2.2 (rd t646 cM) p668 q668;obtain rfl:nD=Yh:=(by injection e668);obtain⟨ce668,hce668,hMe668,hcc668⟩:=Kd.S_get cB.out z35 (rd t646 cM) p668 (by first|exact q668|exact of_decide_eq_true (by first|(with_reducible assumption)|assumption)|(have e_:=(Kd.S_reads' cB.out).1;omega));obtain⟨ve668_1,rfl,ge668_1⟩:=k35_openM hMe668;have hv668_1:=hcc668 1 _ rfl;rw [add_field _ _ 1 (by omega)] at hv668_1;replace hv668_1:=Option.some.inj (hv668_1.symm.trans vB);rw [hv668_1] at ge668_1;have HL668_1:=aM (show Kd.R k43 43 _ _ _ _ ((rd_T35 bQ (rd t646 cM)).f1) from ge668_1);clear hv668_1 ge668_1 hcc668 hce668;have zG:=aM Hx;have DV:=aM Hw;clear Hx Hw;replace p668:=eq_true p668;replace q668:=eq_true q668;refine start_ (n:=12) (S:=fun w'=>w'.cell? ⟨cN,0,none⟩=some (.slice oY cU.length oI)∧w'.cell? ⟨cN,1,none⟩=some (.slice sK cO.length rB)∧w'.cell? ⟨cN,2,none⟩=some (.int .i64 dA)∧w'.cell? ⟨cN,3,none⟩=some (.int .i64 dB)∧w'.cell? ⟨cN,4,none⟩=some (.slice (some nD) bQ.length fL)∧w'.cell? (wB.add (cM).toNat)=some (.int .i64 (rd t646 cM))∧w'.cell? (nD.add (((rd t646 cM)).toNat * 2))=some (.int .i64 ((rd_T35 bQ (rd t646 cM)).f0))∧w'.cell? ⟨(nD.add (((rd t646 cM)).toNat * 2)).block,(nD.add (((rd t646 cM)).toNat * 2)).off+1,none⟩=some (.slice Sx ((rd_T35 bQ (rd t646 cM)).f1).length Sy)) (ds:= [10]) #[F,F,F,F,F,F,F,F,F,F,F,F] (by kernel_rfl) rfl rfl ⟨(aG cA.out 0).trans rfl,(aG cA.out 1).trans rfl,(aG cA.out 2).trans rfl,(aG cA.out 3).trans rfl,(aG cA.out 4).trans rfl,zE,zF,vB⟩ (fun hHeld=>?_);refine with_tabW regletlaw16_MachineDerives.tab23 regletlaw16_MachineDerives.bits23 (fun HT_ HW_=>?_)
               generalize w65.drew=w66 at dK hJ eU cE cF cB HL658_1 oZ cA HR663 HB HL668_1 zG zE zF vB hHeld ⊢;refine pure_ (i:=0) (N:=some 109) (v:=?_) (a':=?_) #[T,F,F,F,F,F,F,F,F,F,F,F] rfl rfl (any_of HT_.out (by kernel_rfl)) (fun _ _ _ h=>h) (Or.inl ⟨by rfl,?_⟩) ?_ ?_
               rotate_left;(intro w';go_simp;with_reducible rfl);rotate_left;(simp only [pq];rfl)
               refine pure_ (i:=1) (N:=some 110) (v:=?_) (a':=?_) #[T,T,F,F,F,F,F,F,F,F,F,F] rfl rfl (any_of HT_.out (by kernel_rfl)) (fun _ _ _ h=>h) (Or.inl ⟨by rfl,?_⟩) ?_ ?_
               rotate_left;(intro w';go_simp;with_reducible rfl);rotate_left;(simp only [pq];rfl)
               refine pure_ (i:=3) (N:=some 112) (v:=?_) (a':=?_) #[T,T,F,T,F,F,F,F,F,F,F,F] rfl rfl (any_of HT_.out (by kernel_rfl)) (fun _ _ _ h=>h) (Or.inl ⟨by rfl,?_⟩) ?_ ?_
               rotate_left;(intro w';go_simp;with_reducible rfl);rotate_left;(simp only [pq];rfl)
               refine pure_ (i:=4) (N:=some 113) (v:=?_) (a':=?_) #[T,T,F,T,T,F,F,F,F,F,F,F] rfl rfl (any_of HT_.out (by kernel_rfl)) (fun _ _ _ h=>h) (Or.inl ⟨by rfl,?_⟩) ?_ ?_
               rotate_left;(intro w';go_simp;with_reducible rfl);rotate_left;(simp only [pq];rfl)
               refine pure_ (i:=5) (N:=some 114) (v:=?_) (a':=?_) #[T,T,F,T,T,T,F,F,F,F,F,F] rfl rfl (any_of HT_.out (by kernel_rfl)) (fun _ _ _ h=>h) (Or.inl ⟨by rfl,?_⟩) ?_ ?_
               rotate_left;(intro w';go_simp;with_reducible rfl);rotate_left;(simp only [pq];rfl)
               refine take_ (i:=2) (N:=some 111) (v:=?_) (a':=?_) #[T,T,T,T,T,T,F,F,F,F,F,F] rfl rfl (take_ofW HT_.out HW_.out (by kernel_rfl)) (fun _ _ _ h=>h) (Or.inl ⟨by rfl,?_⟩) hHeld ?_ ?_
               rotate_left
               ·rintro w' ⟨s0,s1,s2,s3,s4,s5,s6,s7⟩
                go_simp
                with_reducible rfl
               rotate_left
               ·simp only [pq]
                rfl
               refine take_ (i:=6) (N:=some 115) (v:=?_) (a':=?_) #[T,T,T,T,T,T,T,F,F,F,F,F] rfl rfl (take_ofW HT_.out HW_.out (by kernel_rfl)) (fun _ _ _ h=>h) (Or.inl ⟨by rfl,?_⟩) hHeld ?_ ?_
               rotate_left
               ·rintro w' ⟨s0,s1,s2,s3,s4,s5,s6,s7⟩
                go_simp
                with_reducible rfl
               rotate_left
               ·simp only [pq]
                rfl
               refine pure_ (i:=7) (N:=some 116) (v:=?_) (a':=?_) #[T,T,T,T,T,T,T,T,F,F,F,F] rfl rfl (any_of HT_.out (by kernel_rfl)) (fun _ _ _ h=>h) (Or.inl ⟨by rfl,?_⟩) ?_ ?_
               rotate_left;(intro w';go_simp;with_reducible rfl);rotate_left;(simp only [pq];rfl)
               refine pure_ (i:=8) (N:=some 117) (v:=?_) (a':=?_) #[T,T,T,T,T,T,T,T,T,F,F,F] rfl rfl (any_of HT_.out (by kernel_rfl)) (fun _ _ _ h=>h) (Or.inl ⟨by rfl,?_⟩) ?_ ?_
               rotate_left;(intro w';go_simp;with_reducible rfl);rotate_left;(simp only [pq];rfl)
               refine take_ (i:=9) (N:=some 118) (v:=?_) (a':=?_) #[T,T,T,T,T,T,T,T,T,T,F,F] rfl rfl (take_ofW HT_.out HW_.out (by kernel_rfl)) (fun _ _ _ h=>h) (Or.inl ⟨by rfl,?_⟩) hHeld ?_ ?_
               rotate_left
               ·rintro w' ⟨s0,s1,s2,s3,s4,s5,s6,s7⟩
                go_simp
                with_reducible rfl
               rotate_left
               ·simp only [pq]
                rfl
               refine last_ (i:=10) (N:=some 119) #[T,T,T,T,T,T,T,T,T,T,T,F] rfl rfl (one_of HT_.out (by kernel_rfl)) (by decide) (fun K hK=>?_)
               refine Kd.R_append_rows_step k43 (w0:=w) w.heap.size (by rfl) (.tmp 109) (.tmp 118) 29 43 (.agg #[(.bool false),(.int .i64 0)]) 16 rfl Try.underlying29 info43 rfl (by decide) (by omega) v665 y664 ((rd_T35 bQ (rd t646 cM)).f1) _ _ _ (fun k_=>some k_≠(.slice (some iL) cW.length oE:Value).ownBlock∧some k_≠(.slice wC ((rd_T35 bQ (rd t646 cM)).f1).length wD:Value).ownBlock) (fun _=>False) rfl rfl ?aO ?aR (fun _ _ h=>h) (fun _ h=>h.elim) ?aF ?aB ?aS ?aL ?_
               (case aR=>exact gC (by repeat(first|(with_reducible exact zG.out)|(with_reducible refine Kd.C_alloc ?_ _)|(with_reducible refine Kd.C_drewN ?_ _)|(with_reducible refine bC ?_)|exact zG.out)))
               (case aB=>exact(gW HB.out))
               (case aF=>exact(fun k_ hk=>⟨Kd.fresh' (Kd.R_lt (gR eU.out)) k_ hk,Kd.fresh' (Kd.R_lt (gR HL658_1.out)) k_ hk⟩))
               (case aO=>exact(gR oZ.out))
               (case aS=>exact(bH (gW HB.out)))
               (case aL=>have:=Xz.out;omega)
               intro v670 w67 ho hb hg hat;rw [←Ya.out] at ho;have cH:=aM (Kd.R_over' (gR dK.out) (Kd.R_typed (gR oZ.out)) (by decide) hg);have cI:=aM (Kd.R_over' (gR hJ.out) (Kd.R_typed (gR oZ.out)) (by decide) hg);have cK:=aM (Kd.R_after (ok:=(fun _=>True)) (gR eU.out) hg hat);have cQ:=aM (Kd.R_over' (gR cE.out) (Kd.R_typed (gR oZ.out)) (by decide) hg);have dI:=aM (Kd.R_over' (gR cF.out) (Kd.R_typed (gR oZ.out)) (by decide) hg);have dR:=aM (Kd.S_after (ok:=(fun k_=>some k_≠(.slice (some iL) cW.length oE:Value).ownBlock)) (gS cB.out) hg hat);have dV:=aM (blk_grown (gB cA.out) hg (Kd.R_ne oZ.out cA.out (by decide)));have eV:=aM (Kd.R_after (ok:=(fun k_=>some k_≠(.slice (some iL) cW.length oE:Value).ownBlock∧some k_≠(.slice (some nD) bQ.length fL:Value).ownBlock)) (gR HL658_1.out) hg hat);have fV:=aM (Kd.R_after (ok:=(fun k_=>some k_≠(.slice (some iL) cW.length oE:Value).ownBlock∧some k_≠(.slice (some nD) bQ.length fL:Value).ownBlock)) (by(with_reducible repeat(first|apply aA|apply aB|apply aC));exact Kd.R_mono HL668_1.out (fun _ hk=>⟨⟨hk.1.1,hk.2⟩,hk.1.2⟩)) hg hat);have gQ:=aM (hb);have eS:=aM ((show Kd.C k43 w67 (some iL) y660.length y660 from by rw [Cl.out];exact Kd.C_take (m:=(dN:Int).toNat) ((aF (Kd.R_after (ok:=(fun _=>True)) (gR eU.out) hg hat)).2.2) KL64.out));have fG:=aM (ho);clear dK hJ eU cE cF cB cA HL658_1 HL668_1 HB HR663 oZ;have dK:=cH;have hJ:=cI;have eU:=cK;have cE:=cQ;have cF:=dI;have cB:=dR;have cA:=dV;have HL658_1:=eV;have HL668_1:=fV;have HB:=gQ;have HR663:=eS;have wE:=fG;clear cH cI cK cQ dI dR dV eV fV gQ eS fG ho hb hg hat;refine hK.out _ _ ?_
               clear hK K;refine norm_ (a':=?_) ?_ ?_
               rotate_left
               ·show Act.put _ (some 119) _=_
                simp only [pq];rfl
               refine pure_ (i:=11) (N:=some 17) (v:=?_) (a':=?_) #[T,T,T,T,T,T,T,T,T,T,T,T] rfl rfl (any_of HT_.out (by kernel_rfl)) (fun _ _ _ h=>h) (Or.inl ⟨by rfl,?_⟩) ?_ ?_
               rotate_left;(intro w';go_simp;with_reducible rfl);rotate_left;(simp only [pq];rfl)
               refine done_ (done_of HT_.out (by kernel_rfl)) ?_
               have q68:((nC):Int)≤((cW.length:Int):Int):=of_decide_eq_true (by first|(with_reducible assumption)|assumption);obtain⟨i068,hi068,_,hsz68,_⟩:=info_parts info43;have hroom68:cW.length≤oE:=(aF eU.out).2.1;have hC68:Kd.C k43 _ (some iL) cW.length cW:=(aF eU.out).2.2;have q068:(0:Int)≤((nC):Int):=of_decide_eq_true (by first|(with_reducible assumption)|assumption);have hcut68:=cut_from (P:=Try.prog) 29 43 .i64 Try.underlying29 hi068 2 hsz68 (some iL) cW.length oE (nC) q068 q68;have hr68:=Kd.C_drop (m:=((nC):Int).toNat) (c:=oE) hC68 (by omega) hroom68;obtain⟨A68,hA68⟩:∃A1,A1=(if oE=((nC):Int).toNat then(some iL) else((some iL):Option Addr).map (·.add (((nC):Int).toNat * 2))):=⟨_,rfl⟩;obtain⟨c68,hc68⟩:∃c1,c1=oE - ((nC):Int).toNat:=⟨_,rfl⟩;have Pc:y672.length=cW.length - ((nC):Int).toNat:=(by rw [Jt.out,List.length_drop]<;>omega);rw [show(cW).drop ((nC):Int).toNat=y672 from Jt.out.symm] at hr68;replace hr68:Kd.C k43 _ A68 y672.length y672:=(by rw [hA68];exact hr68);rw [←Pc,←hA68,←hc68] at hcut68;have HR675:=aM hr68;have HC675:=aM (show y672.length≤c68 from by rw [Pc,hc68];exact Nat.sub_le_sub_right hroom68 _);clear hr68 hC68 hroom68 hi068 hsz68 hc68;have KY68:=aM Pc;have KA68:=aM hA68;clear Pc hA68;have KL68:=aM (show((nC):Int).toNat≤cW.length from by omega);replace q68:=eq_true q68
               try go_wp2_with (first|((with_reducible refine gate_builtin (b:= .append) (xs:=#[.tmp 120,.tmp 124]) rfl ?_);(try(refine gate_guard (by rfl) ?_;dsimp only));at_builtin;refine Kd.R_append_rows k43 (w0:=w) w.heap.size rfl (.tmp 120) (.tmp 124) 29 43 (.agg #[(.bool false),(.int .i64 0)]) 16 rfl Try.underlying29 info43 rfl (by decide) (by omega) v670 y669 y672 _ _ _ (fun k_=>some k_≠(.slice (some iL) cW.length oE:Value).ownBlock∧some k_≠(.slice wC ((rd_T35 bQ (rd t646 cM)).f1).length wD:Value).ownBlock) (fun _=>False) rfl rfl ?aO ?aR (fun _ _ h=>h) (fun _ h=>h.elim) ?aF ?aB ?aS ?aL ?_;(case aR=>exact gC (by repeat(first|(with_reducible exact HR675.out)|(with_reducible refine Kd.C_alloc ?_ _)|(with_reducible refine Kd.C_drewN ?_ _)|(with_reducible refine bC ?_)|exact HR675.out)));(case aB=>exact(gW HB.out));(case aF=>exact(fun k_ hk=>⟨Kd.fresh' (Kd.R_lt (gR eU.out)) k_ hk,Kd.fresh' (Kd.R_lt (gR HL658_1.out)) k_ hk⟩));(case aO=>exact(gR wE.out));(case aS=>exact(bH (gW HB.out)));(case aL=>have:=Yb.out;omega);intro v677 w69 ho hb hg hat;rw [←Yc.out] at ho;have cH:=aM (Kd.R_over' (gR dK.out) (Kd.R_typed (gR wE.out)) (by decide) hg);have cI:=aM (Kd.R_over' (gR hJ.out) (Kd.R_typed (gR wE.out)) (by decide) hg);have cK:=aM (Kd.R_after (ok:=(fun _=>True)) (gR eU.out) hg hat);have cQ:=aM (Kd.R_over' (gR cE.out) (Kd.R_typed (gR wE.out)) (by decide) hg);have dI:=aM (Kd.R_over' (gR cF.out) (Kd.R_typed (gR wE.out)) (by decide) hg);have dR:=aM (Kd.S_after (ok:=(fun k_=>some k_≠(.slice (some iL) cW.length oE:Value).ownBlock)) (gS cB.out) hg hat);have dV:=aM (blk_grown (gB cA.out) hg (Kd.R_ne wE.out cA.out (by decide)));have eV:=aM (Kd.R_after (ok:=(fun k_=>some k_≠(.slice (some iL) cW.length oE:Value).ownBlock∧some k_≠(.slice (some nD) bQ.length fL:Value).ownBlock)) (gR HL658_1.out) hg hat);have fV:=aM (Kd.R_after (ok:=(fun k_=>some k_≠(.slice (some iL) cW.length oE:Value).ownBlock∧some k_≠(.slice (some nD) bQ.length fL:Value).ownBlock)) (gR HL668_1.out) hg hat);have gQ:=aM (hb);have eS:=aM ((show Kd.C k43 w69 (some iL) y660.length y660 from by rw [Cl.out];exact Kd.C_take (m:=(dN:Int).toNat) ((aF (Kd.R_after (ok:=(fun _=>True)) (gR eU.out) hg hat)).2.2) KL64.out));have fG:=aM ((show Kd.C k43 w69 A68 y672.length y672 from by rw [Jt.out,KA68.out];exact Kd.C_drop (m:=((nC):Int).toNat) (c:=oE) ((aF (Kd.R_after (ok:=(fun _=>True)) (gR eU.out) hg hat)).2.2) KL68.out ((aF (Kd.R_after (ok:=(fun _=>True)) (gR eU.out) hg hat)).2.1)));have fQ:=aM (ho);clear dK;clear hJ;clear eU;clear cE;clear cF;clear cB;clear cA;clear HL658_1;clear HL668_1;clear HB;clear HR663;clear HR675;clear wE;have dK:=cH;have hJ:=cI;have eU:=cK;have cE:=cQ;have cF:=dI;have cB:=dR;have cA:=dV;have HL658_1:=eV;have HL668_1:=fV;have HB:=gQ;have HR663:=eS;have HR675:=fG;have Yi:=fQ;clear cH cI cK cQ dI dR dV eV fV gQ eS fG fQ;clear ho hb hg hat))
               go_roundg k3
               case measure=>have:=HJ6.out;have:=HK2.out;have:=HK3.out;omega
               case rel=>exact⟨(y676),(wrap64 (cM+1)),(by first|rfl|(simp;done)|(simp [*];done)),H',⟨by have:=HJ6.out;have:=HK2.out;have:=HK3.out;omega⟩,⟨gR dK.out⟩,⟨gR hJ.out⟩,⟨by(with_reducible repeat(first|apply aA|apply aB|apply aC));exact Kd.R_mono Yi.out (fun _ hk=>trivial)⟩,⟨gR cE.out⟩,⟨gR cF.out⟩,⟨by(with_reducible repeat(first|apply Kd.S_alloc|apply aV|apply aW));exact Kd.S_mono cB.out (fun _ hk=>hk.2)⟩,⟨gB cA.out⟩,⟨gW HB.out⟩⟩
          ·rw [if_neg c41] at H
           have Bi:decide (dN<(cW.length:Int))=false:=decide_eq_false c41;clear c41
           by_cases c70:dN=(cW.length:Int)
           ·rw [if_pos c70] at H
            have Rf:(dN==(cW.length:Int))=true:=beq_iff_eq.mpr c70;have Rg:(dN !=(cW.length:Int))=false:=bne_eq_false_iff_eq.mpr c70;clear c70;exact absurd H (by simp)
           ·rw [if_neg c70] at H
            have Rf:(dN==(cW.length:Int))=false:=beq_eq_false_iff_ne.mpr c70;have Rg:(dN !=(cW.length:Int))=true:=bne_iff_ne.mpr c70
            by_cases c71:0≤cM
            rotate_left
            ·rw [if_neg c71] at H
             exact absurd H (by simp)
            rw [if_pos c71] at H;have Pp:decide (0≤cM)=true:=decide_eq_true c71;clear c71
            by_cases c72:cM<(t646.length:Int)
            rotate_left
            ·rw [if_neg c72] at H
             exact absurd H (by simp)
            rw [if_pos c72] at H;have Pq:decide (cM<(t646.length:Int))=true:=decide_eq_true c72;clear c72
            by_cases c73:(rd t646 cM)<0
            ·rw [if_pos c73] at H
             have Eo:decide ((rd t646 cM)<0)=true:=decide_eq_true c73;clear c73;exact absurd H (by simp)
            ·rw [if_neg c73] at H
             have Eo:decide ((rd t646 cM)<0)=false:=decide_eq_false c73;clear c73
             by_cases c74:(rd t646 cM)≥(bQ.length:Int)
             ·rw [if_pos c74] at H
              have Ir:decide ((bQ.length:Int)≤(rd t646 cM))=true:=decide_eq_true c74;clear c74;exact absurd H (by simp)
             ·rw [if_neg c74] at H
              have Ir:decide ((bQ.length:Int)≤(rd t646 cM))=false:=decide_eq_false c74;clear c74
              by_cases c75:0≤(rd t646 cM)
              rotate_left
              ·rw [if_neg c75] at H
               exact absurd H (by simp)
              rw [if_pos c75] at H;have Yj:decide (0≤(rd t646 cM))=true:=decide_eq_true c75;clear c75
              by_cases c76:(rd t646 cM)<(bQ.length:Int)
              rotate_left
              ·rw [if_neg c76] at H
               exact absurd H (by simp)
              rw [if_pos c76] at H;have Yk:decide ((rd t646 cM)<(bQ.length:Int))=true:=decide_eq_true c76;clear c76
              by_cases c77:0≤dN
              rotate_left
              ·rw [if_neg c77] at H
               exact absurd H (by simp)
              rw [if_pos c77] at H;exact absurd H (by simp)
       ·rw [if_neg c39] at H
        have Fy:decide (cM<(t646.length:Int))=false:=decide_eq_false c39;clear c39
        by_cases c78:(cW.length:Int)=(t643.length:Int)
        rotate_left
        ·rw [if_neg c78] at H
         exact absurd H (by simp)
        rw [if_pos c78] at H;have Yl:((cW.length:Int)==(t643.length:Int))=true:=beq_iff_eq.mpr c78;have Ym:((cW.length:Int) !=(t643.length:Int))=false:=bne_eq_false_iff_eq.mpr c78;have Yn:(cW.length==t643.length)=true:=by first|simpa using c78|(simp at c78 ⊢;omega)
        clear c78;have H':=aM H;clear H;obtain⟨LE,LF,IJ⟩:=Kd.R_slice hJ.out;subst IJ;obtain⟨Yo,Yp,IK⟩:=Kd.R_slice eU.out;subst IK;go_wp2
        go_loopg [18] k2 (fun kq v18 w'=>∃(fD:Int),v18= .int .i64 fD∧Aside0 (regletlaw16_MachineDerives.l2 kq true t643 cW fD=some r)∧Aside0 (kq≤k2)∧Aside0 (Kd.R (Kd.int .i64) 3 w' w.heap.size (fun _=>True) (.slice yZ t643.length zA) t643)∧Aside0 (Kd.R k43 43 w' w.heap.size (fun _=>True) (.slice Yo cW.length Yp) cW)∧Aside0 (Kd.R Kd.string 9 w' w.heap.size (fun _=>True) (.slice oY cU.length oI) cU)∧Aside0 (Kd.R k72 72 w' w.heap.size (fun k_=>some k_≠((.slice yZ t643.length zA):Value).ownBlock) (.slice sK cO.length rB) cO)∧Aside0 (Kd.S k35 35 w' w.heap.size (fun k_=>some k_≠((.slice Yo cW.length Yp):Value).ownBlock) (.slice fS bQ.length fL) bQ)∧Aside0 (w'.heap[cN]?=some (.cells #[(.slice oY cU.length oI),(.slice sK cO.length rB),.int .i64 dA,.int .i64 dB,(.slice fS bQ.length fL)] 26 (0,0)))∧Aside0 (Below w.heap.size w w'))
        case atStart=>exact⟨(0),(by first|rfl|(simp;done)|(simp [*];done)),H',⟨Nat.le_refl _⟩,⟨by(with_reducible repeat(first|apply aA|apply aB|apply aC));exact Kd.R_mono dK.out (fun _ hk=>trivial)⟩,⟨gR eU.out⟩,⟨gR cE.out⟩,⟨by(with_reducible repeat(first|apply aA|apply aB|apply aC));exact Kd.R_mono cF.out (fun _ hk=>hk.1)⟩,⟨gS cB.out⟩,⟨gB cA.out⟩,⟨gW HB.out⟩⟩
        case round=>
         clear H'
         (try clear c1);(try clear p2);(try clear c3);(try clear c4);(try clear c5);(try clear c6);(try clear p6);(try clear q6);(try clear hx6);(try clear c7);(try clear c39);(try clear Fy);(try clear c41);(try clear Bi);(try clear c42);(try clear c47);(try clear c48);(try clear c51);(try clear c52);(try clear c53);(try clear c55);(try clear c56);(try clear c57);(try clear c59);(try clear c60);(try clear c61)
         (try clear p64);(try clear q64);(try clear c65);(try clear c66);(try clear p66);(try clear q66);(try clear hx66);(try clear c68);(try clear q68);(try clear c70);(try clear Rf);(try clear Rg);(try clear c71);(try clear Pp);(try clear c72);(try clear Pq);(try clear c73);(try clear Eo);(try clear c74);(try clear Ir);(try clear c75);(try clear Yj);(try clear c76);(try clear Yk)
         (try clear c77);(try clear c78);(try clear Yl);(try clear Ym);(try clear Yn);(try clear zE);(try clear zF);(try clear vB);(try clear p667);(try clear p668);(try clear q068);(try clear q64);(try clear q667);(try clear q668);(try clear q68)
         obtain⟨fD,rfl,HA,HK3,dK,eU,cE,cF,cB,cA,HB⟩:=hrel
         cases gk with
         |zero=>exact absurd HA.out (by simp [regletlaw16_MachineDerives.l2])
         |succ k3=>
          have H:=HA.out;clear HA;simp only [regletlaw16_MachineDerives.l2] at H
          by_cases c81:fD<(t643.length:Int)
          ·rw [if_pos c81] at H
           have Yq:decide (fD<(t643.length:Int))=true:=decide_eq_true c81;clear c81
           by_cases c82:0≤fD
           rotate_left
           ·rw [if_neg c82] at H
            exact absurd H (by simp)
           rw [if_pos c82] at H;have JX:decide (0≤fD)=true:=decide_eq_true c82;clear c82
           by_cases c83:fD<(cW.length:Int)
           rotate_left
           ·rw [if_neg c83] at H
            exact absurd H (by simp)
           rw [if_pos c83] at H;have JY:decide (fD<(cW.length:Int))=true:=decide_eq_true c83;clear c83;obtain⟨bq84,hbq84⟩:∃b_:Bool,b_=((rd_T43 cW fD).f0):=⟨_,rfl⟩;replace H:(if(bq84=true) then(if((rd_T43 cW fD).f1)=(rd t643 fD) then(regletlaw16_MachineDerives.l2 k3 true t643 cW (wrap64 (fD+1))) else(none)) else(none))=some r:=by rw [←hbq84] at H;exact H
           have Nbq84:=aM hbq84;clear hbq84
           by_cases c85:(bq84=true)
           ·subst c85
            have H1:(if((rd_T43 cW fD).f1)=(rd t643 fD) then(regletlaw16_MachineDerives.l2 k3 true t643 cW (wrap64 (fD+1))) else(none))=some r:=by rw [if_pos rfl] at H;exact H
            clear H;have H:=H1;clear H1
            by_cases c86:((rd_T43 cW fD).f1)=(rd t643 fD)
            rotate_left
            ·rw [if_neg c86] at H
             exact absurd H (by simp)
            rw [if_pos c86] at H;have JZ:(((rd_T43 cW fD).f1)==(rd t643 fD))=true:=beq_iff_eq.mpr c86;have KA:(((rd_T43 cW fD).f1) !=(rd t643 fD))=false:=bne_eq_false_iff_eq.mpr c86;clear c86;have H':=aM H;clear H
            try go_wp2
            have cH:=aM (aC dK.out);have cI:=aM (aC eU.out);have cK:=aM (aC cE.out);have cQ:=aM (aC cF.out);have dI:=aM (aW cB.out);have dR:=aM (aK cA.out);have dV:=aM (aO HB.out);clear dK eU cE cF cB cA HB;have dK:=cH;have eU:=cI;have cE:=cK;have cF:=cQ;have cB:=dI;have cA:=dR;have HB:=dV;clear cH cI cK cQ dI dR dV;have p683:0≤(fD:Int):=of_decide_eq_true (by first|(with_reducible assumption)|assumption);have q683:fD<(cW.length:Int):=of_decide_eq_true (by first|(with_reducible assumption)|assumption);obtain⟨wF,e683,zH,Hy⟩:=at_T43 (aF eU.out).2.2 fD p683 q683
            (try rw [←Nbq84.out] at zH)
            cases e683;replace p683:=eq_true p683;replace q683:=eq_true q683;have p684:0≤(fD:Int):=of_decide_eq_true (by first|(with_reducible assumption)|assumption);have q684:fD<(cW.length:Int):=of_decide_eq_true (by first|(with_reducible assumption)|assumption);obtain⟨Yr,e684,zI,Hz⟩:=at_T43 (aF eU.out).2.2 fD p684 q684
            (try rw [←Nbq84.out] at zI)
            obtain rfl:wF=Yr:=(by injection e684);replace p684:=eq_true p684;replace q684:=eq_true q684;have p685:0≤(fD:Int):=of_decide_eq_true (by first|(with_reducible assumption)|assumption);have q685:fD<(t643.length:Int):=of_decide_eq_true (by first|(with_reducible assumption)|assumption);obtain⟨Ys,e685,Ia⟩:=Kd.at_int (aF dK.out).2.2 fD p685 q685
            cases e685;replace p685:=eq_true p685;replace q685:=eq_true q685;refine start_ (n:=18) (S:=fun w'=>w'.cell? (wF.add ((fD).toNat * 2))=some (.bool true)∧w'.cell? ⟨(wF.add ((fD).toNat * 2)).block,(wF.add ((fD).toNat * 2)).off+1,none⟩=some (.int .i64 ((rd_T43 cW fD).f1))∧w'.cell? (wF.add ((fD).toNat * 2))=some (.bool (true))∧w'.cell? ⟨(wF.add ((fD).toNat * 2)).block,(wF.add ((fD).toNat * 2)).off+1,none⟩=some (.int .i64 ((rd_T43 cW fD).f1))∧w'.cell? (Ys.add (fD).toNat)=some (.int .i64 (rd t643 fD))) (ds:= []) #[F,F,F,F,F,F,F,F,F,F,F,F,F,F,F,F,F,F] (by kernel_rfl) rfl rfl ⟨zH,Hy,zI,Hz,Ia⟩ (fun hHeld=>?_);refine with_tabW regletlaw16_MachineDerives.tab31 regletlaw16_MachineDerives.bits31 (fun HT_ HW_=>?_)
            generalize wr.drew=w87 at dK eU cE cF cB cA HB zH Hy zI Hz Ia hHeld ⊢;refine pure_ (i:=0) (N:=some 138) (v:=?_) (a':=?_) #[T,F,F,F,F,F,F,F,F,F,F,F,F,F,F,F,F,F] rfl rfl (any_of HT_.out (by kernel_rfl)) (fun _ _ _ h=>h) (Or.inl ⟨by rfl,?_⟩) ?_ ?_
            rotate_left;(intro w';go_simp;with_reducible rfl);rotate_left;(simp only [pq];rfl)
            refine pure_ (i:=1) (N:=some 139) (v:=?_) (a':=?_) #[T,T,F,F,F,F,F,F,F,F,F,F,F,F,F,F,F,F] rfl rfl (any_of HT_.out (by kernel_rfl)) (fun _ _ _ h=>h) (Or.inl ⟨by rfl,?_⟩) ?_ ?_
            rotate_left;(intro w';go_simp;with_reducible rfl);rotate_left;(simp only [pq];rfl)
            refine pure_ (i:=2) (N:=some 140) (v:=?_) (a':=?_) #[T,T,T,F,F,F,F,F,F,F,F,F,F,F,F,F,F,F] rfl rfl (any_of HT_.out (by kernel_rfl)) (fun _ _ _ h=>h) (Or.inl ⟨by rfl,?_⟩) ?_ ?_
            rotate_left;(intro w';go_simp;with_reducible rfl);rotate_left;(simp only [pq];rfl)
            refine pure_ (i:=3) (N:=some 141) (v:=?_) (a':=?_) #[T,T,T,T,F,F,F,F,F,F,F,F,F,F,F,F,F,F] rfl rfl (any_of HT_.out (by kernel_rfl)) (fun _ _ _ h=>h) (Or.inl ⟨by rfl,?_⟩) ?_ ?_
            rotate_left;(intro w';go_simp;with_reducible rfl);rotate_left;(simp only [pq];rfl)
            refine take_ (i:=4) (N:=some 142) (v:=?_) (a':=?_) #[T,T,T,T,T,F,F,F,F,F,F,F,F,F,F,F,F,F] rfl rfl (take_ofW HT_.out HW_.out (by kernel_rfl)) (fun _ _ _ h=>h) (Or.inl ⟨by rfl,?_⟩) hHeld ?_ ?_
            rotate_left
            ·rintro w' ⟨s0,s1,s2,s3,s4⟩
             go_simp
             with_reducible rfl
            rotate_left
            ·simp only [pq]
             rfl
            refine pure_ (i:=5) (N:=some 143) (v:=?_) (a':=?_) #[T,T,T,T,T,T,F,F,F,F,F,F,F,F,F,F,F,F] rfl rfl (any_of HT_.out (by kernel_rfl)) (fun _ _ _ h=>h) (Or.inl ⟨by rfl,?_⟩) ?_ ?_
            rotate_left;(intro w';go_simp;with_reducible rfl);rotate_left;(simp only [pq];rfl)
            refine pure_ (i:=6) (N:=some 144) (v:=?_) (a':=?_) #[T,T,T,T,T,T,T,F,F,F,F,F,F,F,F,F,F,F] rfl rfl (any_of HT_.out (by kernel_rfl)) (fun _ _ _ h=>h) (Or.inl ⟨by rfl,?_⟩) ?_ ?_
            rotate_left;(intro w';go_simp;with_reducible rfl);rotate_left;(simp only [pq];rfl)
            refine pure_ (i:=7) (N:=some 145) (v:=?_) (a':=?_) #[T,T,T,T,T,T,T,T,F,F,F,F,F,F,F,F,F,F] rfl rfl (any_of HT_.out (by kernel_rfl)) (fun _ _ _ h=>h) (Or.inl ⟨by rfl,?_⟩) ?_ ?_
            rotate_left;(intro w';go_simp;with_reducible rfl);rotate_left;(simp only [pq];rfl)
            refine pure_ (i:=8) (N:=some 146) (v:=?_) (a':=?_) #[T,T,T,T,T,T,T,T,T,F,F,F,F,F,F,F,F,F] rfl rfl (any_of HT_.out (by kernel_rfl)) (fun _ _ _ h=>h) (Or.inl ⟨by rfl,?_⟩) ?_ ?_
            rotate_left;(intro w';go_simp;with_reducible rfl);rotate_left;(simp only [pq];rfl)
            refine pure_ (i:=9) (N:=some 147) (v:=?_) (a':=?_) #[T,T,T,T,T,T,T,T,T,T,F,F,F,F,F,F,F,F] rfl rfl (any_of HT_.out (by kernel_rfl)) (fun _ _ _ h=>h) (Or.inl ⟨by rfl,?_⟩) ?_ ?_
            rotate_left;(intro w';go_simp;with_reducible rfl);rotate_left;(simp only [pq];rfl)
            refine pure_ (i:=10) (N:=some 148) (v:=?_) (a':=?_) #[T,T,T,T,T,T,T,T,T,T,T,F,F,F,F,F,F,F] rfl rfl (any_of HT_.out (by kernel_rfl)) (fun _ _ _ h=>h) (Or.inl ⟨by rfl,?_⟩) ?_ ?_
            rotate_left;(intro w';go_simp;with_reducible rfl);rotate_left;(simp only [pq];rfl)
            refine pure_ (i:=12) (N:=some 150) (v:=?_) (a':=?_) #[T,T,T,T,T,T,T,T,T,T,T,F,T,F,F,F,F,F] rfl rfl (any_of HT_.out (by kernel_rfl)) (fun _ _ _ h=>h) (Or.inl ⟨by rfl,?_⟩) ?_ ?_
            rotate_left;(intro w';go_simp;with_reducible rfl);rotate_left;(simp only [pq];rfl)
            refine pure_ (i:=13) (N:=some 151) (v:=?_) (a':=?_) #[T,T,T,T,T,T,T,T,T,T,T,F,T,T,F,F,F,F] rfl rfl (any_of HT_.out (by kernel_rfl)) (fun _ _ _ h=>h) (Or.inl ⟨by rfl,?_⟩) ?_ ?_
            rotate_left;(intro w';go_simp;with_reducible rfl);rotate_left;(simp only [pq];rfl)
            refine pure_ (i:=14) (N:=some 152) (v:=?_) (a':=?_) #[T,T,T,T,T,T,T,T,T,T,T,F,T,T,T,F,F,F] rfl rfl (any_of HT_.out (by kernel_rfl)) (fun _ _ _ h=>h) (Or.inl ⟨by rfl,?_⟩) ?_ ?_
            rotate_left;(intro w';go_simp;with_reducible rfl);rotate_left;(simp only [pq];rfl)
            refine take_ (i:=11) (N:=some 149) (v:=?_) (a':=?_) #[T,T,T,T,T,T,T,T,T,T,T,T,T,T,T,F,F,F] rfl rfl (take_ofW HT_.out HW_.out (by kernel_rfl)) (fun _ _ _ h=>h) (Or.inl ⟨by rfl,?_⟩) hHeld ?_ ?_
            rotate_left
            ·rintro w' ⟨s0,s1,s2,s3,s4⟩
             go_simp
             with_reducible rfl
            rotate_left
            ·simp only [pq]
             rfl
            refine take_ (i:=15) (N:=some 153) (v:=?_) (a':=?_) #[T,T,T,T,T,T,T,T,T,T,T,T,T,T,T,T,F,F] rfl rfl (take_ofW HT_.out HW_.out (by kernel_rfl)) (fun _ _ _ h=>h) (Or.inl ⟨by rfl,?_⟩) hHeld ?_ ?_
            rotate_left
            ·rintro w' ⟨s0,s1,s2,s3,s4⟩
             go_simp
             with_reducible rfl
            rotate_left
            ·simp only [pq]
             rfl
            refine pure_ (i:=16) (N:=some 154) (v:=?_) (a':=?_) #[T,T,T,T,T,T,T,T,T,T,T,T,T,T,T,T,T,F] rfl rfl (any_of HT_.out (by kernel_rfl)) (fun _ _ _ h=>h) (Or.inl ⟨by rfl,?_⟩) ?_ ?_
            rotate_left;(intro w';go_simp;with_reducible rfl);rotate_left;(simp only [pq];rfl)
            refine pure_ (i:=17) (N:=some 155) (v:=?_) (a':=?_) #[T,T,T,T,T,T,T,T,T,T,T,T,T,T,T,T,T,T] rfl rfl (any_of HT_.out (by kernel_rfl)) (fun _ _ _ h=>h) (Or.inl ⟨by rfl,?_⟩) ?_ ?_
            rotate_left;(intro w';go_simp;with_reducible rfl);rotate_left;(simp only [pq];rfl)
            refine done_ (done_of HT_.out (by kernel_rfl)) ?_
            try go_wp2
            go_roundg k3
            case measure=>have:=HJ6.out;have:=HK2.out;have:=HK3.out;omega
            case rel=>exact⟨(wrap64 (fD+1)),(by first|rfl|(simp;done)|(simp [*];done)),H',⟨by have:=HJ6.out;have:=HK2.out;have:=HK3.out;omega⟩,⟨gR dK.out⟩,⟨gR eU.out⟩,⟨gR cE.out⟩,⟨gR cF.out⟩,⟨gS cB.out⟩,⟨gB cA.out⟩,⟨gW HB.out⟩⟩
           ·replace c85:=Bool.eq_false_iff.mpr c85
            subst c85;have H1:(none)=some r:=by rw [if_neg (show ¬(false=true) by decide)] at H;exact H
            clear H;have H:=H1;clear H1;exact absurd H (by simp)
          ·rw [if_neg c81] at H
           have Yq:decide (fD<(t643.length:Int))=false:=decide_eq_false c81;clear c81;obtain rfl:=Option.some.inj H;go_wp2
           go_ret
           exact⟨by first|rfl|(simp [errW_none,errW_some]<;>rfl)|(simp [*,errW_none,errW_some]<;>rfl),gW HB.out⟩
    ·rw [if_neg c25] at H
     have sP:(t649==0)=false:=beq_eq_false_iff_ne.mpr c25;have Jr:(t649 !=0)=true:=bne_iff_ne.mpr c25;obtain rfl:=Option.some.inj H;have DW:wc.cell? ⟨cN,0,none⟩=some (u629000):=(aG cA.out 0).trans rfl;have DX:wc.cell? ⟨cN,1,none⟩=some (u629001):=(aG cA.out 1).trans rfl;have DY:wc.cell? ⟨cN,2,none⟩=some (.int .i64 dA):=(aG cA.out 2).trans rfl;have DZ:wc.cell? ⟨cN,3,none⟩=some (.int .i64 dB):=(aG cA.out 3).trans rfl;have EA:wc.cell? ⟨cN,4,none⟩=some (u629004):=(aG cA.out 4).trans rfl;have EB:=aH cA.out 0;have ED:=aH cA.out 1;have EE:=aH cA.out 2;have EF:=aH cA.out 3;have EG:=aH cA.out 4;obtain⟨Pd,Pe,IL⟩:=Kd.R_slice cE.out;subst IL;obtain⟨Pf,Pg,IM⟩:=Kd.R_slice cF.out;subst IM;obtain⟨Iw,Ie,Ry⟩:=Kd.S_slice cB.out;subst Ry
     go_wp2_with (first|((with_reducible refine bI (f:=14) rfl ?_);refine goesL_ (some 28) rfl rfl Try.func14 (by kernel_rfl) rfl #[.agg #[.slice Pd cU.length Pe,.slice Pf cO.length Pg,.int .i64 dA,.int .i64 dB,.slice Iw bQ.length Ie],.int .u8 255,.int .u8 0] rfl (by(try simp only [List.map_toArray,List.map_cons,List.map_nil]);first|done|rfl|(simp only [List.length_drop,List.length_take];rfl)) ?_;(with_reducible refine(regletlaw16_table.calls Di _ _ cU _ _ cO dA dB _ _ bQ 255 0 t640 _ ?side1 ?side2 ?side3 ?side4 ?side5 ?side6 A22.out).mono ?_);(case side1=>exact gC (aF cE.out).2.2);(case side2=>exact(aF cE.out).2.1);(case side3=>exact gC (aF cF.out).2.2);(case side4=>exact(aF cF.out).2.1);(case side5=>exact gC (Kd.S_reads' cB.out).2.2);(case side6=>exact(Kd.S_reads' cB.out).2.1);rintro e w92 ⟨v641,rfl,ho0,hb⟩;refine⟨_,rfl,?_⟩;have cH:=aM (aD (gR cE.out) hb);have cI:=aM (aD (gR cF.out) hb);have cK:=aM (Kd.S_below (gS cB.out) hb);have cQ:=aM (Kd.S_lower ho0 (bH (gW HB.out)));have dI:=aM (bF (gB cA.out) hb);have dR:=aM (bG (gW HB.out) hb);clear cE;clear cF;clear cB;clear cA;clear HB;have cE:=cH;have cF:=cI;have cB:=cK;have iY:=cQ;have cA:=dI;have HB:=dR;clear cH cI cK cQ dI dR;(try clear hb);(try clear hb2);(try clear hk);(try clear hi);(try clear ho0);have Kt:w92.cell? ⟨cN,0,none⟩=some (.slice Pd cU.length Pe):=(aG cA.out 0).trans rfl;have Ku:w92.cell? ⟨cN,1,none⟩=some (.slice Pf cO.length Pg):=(aG cA.out 1).trans rfl;have Kv:w92.cell? ⟨cN,2,none⟩=some (.int .i64 dA):=(aG cA.out 2).trans rfl;have Kw:w92.cell? ⟨cN,3,none⟩=some (.int .i64 dB):=(aG cA.out 3).trans rfl;have Kx:w92.cell? ⟨cN,4,none⟩=some (.slice Iw bQ.length Ie):=(aG cA.out 4).trans rfl;have Ky:=aH cA.out 0;have Kz:=aH cA.out 1;have La:=aH cA.out 2;have Lb:=aH cA.out 3;have Lc:=aH cA.out 4)|((with_reducible refine bI (f:=15) rfl ?_);refine goesL_ (some 33) rfl rfl Try.func15 (by kernel_rfl) rfl #[.slice A1 l1.length c1,.int .i64 (cO.length:Int)] rfl (by(try simp only [List.map_toArray,List.map_cons,List.map_nil]);first|done|rfl|(simp only [List.length_drop,List.length_take];rfl)) ?_;(with_reducible refine(regletlaw16_tokens.calls Di _ _ l1 (cO.length:Int) t643 _ ?side1 ?side2 A23.out).mono ?_);(case side1=>exact gC (bD HR1.out HB.out));(case side2=>exact HC1.out);rintro e w94 ⟨v644,rfl,ho0,hb⟩;refine⟨_,rfl,?_⟩;have cH:=aM (aD (gR cE.out) hb);have cI:=aM (bE (gR cF.out) (Kd.R_base ho0) hb);have cK:=aM (Kd.S_below (gS cB.out) hb);have cQ:=aM (Kd.S_elder' (gS iY.out) (Kd.R_base ho0) hb);have dI:=aM (bL ho0 (bH (gW HB.out)));have dR:=aM (bF (gB cA.out) hb);have dV:=aM (bG (gW HB.out) hb);clear cE;clear cF;clear cB;clear iY;clear cA;clear HB;have cE:=cH;have cF:=cI;have cB:=cK;have iY:=cQ;have kJ:=dI;have cA:=dR;have HB:=dV;clear cH cI cK cQ dI dR dV;(try clear hb);(try clear hb2);(try clear hk);(try clear hi);(try clear ho0);have Lf:w94.cell? ⟨cN,0,none⟩=some (.slice Pd cU.length Pe):=(aG cA.out 0).trans rfl;have Lg:w94.cell? ⟨cN,1,none⟩=some (.slice Pf cO.length Pg):=(aG cA.out 1).trans rfl;have Lh:w94.cell? ⟨cN,2,none⟩=some (.int .i64 dA):=(aG cA.out 2).trans rfl;have Li:w94.cell? ⟨cN,3,none⟩=some (.int .i64 dB):=(aG cA.out 3).trans rfl;have Lj:w94.cell? ⟨cN,4,none⟩=some (.slice Iw bQ.length Ie):=(aG cA.out 4).trans rfl;have Lk:=aH cA.out 0;have Ll:=aH cA.out 1;have Lm:=aH cA.out 2;have Ln:=aH cA.out 3;have Lo:=aH cA.out 4;obtain⟨xK,xL,Rz⟩:=Kd.S_slice iY.out;subst Rz;obtain⟨IN,IO,IP⟩:=Kd.R_slice kJ.out;subst IP)|((with_reducible refine bI (f:=22) rfl ?_);refine goesL_ (some 38) rfl rfl Try.func22 (by kernel_rfl) rfl #[.agg #[.slice Pd cU.length Pe,.slice Pf cO.length Pg,.int .i64 dA,.int .i64 dB,.slice Iw bQ.length Ie],.slice xK t640.length xL,.slice IN t643.length IO] rfl (by(try simp only [List.map_toArray,List.map_cons,List.map_nil]);first|done|rfl|(simp only [List.length_drop,List.length_take];rfl)) ?_;(with_reducible refine(machine_Run.calls Di _ _ cU _ _ cO dA dB _ _ bQ _ _ t640 _ _ t643 t646 t649 t650 _ ?side1 ?side2 ?side3 ?side4 ?side5 ?side6 ?side7 ?side8 ?side9 ?side10 A24.out).mono ?_);(case side1=>exact gC (aF cE.out).2.2);(case side2=>exact(aF cE.out).2.1);(case side3=>exact gC (aF cF.out).2.2);(case side4=>exact(aF cF.out).2.1);(case side5=>exact gC (Kd.S_reads' cB.out).2.2);(case side6=>exact(Kd.S_reads' cB.out).2.1);(case side7=>exact gC (Kd.S_reads' iY.out).2.2);(case side8=>exact(Kd.S_reads' iY.out).2.1);(case side9=>exact gC (aF kJ.out).2.2);(case side10=>exact(aF kJ.out).2.1);rintro e w98 ⟨v647,rfl,ho0,hb⟩;refine⟨_,rfl,?_⟩;have cH:=aM (aD (gR cE.out) hb);have cI:=aM (bE (gR cF.out) (Kd.R_base ho0) hb);have cK:=aM (Kd.S_below (gS cB.out) hb);have cQ:=aM (Kd.S_elder' (gS iY.out) (Kd.R_base ho0) hb);have dI:=aM (bE (gR kJ.out) (Kd.R_base ho0) hb);have dR:=aM (bL (Kd.R_new' ho0 (Kd.R_lt (gR kJ.out))) (bH (gW HB.out)));have dV:=aM (bF (gB cA.out) hb);have eV:=aM (bG (gW HB.out) hb);clear cE;clear cF;clear cB;clear iY;clear kJ;clear cA;clear HB;have cE:=cH;have cF:=cI;have cB:=cK;have iY:=cQ;have kJ:=dI;have Cj:=dR;have cA:=dV;have HB:=eV;clear cH cI cK cQ dI dR dV eV;(try clear hb);(try clear hb2);(try clear hk);(try clear hi);(try clear ho0)))
     go_ret
     exact⟨by first|rfl|(simp [errW_none,errW_some]<;>rfl)|(simp [*,errW_none,errW_some]<;>rfl),gW HB.out⟩
 ·replace c5:=Bool.eq_false_iff.mpr c5
  subst c5;have H1:(none)=some r:=by rw [if_neg (show ¬(false=true) by decide)] at H;exact H
  clear H;have H:=H1;clear H1;exact absurd H (by simp)
def regletlaw16_MachineDerives.Pure:Prop:=∀(l0:List Int) (l1:List Int) (a2:Bool),l0.length≤maxLen→l0.length * 1≤140737488351232→(∀x∈l0,(Lit.int .u8 x).wf=true)→l1.length≤maxLen→l1.length * 1≤140737488351232→(∀x∈l1,(Lit.int .u8 x).wf=true)→∃k,regletlaw16_MachineDerives.f k l0 l1 a2=some true
theorem regletlaw16_MachineDerives.walk (P:regletlaw16_MachineDerives.Pure) (a0:Option Addr) (len0 cap0:Nat) (z0:List Int) (a1:Option Addr) (len1 cap1:Nat) (z1:List Int) (a2:Bool) (w:World) (w0:(a0=none∧len0=0∧cap0=0∧z0= [])∨∃x,a0=some x∧len0≤cap0∧cap0≤maxLen∧z0.length=cap0∧(∀i,i<z0.length→w.cell? (x.add i)=some (.int .u8 (z0.getD i 0)))∧∀n∈z0,(Lit.int .u8 n).wf=true) (y0:len0 * 1≤140737488351232) (w1:(a1=none∧len1=0∧cap1=0∧z1= [])∨∃x,a1=some x∧len1≤cap1∧cap1≤maxLen∧z1.length=cap1∧(∀i,i<z1.length→w.cell? (x.add i)=some (.int .u8 (z1.getD i 0)))∧∀n∈z1,(Lit.int .u8 n).wf=true) (y1:len1 * 1≤140737488351232):
 Calls Try.prog 7 #[.slice a0 len0 cap0,.slice a1 len1 cap1,.bool a2] w fun e w'=>e= .returned (.bool true)∧Below w.heap.size w w':=by
 obtain⟨l0,rfl,hr0,hm0,hw0,hc0⟩:=ReadsInt.ofRowC w0;obtain⟨l1,rfl,hr1,hm1,hw1,hc1⟩:=ReadsInt.ofRowC w1;obtain⟨k,h⟩:=P l0 l1 a2 hm0 y0 hw0 hm1 y1 hw1;refine(regletlaw16_MachineDerives.calls k _ _ l0 _ _ l1 a2 true w (Kd.C_of_reads (d:=(0:Int)) (h1:=fun _=>rfl) hr0) hc0 (Kd.C_of_reads (d:=(0:Int)) (h1:=fun _=>rfl) hr1) hc1 h).mono ?_
 rintro e w' ⟨rfl,hd⟩
 exact⟨rfl,hd⟩
end Go.Proofs.Ytapjfnfengefpaa.P
end

section
namespace Go.Proofs.Ytapjfnfengefpaa.P
open Go.RowKit Go.Proofs.YtapjfnfengefpaaW.PrintWords Go.Proofs.YtapjfnfengefpaaW.PrintLast Go.Proofs.YtapjfnfengefpaaW.PrintMore Go.Proofs.Ytapjfnfengefpaa.R
set_option linter.unusedVariables false
set_option linter.unusedSimpArgs false
def oddP (token:Bool) (out:List Bool) (x:S43):Bool:=(x.f0 && !token)||(!x.f0 && !rdOf false out x.f1)
end Go.Proofs.Ytapjfnfengefpaa.P
end

section
namespace Go.Proofs.Ytapjfnfengefpaa.M
open Go.RowKit Go.Proofs.YtapjfnfengefpaaW.PrintWords Go.Proofs.YtapjfnfengefpaaW.PrintLast Go.Proofs.YtapjfnfengefpaaW.PrintMore Go.Proofs.Ytapjfnfengefpaa.P Go.Proofs.Ytapjfnfengefpaa.H
set_option linter.unusedVariables false
set_option linter.unusedSimpArgs false
abbrev Sym:=S43
abbrev Prod:=S35
abbrev Tok:=S72
theorem rdOf_mid {α:Type}(d:α) (p:List α) (x:α) (a:List α) (n:Int) (h:n=p.length):rdOf d (p++x::a) n=x:=by
 subst h;simp [rdOf]
theorem getD_mid {α:Type}(d:α) (p:List α) (x:α) (a:List α) (n:Int) (h:n=p.length):(p++x::a).getD n.toNat d=x:=by
 subst h;simp
theorem set_mid {α:Type}(p:List α) (x v:α) (a:List α) (n:Int) (h:n=p.length):(p++x::a).set n.toNat v=p++v::a:=by
 subst h;simp
theorem wrap_next {α:Type}(p:List α) (v:α) (h:p.length≤1000000):wrap64 ((p.length:Int)+1)=((p++ [v]).length:Int):=by
 rw [wrap64_id (by omega) (by omega)];simp
def orL (a b:List Bool):List Bool:=List.zipWith (· || ·) a b
def moreL:List Bool→List Bool→Bool
 |x::a,y::b=>(y && !x)||moreL a b
 |_,_=>false
theorem orL_length {a b:List Bool}(h:a.length=b.length):(orL a b).length=a.length:=by simp [orL,h]
theorem join_l0_ev:∀(a b pre preb:List Bool) (g:Bool),a.length=b.length→pre.length=preb.length→pre.length+a.length≤1000000→Ev (fun k=>regletref13_join.l0 k (pre++a) (preb++b) g (pre.length:Int)) (g||moreL a b,pre++orL a b)
 | [],[],pre,preb,g,_,h2,_=>by
  refine Ev.step (fun k=>by rw [regletref13_join.l0]) (Ev.neg (by simp) (Ev.some (by simp [moreL,orL])))
 |x::a,y::b,pre,preb,g,h1,h2,h3=>by
  have h1':a.length=b.length:=by simpa using h1
  simp only [List.length_cons] at h3;have ih:=fun g v=>join_l0_ev a b (pre++ [v]) (preb++ [y]) g h1' (by simp [h2]) (by simp;omega)
  simp only [←wrap_next pre _ (show pre.length≤1000000 by omega),List.append_assoc,List.singleton_append] at ih;refine Ev.step (fun k=>by rw [regletref13_join.l0]) ?_
  refine Ev.pos (by simp;omega) ?_
  rw [rdOf_mid _ preb y b _ (by rw [h2]),rdOf_mid _ pre x a _ rfl];simp only [set_mid _ _ _ _ _ rfl]
  cases g
  ·refine Ev.neg (by simp) (Ev.pos (by omega) (Ev.pos (by simp;omega) ?_))
   cases y<;>cases x
   ·exact Ev.neg (by simp) (Ev.neg (by simp) (Ev.val (ih _ _) (by simp [moreL,orL])))
   ·exact Ev.neg (by simp) (Ev.pos rfl (Ev.val (ih _ _) (by simp [moreL,orL])))
   ·exact Ev.pos rfl (Ev.neg (by simp) (Ev.val (ih _ _) (by simp [moreL,orL])))
   ·exact Ev.pos rfl (Ev.pos rfl (Ev.val (ih _ _) (by simp [moreL,orL])))
  ·refine Ev.pos rfl (Ev.pos (by omega) ?_)
   cases x
   ·exact Ev.neg (by simp) (Ev.pos (by simp;omega) (Ev.val (ih _ _) (by simp [moreL,orL])))
   ·exact Ev.pos rfl (Ev.val (ih _ _) (by simp [moreL,orL]))
theorem join_ev (a b:List Bool) (h1:a.length=b.length) (h2:a.length≤1000000):Ev (fun k=>regletref13_join.f k a b) (moreL a b,orL a b):=by
 exact Ev.congr (fun k=>by rw [regletref13_join.f]) (by simpa using join_l0_ev a b [] [] false h1 rfl (by simpa using h2):Ev (fun k=>regletref13_join.l0 k a b false 0) _)
def idx:Nat→List Bool→List Int
 |_,[]=> []
 |n,x::a=>if x=true then(n:Int)::idx (n+1) a else idx (n+1) a
theorem idx_length:∀(n:Nat) (a:List Bool),(idx n a).length≤a.length
 |_,[]=>by simp [idx]
 |n,x::a=>by have:=idx_length (n+1) a;unfold idx;split<;>simp<;>omega
theorem list_l0_ev:∀(a pre:List Bool) (out:List Int),out.length≤pre.length→pre.length+a.length≤1000000→Ev (fun k=>regletref13_list.l0 k (pre++a) out (pre.length:Int)) (out++idx pre.length a)
 | [],pre,out,_,_=>by
  refine Ev.step (fun k=>by rw [regletref13_list.l0]) (Ev.neg (by simp) (Ev.some (by simp [idx])))
 |x::a,pre,out,h2,h3=>by
  simp only [List.length_cons] at h3;have ih:=fun out h=>list_l0_ev a (pre++ [x]) out h (by simp;omega)
  simp only [←wrap_next pre _ (show pre.length≤1000000 by omega),List.append_assoc,List.singleton_append] at ih;refine Ev.step (fun k=>by rw [regletref13_list.l0]) ?_
  refine Ev.pos (by simp;omega) (Ev.pos (by omega) ?_)
  rw [rdOf_mid _ pre x a _ rfl]
  cases x
  ·exact Ev.neg (by simp) (Ev.val (ih out (by simp;omega)) (by simp [idx]))
  ·exact Ev.pos rfl (Ev.pos (by omega) (Ev.val (ih _ (by simp;omega)) (by simp [idx])))
theorem list_ev (a:List Bool) (h2:a.length≤1000000):Ev (fun k=>regletref13_list.f k a) (idx 0 a):=by
 exact Ev.congr (fun k=>by rw [regletref13_list.f]) (by simpa using list_l0_ev a [] [] (by simp) (by simpa using h2):Ev (fun k=>regletref13_list.l0 k a [] 0) _)
def idxs (m:List (List Bool)):List (List Int):=m.map (idx 0)
theorem lists_l0_ev:∀(m pre:List (List Bool)) (out:List (List Int)),out.length=pre.length→pre.length+m.length≤1000000→(∀r∈m,r.length≤1000000)→Ev (fun k=>regletref13_lists.l0 k (pre++m) out (pre.length:Int)) (out++idxs m)
 | [],pre,out,_,_,_=>by
  refine Ev.step (fun k=>by rw [regletref13_lists.l0]) (Ev.neg (by simp) (Ev.some (by simp [idxs])))
 |r::m,pre,out,h2,h3,h4=>by
  simp only [List.length_cons] at h3;have ih:=lists_l0_ev m (pre++ [r]) (out++ [idx 0 r]) (by simp [h2]) (by simp;omega) (fun r hr=>h4 r (List.mem_cons_of_mem _ hr));simp only [←wrap_next pre _ (show pre.length≤1000000 by omega),List.append_assoc,List.singleton_append] at ih;refine Ev.step (fun k=>by rw [regletref13_lists.l0]) ?_
  refine Ev.pos (by simp;omega) (Ev.pos (by omega) ?_)
  refine Ev.bind (a:=idx 0 r) (Ev.congr (fun k=>congrArg (regletref13_list.f k) (getD_mid _ pre r m _ rfl)) (list_ev r (h4 r List.mem_cons_self))) (Ev.pos (by omega) ?_)
  exact Ev.val ih (by simp [idxs])
theorem lists_ev (m:List (List Bool)) (h2:m.length≤1000000) (h4:∀r∈m,r.length≤1000000):Ev (fun k=>regletref13_lists.f k m) (idxs m):=by
 exact Ev.congr (fun k=>by rw [regletref13_lists.f]) (by simpa using lists_l0_ev m [] [] rfl (by simpa using h2) h4:Ev (fun k=>regletref13_lists.l0 k m [] 0) _)
def Sh (nn nt:Nat) (m:List (List Bool)):Prop:=m.length=nn∧∀r∈m,r.length=nt+1
theorem Sh.get {nn nt:Nat}{m:List (List Bool)}(h:Sh nn nt m) {i:Nat}(hi:i<nn):(m.getD i []).length=nt+1:=by
 have hi':i<m.length:=by rw [h.1];exact hi
 rw [List.getD_eq_getElem?_getD,List.getElem?_eq_getElem hi'];exact h.2 _ (List.getElem_mem hi')
theorem Sh.set {nn nt:Nat}{m:List (List Bool)}(h:Sh nn nt m) (i:Nat) {r:List Bool}(hr:r.length=nt+1):Sh nn nt (m.set i r):=
 ⟨by rw [List.length_set];exact h.1,fun r' hr'=>by
  rcases List.mem_or_eq_of_mem_set hr' with h1|rfl
  ·exact h.2 _ h1
  ·exact hr⟩
def bg (em:List Bool) (first:List (List Bool)):List Sym→List Bool→List Bool×Bool
 | [],out=>(out,true)
 |x::l,out=>if x.f0=true then(out.set x.f1.toNat true,false) else
  if em.getD x.f1.toNat false=true then bg em first l (orL out (first.getD x.f1.toNat [])) else(orL out (first.getD x.f1.toNat []),false)
theorem bg_length (em:List Bool) {first:List (List Bool)}{nn nt:Nat}(hs:Sh nn nt first):∀(l:List Sym) (out:List Bool),l.all (okSym nn nt)=true→out.length=nt+1→(bg em first l out).1.length=nt+1
 | [],out,_,h=>h
 |x::l,out,hl,h=>by
  simp only [List.all_cons,Bool.and_eq_true] at hl
  unfold bg
  split
  ·simpa using h
  ·rename_i hx
   have hn:x.f1.toNat<nn:=by
    have:=hl.1;simp only [okSym,hx,if_neg,Bool.and_eq_true,decide_eq_true_eq] at this;simp at this
    omega
   have ho:(orL out (first.getD x.f1.toNat [])).length=nt+1:=by rw [orL_length (by rw [h,hs.get hn]),h]
   split
   ·exact bg_length em hs l _ hl.2 ho
   ·exact ho
theorem okSym_tok {nn nt:Nat}{x:Sym}(h:okSym nn nt x=true) (hx:x.f0=true):0≤x.f1∧x.f1<(nt:Int):=by
 simp only [okSym,hx,if_pos,Bool.and_eq_true,decide_eq_true_eq] at h;exact h
theorem okSym_rule {nn nt:Nat}{x:Sym}(h:okSym nn nt x=true) (hx:x.f0=false):0≤x.f1∧x.f1<(nn:Int):=by
 simp [okSym,hx] at h;exact h
def none0 (nt:Nat):List Bool:=List.replicate (nt+1) false
theorem refBegins_l0_ev {nn nt:Nat}{em:List Bool}{first:List (List Bool)}(hs:Sh nn nt first) (he:em.length=nn) (hnt:nt≤1000):∀(l pre:List Sym) (out:List Bool),l.all (okSym nn nt)=true→out.length=nt+1→pre.length+l.length≤1000000→Ev (fun k=>regletref13_begins.l0 k (pre++l) first em out (pre.length:Int)) (bg em first l out)
 | [],pre,out,_,_,_=>Ev.step (fun k=>by rw [regletref13_begins.l0]) (Ev.neg (by simp) (Ev.some (by simp [bg])))
 |x::l,pre,out,hl,ho,h3=>by
  simp only [List.all_cons,Bool.and_eq_true] at hl;simp only [List.length_cons] at h3;have ih:=fun out ho=>refBegins_l0_ev hs he hnt l (pre++ [x]) out hl.2 ho (by simp;omega)
  simp only [←wrap_next pre _ (show pre.length≤1000000 by omega),List.append_assoc,List.singleton_append] at ih;have e:rd_T43 (pre++x::l) (pre.length:Int)=x:=getD_mid _ pre x l _ rfl;refine Ev.step (fun k=>by rw [regletref13_begins.l0]) ?_
  rw [e];refine Ev.pos (by simp;omega) (Ev.pos (by omega) ?_)
  cases hx:x.f0 with
  |true=>
   have hb:=okSym_tok hl.1 hx;exact Ev.pos rfl (Ev.pos hb.1 (Ev.pos (by omega) (Ev.some (by simp [bg,hx]))))
  |false=>
   have hb:=okSym_rule hl.1 hx;have hr:=hs.get (i:=x.f1.toNat) (by omega);have hs1:=hs.1;refine Ev.neg (by simp) (Ev.pos hb.1 (Ev.pos (by omega) (Ev.bind (join_ev out (first.getD x.f1.toNat []) (by rw [ho,hr]) (by omega)) (Ev.pos (by omega) ?_))))
   have e2:rdOf false em x.f1=em.getD x.f1.toNat false:=rfl;rw [e2]
   cases hem:em.getD x.f1.toNat false with
   |true=>exact Ev.pos rfl (Ev.val (ih _ (by rw [orL_length (by rw [ho,hr]),ho])) (by rw [bg,hx,if_neg (by simp),hem,if_pos rfl]))
   |false=>exact Ev.neg (by simp) (Ev.some (by rw [bg,hx,if_neg (by simp),hem,if_neg (by simp)]))
theorem refBegins_ev {nn:Nat}(l0:List ByteArray) (l1:List Tok) (a2 a3:Int) (l4:List Prod) {em:List Bool}{first:List (List Bool)}(hs:Sh nn l1.length first) (he:em.length=nn) (hnt:l1.length≤1000) (l:List Sym) (hl:l.all (okSym nn l1.length)=true) (h3:l.length≤1000000):Ev (fun k=>regletref13_begins.f k l0 l1 a2 a3 l4 l first em) (bg em first l (none0 l1.length)):=by
 have h:=refBegins_l0_ev hs he hnt l [] (List.replicate (l1.length+1) false) hl (by simp) (by simpa using h3);have e:wrap64 ((l1.length:Int)+1)=((l1.length+1:Nat):Int):=by rw [wrap64_id (by omega) (by omega)];simp
 refine Ev.congr (fun k=>by rw [regletref13_begins.f,e,if_pos (by omega),if_pos (by omega),Int.toNat_natCast]) (by simpa [none0] using h)
def gIn {σ:Type}(stp:σ→Prod→Bool×σ):List Prod→Bool→σ→Bool×σ
 | [],ag,st=>(ag,st)
 |p::ps,ag,st=>gIn stp ps ((stp st p).1||ag) (stp st p).2
def gOut {σ:Type}(stp:σ→Prod→Bool×σ) (ps:List Prod):Nat→σ→σ
 |0,st=>(gIn stp ps false st).2
 |n+1,st=>if(gIn stp ps false st).1=true then gOut stp ps n (gIn stp ps false st).2 else(gIn stp ps false st).2
def Good {σ:Type}(I:σ→Prop) (μ:σ→Nat) (stp:σ→Prod→Bool×σ) (ps:List Prod):Prop:=
 ∀st p,I st→p∈ps→I (stp st p).2∧μ (stp st p).2≤μ st∧((stp st p).1=true→μ (stp st p).2<μ st)
theorem gIn_good {σ:Type}{I:σ→Prop}{μ:σ→Nat}{stp:σ→Prod→Bool×σ}:∀{ps:List Prod},Good I μ stp ps→∀(ag:Bool) (st:σ),I st→I (gIn stp ps ag st).2∧μ (gIn stp ps ag st).2≤μ st∧((gIn stp ps ag st).1=true→ag=true∨μ (gIn stp ps ag st).2<μ st)
 | [],_,ag,st,h=>⟨h,Nat.le_refl _,fun h=> .inl h⟩
 |p::ps,hg,ag,st,h=>by
  obtain⟨h1,h2,h3⟩:=hg st p h List.mem_cons_self;obtain⟨h4,h5,h6⟩:=gIn_good (fun st p hI hp=>hg st p hI (List.mem_cons_of_mem _ hp)) ((stp st p).1||ag) _ h1;refine⟨h4,Nat.le_trans h5 h2,fun h=>?_⟩
  rcases h6 h with h7|h7
  ·rcases(Bool.or_eq_true _ _).mp h7 with h8|h8
   ·exact .inr (Nat.lt_of_le_of_lt h5 (h3 h8))
   ·exact .inl h8
  ·exact .inr (Nat.lt_of_lt_of_le h7 h2)
theorem gOut_I {σ:Type}{I:σ→Prop}{μ:σ→Nat}{stp:σ→Prod→Bool×σ}{ps:List Prod}(hg:Good I μ stp ps):∀(n:Nat) (st:σ),I st→I (gOut stp ps n st)
 |0,st,h=>(gIn_good hg false st h).1
 |n+1,st,h=>by
  unfold gOut
  split
  ·exact gOut_I hg n _ (gIn_good hg false st h).1
  ·exact(gIn_good hg false st h).1
def cf:List Bool→Nat
 | []=>0
 |x::a=>(if x=true then 0 else 1)+cf a
theorem cf_orL:∀(a b:List Bool),a.length=b.length→cf (orL a b)≤cf a∧(moreL a b=true→cf (orL a b)<cf a)
 | [],[],_=>by simp [orL,cf,moreL]
 |x::a,y::b,h=>by
  obtain⟨h1,h2⟩:=cf_orL a b (by simpa using h);have e:orL (x::a) (y::b)=(x||y)::orL a b:=rfl;rw [e]
  cases x<;>cases y<;>simp [cf,moreL]<;>first|exact⟨h1,h2⟩|(refine⟨by omega,fun h=>?_⟩;have:=h2 h;omega)|omega
theorem cf_set:∀(a:List Bool) (i:Nat),i<a.length→a.getD i false=false→cf (a.set i true)<cf a
 |x::a,0,_,h=>by
  have:x=false:=by simpa using h
  subst this;simp [cf]
 |x::a,i+1,hi,h=>by
  have:=cf_set a i (by simpa using hi) (by simpa using h);simp only [List.set_cons_succ,cf];omega
def cfs:List (List Bool)→Nat
 | []=>0
 |r::m=>cf r+cfs m
theorem cfs_set:∀(m:List (List Bool)) (i:Nat) (r:List Bool),i<m.length→cf r≤cf (m.getD i [])→cfs (m.set i r)≤cfs m∧(cf r<cf (m.getD i [])→cfs (m.set i r)<cfs m)
 |x::m,0,r,_,h=>by
  simp only [List.getD_cons_zero,List.set_cons_zero,cfs] at h ⊢;omega
 |x::m,i+1,r,hi,h=>by
  have:=cfs_set m i r (by simpa using hi) (by simpa using h);simp only [List.getD_cons_succ,List.set_cons_succ,cfs] at h ⊢;omega
def Small (ps:List Prod):Prop:=ps.length≤1000000∧∀p∈ps,p.f1.length≤1000000
theorem refRight_l1_ev (l0:List ByteArray) (l1:List Tok) (a2 a3:Int) (l4:List Prod) (x3 left:Int) (r:Bool):∀(l pre:List Sym),pre.length+l.length≤1000000→(l.all (okSym l0.length l1.length)=true→Ev (fun k=>regletref13_Right.l0 k (wrap64 (x3+1)) l0 l1 a2 a3 l4) r)→(l.all (okSym l0.length l1.length)=false→r=false)→Ev (fun k=>regletref13_Right.l1 k x3 (pre.length:Int) l0 l1 a2 a3 l4 left (pre++l)) r
 | [],pre,_,h1,_=>Ev.step (fun k=>by rw [regletref13_Right.l1]) (Ev.neg (by simp) (h1 rfl))
 |x::l,pre,h3,h1,h2=>by
  simp only [List.length_cons] at h3;have ih:=refRight_l1_ev l0 l1 a2 a3 l4 x3 left r l (pre++ [x]) (by simp;omega);simp only [←wrap_next pre _ (show pre.length≤1000000 by omega),List.append_assoc,List.singleton_append] at ih;have e:rd_T43 (pre++x::l) (pre.length:Int)=x:=getD_mid _ pre x l _ rfl;refine Ev.step (fun k=>by rw [regletref13_Right.l1]) ?_
  rw [e];refine Ev.pos (by simp;omega) (Ev.pos (by omega) ?_)
  cases hx:x.f0 with
  |true=>
   refine Ev.pos rfl ?_
   by_cases h0:x.f1<0
   ·exact Ev.pos h0 (Ev.some (h2 (by simp [okSym,hx];omega)).symm)
   ·refine Ev.neg h0 ?_
    by_cases h5:x.f1≥(l1.length:Int)
    ·exact Ev.pos h5 (Ev.some (h2 (by simp [okSym,hx];omega)).symm)
    ·refine Ev.neg h5 (ih (fun h=>h1 ?_) (fun h=>h2 ?_))
     ·simp [okSym,hx, -List.all_eq_true];exact⟨by omega,h⟩
     ·rw [List.all_cons,h,Bool.and_false]
  |false=>
   refine Ev.neg (by simp) ?_
   by_cases h0:x.f1<0
   ·exact Ev.pos h0 (Ev.some (h2 (by simp [okSym,hx];omega)).symm)
   ·refine Ev.neg h0 ?_
    by_cases h5:x.f1≥(l0.length:Int)
    ·exact Ev.pos h5 (Ev.some (h2 (by simp [okSym,hx];omega)).symm)
    ·refine Ev.neg h5 (ih (fun h=>h1 ?_) (fun h=>h2 ?_))
     ·simp [okSym,hx, -List.all_eq_true];exact⟨by omega,h⟩
     ·rw [List.all_cons,h,Bool.and_false]
theorem refRight_l0_ev (l0:List ByteArray) (l1:List Tok) (a2 a3:Int):∀(qs pre:List Prod),pre.length+qs.length≤1000000→(∀p∈qs,p.f1.length≤1000000)→Ev (fun k=>regletref13_Right.l0 k (pre.length:Int) l0 l1 a2 a3 (pre++qs)) (qs.all (okProd l0.length l1.length))
 | [],pre,_,_=>Ev.step (fun k=>by rw [regletref13_Right.l0]) (Ev.neg (by simp) (Ev.some (by simp)))
 |p::qs,pre,h3,h4=>by
  simp only [List.length_cons] at h3;have ih:=refRight_l0_ev l0 l1 a2 a3 qs (pre++ [p]) (by simp;omega) (fun p hp=>h4 p (List.mem_cons_of_mem _ hp));simp only [←wrap_next pre _ (show pre.length≤1000000 by omega),List.append_assoc,List.singleton_append] at ih;have e:rd_T35 (pre++p::qs) (pre.length:Int)=p:=getD_mid _ pre p qs _ rfl;refine Ev.step (fun k=>by rw [regletref13_Right.l0]) ?_
  rw [e];refine Ev.pos (by simp;omega) (Ev.pos (by omega) ?_)
  by_cases h0:p.f0<0
  ·refine Ev.pos h0 (Ev.step (fun k=>by rw [regletref13_Right.j1]) (Ev.pos rfl (Ev.some ?_)))
   simp [okProd];omega
  ·refine Ev.neg h0 (Ev.step (fun k=>by rw [regletref13_Right.j1]) ?_)
   by_cases h5:p.f0≥(l0.length:Int)
   ·refine Ev.pos (decide_eq_true h5) (Ev.some ?_)
    simp [okProd];omega
   ·refine Ev.neg (by simpa using h5) ?_
    have h:=refRight_l1_ev l0 l1 a2 a3 (pre++p::qs) (pre.length:Int) p.f0 ((p::qs).all (okProd l0.length l1.length)) p.f1 [] (by have:=h4 p List.mem_cons_self;simpa using this) (fun h=>Ev.val ih (by
     have:okProd l0.length l1.length p=true:=by simp only [okProd,h,Bool.and_true,Bool.and_eq_true,decide_eq_true_eq];omega
     rw [List.all_cons,this,Bool.true_and])) (fun h=>by
     have:okProd l0.length l1.length p=false:=by simp only [okProd,h,Bool.and_false]
     rw [List.all_cons,this,Bool.false_and])
    simpa only [List.nil_append,List.length_nil,Int.natCast_zero] using h
theorem refRight_ev (l0:List ByteArray) (l1:List Tok) (a2 a3:Int) (l4:List Prod) (h:Small l4):Ev (fun k=>regletref13_Right.f k l0 l1 a2 a3 l4) (l4.all (okProd l0.length l1.length)):=
 Ev.congr (fun k=>by rw [regletref13_Right.f]) (by simpa only [List.nil_append,List.length_nil,Int.natCast_zero] using refRight_l0_ev l0 l1 a2 a3 l4 [] (by have:=h.1;simpa using this) h.2)
def cNew (token:Bool) (out:List Bool) (p:Prod):Bool:=!(p.f1.any (oddP token out)) && !(out.getD p.f0.toNat false)
def cStep (token:Bool) (out:List Bool) (p:Prod):Bool×List Bool:=(cNew token out p,if cNew token out p=true then out.set p.f0.toNat true else out)
theorem okProd_left {nn nt:Nat}{p:Prod}(h:okProd nn nt p=true):0≤p.f0∧p.f0<(nn:Int):=by
 simp only [okProd,Bool.and_eq_true,decide_eq_true_eq] at h;exact h.1
theorem okProd_right {nn nt:Nat}{p:Prod}(h:okProd nn nt p=true):p.f1.all (okSym nn nt)=true:=by
 simp only [okProd,Bool.and_eq_true,decide_eq_true_eq] at h;exact h.2
theorem cStep_good (nn nt:Nat) (token:Bool) {ps:List Prod}(hps:ps.all (okProd nn nt)=true):Good (fun out:List Bool=>out.length=nn) cf (cStep token) ps:=by
 intro st p hI hp;have hl:=okProd_left (List.all_eq_true.1 hps p hp)
 unfold cStep
 simp only
 cases hc:cNew token st p with
 |false=>simp [hI]
 |true=>
  have h0:st.getD p.f0.toNat false=false:=by
   simp only [cNew,Bool.and_eq_true,Bool.not_eq_true'] at hc;exact hc.2
  have h:=cf_set st p.f0.toNat (by omega) h0;simp only [if_true];exact⟨by simpa using hI,Nat.le_of_lt h,fun _=>h⟩
def clo (token:Bool) (nn:Nat) (ps:List Prod):List Bool:=gOut (cStep token) ps (cf (List.replicate nn false)) (List.replicate nn false)
theorem clo_length (nn nt:Nat) (token:Bool) {ps:List Prod}(hps:ps.all (okProd nn nt)=true):(clo token nn ps).length=nn:=
 gOut_I (cStep_good nn nt token hps) _ _ (by simp)
theorem any_step (token:Bool) (out:List Bool) (x:Sym) (l:List Sym) (is:Bool):(is && !((x::l).any (oddP token out)))=((is && !(oddP token out x)) && !(l.any (oddP token out))):=by
 cases is<;>simp
theorem refEmpty_l2_ev (l0:List ByteArray) (l1:List Tok) (a2 a3:Int) (l4:List Prod) (out:List Bool) (more:Bool) (x5 left:Int) (hl0:0≤left) (hl1:left<(out.length:Int)) (h50:0≤x5) (h51:x5<(l4.length:Int)) (r:List Bool):∀(l pre:List Sym) (is:Bool),rd_T35 l4 x5=⟨left,pre++l⟩→l.all (okSym out.length l1.length)=true→pre.length+l.length≤1000000→
 Ev (fun k=>regletref13_Empty.l1 k (if((is && !(l.any (oddP false out))) && !(out.getD left.toNat false))=true then out.set left.toNat true else out) (((is && !(l.any (oddP false out))) && !(out.getD left.toNat false))||more) (wrap64 (x5+1)) l0 l1 a2 a3 l4) r→Ev (fun k=>regletref13_Empty.l2 k out more x5 is (pre.length:Int) l0 l1 a2 a3 l4) r
 | [],pre,is,e,_,_,hk=>by
  refine Ev.step (fun k=>by rw [regletref13_Empty.l2]) ?_
  rw [e];have e2:rdOf false out left=out.getD left.toNat false:=rfl;refine Ev.pos h50 (Ev.pos h51 (Ev.neg (by simp) ?_))
  rw [e2]
  cases is with
  |false=>exact Ev.neg (by simp) (by simpa using hk)
  |true=>
   refine Ev.pos rfl (Ev.pos hl0 (Ev.pos hl1 ?_))
   cases ho:out.getD left.toNat false with
   |true=>exact Ev.pos rfl (by rw [ho] at hk;simpa using hk)
   |false=>exact Ev.neg (by simp) (by rw [ho] at hk;simpa using hk)
 |x::l,pre,is,e,hok,h3,hk=>by
  simp only [List.length_cons] at h3;simp only [List.all_cons,Bool.and_eq_true] at hok;have ih:=fun is=>refEmpty_l2_ev l0 l1 a2 a3 l4 out more x5 left hl0 hl1 h50 h51 r l (pre++ [x]) is (by rw [List.append_assoc];exact e) hok.2 (by simp;omega)
  simp only [←wrap_next pre _ (show pre.length≤1000000 by omega)] at ih;rw [any_step] at hk;have e1:rd_T43 (pre++x::l) (pre.length:Int)=x:=getD_mid _ pre x l _ rfl;refine Ev.step (fun k=>by rw [regletref13_Empty.l2]) ?_
  rw [e];simp only [e1];refine Ev.pos h50 (Ev.pos h51 (Ev.pos (by simp;omega) (Ev.pos (by omega) ?_)))
  cases is with
  |false=>exact Ev.neg (by simp) (ih false (by rw [Bool.false_and] at hk;exact hk))
  |true=>
   refine Ev.pos rfl ?_
   have hb:=hok.1
   cases hx:x.f0 with
   |true=>
    have ho:oddP false out x=true:=by simp [oddP,hx]
    rw [ho] at hk;exact Ev.pos rfl (ih false hk)
   |false=>
    have hb:=okSym_rule hok.1 hx;have ho:(true && !oddP false out x)=rdOf false out x.f1:=by simp [oddP,hx]
    rw [ho] at hk;exact Ev.neg (by simp) (Ev.pos hb.1 (Ev.pos hb.2 (ih _ hk)))
theorem refEmpty_l1_ev (l0:List ByteArray) (l1:List Tok) (a2 a3:Int) (r:List Bool):∀(qs pre:List Prod) (out:List Bool) (more:Bool),out.length=l0.length→qs.all (okProd l0.length l1.length)=true→pre.length+qs.length≤1000000→(∀p∈qs,p.f1.length≤1000000)→Ev (fun k=>regletref13_Empty.l0 k (gIn (cStep false) qs more out).2 (gIn (cStep false) qs more out).1 l0 l1 a2 a3 (pre++qs)) r→Ev (fun k=>regletref13_Empty.l1 k out more (pre.length:Int) l0 l1 a2 a3 (pre++qs)) r
 | [],pre,out,more,_,_,_,_,hk=>Ev.step (fun k=>by rw [regletref13_Empty.l1]) (Ev.neg (by simp) (by simpa [gIn] using hk))
 |p::qs,pre,out,more,ho,hok,h3,h4,hk=>by
  simp only [List.length_cons] at h3;simp only [List.all_cons,Bool.and_eq_true] at hok;have ih:=fun out more ho=>refEmpty_l1_ev l0 l1 a2 a3 r qs (pre++ [p]) out more ho hok.2 (by simp;omega) (fun p hp=>h4 p (List.mem_cons_of_mem _ hp))
  simp only [←wrap_next pre _ (show pre.length≤1000000 by omega),List.append_assoc,List.singleton_append] at ih;refine Ev.step (fun k=>by rw [regletref13_Empty.l1]) (Ev.pos (by simp;omega) ?_)
  have hl:=okProd_left hok.1;have e:rd_T35 (pre++p::qs) (pre.length:Int)=⟨p.f0,[]++p.f1⟩:=getD_mid _ pre p qs _ rfl;have h:=refEmpty_l2_ev l0 l1 a2 a3 (pre++p::qs) out more (pre.length:Int) p.f0 hl.1 (by omega) (by omega) (by simp;omega) r p.f1 [] true e (by rw [ho];exact okProd_right hok.1) (by have:=h4 p List.mem_cons_self;simpa using this);refine h ?_
  rw [gIn] at hk;have hlen:(cStep false out p).2.length=l0.length:=by unfold cStep;simp only;split<;>simp [ho]
  have h2:=ih _ _ hlen hk;have e2:((true && !(p.f1.any (oddP false out))) && !(out.getD p.f0.toNat false))=cNew false out p:=by simp [cNew]
  rw [e2];exact h2
theorem refEmpty_l0_ev (l0:List ByteArray) (l1:List Tok) (a2 a3:Int) (l4:List Prod) (hs:Small l4) (hok:l4.all (okProd l0.length l1.length)=true):∀(n:Nat) (out:List Bool),out.length=l0.length→cf out≤n→Ev (fun k=>regletref13_Empty.l0 k out true l0 l1 a2 a3 l4) (gOut (cStep false) l4 n out)
 |n,out,ho,hn=>by
  obtain⟨h1,h2,h3⟩:=gIn_good (cStep_good l0.length l1.length false hok) false out ho;refine Ev.step (fun k=>by rw [regletref13_Empty.l0]) (Ev.pos rfl ?_)
  have h:=refEmpty_l1_ev l0 l1 a2 a3 (gOut (cStep false) l4 n out) l4 [] out false ho hok (by have:=hs.1;simpa using this) hs.2;simp only [List.nil_append,List.length_nil,Int.natCast_zero] at h;refine h ?_
  cases hr:(gIn (cStep false) l4 false out).1 with
  |false=>
   refine Ev.step (fun k=>by rw [regletref13_Empty.l0]) (Ev.neg (by simp) (Ev.some ?_))
   cases n<;>simp [gOut,hr]
  |true=>
   have hlt:=(h3 hr).resolve_left (by simp)
   cases n with
   |zero=>omega
   |succ n=>
    refine Ev.val (refEmpty_l0_ev l0 l1 a2 a3 l4 hs hok n _ h1 (by omega)) ?_
    rw [gOut,if_pos hr]
theorem refEmpty_ev (l0:List ByteArray) (l1:List Tok) (a2 a3:Int) (l4:List Prod) (h:Small l4) (hn:l0.length≤1000000):Ev (fun k=>regletref13_Empty.f k l0 l1 a2 a3 l4) (if l4.all (okProd l0.length l1.length)=true then clo false l0.length l4 else []):=by
 refine Ev.congr (fun k=>by rw [regletref13_Empty.f]) (Ev.bind (refRight_ev l0 l1 a2 a3 l4 h) ?_)
 cases hr:l4.all (okProd l0.length l1.length) with
 |false=>exact Ev.neg (by simp) (Ev.some (by simp))
 |true=>
  rw [if_pos rfl];refine Ev.pos rfl (Ev.pos (by omega) (Ev.pos (by omega) ?_))
  rw [Int.toNat_natCast];exact refEmpty_l0_ev l0 l1 a2 a3 l4 h hr _ _ (by simp) (Nat.le_refl _)
section
variable {l0:List ByteArray}{l1:List Tok}{a2 a3:Int}{ps:List Prod}
variable {tb:List (List Int)}
structure Fit (l1:List Tok) (ps:List Prod) (tb:List (List Int)):Prop where
 small:Small ps
 toks:l1.length≤1000000
 rows:tb.length≤100000000
 row:∀r∈tb,r.length≤100000000
theorem machFeed_val (hf:Fit l1 ps tb) (st:List Sym) (d:Bool) (look:Int):machine_Feed.f l0 l1 a2 a3 ps tb st d look=some (mFeedAll l0.length l1.length ps tb st d look):=by
 unfold machine_Feed.f
 rw [if_pos ⟨by have:=hf.toks;omega,by have:=hf.rows;omega,by have:=hf.small.1;omega,List.all_eq_true.2 (fun p hp=>decide_eq_true (hf.small.2 p hp)),List.all_eq_true.2 (fun r hr=>decide_eq_true (by have:=hf.row r hr;omega))⟩]
end
section
variable {l0:List ByteArray}{l1:List Tok}{a2 a3:Int}{ps:List Prod}{tb:List (List Int)}
theorem mFeed_len {nt:Nat}{ps:List Prod}{tb:List (List Int)}{look:Int}:∀(k:Nat) (st:List Sym) (sp:List Int) (R:Int×List Sym×List Int),mFeed nt ps tb look k st sp=some R→st.length≤10000→sp.length≤10000→R.2.2.length≤10000∧(R.1=0→R.2.1.length≤10000)
 |0,_,_,_,h,_,_=>by simp [mFeed] at h
 |k+1,[],sp,R,h,_,hs=>by
  rw [mFeed] at h;have h:=(Option.some.inj h).symm;subst h;exact⟨hs,fun _=>by simp⟩
 |k+1,x::st,sp,R,h,hl,hs=>by
  rw [mFeed] at h;simp only [List.length_cons] at hl
  split at h
  ·have h:=(Option.some.inj h).symm
   subst h;exact⟨hs,fun _=>by simp only;omega⟩
  ·split at h
   ·have h:=(Option.some.inj h).symm
    subst h;exact⟨hs,fun h=>by simp at h⟩
   ·split at h
    ·rename_i hc
     simp only [Bool.and_eq_true,decide_eq_true_eq] at hc;exact mFeed_len k _ _ R h hc.1 hc.2
    ·have h:=(Option.some.inj h).symm
     subst h;exact⟨by simp,fun h=>by simp at h⟩
theorem mFeedAll_len {nn nt:Nat}{ps:List Prod}{tb:List (List Int)}(st:List Sym) (d:Bool) (look:Int):(mFeedAll nn nt ps tb st d look).1.length≤10000∧(mFeedAll nn nt ps tb st d look).2.2.1.length≤10000:=by
 unfold mFeedAll
 split
 ·rename_i h
  split
  ·simp
  ·obtain⟨R,hR⟩:=mFeed_some (nt:=nt) (ps:=ps) (tb:=tb) (look:=look) 10002 st.reverse [] (by omega) (by simp)
   rw [hR];have ha:st.length≤10000:=by have:=h.2.1;simp only [stAwaits,Bool.and_eq_true,decide_eq_true_eq] at this;exact this.1
   have hl:=mFeed_len 10002 st.reverse [] R hR (by rw [List.length_reverse];exact ha) (by simp);obtain⟨e,s,p⟩:=R;have em:mOut (some (e,s,p))=if e=0 then(s.reverse,false,p,0) else([],true,p,e):=rfl
   rw [em]
   split
   ·rename_i he
    exact⟨by rw [List.length_reverse];exact hl.2 he,hl.1⟩
   ·exact⟨by simp,hl.1⟩
 ·simp
theorem mFeedAll_bad {nn nt:Nat}{ps:List Prod}{tb:List (List Int)}(st:List Sym) (d:Bool) {look:Int}(h:¬(0≤look∧look≤(nt:Int))):mFeedAll nn nt ps tb st d look=([],true,[],1):=by
 unfold mFeedAll
 rw [if_neg (fun hh=>h hh.2.2)]
def mRun (nn nt:Nat) (ps:List Prod) (tb:List (List Int)):List Int→Nat→List Sym→Bool→List Int→List Int×Int×Int
 | [],i,st,d,out=>if(mFeedAll nn nt ps tb st d (nt:Int)).2.2.2=0 then(out++(mFeedAll nn nt ps tb st d (nt:Int)).2.2.1,0,0) else([],(mFeedAll nn nt ps tb st d (nt:Int)).2.2.2,(i:Int))
 |x::rest,i,st,d,out=>
  if x<0∨(nt:Int)≤x then([],1,(i:Int))
  else if(mFeedAll nn nt ps tb st d x).2.2.2=0 then mRun nn nt ps tb rest (i+1) (mFeedAll nn nt ps tb st d x).1 (mFeedAll nn nt ps tb st d x).2.1 (out++(mFeedAll nn nt ps tb st d x).2.2.1)
  else([],(mFeedAll nn nt ps tb st d x).2.2.2,(i:Int))
set_option maxRecDepth 100000 in
theorem len_step {a b c n:Nat}(h:n≤a+c+10000 * (b+1)) (h2:c≤10000):n≤a+10000 * (b+1+1):=by omega
set_option maxRecDepth 100000 in
theorem len_end {a c:Nat}(h2:c≤10000):a+c≤a+10000 * (0+1):=by omega
set_option maxRecDepth 100000 in
theorem len_ok {a b:Nat}(h:a≤0+10000 * (b+1)) (h2:b≤20):a≤1000000:=by omega
theorem mRun_len {nn nt:Nat}{ps:List Prod}{tb:List (List Int)}:∀(rest:List Int) (i:Nat) (st:List Sym) (d:Bool) (out:List Int),(mRun nn nt ps tb rest i st d out).1.length≤out.length+10000 * (rest.length+1)
 | [],i,st,d,out=>by
  have hl:=mFeedAll_len (nn:=nn) (nt:=nt) (ps:=ps) (tb:=tb) st d (nt:Int);rw [mRun]
  split
  ·rw [List.length_append,List.length_nil];exact len_end hl.2
  ·simp
 |x::rest,i,st,d,out=>by
  have hl:=mFeedAll_len (nn:=nn) (nt:=nt) (ps:=ps) (tb:=tb) st d x;rw [mRun]
  split
  ·simp
  ·split
   ·have ih:=mRun_len (nn:=nn) (nt:=nt) (ps:=ps) (tb:=tb) rest (i+1) (mFeedAll nn nt ps tb st d x).1 (mFeedAll nn nt ps tb st d x).2.1 (out++(mFeedAll nn nt ps tb st d x).2.2.1)
    rw [List.length_append] at ih;rw [List.length_cons];exact len_step ih hl.2
   ·simp
theorem machRun_l0_ev (hf:Fit l1 ps tb) {l:List Int}(hl:l.length≤1000000):∀(rest pre:List Int) (st:List Sym) (d:Bool) (out:List Int),l=pre++rest→out.length≤10000 * pre.length→
 Ev (fun k=>machine_Run.l0 k tb l out (l++ [(l1.length:Int)]) ((l++ [(l1.length:Int)]).length:Int) (pre.length:Int) l0 l1 a2 a3 ps st d) (mRun l0.length l1.length ps tb rest pre.length st d out)
 | [],pre,st,d,out,e,ho=>by
  rw [List.append_nil] at e;subst e;have hs:=mFeedAll_len (nn:=l0.length) (nt:=l1.length) (ps:=ps) (tb:=tb) st d (l1.length:Int);have er:rd (l++ [(l1.length:Int)]) (l.length:Int)=(l1.length:Int):=getD_mid _ l _ [] _ rfl;have el:(l++ [(l1.length:Int)]).length=l.length+1:=by simp
  refine Ev.step (fun k=>by rw [machine_Run.l0]) (Ev.pos (by rw [el];omega) (Ev.pos (by omega) (Ev.pos (by rw [el];omega) (Ev.neg (by omega) ?_))))
  refine Ev.step (fun k=>by rw [machine_Run.j1]) (Ev.neg (by simp) ?_)
  rw [er];refine Ev.bind0 (machFeed_val hf st d _) ?_
  rw [mRun]
  by_cases h:(mFeedAll l0.length l1.length ps tb st d (l1.length:Int)).2.2.2=0
  ·rw [if_pos h]
   refine Ev.pos h (Ev.pos (by omega) ?_)
   refine Ev.step (fun k=>by rw [machine_Run.l0]) ?_
   refine Ev.neg ?_ (Ev.some rfl)
   rw [wrap64_id (by omega) (by omega),el];omega
  ·rw [if_neg h]
   exact Ev.neg h (Ev.some rfl)
 |x::rest,pre,st,d,out,e,ho=>by
  have hs:=mFeedAll_len (nn:=l0.length) (nt:=l1.length) (ps:=ps) (tb:=tb) st d x;have hlt:pre.length<l.length:=by rw [e];simp
  have el:(l++ [(l1.length:Int)]).length=l.length+1:=by simp
  have er:rd (l++ [(l1.length:Int)]) (pre.length:Int)=x:=by rw [e,List.append_assoc];exact getD_mid _ pre x _ _ rfl
  refine Ev.step (fun k=>by rw [machine_Run.l0]) (Ev.pos (by rw [el];omega) (Ev.pos (by omega) (Ev.pos (by rw [el];omega) (Ev.pos (by omega) ?_))))
  rw [er];rw [mRun]
  by_cases hx:x=(l1.length:Int)
  ·rw [if_pos (.inr (by omega))]
   refine Ev.step (fun k=>by rw [machine_Run.j1]) (Ev.pos (by simp [hx]) (Ev.some rfl))
  ·refine Ev.step (fun k=>by rw [machine_Run.j1]) (Ev.neg (by simp [hx]) (Ev.bind0 (machFeed_val hf st d _) ?_))
   by_cases hb:x<0∨(l1.length:Int)≤x
   ·rw [if_pos hb,mFeedAll_bad st d (by omega)]
    refine Ev.neg (by simp) (Ev.some rfl)
   ·rw [if_neg hb]
    by_cases h:(mFeedAll l0.length l1.length ps tb st d x).2.2.2=0
    ·rw [if_pos h]
     refine Ev.pos h (Ev.pos (by omega) ?_)
     have ih:=machRun_l0_ev hf hl rest (pre++ [x]) (mFeedAll l0.length l1.length ps tb st d x).1 (mFeedAll l0.length l1.length ps tb st d x).2.1 (out++(mFeedAll l0.length l1.length ps tb st d x).2.2.1) (by rw [List.append_assoc];exact e) (by simp only [List.length_append,List.length_singleton];omega);rw [←wrap_next pre x (by omega),show(pre++ [x]).length=pre.length+1 by simp] at ih;exact ih
    ·rw [if_neg h]
     exact Ev.neg h (Ev.some rfl)
theorem machRun_ev (hf:Fit l1 ps tb) {l:List Int}(hl:l.length≤1000000):Ev (fun k=>machine_Run.f k l0 l1 a2 a3 ps tb l) (mRun l0.length l1.length ps tb l 0 [⟨false,0⟩] false []):=by
 refine Ev.congr (fun k=>by rw [machine_Run.f]) ?_
 refine Ev.bind0 (a:=([(⟨false,0⟩:Sym)],false)) rfl ?_
 refine Ev.bind0 (a:=l) (by unfold slices_Clone_int_int.f;rw [if_pos (by omega)]) ?_
 refine Ev.bind0 (a:= [(l1.length:Int)]) rfl ?_
 refine Ev.pos (by rw [List.length_singleton];omega) ?_
 refine Ev.bind0 (a:=l++ [(l1.length:Int)]) rfl ?_
 exact machRun_l0_ev hf hl l [] [⟨false,0⟩] false [] rfl (by simp)
end
end Go.Proofs.Ytapjfnfengefpaa.M
end

section
namespace Go.Proofs.Ytapjfnfengefpaa.M
open Go.RowKit Go.Proofs.YtapjfnfengefpaaW.PrintWords Go.Proofs.YtapjfnfengefpaaW.PrintLast Go.Proofs.YtapjfnfengefpaaW.PrintMore Go.Proofs.Ytapjfnfengefpaa.P Go.Proofs.Ytapjfnfengefpaa.H
theorem awake16_some:regletlaw16_awake.f 40=some true:=by kernel_rfl
theorem awake16_ev:Ev (fun k=>regletlaw16_awake.f k) true:=Ev.of regletlaw16_awake.mono awake16_some
end Go.Proofs.Ytapjfnfengefpaa.M
end

section
namespace Go.Proofs.Ytapjfnfengefpaa.M
open Go.RowKit Go.Proofs.YtapjfnfengefpaaW.PrintWords Go.Proofs.YtapjfnfengefpaaW.PrintLast Go.Proofs.YtapjfnfengefpaaW.PrintMore Go.Proofs.Ytapjfnfengefpaa.P Go.Proofs.Ytapjfnfengefpaa.H
set_option linter.unusedVariables false
set_option linter.unusedSimpArgs false
def rows0 (nn nt:Nat):List (List Bool):=List.replicate nn (none0 nt)
theorem rows0_sh (nn nt:Nat):Sh nn nt (rows0 nn nt):=⟨by simp [rows0],fun r hr=>by rw [List.eq_of_mem_replicate hr];simp [none0]⟩
theorem marks_l0_ev (l0:List ByteArray) (l1:List Tok) (a2 a3:Int) (l4:List Prod) (h0:l0.length≤1000000) (h1:l1.length≤1000000):∀(n:Nat) (out:List (List Bool)),out.length+n=l0.length→Ev (fun k=>regletref13_marks.l0 k out (out.length:Int) l0 l1 a2 a3 l4) (out++rows0 n l1.length)
 |0,out,h=>Ev.step (fun k=>by rw [regletref13_marks.l0]) (Ev.neg (by omega) (Ev.some (by simp [rows0])))
 |n+1,out,h=>by
  have ih:=marks_l0_ev l0 l1 a2 a3 l4 h0 h1 n (out++ [none0 l1.length]) (by simp;omega);rw [←wrap_next out _ (show out.length≤1000000 by omega)] at ih;have e:wrap64 ((l1.length:Int)+1)=((l1.length+1:Nat):Int):=by rw [wrap64_id (by omega) (by omega)];simp
  refine Ev.step (fun k=>by rw [regletref13_marks.l0,e]) (Ev.pos (by omega) (Ev.pos (by omega) (Ev.pos (by omega) (Ev.pos (by omega) ?_))))
  rw [Int.toNat_natCast];exact Ev.val ih (by simp [rows0,List.replicate_succ])
theorem marks_ev (l0:List ByteArray) (l1:List Tok) (a2 a3:Int) (l4:List Prod) (h0:l0.length≤1000000) (h1:l1.length≤1000000):Ev (fun k=>regletref13_marks.f k l0 l1 a2 a3 l4) (rows0 l0.length l1.length):=
 Ev.congr (fun k=>by rw [regletref13_marks.f]) (by simpa using marks_l0_ev l0 l1 a2 a3 l4 h0 h1 l0.length [] (by simp))
def sStep (nt:Nat) (em:List Bool) (m:List (List Bool)) (p:Prod):Bool×List (List Bool):=
 (moreL (m.getD p.f0.toNat []) (bg em m p.f1 (none0 nt)).1,m.set p.f0.toNat (orL (m.getD p.f0.toNat []) (bg em m p.f1 (none0 nt)).1))
theorem none0_length (nt:Nat):(none0 nt).length=nt+1:=by simp [none0]
theorem row_step {nn nt:Nat}{m:List (List Bool)}(hs:Sh nn nt m) {i:Nat}(hi:i<nn) {b:List Bool}(hb:b.length=nt+1):Sh nn nt (m.set i (orL (m.getD i []) b))∧cfs (m.set i (orL (m.getD i []) b))≤cfs m∧(moreL (m.getD i []) b=true→cfs (m.set i (orL (m.getD i []) b))<cfs m):=by
 have hr:=hs.get hi;have h1:=cf_orL (m.getD i []) b (by rw [hr,hb]);have h2:=cfs_set m i (orL (m.getD i []) b) (by rw [hs.1];exact hi) h1.1;exact⟨hs.set i (by rw [orL_length (by rw [hr,hb]),hr]),h2.1,fun h=>h2.2 (h1.2 h)⟩
theorem sStep_good {nn nt:Nat}(em:List Bool) {ps:List Prod}(hps:ps.all (okProd nn nt)=true):Good (Sh nn nt) cfs (sStep nt em) ps:=by
 intro st p hI hp;have hok:=List.all_eq_true.1 hps p hp;have hl:=okProd_left hok;exact row_step hI (by omega) (bg_length em hI p.f1 _ (okProd_right hok) (none0_length nt))
def fst (nn nt:Nat) (em:List Bool) (ps:List Prod):List (List Bool):=gOut (sStep nt em) ps (cfs (rows0 nn nt)) (rows0 nn nt)
theorem fst_sh (nn nt:Nat) (em:List Bool) {ps:List Prod}(hps:ps.all (okProd nn nt)=true):Sh nn nt (fst nn nt em ps):=
 gOut_I (sStep_good em hps) _ _ (rows0_sh nn nt)
theorem refFirst_l1_ev (l0:List ByteArray) (l1:List Tok) (a2 a3:Int) (em:List Bool) (he:em.length=l0.length) (h1:l1.length≤1000):∀(qs pre:List Prod) (m:List (List Bool)) (more:Bool),Sh l0.length l1.length m→qs.all (okProd l0.length l1.length)=true→pre.length+qs.length≤1000000→(∀p∈qs,p.f1.length≤1000000)→Ev (fun k=>regletref13_first.l1 l0 l1 a2 a3 (pre++qs) k m em more (pre.length:Int)) (gIn (sStep l1.length em) qs more m)
 | [],pre,m,more,_,_,_,_=>Ev.step (fun k=>by rw [regletref13_first.l1]) (Ev.neg (by simp) (Ev.some (by simp [gIn])))
 |p::qs,pre,m,more,hs,hok,h3,h4=>by
  simp only [List.length_cons] at h3;simp only [List.all_cons,Bool.and_eq_true] at hok;have ih:=fun m more hs=>refFirst_l1_ev l0 l1 a2 a3 em he h1 qs (pre++ [p]) m more hs hok.2 (by simp;omega) (fun p hp=>h4 p (List.mem_cons_of_mem _ hp))
  simp only [←wrap_next pre _ (show pre.length≤1000000 by omega),List.append_assoc,List.singleton_append] at ih;have hl:=okProd_left hok.1;have hs1:=hs.1;have hb:=bg_length em hs p.f1 _ (okProd_right hok.1) (none0_length l1.length);have hr:=hs.get (i:=p.f0.toNat) (by omega);have hg:=(sStep_good em (ps:= [p]) (by simp [hok.1])) m p hs (by simp);have e:rd_T35 (pre++p::qs) (pre.length:Int)=p:=getD_mid _ pre p qs _ rfl;refine Ev.step (fun k=>by rw [regletref13_first.l1]) ?_
  rw [e];refine Ev.pos (by simp;omega) (Ev.pos (by omega) (Ev.bind (refBegins_ev l0 l1 a2 a3 _ hs he h1 p.f1 (okProd_right hok.1) (h4 p List.mem_cons_self)) (Ev.pos hl.1 (Ev.pos (by omega) (Ev.bind (join_ev (m.getD p.f0.toNat []) (bg em m p.f1 (none0 l1.length)).1 (by rw [hr,hb]) (by omega)) ?_)))))
  refine Ev.val (ih _ _ hg.1) ?_
  rw [gIn]
  congr 1
  show(if(sStep l1.length em m p).1=true then true else more)=_
  cases (sStep l1.length em m p).1<;>rfl
theorem refFirst_l0_ev (l0:List ByteArray) (l1:List Tok) (a2 a3:Int) (l4:List Prod) (h:Small l4) (em:List Bool) (he:em.length=l0.length) (h1:l1.length≤1000) (hok:l4.all (okProd l0.length l1.length)=true):∀(n:Nat) (m:List (List Bool)),Sh l0.length l1.length m→cfs m≤n→Ev (fun k=>regletref13_first.l0 l0 l1 a2 a3 l4 k m em true) (gOut (sStep l1.length em) l4 n m)
 |n,m,hs,hn=>by
  obtain⟨g1,g2,g3⟩:=gIn_good (sStep_good em hok) false m hs;have h5:=refFirst_l1_ev l0 l1 a2 a3 em he h1 l4 [] m false hs hok (by have:=h.1;simpa using this) h.2;simp only [List.nil_append,List.length_nil,Int.natCast_zero] at h5;refine Ev.step (fun k=>by rw [regletref13_first.l0]) (Ev.pos rfl (Ev.bind h5 ?_))
  cases hr:(gIn (sStep l1.length em) l4 false m).1 with
  |false=>
   refine Ev.step (fun k=>by rw [regletref13_first.l0]) (Ev.neg (by simp) (Ev.some ?_))
   cases n<;>simp [gOut,hr]
  |true=>
   have hlt:=(g3 hr).resolve_left (by simp)
   cases n with
   |zero=>omega
   |succ n=>
    refine Ev.val (refFirst_l0_ev l0 l1 a2 a3 l4 h em he h1 hok n _ g1 (by omega)) ?_
    rw [gOut,if_pos hr]
theorem refFirst_ev (l0:List ByteArray) (l1:List Tok) (a2 a3:Int) (l4:List Prod) (h:Small l4) (h0:l0.length≤1000000) (h1:l1.length≤1000) (hok:l4.all (okProd l0.length l1.length)=true):Ev (fun k=>regletref13_first.f k l0 l1 a2 a3 l4) (fst l0.length l1.length (clo false l0.length l4) l4):=by
 refine Ev.congr (fun k=>by rw [regletref13_first.f]) (Ev.bind (marks_ev l0 l1 a2 a3 l4 h0 (by omega)) (Ev.bind (Ev.val (refEmpty_ev l0 l1 a2 a3 l4 h h0) (if_pos hok)) ?_))
 exact refFirst_l0_ev l0 l1 a2 a3 l4 h _ (clo_length l0.length l1.length false hok) h1 hok _ _ (rows0_sh l0.length l1.length) (Nat.le_refl _)
def fAdd (nt:Nat) (em:List Bool) (first:List (List Bool)) (left:Nat) (ys:List Sym) (out:List (List Bool)):List Bool:=
 if(bg em first ys (none0 nt)).2=true then orL (bg em first ys (none0 nt)).1 (out.getD left []) else(bg em first ys (none0 nt)).1
def fIn (nt:Nat) (em:List Bool) (first:List (List Bool)) (left:Nat):List Sym→Bool→List (List Bool)→Bool×List (List Bool)
 | [],g,out=>(g,out)
 |y::ys,g,out=>if y.f0=true then fIn nt em first left ys g out else
  fIn nt em first left ys (moreL (out.getD y.f1.toNat []) (fAdd nt em first left ys out)||g) (out.set y.f1.toNat (orL (out.getD y.f1.toNat []) (fAdd nt em first left ys out)))
def fStep (nt:Nat) (em:List Bool) (first:List (List Bool)) (out:List (List Bool)) (p:Prod):Bool×List (List Bool):=fIn nt em first p.f0.toNat p.f1 false out
theorem fAdd_length {nn nt:Nat}(em:List Bool) {first out:List (List Bool)}(hf:Sh nn nt first) (hs:Sh nn nt out) {left:Nat}(hl:left<nn) {ys:List Sym}(hok:ys.all (okSym nn nt)=true):(fAdd nt em first left ys out).length=nt+1:=by
 have hb:=bg_length em hf ys _ hok (none0_length nt)
 unfold fAdd
 split
 ·rw [orL_length (by rw [hb,hs.get hl]),hb]
 ·exact hb
theorem fIn_good {nn nt:Nat}(em:List Bool) {first:List (List Bool)}(hf:Sh nn nt first) {left:Nat}(hl:left<nn):∀(ys:List Sym) (g:Bool) (out:List (List Bool)),ys.all (okSym nn nt)=true→Sh nn nt out→Sh nn nt (fIn nt em first left ys g out).2∧cfs (fIn nt em first left ys g out).2≤cfs out∧((fIn nt em first left ys g out).1=true→g=true∨cfs (fIn nt em first left ys g out).2<cfs out)
 | [],g,out,_,hs=>⟨hs,Nat.le_refl _,fun h=> .inl h⟩
 |y::ys,g,out,hok,hs=>by
  simp only [List.all_cons,Bool.and_eq_true] at hok
  unfold fIn
  cases hy:y.f0 with
  |true=>rw [if_pos rfl];exact fIn_good em hf hl ys g out hok.2 hs
  |false=>
   rw [if_neg (by simp)];have hb:=okSym_rule hok.1 hy;obtain⟨h1,h2,h3⟩:=row_step hs (i:=y.f1.toNat) (by omega) (fAdd_length em hf hs hl hok.2);obtain⟨h4,h5,h6⟩:=fIn_good em hf hl ys (moreL (out.getD y.f1.toNat []) (fAdd nt em first left ys out)||g) _ hok.2 h1;refine⟨h4,Nat.le_trans h5 h2,fun h=>?_⟩
   rcases h6 h with h7|h7
   ·rcases(Bool.or_eq_true _ _).mp h7 with h8|h8
    ·exact .inr (Nat.lt_of_le_of_lt h5 (h3 h8))
    ·exact .inl h8
   ·exact .inr (Nat.lt_of_lt_of_le h7 h2)
theorem fStep_good {nn nt:Nat}(em:List Bool) {first:List (List Bool)}(hf:Sh nn nt first) {ps:List Prod}(hps:ps.all (okProd nn nt)=true):Good (Sh nn nt) cfs (fStep nt em first) ps:=by
 intro st p hI hp;have hok:=List.all_eq_true.1 hps p hp;have hl:=okProd_left hok;obtain⟨h1,h2,h3⟩:=fIn_good em hf (left:=p.f0.toNat) (by omega) p.f1 false st (okProd_right hok) hI;exact⟨h1,h2,fun h=>(h3 h).resolve_left (by simp)⟩
def fol0 (nn nt:Nat):List (List Bool):=if 0<nn then(rows0 nn nt).set 0 ((none0 nt).set nt true) else []
theorem fol0_sh (nn nt:Nat):Sh nn nt (fol0 nn nt):=by
 unfold fol0
 split
 ·exact(rows0_sh nn nt).set 0 (by simp [none0_length])
 ·obtain rfl:nn=0:=by omega
  exact⟨rfl,fun r hr=>by simp at hr⟩
def fol (nn nt:Nat) (em:List Bool) (first:List (List Bool)) (ps:List Prod):List (List Bool):=gOut (fStep nt em first) ps (cfs (fol0 nn nt)) (fol0 nn nt)
theorem fol_sh {nn nt:Nat}(em:List Bool) {first:List (List Bool)}(hf:Sh nn nt first) {ps:List Prod}(hps:ps.all (okProd nn nt)=true):Sh nn nt (fol nn nt em first ps):=
 gOut_I (fStep_good em hf hps) _ _ (fol0_sh nn nt)
theorem refFollowIn_ev (l0:List ByteArray) (l1:List Tok) (a2 a3:Int) (l4:List Prod) {em:List Bool}(he:em.length=l0.length) (hnt:l1.length≤1000) {first:List (List Bool)}(hf:Sh l0.length l1.length first) {left:Int}(hl0:0≤left) (hl1:left<(l0.length:Int)):∀(ys:List Sym) (g:Bool) (out:List (List Bool)),ys.all (okSym l0.length l1.length)=true→ys.length≤1000000→Sh l0.length l1.length out→Ev (fun k=>rFollowIn k l0 l1 a2 a3 l4 first em left ys g out) (fIn l1.length em first left.toNat ys g out)
 | [],g,out,_,_,hs=>Ev.congr (fun k=>by rw [rFollowIn]) (Ev.some (by rw [fIn]))
 |y::ys,g,out,hok,h3,hs=>by
  simp only [List.all_cons,Bool.and_eq_true] at hok;simp only [List.length_cons] at h3;refine Ev.congr (fun k=>by rw [rFollowIn]) ?_
  unfold fIn
  cases hy:y.f0 with
  |true=>rw [if_pos rfl];exact Ev.pos rfl (refFollowIn_ev l0 l1 a2 a3 l4 he hnt hf hl0 hl1 ys g out hok.2 (by omega) hs)
  |false=>
   rw [if_neg (by simp)];have hb:=okSym_rule hok.1 hy;have hbl:=bg_length em hf ys _ hok.2 (none0_length l1.length);have hn:y.f1.toNat<l0.length:=by omega
   have hrow:=hs.get hn;have hs1:=hs.1;have hfl:=fAdd_length em hf hs (left:=left.toNat) (by omega) hok.2;obtain⟨h1a,_,_⟩:=row_step hs hn hfl;have hlr:=hs.get (i:=left.toNat) (by omega);refine Ev.neg (by simp) (Ev.bind (refBegins_ev l0 l1 a2 a3 l4 hf he hnt ys hok.2 (by omega)) ?_)
   refine Ev.bind (a:=fAdd l1.length em first left.toNat ys out) ?_ ?_
   ·refine Ev.congr (fun k=>by rw [rJoinFrom]) ?_
    unfold fAdd
    cases hem:(bg em first ys (none0 l1.length)).2 with
    |false=>exact Ev.neg (by simp) (Ev.some (by simp))
    |true=>
     refine Ev.pos rfl (Ev.pos hl0 (Ev.pos (by omega) ?_))
     exact Ev.bind (join_ev _ _ (by rw [hbl,hlr]) (by omega)) (Ev.some (by simp))
   ·refine Ev.bind (a:=(moreL (out.getD y.f1.toNat []) (fAdd l1.length em first left.toNat ys out),out.set y.f1.toNat (orL (out.getD y.f1.toNat []) (fAdd l1.length em first left.toNat ys out)))) ?_ ?_
    ·refine Ev.congr (fun k=>by rw [rJoinRow]) (Ev.pos hb.1 (Ev.pos (by omega) ?_))
     exact Ev.bind (join_ev _ _ (by rw [hrow,hfl]) (by omega)) (Ev.some rfl)
    ·refine Ev.val (refFollowIn_ev l0 l1 a2 a3 l4 he hnt hf hl0 hl1 ys _ _ hok.2 (by omega) h1a) ?_
     congr 1
     cases moreL (out.getD y.f1.toNat []) (fAdd l1.length em first left.toNat ys out)<;>rfl
theorem fIn_more (nt:Nat) (em:List Bool) (first:List (List Bool)) (left:Nat):∀(ys:List Sym) (g:Bool) (out:List (List Bool)),fIn nt em first left ys g out=((fIn nt em first left ys false out).1||g,(fIn nt em first left ys false out).2)
 | [],g,out=>by simp [fIn]
 |y::ys,g,out=>by
  unfold fIn
  split
  ·exact fIn_more nt em first left ys g out
  ·rw [fIn_more nt em first left ys (_||g),fIn_more nt em first left ys (_||false)]
   simp [Bool.or_assoc]
theorem refFollowPs_ev (l0:List ByteArray) (l1:List Tok) (a2 a3:Int) (l4:List Prod) {em:List Bool}(he:em.length=l0.length) (hnt:l1.length≤1000) {first:List (List Bool)}(hf:Sh l0.length l1.length first):∀(qs:List Prod) (g:Bool) (out:List (List Bool)),qs.all (okProd l0.length l1.length)=true→(∀p∈qs,p.f1.length≤1000000)→Sh l0.length l1.length out→Ev (fun k=>rFollowPs k l0 l1 a2 a3 l4 first em qs g out) (gIn (fStep l1.length em first) qs g out)
 | [],g,out,_,_,hs=>Ev.congr (fun k=>by rw [rFollowPs]) (Ev.some (by rw [gIn]))
 |p::qs,g,out,hok,h3,hs=>by
  simp only [List.all_cons,Bool.and_eq_true] at hok;have hl:=okProd_left hok.1;have hg:=fIn_good em hf (left:=p.f0.toNat) (by omega) p.f1 g out (okProd_right hok.1) hs;refine Ev.congr (fun k=>by rw [rFollowPs]) (Ev.bind (refFollowIn_ev l0 l1 a2 a3 l4 he hnt hf hl.1 hl.2 p.f1 g out (okProd_right hok.1) (h3 p List.mem_cons_self) hs) ?_)
  refine Ev.val (refFollowPs_ev l0 l1 a2 a3 l4 he hnt hf qs _ _ hok.2 (fun p hp=>h3 p (List.mem_cons_of_mem _ hp)) hg.1) ?_
  rw [gIn,fStep,fIn_more]
theorem refFollowOut_ev (l0:List ByteArray) (l1:List Tok) (a2 a3:Int) (l4:List Prod) (h:Small l4) {em:List Bool}(he:em.length=l0.length) (hnt:l1.length≤1000) {first:List (List Bool)}(hf:Sh l0.length l1.length first) (hok:l4.all (okProd l0.length l1.length)=true):∀(n:Nat) (out:List (List Bool)),Sh l0.length l1.length out→cfs out≤n→∃K,∀kk,K≤kk→∀k,K≤k→rFollowOut kk l0 l1 a2 a3 l4 first em k out true=some (gOut (fStep l1.length em first) l4 n out)
 |n,out,hs,hn=>by
  obtain⟨g1,g2,g3⟩:=gIn_good (fStep_good em hf hok) false out hs;obtain⟨K1,hK1⟩:=refFollowPs_ev l0 l1 a2 a3 l4 he hnt hf l4 false out hok h.2 hs;have hK1':∀k,K1≤k→rFollowPs k l0 l1 a2 a3 l4 first em l4 false out=some (gIn (fStep l1.length em first) l4 false out):=hK1
  cases hr:(gIn (fStep l1.length em first) l4 false out).1 with
  |false=>
   refine⟨K1+2,fun kk hkk k hk=>?_⟩
   obtain⟨k',rfl⟩:∃k',k=k'+2:=⟨k - 2,by omega⟩;rw [rFollowOut,if_pos rfl,hK1' kk (by omega)];simp only [Option.bind_some,hr];rw [rFollowOut,if_neg (by simp)]
   cases n<;>simp [gOut,hr]
  |true=>
   have hlt:=(g3 hr).resolve_left (by simp)
   cases n with
   |zero=>omega
   |succ n=>
    obtain⟨K2,hK2⟩:=refFollowOut_ev l0 l1 a2 a3 l4 h he hnt hf hok n _ g1 (by omega);refine⟨max K1 K2+1,fun kk hkk k hk=>?_⟩
    obtain⟨k',rfl⟩:∃k',k=k'+1:=⟨k - 1,by omega⟩;rw [rFollowOut,if_pos rfl,hK1' kk (by omega)];simp only [Option.bind_some,hr];rw [hK2 kk (by omega) k' (by omega),gOut,if_pos hr]
theorem Sh.small {nn nt:Nat}{m:List (List Bool)}(h:Sh nn nt m) (h1:nt≤1000):∀r∈m,r.length≤1000000:=fun r hr=>by rw [h.2 r hr];omega
section
variable (l0:List ByteArray) (l1:List Tok) (a2 a3:Int) (l4:List Prod)
def dFollow (nn nt:Nat) (ps:List Prod):List (List Int):=if ps.all (okProd nn nt)=true then idxs (fol nn nt (clo false nn ps) (fst nn nt (clo false nn ps) ps) ps) else []
def dOf (nn nt:Nat) (ps:List Prod) (l:List Sym):List Int×Bool:=if ps.all (okProd nn nt)=true∧nn≠0∧l.all (okSym nn nt)=true then
 (idx 0 (bg (clo false nn ps) (fst nn nt (clo false nn ps) ps) l (none0 nt)).1,(bg (clo false nn ps) (fst nn nt (clo false nn ps) ps) l (none0 nt)).2) else([],false)
variable (h:Small l4) (h0:l0.length≤1000000) (h1:l1.length≤1000)
include h h0 h1
theorem refFollow_ev:Ev (fun k=>regletref13_Follow.f k l0 l1 a2 a3 l4) (dFollow l0.length l1.length l4):=by
 refine Ev.congr (fun k=>by rw [regletref13_Follow.f,if_pos ⟨by have:=h.1;omega,by rw [List.all_eq_true];intro p hp;have:=h.2 p hp;exact decide_eq_true (by omega)⟩]) (Ev.bind (refRight_ev l0 l1 a2 a3 l4 h) ?_)
 unfold dFollow
 cases hr:l4.all (okProd l0.length l1.length) with
 |false=>exact Ev.neg (by simp) (Ev.some (by simp))
 |true=>
  have hs:=fst_sh l0.length l1.length (clo false l0.length l4) hr;have hs2:=fol_sh (clo false l0.length l4) hs hr;have he:=clo_length l0.length l1.length false hr;rw [if_pos rfl];refine Ev.pos rfl (Ev.bind (marks_ev l0 l1 a2 a3 l4 h0 (by omega)) (Ev.bind (refFirst_ev l0 l1 a2 a3 l4 h h0 h1 hr) (Ev.bind (Ev.val (refEmpty_ev l0 l1 a2 a3 l4 h h0) (if_pos hr)) (Ev.bind (a:=fol0 l0.length l1.length) ?_ (Ev.bind (a:=fol l0.length l1.length (clo false l0.length l4) (fst l0.length l1.length (clo false l0.length l4) l4) l4) ?_ (lists_ev _ (by have:=hs2.1;exact Nat.le_trans (Nat.le_of_eq this) h0) (hs2.small h1)))))))
  ·refine Ev.some' ?_
   unfold rFollow0 fol0
   by_cases hn:0<l0.length
   rotate_left
   ·rw [if_neg (by rw [(rows0_sh _ _).1];exact hn),if_neg hn]
    have:l0.length=0:=by omega
    rw [this];rfl
   have hrow:(rows0 l0.length l1.length).getD 0 []=none0 l1.length:=by
    obtain⟨n,hn'⟩:∃n,l0.length=n+1:=⟨l0.length - 1,by omega⟩;rw [hn',rows0,List.replicate_succ];rfl
   rw [if_pos (by rw [(rows0_sh _ _).1];exact hn),hrow,if_pos (by rw [none0_length];omega),if_pos hn]
  ·obtain⟨K,hK⟩:=refFollowOut_ev l0 l1 a2 a3 l4 h he h1 hs hr (cfs (fol0 l0.length l1.length)) (fol0 l0.length l1.length) (fol0_sh _ _) (Nat.le_refl _)
   exact⟨K,fun k hk=>hK k hk k hk⟩
theorem refOf_ev (l:List Sym) (hl:l.length≤1000000):Ev (fun k=>regletref13_Of.f k l0 l1 a2 a3 l4 l) (dOf l0.length l1.length l4 l):=by
 refine Ev.congr (fun k=>by rw [regletref13_Of.f]) (Ev.bind (refRight_ev l0 l1 a2 a3 l4 h) ?_)
 unfold dOf
 cases hr:l4.all (okProd l0.length l1.length) with
 |false=>exact Ev.neg (by simp) (Ev.some (by simp))
 |true=>
  refine Ev.pos rfl ?_
  by_cases hn:(l0.length:Int)=0
  ·exact Ev.pos hn (Ev.some (if_neg (fun hc=>hc.2.1 (Int.ofNat_eq_zero.1 hn))).symm)
  refine Ev.neg hn (Ev.bind (Ev.val (refRight_ev l0 l1 a2 a3 [⟨0,l⟩] ⟨by simp,by simpa using hl⟩) (s:=l.all (okSym l0.length l1.length)) ?_) ?_)
  ·simp [okProd];intro _;omega
  cases hs:l.all (okSym l0.length l1.length) with
  |false=>exact Ev.neg (by simp) (Ev.some (by simp))
  |true=>
   have hsh:=fst_sh l0.length l1.length (clo false l0.length l4) hr;have hb:=bg_length (clo false l0.length l4) hsh l _ hs (none0_length l1.length);refine Ev.pos rfl (Ev.bind (refFirst_ev l0 l1 a2 a3 l4 h h0 h1 hr) (Ev.bind (Ev.val (refEmpty_ev l0 l1 a2 a3 l4 h h0) (if_pos hr)) ?_))
   refine Ev.bind (refBegins_ev l0 l1 a2 a3 l4 hsh (clo_length l0.length l1.length false hr) h1 l hs hl) (Ev.bind (list_ev _ (by rw [hb];omega)) (Ev.some ?_))
   have hc:true=true∧l0.length≠0∧true=true:=⟨rfl,by omega,rfl⟩;rw [if_pos hc]
end
end Go.Proofs.Ytapjfnfengefpaa.M
end

section
namespace Go.Proofs.Ytapjfnfengefpaa.P
open Go.RowKit Go.Proofs.YtapjfnfengefpaaW.PrintWords Go.Proofs.YtapjfnfengefpaaW.PrintLast Go.Proofs.YtapjfnfengefpaaW.PrintMore Go.Proofs.Ytapjfnfengefpaa.R
set_option linter.unusedVariables false
set_option linter.unusedSimpArgs false
def prStep (b:List (List Bool)) (r look i:Nat) (p:S35) (st:Int×List (S78)):Int×List (S78):=
 if p.f0=(r:Int)∧(b.getD i []).getD look false=true then(if st.1<0 then((i:Int),st.2) else(st.1,st.2++ [⟨(r:Int),(look:Int),st.1,(i:Int)⟩])) else st
def prIn (b:List (List Bool)) (r look:Nat):Nat→List (S35)→Int×List (S78)→Int×List (S78)
 |_,[],st=>st
 |i,p::ps,st=>prIn b r look (i+1) ps (prStep b r look i p st)
theorem prStep_le (b:List (List Bool)) (r look i:Nat) (p:S35) (st:Int×List (S78)):st.2.length≤(prStep b r look i p st).2.length:=by
 unfold prStep;split
 ·split<;>simp
 ·exact Nat.le_refl _
theorem prIn_le (b:List (List Bool)) (r look:Nat):∀(ps:List (S35)) (i:Nat) (st:Int×List (S78)),st.2.length≤(prIn b r look i ps st).2.length
 | [],_,_=>Nat.le_refl _
 |p::ps,i,st=>Nat.le_trans (prStep_le b r look i p st) (prIn_le b r look ps (i+1) _)
theorem get_set {α:Type}{l:List α}{i:Nat}(x d:α) (h:i<l.length):(l.set i x).getD i d=x:=by
 rw [List.getD_eq_getElem?_getD,List.getElem?_set_self h];rfl
end Go.Proofs.Ytapjfnfengefpaa.P
end

section
namespace Go.Proofs.Ytapjfnfengefpaa.M
open Go.RowKit Go.Proofs.YtapjfnfengefpaaW.PrintWords Go.Proofs.YtapjfnfengefpaaW.PrintLast Go.Proofs.YtapjfnfengefpaaW.PrintMore Go.Proofs.Ytapjfnfengefpaa.P Go.Proofs.Ytapjfnfengefpaa.H
set_option linter.unusedVariables false
set_option linter.unusedSimpArgs false
abbrev Clash:=S78
def markOn (l:List Int) (row:List Bool):List Bool:=l.foldl (fun row t=>row.set t.toNat true) row
theorem markOn_getD:∀(l:List Int) (row:List Bool),(∀t∈l,0≤t∧t.toNat<row.length)→∀look:Nat,(markOn l row).getD look false=(row.getD look false||decide ((look:Int)∈l))
 | [],_,_,_=>by simp [markOn]
 |t::l,row,h,look=>by
  obtain⟨h0,h1⟩:=h t List.mem_cons_self;rw [markOn,List.foldl_cons,←markOn,markOn_getD l _ (fun x hx=>by rw [List.length_set];exact h x (List.mem_cons_of_mem _ hx)) look]
  by_cases he:t.toNat=look
  ·subst he
   rw [get_set _ _ h1];have:((t.toNat:Nat):Int)=t:=by omega
   simp [this]
  ·rw [List.getD_eq_getElem?_getD,List.getElem?_set_ne he,←List.getD_eq_getElem?_getD]
   have:¬(look:Int)=t:=by omega
   simp [this]
theorem idx_range:∀(a:List Bool) (n:Nat),∀x∈idx n a,(n:Int)≤x∧x<((n+a.length:Nat):Int)
 | [],_,x,hx=>by simp [idx] at hx
 |b::a,n,x,hx=>by
  have ih:=idx_range a (n+1)
  unfold idx at hx
  split at hx
  ·rcases List.mem_cons.1 hx with rfl|h
   ·simp;omega
   ·have:=ih x h;simp at this ⊢;omega
  ·have:=ih x hx;simp at this ⊢;omega
section
variable (l0:List ByteArray) (l1:List Tok) (a2 a3:Int) (l4:List Prod)
def sel (nn nt:Nat) (ps:List Prod) (p:Prod):List Int:=(dOf nn nt ps p.f1).1++(if(dOf nn nt ps p.f1).2=true then(dFollow nn nt ps).getD p.f0.toNat [] else [])
def chRow (nn nt:Nat) (ps:List Prod) (p:Prod):List Bool:=markOn (sel nn nt ps p) (none0 nt)
theorem of_range {nn nt:Nat}{ps:List Prod}(hps:ps.all (okProd nn nt)=true) (l:List Sym):(dOf nn nt ps l).1.length≤nt+1∧∀x∈(dOf nn nt ps l).1,0≤x∧x<((nt+1:Nat):Int):=by
 unfold dOf
 split
 ·rename_i hc
  have hb:=bg_length (clo false nn ps) (fst_sh nn nt (clo false nn ps) hps) l _ hc.2.2 (none0_length nt);refine⟨by have:=idx_length 0 (bg (clo false nn ps) (fst nn nt (clo false nn ps) ps) l (none0 nt)).1;simp only;omega,fun x hx=>?_⟩
  have:=idx_range _ 0 x hx;rw [hb] at this
  simpa using this
 ·simp
theorem follow_range {nn nt:Nat}{ps:List Prod}(hps:ps.all (okProd nn nt)=true):(dFollow nn nt ps).length=nn∧∀i,((dFollow nn nt ps).getD i []).length≤nt+1∧∀x∈(dFollow nn nt ps).getD i [],0≤x∧x<((nt+1:Nat):Int):=by
 unfold dFollow
 rw [if_pos hps];have hs:=fol_sh (clo false nn ps) (fst_sh nn nt (clo false nn ps) hps) hps;refine⟨by rw [idxs,List.length_map,hs.1],fun i=>?_⟩
 by_cases hi:i<nn
 rotate_left
 ·rw [List.getD_eq_getElem?_getD,List.getElem?_eq_none (by rw [idxs,List.length_map,hs.1];omega)]
  simp
 have e:(idxs (fol nn nt (clo false nn ps) (fst nn nt (clo false nn ps) ps) ps)).getD i []=idx 0 ((fol nn nt (clo false nn ps) (fst nn nt (clo false nn ps) ps) ps).getD i []):=by
  have hlt:i<(fol nn nt (clo false nn ps) (fst nn nt (clo false nn ps) ps) ps).length:=by rw [hs.1];exact hi
  rw [idxs,List.getD_eq_getElem?_getD,List.getElem?_map,List.getD_eq_getElem?_getD,List.getElem?_eq_getElem hlt];rfl
 rw [e];have hl:=hs.get hi;refine⟨by have:=idx_length 0 ((fol nn nt (clo false nn ps) (fst nn nt (clo false nn ps) ps) ps).getD i []);omega,fun x hx=>?_⟩
 have:=idx_range _ 0 x hx;rw [hl] at this
 simpa using this
theorem sel_range {nn nt:Nat}{ps:List Prod}(hps:ps.all (okProd nn nt)=true) (p:Prod):(sel nn nt ps p).length≤2 * (nt+1)∧∀x∈sel nn nt ps p,0≤x∧x<((nt+1:Nat):Int):=by
 have h1:=of_range hps p.f1;have h2:=(follow_range hps).2 p.f0.toNat
 unfold sel
 refine⟨?_,fun x hx=>?_⟩
 ·rw [List.length_append]
  split
  ·omega
  ·simp;omega
 ·rcases List.mem_append.1 hx with h|h
  ·exact h1.2 x h
  ·split at h
   ·exact h2.2 x h
   ·simp at h
theorem chRow_getD {nn nt:Nat}{ps:List Prod}(hps:ps.all (okProd nn nt)=true) (p:Prod) (look:Nat):(chRow nn nt ps p).getD look false=decide ((look:Int)∈sel nn nt ps p):=by
 rw [chRow,markOn_getD _ _ (fun t ht=>by have:=(sel_range hps p).2 t ht;rw [none0_length];omega)];simp [none0,List.getElem?_replicate]
 intro h
 by_cases hl:look<nt+1
 rotate_left
 ·rw [if_neg hl] at h;simp at h
 rw [if_pos hl] at h;simp at h
variable {l0 l1 a2 a3 l4}
end
theorem has14_l0_ev (n:Int):∀(a pre:List Int),pre.length+a.length≤1000000→Ev (fun k=>regletref14_has.l0 k (pre++a) n (pre.length:Int)) (decide (n∈a))
 | [],pre,_=>Ev.step (fun k=>by rw [regletref14_has.l0]) (Ev.neg (by simp) (Ev.some (by simp)))
 |x::a,pre,h3=>by
  simp only [List.length_cons] at h3;have ih:=has14_l0_ev n a (pre++ [x]) (by simp;omega);simp only [←wrap_next pre _ (show pre.length≤1000000 by omega),List.append_assoc,List.singleton_append] at ih;refine Ev.step (fun k=>by rw [regletref14_has.l0]) (Ev.pos (by simp;omega) (Ev.pos (by omega) ?_))
  rw [show rd (pre++x::a) (pre.length:Int)=x from getD_mid _ pre x a _ rfl]
  by_cases h:x=n
  ·exact Ev.pos h (Ev.some (by simp [h]))
  ·exact Ev.neg h (Ev.val ih (by simp [Ne.symm h]))
theorem has14_ev (a:List Int) (n:Int) (h:a.length≤1000000):Ev (fun k=>regletref14_has.f k a n) (decide (n∈a)):=
 Ev.congr (fun k=>by rw [regletref14_has.f]) (by simpa using has14_l0_ev n a [] (by simpa using h))
def pRow (b:List (List Bool)) (ps:List Prod) (r:Nat):Nat→Nat→List Clash→List Int×List Clash
 |0,_,bad=>([],bad)
 |n+1,look,bad=>((prIn b r look 0 ps (-1,bad)).1::(pRow b ps r n (look+1) (prIn b r look 0 ps (-1,bad)).2).1,(pRow b ps r n (look+1) (prIn b r look 0 ps (-1,bad)).2).2)
def pAll (b:List (List Bool)) (ps:List Prod) (w:Nat):Nat→Nat→List Clash→List (List Int)×List Clash
 |0,_,bad=>([],bad)
 |n+1,r,bad=>((pRow b ps r w 0 bad).1::(pAll b ps w n (r+1) (pRow b ps r w 0 bad).2).1,(pAll b ps w n (r+1) (pRow b ps r w 0 bad).2).2)
theorem prIn_max (b:List (List Bool)) (r look:Nat):∀(ps:List Prod) (i:Nat) (st:Int×List Clash),(prIn b r look i ps st).2.length≤st.2.length+ps.length
 | [],_,_=>Nat.le_refl _
 |p::ps,i,st=>by
  have:=prIn_max b r look ps (i+1) (prStep b r look i p st)
  have:(prStep b r look i p st).2.length≤st.2.length+1:=by
   unfold prStep;split
   ·split<;>simp
   ·simp
  rw [prIn,List.length_cons];omega
theorem pRow_max (b:List (List Bool)) (ps:List Prod) (r:Nat):∀(n look:Nat) (bad:List Clash),(pRow b ps r n look bad).1.length=n∧(pRow b ps r n look bad).2.length≤bad.length+n * ps.length
 |0,_,_=>by simp [pRow]
 |n+1,look,bad=>by
  have h1:=pRow_max b ps r n (look+1) (prIn b r look 0 ps (-1,bad)).2;have h2:=prIn_max b r look ps 0 (-1,bad);rw [pRow,Nat.succ_mul];simp only [List.length_cons] at h2 ⊢;exact⟨by rw [h1.1],by omega⟩
theorem pAll_max (b:List (List Bool)) (ps:List Prod) (w:Nat):∀(n r:Nat) (bad:List Clash),(pAll b ps w n r bad).1.length=n∧(∀x∈(pAll b ps w n r bad).1,x.length=w)∧(pAll b ps w n r bad).2.length≤bad.length+n * (w * ps.length)
 |0,_,_=>by simp [pAll]
 |n+1,r,bad=>by
  have h1:=pAll_max b ps w n (r+1) (pRow b ps r w 0 bad).2;have h2:=pRow_max b ps r w 0 bad;rw [pAll,Nat.succ_mul];refine⟨by simp only [List.length_cons];rw [h1.1],fun x hx=>?_,by simp only;omega⟩
  rcases List.mem_cons.1 hx with rfl|h
  ·exact h2.1
  ·exact h1.2.1 x h
section
variable {l0:List ByteArray}{l1:List Tok}{a2 a3:Int}{l4:List Prod}{b:List (List Bool)}{all:List (List Int)}
theorem ref_l3_ev (h:Small l4) (hb:∀(i look:Nat),i<l4.length→(b.getD i []).getD look false=decide ((look:Int)∈all.getD i [])) (ha:all.length=l4.length) (hs:∀i,(all.getD i []).length≤1000000) (r look:Nat) {x9:List (List Int)}{x12:List Int}(h12:x12.length≤1000000) {R:List (List Int)×List Clash}:∀(qs pre:List Prod) (st:Int×List Clash),pre++qs=l4→st.2.length+qs.length≤1000000→
 Ev (fun k=>regletref14_Predict.l2 k all x9 (prIn b r look pre.length qs st).2 (r:Int) (x12++ [(prIn b r look pre.length qs st).1]) (wrap64 ((look:Int)+1)) l0 l1 a2 a3 l4) R→Ev (fun k=>regletref14_Predict.l3 k all x9 st.2 (r:Int) x12 (look:Int) st.1 (pre.length:Int) l0 l1 a2 a3 l4) R
 | [],pre,st,e,_,hk=>by
  have hz:¬(pre.length:Int)<(l4.length:Int):=by rw [←e];simp
  refine Ev.step (fun k=>by rw [regletref14_Predict.l3]) (Ev.neg hz (Ev.pos (by omega) ?_))
  exact hk
 |p::qs,pre,st,e,hm,hk=>by
  have hlen:l4.length=pre.length+(qs.length+1):=by rw [←e];simp
  have hp0:pre.length≤1000000:=by have:=h.1;omega
  simp only [List.length_cons] at hm;have hrd:rd_T35 l4 (pre.length:Int)=p:=by rw [←e];exact getD_mid _ pre p qs _ rfl
  have hst:(prStep b r look pre.length p st).2.length≤st.2.length+1:=by
   unfold prStep;split
   ·split<;>simp
   ·simp
  have ih:=ref_l3_ev h hb ha hs r look (x9:=x9) h12 (R:=R) qs (pre++ [p]) (prStep b r look pre.length p st) (by rw [←e];simp) (by omega) (by rw [List.length_append,List.length_singleton];exact hk);rw [←wrap_next pre _ hp0] at ih;refine Ev.step (fun k=>by rw [regletref14_Predict.l3]) (Ev.pos (by omega) (Ev.pos (by omega) ?_))
  rw [hrd]
  by_cases hl:p.f0=(r:Int)
  ·refine Ev.pos hl (Ev.pos (by omega) ?_)
   rw [show rd_L5 all (pre.length:Int)=all.getD pre.length [] from by rw [rd_L5,Int.toNat_natCast]];refine Ev.bind (has14_ev _ _ (hs _)) (Ev.step (fun k=>by rw [regletref14_Predict.j4]) ?_)
   have hbb:=hb pre.length look (by omega)
   by_cases hh:(look:Int)∈all.getD pre.length []
   ·rw [decide_eq_true hh] at hbb ⊢
    refine Ev.neg (by simp) ?_
    by_cases hx:st.1<0
    ·refine Ev.pos hx ?_
     rw [prStep,if_pos ⟨hl,hbb⟩,if_pos hx] at ih;exact ih
    ·refine Ev.neg hx (Ev.pos (by omega) ?_)
     rw [prStep,if_pos ⟨hl,hbb⟩,if_neg hx] at ih;exact ih
   ·rw [decide_eq_false hh] at hbb ⊢
    refine Ev.pos (by simp) ?_
    rw [prStep,if_neg (by rw [hbb];simp)] at ih;exact ih
  ·refine Ev.neg hl (Ev.step (fun k=>by rw [regletref14_Predict.j4]) (Ev.pos rfl ?_))
   rw [prStep,if_neg (fun hc=>hl hc.1)] at ih;exact ih
theorem ref_l2_ev (h:Small l4) (h1:l1.length≤1000) (hb:∀(i look:Nat),i<l4.length→(b.getD i []).getD look false=decide ((look:Int)∈all.getD i [])) (ha:all.length=l4.length) (hs:∀i,(all.getD i []).length≤1000000) (r:Nat) {x9:List (List Int)}(h9:x9.length≤1000000) {R:List (List Int)×List Clash}:∀(n:Nat) (row:List Int) (bad:List Clash),row.length+n=l1.length+1→bad.length+n * l4.length≤900000→l4.length≤100000→
 Ev (fun k=>regletref14_Predict.l1 k all (x9++ [row++(pRow b l4 r n row.length bad).1]) (pRow b l4 r n row.length bad).2 (wrap64 ((r:Int)+1)) l0 l1 a2 a3 l4) R→Ev (fun k=>regletref14_Predict.l2 k all x9 bad (r:Int) row (row.length:Int) l0 l1 a2 a3 l4) R
 |0,row,bad,e,_,_,hk=>Ev.step (fun k=>by rw [regletref14_Predict.l2]) (Ev.neg (by omega) (Ev.pos (by omega) (by simpa [pRow] using hk)))
 |n+1,row,bad,e,hm,h4,hk=>by
  rw [Nat.succ_mul] at hm;have hx:=prIn_max b r row.length l4 0 (-1,bad);simp only at hx
  have ih:=ref_l2_ev h h1 hb ha hs r (x9:=x9) h9 (R:=R) n (row++ [(prIn b r row.length 0 l4 (-1,bad)).1]) (prIn b r row.length 0 l4 (-1,bad)).2 (by simp;omega) (by omega) h4 (by
   rw [List.length_append,List.length_singleton,List.append_assoc];exact hk)
  rw [←wrap_next row _ (by omega)] at ih;refine Ev.step (fun k=>by rw [regletref14_Predict.l2]) (Ev.pos (by omega) ?_)
  have h3:=ref_l3_ev (l0:=l0) (l1:=l1) (a2:=a2) (a3:=a3) (l4:=l4) (b:=b) (all:=all) h hb ha hs r row.length (x9:=x9) (x12:=row) (by omega) (R:=R) l4 [] (-1,bad) rfl (by simp only;omega) ih;exact h3
theorem ref_l1_ev (h:Small l4) (h0:l0.length≤1000) (h1:l1.length≤1000) (hb:∀(i look:Nat),i<l4.length→(b.getD i []).getD look false=decide ((look:Int)∈all.getD i [])) (ha:all.length=l4.length) (hs:∀i,(all.getD i []).length≤1000000):∀(n:Nat) (out:List (List Int)) (bad:List Clash),out.length+n=l0.length→bad.length+n * ((l1.length+1) * l4.length)≤900000→l4.length≤100000→
 Ev (fun k=>regletref14_Predict.l1 k all out bad (out.length:Int) l0 l1 a2 a3 l4) (out++(pAll b l4 (l1.length+1) n out.length bad).1,(pAll b l4 (l1.length+1) n out.length bad).2)
 |0,out,bad,e,_,_=>Ev.step (fun k=>by rw [regletref14_Predict.l1]) (Ev.neg (by omega) (Ev.some (by simp [pAll])))
 |n+1,out,bad,e,hm,h4=>by
  rw [Nat.succ_mul] at hm;have hx:=pRow_max b l4 out.length (l1.length+1) 0 bad;have ih:=ref_l1_ev h h0 h1 hb ha hs n (out++ [(pRow b l4 out.length (l1.length+1) 0 bad).1]) (pRow b l4 out.length (l1.length+1) 0 bad).2 (by simp;omega) (by omega) h4;rw [←wrap_next out _ (by omega)] at ih;refine Ev.step (fun k=>by rw [regletref14_Predict.l1]) (Ev.pos (by omega) ?_)
  have h2:=ref_l2_ev (l0:=l0) (a2:=a2) (a3:=a3) h h1 hb ha hs out.length (x9:=out) (by omega) (R:=(out++(pAll b l4 (l1.length+1) (n+1) out.length bad).1,(pAll b l4 (l1.length+1) (n+1) out.length bad).2)) (l1.length+1) [] bad (by simp) (by omega) h4 (by
   refine Ev.val ih ?_
   rw [List.length_append,List.length_singleton,List.append_assoc];rfl)
  exact h2
theorem ref_l0_ev (h:Small l4) (h0:l0.length≤1000) (h1:l1.length≤1000) (hok:l4.all (okProd l0.length l1.length)=true) {R:List (List Int)×List Clash}:∀(qs pre:List Prod),pre++qs=l4→
 Ev (fun k=>regletref14_Predict.l1 k (l4.map (sel l0.length l1.length l4)) [] [] 0 l0 l1 a2 a3 l4) R→Ev (fun k=>regletref14_Predict.l0 k (pre.map (sel l0.length l1.length l4)) (dFollow l0.length l1.length l4) (pre.length:Int) l0 l1 a2 a3 l4) R
 | [],pre,e,hk=>Ev.step (fun k=>by rw [regletref14_Predict.l0]) (Ev.neg (by rw [←e];simp) (by rw [←e] at hk ⊢;simpa using hk))
 |p::qs,pre,e,hk=>by
  have hlen:l4.length=pre.length+(qs.length+1):=by rw [←e];simp
  have hp0:pre.length≤1000000:=by have:=h.1;omega
  have hmem:p∈l4:=by rw [←e];simp
  have hokp:=List.all_eq_true.1 hok p hmem;have hl:=okProd_left hokp;have hrd:rd_T35 l4 (pre.length:Int)=p:=by rw [←e];exact getD_mid _ pre p qs _ rfl
  have ih:=ref_l0_ev h h0 h1 hok (R:=R) qs (pre++ [p]) (by rw [←e];simp) hk;rw [←wrap_next pre _ hp0,List.map_append,List.map_cons,List.map_nil] at ih;refine Ev.step (fun k=>by rw [regletref14_Predict.l0]) (Ev.pos (by omega) (Ev.pos (by omega) ?_))
  rw [hrd];refine Ev.bind (refOf_ev l0 l1 a2 a3 l4 h (by omega) h1 p.f1 (h.2 p hmem)) ?_
  have hfl:=follow_range hok;have hsel:sel l0.length l1.length l4 p=(dOf l0.length l1.length l4 p.f1).1++(if(dOf l0.length l1.length l4 p.f1).2=true then(dFollow l0.length l1.length l4).getD p.f0.toNat [] else []):=rfl
  by_cases he:(dOf l0.length l1.length l4 p.f1).2=true
  ·refine Ev.pos he (Ev.pos hl.1 (Ev.pos (by rw [hfl.1];exact hl.2) (Ev.pos ?_ (Ev.pos (by simp;omega) ?_))))
   ·have h2:=(of_range hok p.f1).1
    have h4:(rd_L5 (dFollow l0.length l1.length l4) p.f0).length≤l1.length+1:=(hfl.2 p.f0.toNat).1;omega
   ·rw [hsel,if_pos he] at ih
    exact ih
  ·refine Ev.neg he (Ev.pos (by simp;omega) ?_)
   rw [hsel,if_neg he,List.append_nil] at ih;exact ih
end
section
variable (l0:List ByteArray) (l1:List Tok) (a2 a3:Int) (l4:List Prod)
def dPredict (nn nt:Nat) (ps:List Prod):List (List Int)×List Clash:=if ps.all (okProd nn nt)=true then pAll (ps.map (chRow nn nt ps)) ps (nt+1) nn 0 [] else([],[])
variable (h:Small l4) (h0:l0.length≤30) (h1:l1.length≤30) (h4:l4.length≤30)
include h h0 h1 h4
theorem refPredict_ev:Ev (fun k=>regletref14_Predict.f k l0 l1 a2 a3 l4) (dPredict l0.length l1.length l4):=by
 refine Ev.congr (fun k=>by rw [regletref14_Predict.f]) (Ev.bind (refRight_ev l0 l1 a2 a3 l4 h) ?_)
 unfold dPredict
 cases hr:l4.all (okProd l0.length l1.length) with
 |false=>exact Ev.neg (by simp) (Ev.some (by simp))
 |true=>
  refine Ev.pos rfl (Ev.bind (refFollow_ev l0 l1 a2 a3 l4 h (by omega) (by omega)) ?_)
  have hx:=ref_l1_ev (l0:=l0) (l1:=l1) (a2:=a2) (a3:=a3) (l4:=l4) (b:=l4.map (chRow l0.length l1.length l4)) (all:=l4.map (sel l0.length l1.length l4)) h (by omega) (by omega) (fun i look hi=>?_) (by simp) (fun i=>?_) l0.length [] [] (by simp) (by
   have h3:l0.length * ((l1.length+1) * l4.length)≤30 * (31 * 30):=Nat.mul_le_mul h0 (Nat.mul_le_mul (by omega) h4);simp only [List.length_nil];omega) (by omega)
  ·refine Ev.val (ref_l0_ev (a2:=a2) (a3:=a3) h (by omega) (by omega) hr l4 [] rfl hx) (by simp)
  ·have e1:(l4.map (chRow l0.length l1.length l4)).getD i []=chRow l0.length l1.length l4 l4[i]:=by rw [List.getD_eq_getElem?_getD,List.getElem?_map,List.getElem?_eq_getElem hi];rfl
   have e2:(l4.map (sel l0.length l1.length l4)).getD i []=sel l0.length l1.length l4 l4[i]:=by rw [List.getD_eq_getElem?_getD,List.getElem?_map,List.getElem?_eq_getElem hi];rfl
   rw [e1,e2];exact chRow_getD hr _ look
  ·by_cases hi:i<l4.length
   rotate_left
   ·rw [List.getD_eq_getElem?_getD,List.getElem?_map,List.getElem?_eq_none (by omega)]
    simp
   rw [List.getD_eq_getElem?_getD,List.getElem?_map,List.getElem?_eq_getElem hi];have:=(sel_range hr (l4[i])).1;simp only [Option.map_some,Option.getD_some];omega
end
theorem mRight_ok {l:List Int}(hu:∀x∈l,0≤x∧x≤255) {n t:Nat}(hn:0<n) (ht:0<t):∀(c at_:Nat) (acc:List Sym),acc.all (okSym n t)=true→(mRight l n t c at_ acc).1.all (okSym n t)=true∧(mRight l n t c at_ acc).1.length=acc.length+c
 |0,at_,acc,h=>⟨h,rfl⟩
 |c+1,at_,acc,h=>by
  unfold mRight
  obtain⟨h1,h2⟩:=mRight_ok hu hn ht c (at_+2) (acc++ [if mPick l at_ 2=0 then⟨true,mPick l (at_+1) t⟩ else⟨false,mPick l (at_+1) n⟩]) (by
   rw [List.all_append,h,Bool.true_and];have h3:=mPick_lt hu (at_+1) (n:=(t:Int)) (by omega);have h4:=mPick_lt hu (at_+1) (n:=(n:Int)) (by omega)
   split
   ·simp only [List.all_cons,List.all_nil,Bool.and_true,okSym,if_true,Bool.and_eq_true,decide_eq_true_eq]
    exact h3
   ·simp only [List.all_cons,List.all_nil,Bool.and_true,okSym,Bool.and_eq_true,decide_eq_true_eq]
    exact⟨h4.1,by simpa using h4.2⟩)
  exact⟨h1,by rw [h2];simp;omega⟩
theorem mProds_ok {l:List Int}(hu:∀x∈l,0≤x∧x≤255) {n t:Nat}(hn:0<n) (ht:0<t):∀(i at_:Nat) (acc:List Prod),acc.all (okProd n t)=true→(∀p∈acc,p.f1.length≤3)→(mProds l n t i at_ acc).all (okProd n t)=true∧(mProds l n t i at_ acc).length=acc.length+i∧∀p∈mProds l n t i at_ acc,p.f1.length≤3
 |0,at_,acc,h,h3=>⟨h,rfl,h3⟩
 |i+1,at_,acc,h,h3=>by
  unfold mProds
  obtain⟨h1,h2⟩:=mRight_ok hu hn ht (mPick l (at_+1) 4).toNat (at_+2) [] rfl;have h4:=mPick_lt hu at_ (n:=(n:Int)) (by omega);have h5:=mPick_lt hu (at_+1) (n:=4) (by omega)
  obtain⟨h6,h7,h8⟩:=mProds_ok hu hn ht i (mRight l n t (mPick l (at_+1) 4).toNat (at_+2) []).2 (acc++ [⟨mPick l at_ n,(mRight l n t (mPick l (at_+1) 4).toNat (at_+2) []).1⟩]) (by
   rw [List.all_append,h,Bool.true_and];simp only [List.all_cons,List.all_nil,Bool.and_true,okProd,Bool.and_eq_true,decide_eq_true_eq];exact⟨h4,h1⟩) (by
   intro p hp;rcases List.mem_append.1 hp with hp|hp
   ·exact h3 p hp
   ·obtain rfl:=List.mem_singleton.1 hp
    simp only;rw [h2];simp;omega)
  exact⟨h6,by rw [h7];simp;omega,h8⟩
structure MadeOk (ns:List ByteArray) (ts:List Tok) (ps:List Prod):Prop where
 n1:0<ns.length
 n5:ns.length≤5
 t1:0<ts.length
 t4:ts.length≤4
 p1:0<ps.length
 p10:ps.length≤10
 ok:ps.all (okProd ns.length ts.length)=true
 r3:∀p∈ps,p.f1.length≤3
theorem made_ev {l:List Int}(hw:∀x∈l,(Lit.int .u8 x).wf=true):∃ns ts ps,MadeOk ns ts ps∧Ev (fun k=>regletlaw13_Made.f k l) (ns,ts,0,0,ps):=by
 have hu:∀x∈l,0≤x∧x≤255:=fun x hx=>wf_u8 (hw x hx)
 have h0:=mPick_lt hu 0 (n:=5) (by decide);have h1:=mPick_lt hu 1 (n:=4) (by decide);have h2:=mPick_lt hu 2 (n:=10) (by decide);obtain⟨n,en⟩:∃n:Nat,1+mPick l 0 5=(n:Int):=⟨(1+mPick l 0 5).toNat,by omega⟩;obtain⟨t,et⟩:∃n:Nat,1+mPick l 1 4=(n:Int):=⟨(1+mPick l 1 4).toNat,by omega⟩;obtain⟨c,ec⟩:∃n:Nat,1+mPick l 2 10=(n:Int):=⟨(1+mPick l 2 10).toNat,by omega⟩;obtain⟨h3,h4,h5⟩:=mProds_ok hu (n:=n) (t:=t) (by omega) (by omega) c 3 [] rfl (fun p hp=>by simp at hp);have ln:(mNames.take n).length=n:=by rw [List.length_take];show min n 5=n;omega
 have lt:((mTexts.map mTok).take t).length=t:=by rw [List.length_take];show min t 4=t;omega
 refine⟨mNames.take n,(mTexts.map mTok).take t,mProds l n t c 3 [],⟨by omega,by omega,by omega,by omega,by simp at h4;omega,by simp at h4;omega,by rw [ln,lt];exact h3,h5⟩,Ev.some' ?_⟩
 have h7:l.all (fun x=>decide (0≤x∧x≤255))=true:=List.all_eq_true.2 (fun x hx=>decide_eq_true (hu x hx))
 show(if l.all (fun x=>decide (0≤x∧x≤255))=true then _ else none)=_
 rw [if_pos h7,en,et,ec];rfl
theorem made_ev0 {l:List Int}(hw:∀x∈l,(Lit.int .u8 x).wf=true):∃ns ts ps,MadeOk ns ts ps∧∀k,regletlaw13_Made.f k l=some (ns,ts,0,0,ps):=by
 obtain⟨ns,ts,ps,h,K,hK⟩:=made_ev hw;exact⟨ns,ts,ps,h,fun k=>hK K (Nat.le_refl _)⟩
def clSym (np:Nat) (x:Sym):Sym:=if x.f0=true then⟨true,x.f1 % (np:Int)⟩ else x
def clProd (np i:Nat) (p:Prod):Prod:=⟨p.f0,(p.f1.map (clSym np)).set 0 ⟨true,(i:Int)⟩⟩
def clTok (i:Nat):Tok:=⟨⟨#[]⟩,⟨6,⟨#[]⟩,[wrap64 (97+(i:Int))],0,0,[]⟩⟩
def clPs (np:Nat):Nat→List Prod→List Prod
 |_,[]=> []
 |i,p::ps=>clProd np i p::clPs np (i+1) ps
def clTs:Nat→Nat→List Tok
 |_,0=> []
 |i,n+1=>clTok i::clTs (i+1) n
theorem clPs_length (np:Nat):∀(ps:List Prod) (i:Nat),(clPs np i ps).length=ps.length
 | [],_=>rfl
 |p::ps,i=>by rw [clPs,List.length_cons,clPs_length np ps,List.length_cons]
theorem clTs_length:∀(n i:Nat),(clTs i n).length=n
 |0,_=>rfl
 |n+1,i=>by rw [clTs,List.length_cons,clTs_length n]
section
variable {ns:List ByteArray}{R:List ByteArray×List Tok×Int×Int×List Prod}
theorem clear_l1_ev {np:Nat}{ts:List Tok}{done rest:List Prod}{p:Prod}(hn:np=done.length+(rest.length+1)) (hnp:np≤1000000) (hp:p.f1.length≤1000000) (hx:∀x∈p.f1,0≤x.f1):∀(a pre acc:List Sym),p.f1=pre++a→acc.length=pre.length→
 Ev (fun k=>regletlaw14_Clear.l0 k (wrap64 ((done.length:Int)+1)) ns ts 0 0 (done++⟨p.f0,(acc++a.map (clSym np)).set 0 ⟨true,(done.length:Int)⟩⟩::rest)) R→Ev (fun k=>regletlaw14_Clear.l1 k (done.length:Int) acc (pre.length:Int) ns ts 0 0 (done++p::rest)) R
 | [],pre,acc,e,ha,hk=>by
  have hrd:rd_T35 (done++p::rest) (done.length:Int)=p:=getD_mid _ done p rest _ rfl;refine Ev.step (fun k=>by rw [regletlaw14_Clear.l1]) (Ev.pos (by omega) (Ev.pos (by simp;omega) ?_))
  rw [hrd];refine Ev.neg (by rw [e];simp) ?_
  have hs:∀v:Prod,(done++p::rest).set (done.length:Int).toNat v=done++v::rest:=fun v=>set_mid done p v rest _ rfl
  rw [List.map_nil,List.append_nil] at hk
  by_cases hz:(acc.length:Int)>0
  ·refine Ev.pos hz (Ev.pos hz ?_)
   rw [hs];exact hk
  ·refine Ev.neg hz ?_
   rw [hs];obtain rfl:acc= []:=List.eq_nil_of_length_eq_zero (by omega);exact hk
 |x::a,pre,acc,e,ha,hk=>by
  have hrd:rd_T35 (done++p::rest) (done.length:Int)=p:=getD_mid _ done p rest _ rfl;have hrx:rd_T43 p.f1 (pre.length:Int)=x:=by rw [e];exact getD_mid _ pre x a _ rfl
  have hle:pre.length+(a.length+1)≤1000000:=by rw [e] at hp;simpa using hp
  have ih:=clear_l1_ev (ts:=ts) (done:=done) (rest:=rest) (p:=p) hn hnp hp hx a (pre++ [x]) (acc++ [clSym np x]) (by rw [e];simp) (by simp [ha]) (by simpa using hk);rw [←wrap_next pre _ (by omega)] at ih;have hx0:=hx x (by rw [e];simp);refine Ev.step (fun k=>by rw [regletlaw14_Clear.l1]) (Ev.pos (by omega) (Ev.pos (by simp;omega) ?_))
  rw [hrd];refine Ev.pos (by rw [e];simp;omega) (Ev.pos (by omega) ?_)
  rw [hrx]
  by_cases ht:x.f0=true
  ·refine Ev.pos ht (Ev.neg (by simp;omega) (Ev.pos (by omega) ?_))
   rw [clSym,if_pos ht] at ih;rw [ht,show((done++p::rest).length:Int)=(np:Int) by rw [hn];simp,Int.tmod_eq_emod_of_nonneg hx0];exact ih
  ·refine Ev.neg ht (Ev.pos (by omega) ?_)
   rw [clSym,if_neg ht] at ih;exact ih
theorem clear_l0_ev {np:Nat}(hnp:np≤1000000):∀(ps done:List Prod) (ts:List Tok),np=done.length+ps.length→ts.length=done.length→(∀p∈ps,p.f1.length≤1000000∧∀x∈p.f1,0≤x.f1)→
 Ev (fun k=>regletlaw14_Clear.l2 k 0 ns (ts++clTs done.length ps.length) 0 0 (done++clPs np done.length ps)) R→Ev (fun k=>regletlaw14_Clear.l0 k (done.length:Int) ns ts 0 0 (done++ps)) R
 | [],done,ts,hn,ht,_,hk=>Ev.step (fun k=>by rw [regletlaw14_Clear.l0]) (Ev.neg (by simp) (by simpa [clTs,clPs] using hk))
 |p::ps,done,ts,hn,ht,hs,hk=>by
  simp only [List.length_cons] at hn;obtain⟨hp,hx⟩:=hs p List.mem_cons_self
  have ih:=clear_l0_ev hnp ps (done++ [clProd np done.length p]) (ts++ [clTok done.length]) (by simp;omega) (by simp [ht]) (fun q hq=>hs q (List.mem_cons_of_mem _ hq)) (by
   simp only [clTs,clPs,List.length_cons,List.length_append,List.length_nil,List.append_assoc,List.singleton_append] at hk ⊢;exact hk)
  rw [←wrap_next done _ (by omega)] at ih;refine Ev.step (fun k=>by rw [regletlaw14_Clear.l0]) (Ev.pos (by simp;omega) (Ev.pos (by omega) ?_))
  refine clear_l1_ev (ns:=ns) (R:=R) hn hnp hp hx p.f1 [] [] rfl rfl ?_
  rw [List.append_assoc] at ih;exact ih
theorem clear_l3_ev {ts:List Tok}{done rest:List Prod}{p:Prod}(hd:done.length≤1000000) (ht:0<ts.length) (hp:p.f1.length≤1000000) (hx:∀x∈p.f1,x.f0=true→0≤x.f1∧x.f1<(ts.length:Int)):∀(a pre:List Sym),p.f1=pre++a→
 Ev (fun k=>regletlaw14_Clear.l2 k (wrap64 ((done.length:Int)+1)) ns ts 0 0 (done++p::rest)) R→Ev (fun k=>regletlaw14_Clear.l3 k (done.length:Int) (pre.length:Int) ns ts 0 0 (done++p::rest)) R
 | [],pre,e,hk=>by
  have hrd:rd_T35 (done++p::rest) (done.length:Int)=p:=getD_mid _ done p rest _ rfl;refine Ev.step (fun k=>by rw [regletlaw14_Clear.l3]) (Ev.pos (by omega) (Ev.pos (by simp;omega) ?_))
  rw [hrd];exact Ev.neg (by rw [e];simp) hk
 |x::a,pre,e,hk=>by
  have hrd:rd_T35 (done++p::rest) (done.length:Int)=p:=getD_mid _ done p rest _ rfl;have hrx:rd_T43 p.f1 (pre.length:Int)=x:=by rw [e];exact getD_mid _ pre x a _ rfl
  have hle:pre.length+(a.length+1)≤1000000:=by rw [e] at hp;simpa using hp
  have ih:=clear_l3_ev (ts:=ts) (done:=done) (rest:=rest) (p:=p) hd ht hp hx a (pre++ [x]) (by rw [e];simp) hk;rw [←wrap_next pre _ (by omega)] at ih;refine Ev.step (fun k=>by rw [regletlaw14_Clear.l3]) (Ev.pos (by omega) (Ev.pos (by simp;omega) ?_))
  rw [hrd];refine Ev.pos (by rw [e];simp;omega) (Ev.pos (by omega) ?_)
  rw [hrx]
  by_cases hx0:x.f0=true
  ·obtain⟨h0,h1⟩:=hx x (by rw [e];simp) hx0
   refine Ev.pos hx0 (Ev.neg (by omega) ?_)
   have hsame:(⟨x.f0,Int.tmod x.f1 (ts.length:Int)⟩:Sym)=x:=by
    rw [Int.tmod_eq_emod_of_nonneg h0,Int.emod_eq_of_lt h0 h1]
   have hset:p.f1.set (pre.length:Int).toNat x=p.f1:=by rw [e];exact set_mid pre x x a _ rfl
   have hpp:(⟨p.f0,p.f1⟩:Prod)=p:=rfl;rw [hsame,hset,hpp,set_mid done p p rest _ rfl];exact ih
  ·exact Ev.neg hx0 ih
theorem clear_l2_ev {ts:List Tok}(ht:0<ts.length):∀(rest done:List Prod),done.length+rest.length≤1000000→(∀p∈rest,p.f1.length≤1000000∧∀x∈p.f1,x.f0=true→0≤x.f1∧x.f1<(ts.length:Int))→
 Ev (fun k=>regletlaw14_Clear.l2 k (done.length:Int) ns ts 0 0 (done++rest)) (ns,ts,0,0,done++rest)
 | [],done,_,_=>Ev.step (fun k=>by rw [regletlaw14_Clear.l2]) (Ev.neg (by simp) (Ev.some rfl))
 |p::rest,done,hl,hs=>by
  simp only [List.length_cons] at hl;obtain⟨hp,hx⟩:=hs p List.mem_cons_self;have ih:=clear_l2_ev ht rest (done++ [p]) (by simp;omega) (fun q hq=>hs q (List.mem_cons_of_mem _ hq));rw [←wrap_next done _ (by omega),List.append_assoc,List.singleton_append] at ih;refine Ev.step (fun k=>by rw [regletlaw14_Clear.l2]) (Ev.pos (by simp;omega) ?_)
  exact clear_l3_ev (ns:=ns) (by omega) ht hp hx p.f1 [] rfl ih
end
theorem clPs_spec {nn nt np:Nat}(hp:0<np):∀(ps:List Prod) (i:Nat),i+ps.length≤np→ps.all (okProd nn nt)=true→(clPs np i ps).all (okProd nn np)=true
 | [],_,_,_=>rfl
 |p::ps,i,hl,h=>by
  simp only [List.length_cons] at hl;rw [List.all_cons,Bool.and_eq_true] at h;rw [clPs,List.all_cons,Bool.and_eq_true];refine⟨?_,clPs_spec hp ps (i+1) (by omega) h.2⟩
  obtain⟨h0,h1⟩:=okProd_left h.1;have hr:=List.all_eq_true.1 (okProd_right h.1)
  have hall:((p.f1.map (clSym np)).set 0 ⟨true,(i:Int)⟩).all (okSym nn np)=true:=by
   rw [List.all_eq_true];intro x hx;rcases List.mem_or_eq_of_mem_set hx with hx|rfl
   ·obtain⟨y,hy,rfl⟩:=List.mem_map.1 hx
    have hy':=hr y hy
    unfold clSym
    by_cases ht:y.f0=true
    ·rw [if_pos ht]
     have:=Int.emod_nonneg y.f1 (show(np:Int)≠0 by omega);have:=Int.emod_lt_of_pos y.f1 (show(0:Int)<(np:Int) by omega);simp [okSym];omega
    ·rw [if_neg ht]
     have:=okSym_rule hy' (by simpa using ht);simp [okSym,ht];omega
   ·simp [okSym];omega
  simp only [okProd,Bool.and_eq_true,decide_eq_true_eq];exact⟨⟨h0,h1⟩,hall⟩
theorem clPs_len (np:Nat):∀(ps:List Prod) (i:Nat),(∀p∈ps,p.f1.length≤3)→∀p∈clPs np i ps,p.f1.length≤3
 | [],_,_,p,hp=>by simp [clPs] at hp
 |q::ps,i,h,p,hp=>by
  rw [clPs] at hp;rcases List.mem_cons.1 hp with rfl|h1
  ·have:=h q List.mem_cons_self
   simpa [clProd] using this
  ·exact clPs_len np ps (i+1) (fun p hp=>h p (List.mem_cons_of_mem _ hp)) p h1
theorem clear_ev {l:List Int}{ns:List ByteArray}{ts:List Tok}{ps:List Prod}(hm:MadeOk ns ts ps) (hM:∀k,regletlaw13_Made.f k l=some (ns,ts,0,0,ps)):Ev (fun k=>regletlaw14_Clear.f k l) (ns,clTs 0 ps.length,0,0,clPs ps.length 0 ps):=by
 have hok:=hm.ok;have hp1:=hm.p1;have hp10:=hm.p10;refine Ev.congr (fun k=>by rw [regletlaw14_Clear.f]) (Ev.bind (⟨0,fun k _=>hM k⟩:Ev (fun k=>regletlaw13_Made.f k l) _) ?_)
 refine clear_l0_ev (np:=ps.length) (by omega) ps [] [] (by simp) rfl (fun p hp=>⟨by have:=hm.r3 p hp;omega,fun x hx=>?_⟩) ?_
 ·have h:=List.all_eq_true.1 (okProd_right (List.all_eq_true.1 hok p hp)) x hx
  cases ht:x.f0 with
  |true=>exact(okSym_tok h ht).1
  |false=>exact(okSym_rule h ht).1
 ·have hsp:=clPs_spec (np:=ps.length) (by omega) ps 0 (by omega) hok
  have hx:=clear_l2_ev (ns:=ns) (ts:=clTs 0 ps.length) (by rw [clTs_length];omega) (clPs ps.length 0 ps) [] (by rw [clPs_length];simp;omega) (fun p hp=>⟨by have:=clPs_len ps.length ps 0 hm.r3 p hp;omega,fun x hx hx0=>by
   rw [clTs_length];exact okSym_tok (List.all_eq_true.1 (okProd_right (List.all_eq_true.1 hsp p hp)) x hx) hx0⟩)
  exact hx
end Go.Proofs.Ytapjfnfengefpaa.M
end

section
namespace Go.Proofs.Ytapjfnfengefpaa.M
open Go.RowKit Go.Proofs.YtapjfnfengefpaaW.PrintWords Go.Proofs.YtapjfnfengefpaaW.PrintLast Go.Proofs.YtapjfnfengefpaaW.PrintMore Go.Proofs.Ytapjfnfengefpaa.P Go.Proofs.Ytapjfnfengefpaa.H
set_option linter.unusedVariables false
set_option linter.unusedSimpArgs false
set_option linter.unusedSectionVars false
section
variable (b:List (List Bool)) (ps:List Prod) (r look:Nat)
def Sel (i:Nat):Prop:=∃p,ps[i]?=some p∧p.f0=(r:Int)∧(b.getD i []).getD look false=true
def GoodC (c:Clash):Prop:=c.f0=(r:Int)∧c.f1=(look:Int)∧∃i j:Nat,c.f2=(i:Int)∧c.f3=(j:Int)∧i<j∧j<ps.length∧Sel b ps r look i∧Sel b ps r look j
theorem sel_lt {b:List (List Bool)}{ps:List Prod}{r look i:Nat}(h:Sel b ps r look i):i<ps.length:=by
 obtain⟨p,hp,_⟩:=h;exact(List.getElem?_eq_some_iff.1 hp).1
variable {b ps r look}
theorem sel_mid {pre qs:List Prod}{p:Prod}(e:pre++p::qs=ps):Sel b ps r look pre.length↔p.f0=(r:Int)∧(b.getD pre.length []).getD look false=true:=by
 have hp:ps[pre.length]?=some p:=by rw [←e];simp
 constructor
 ·rintro⟨q,hq,h⟩
  rw [hp] at hq;obtain rfl:=Option.some.inj hq;exact h
 ·exact fun h=>⟨p,hp,h⟩
theorem prIn_inv:∀(qs pre:List Prod) (st:Int×List Clash),pre++qs=ps→(st.1= -1∨∃i:Nat,st.1=(i:Int)∧i<pre.length∧Sel b ps r look i)→
 ((prIn b r look pre.length qs st).1= -1∧st.1= -1∧(∀j,pre.length≤j→¬Sel b ps r look j)∨
  ∃i:Nat,(prIn b r look pre.length qs st).1=(i:Int)∧Sel b ps r look i∧(st.1= -1→pre.length≤i∧∀j,pre.length≤j→Sel b ps r look j→i≤j)∧(st.1≠ -1→st.1=(i:Int)))∧
 (∀c∈(prIn b r look pre.length qs st).2,c∈st.2∨GoodC b ps r look c)∧
 (st.1≠ -1→(∃j,pre.length≤j∧Sel b ps r look j)→st.2.length<(prIn b r look pre.length qs st).2.length)∧
 ((∃i j,pre.length≤i∧i<j∧Sel b ps r look i∧Sel b ps r look j)→st.2.length<(prIn b r look pre.length qs st).2.length)
 | [],pre,st,e,hst=>by
  have hno:∀j,pre.length≤j→¬Sel b ps r look j:=fun j hj h=>by
   have:=sel_lt h;rw [←e] at this;simp at this
   omega
  refine⟨?_,fun c hc=> .inl hc,fun _ ⟨j,hj,h⟩=>absurd h (hno j hj),fun⟨i,j,hi,_,h,_⟩=>absurd h (hno i hi)⟩
  rcases hst with h|⟨i,h,hi,hs⟩
  ·exact .inl ⟨h,h,hno⟩
  ·exact .inr ⟨i,h,hs,fun h2=>by rw [h] at h2;omega,fun _=>h⟩
 |p::qs,pre,st,e,hst=>by
  have hm:=sel_mid (b:=b) (r:=r) (look:=look) e
  have hstep:∀st':Int×List Clash,prStep b r look pre.length p st=st'→prIn b r look pre.length (p::qs) st=prIn b r look (pre++ [p]).length qs st':=fun st' h=>by
   rw [prIn,h,List.length_append,List.length_singleton]
  have hlen:(pre++ [p]).length=pre.length+1:=by simp
  by_cases hs:Sel b ps r look pre.length
  ·have hc:=hm.1 hs
   by_cases hx:st.1= -1
   ·have ih:=prIn_inv qs (pre++ [p]) (((pre.length:Nat):Int),st.2) (by rw [←e];simp) (.inr ⟨pre.length,rfl,by simp,hs⟩)
    rw [hstep _ (by rw [prStep,if_pos hc,if_pos (by rw [hx];decide)])];obtain⟨h1,h2,h3,h4⟩:=ih;have hne:((pre.length:Nat):Int)≠ -1:=by omega
    refine⟨?_,h2,fun h=>absurd hx h,fun⟨i,j,hi,hij,hsi,hsj⟩=>h3 hne ⟨j,by rw [hlen];omega,hsj⟩⟩
    rcases h1 with⟨_,h5,_⟩|⟨i,h5,h6,_,h8⟩
    ·exact absurd h5 hne
    ·have:=h8 hne
     obtain rfl:pre.length=i:=by simp only at this;omega
     exact .inr ⟨pre.length,h5,h6,fun _=>⟨Nat.le_refl _,fun j hj _=>hj⟩,fun h=>absurd hx h⟩
   ·obtain⟨i0,hi0,hi0l,hs0⟩:=hst.resolve_left hx
    have ih:=prIn_inv qs (pre++ [p]) (st.1,st.2++ [⟨(r:Int),(look:Int),st.1,((pre.length:Nat):Int)⟩]) (by rw [←e];simp) (.inr ⟨i0,hi0,by simp;omega,hs0⟩);rw [hstep _ (by rw [prStep,if_pos hc,if_neg (by omega)])];obtain⟨h1,h2,h3,h4⟩:=ih;have hle:=prIn_le b r look qs (pre++ [p]).length (st.1,st.2++ [⟨(r:Int),(look:Int),st.1,((pre.length:Nat):Int)⟩]);simp only [List.length_append,List.length_cons,List.length_nil] at hle
    have hlt:st.2.length<(prIn b r look (pre++ [p]).length qs (st.1,st.2++ [⟨(r:Int),(look:Int),st.1,((pre.length:Nat):Int)⟩])).2.length:=by
     simp only [List.length_append,List.length_cons,List.length_nil];omega
    refine⟨?_,fun c hc'=>?_,fun _ _=>hlt,fun _=>hlt⟩
    ·rcases h1 with⟨_,h5,_⟩|⟨i,h5,h6,_,h8⟩
     ·exact absurd h5 hx
     ·exact .inr ⟨i,h5,h6,fun h=>absurd h hx,fun _=>h8 hx⟩
    ·rcases h2 c hc' with h|h
     ·rcases List.mem_append.1 h with h|h
      ·exact .inl h
      ·obtain rfl:=List.mem_singleton.1 h
       exact .inr ⟨rfl,rfl,i0,pre.length,hi0,rfl,hi0l,sel_lt hs,hs0,hs⟩
     ·exact .inr h
  ·have hc:¬(p.f0=(r:Int)∧(b.getD pre.length []).getD look false=true):=fun h=>hs (hm.2 h)
   have ih:=prIn_inv qs (pre++ [p]) st (by rw [←e];simp) (hst.imp id (fun⟨i,h,hi,h2⟩=>⟨i,h,by simp;omega,h2⟩));rw [hstep _ (by rw [prStep,if_neg hc])];obtain⟨h1,h2,h3,h4⟩:=ih
   have hup:∀j,pre.length≤j→Sel b ps r look j→(pre++ [p]).length≤j:=fun j hj h=>by
    rw [hlen]
    by_cases he:j=pre.length
    ·subst he;exact absurd h hs
    ·omega
   refine⟨?_,h2,fun h ⟨j,hj,h5⟩=>h3 h ⟨j,hup j hj h5,h5⟩,fun⟨i,j,hi,hij,hsi,hsj⟩=>h4 ⟨i,j,hup i hi hsi,hij,hsi,hsj⟩⟩
   rcases h1 with⟨h5,h6,h7⟩|⟨i,h5,h6,h7,h8⟩
   ·exact .inl ⟨h5,h6,fun j hj h=>h7 j (hup j hj h) h⟩
   ·exact .inr ⟨i,h5,h6,fun h=>⟨by have:=(h7 h).1;rw [hlen] at this;omega,fun j hj h9=>(h7 h).2 j (hup j hj h9) h9⟩,h8⟩
theorem prIn_fst:∀(qs:List Prod) (i:Nat) (st st':Int×List Clash),st.1=st'.1→(prIn b r look i qs st).1=(prIn b r look i qs st').1
 | [],_,_,_,h=>h
 |p::qs,i,st,st',h=>by
  refine prIn_fst qs (i+1) _ _ ?_
  unfold prStep
  rw [←h]
  split
  ·split
   ·rfl
   ·exact rfl
  ·exact h
end
def tk (b:List (List Bool)) (ps:List Prod) (r look:Nat):Int:=(prIn b r look 0 ps (-1,[])).1
theorem tk_spec (b:List (List Bool)) (ps:List Prod) (r look:Nat):(tk b ps r look= -1∧∀j,¬Sel b ps r look j)∨∃i:Nat,tk b ps r look=(i:Int)∧Sel b ps r look i∧∀j,Sel b ps r look j→i≤j:=by
 rcases(prIn_inv (b:=b) (ps:=ps) (r:=r) (look:=look) ps [] (-1,[]) rfl (.inl rfl)).1 with⟨h,_,h2⟩|⟨i,h,h2,h3,_⟩
 ·exact .inl ⟨h,fun j=>h2 j (Nat.zero_le _)⟩
 ·exact .inr ⟨i,h,h2,fun j hj=>(h3 rfl).2 j (Nat.zero_le _) hj⟩
theorem pRow_getD (b:List (List Bool)) (ps:List Prod) (r:Nat):∀(n look:Nat) (bad:List Clash) (j:Nat),j<n→(pRow b ps r n look bad).1.getD j 0=tk b ps r (look+j)
 |0,_,_,j,h=>absurd h (by omega)
 |n+1,look,bad,0,_=>prIn_fst ps 0 _ _ rfl
 |n+1,look,bad,j+1,h=>by
  have ih:=pRow_getD b ps r n (look+1) (prIn b r look 0 ps (-1,bad)).2 j (by omega);rw [pRow,List.getD_cons_succ,ih,show look+1+j=look+(j+1) by omega]
theorem pAll_getD (b:List (List Bool)) (ps:List Prod) (w:Nat):∀(n r:Nat) (bad:List Clash) (i:Nat),i<n→((pAll b ps w n r bad).1.getD i []).length=w∧∀j,j<w→((pAll b ps w n r bad).1.getD i []).getD j 0=tk b ps (r+i) j
 |0,_,_,i,h=>absurd h (by omega)
 |n+1,r,bad,0,_=>by
  rw [pAll,List.getD_cons_zero];refine⟨(pRow_max b ps r w 0 bad).1,fun j hj=>?_⟩
  rw [pRow_getD b ps r w 0 bad j hj];simp
 |n+1,r,bad,i+1,h=>by
  have ih:=pAll_getD b ps w n (r+1) (pRow b ps r w 0 bad).2 i (by omega);rw [pAll,List.getD_cons_succ];refine⟨ih.1,fun j hj=>?_⟩
  rw [ih.2 j hj,show r+1+i=r+(i+1) by omega]
section
variable {nn nt:Nat}{ps:List Prod}
def SelD (nn nt:Nat) (ps:List Prod) (r look i:Nat):Prop:=∃p,ps[i]?=some p∧p.f0=(r:Int)∧(look:Int)∈sel nn nt ps p
theorem selD_iff (hps:ps.all (okProd nn nt)=true) (r look i:Nat):Sel (ps.map (chRow nn nt ps)) ps r look i↔SelD nn nt ps r look i:=by
 have hb:∀p,ps[i]?=some p→((ps.map (chRow nn nt ps)).getD i []).getD look false=decide ((look:Int)∈sel nn nt ps p):=fun p hp=>by
  have e:(ps.map (chRow nn nt ps)).getD i []=chRow nn nt ps p:=by rw [List.getD_eq_getElem?_getD,List.getElem?_map,hp];rfl
  rw [e];exact chRow_getD hps p look
 constructor
 ·rintro⟨p,h1,h2,h3⟩
  rw [hb p h1] at h3;exact⟨p,h1,h2,of_decide_eq_true h3⟩
 ·rintro⟨p,h1,h2,h3⟩
  exact⟨p,h1,h2,by rw [hb p h1];exact decide_eq_true h3⟩
theorem dPredict_table (hps:ps.all (okProd nn nt)=true):(dPredict nn nt ps).1.length=nn∧∀r,r<nn→((dPredict nn nt ps).1.getD r []).length=nt+1∧∀look,look≤nt→
 (((dPredict nn nt ps).1.getD r []).getD look 0= -1∧∀j,¬SelD nn nt ps r look j)∨∃i:Nat,((dPredict nn nt ps).1.getD r []).getD look 0=(i:Int)∧SelD nn nt ps r look i∧∀j,SelD nn nt ps r look j→i≤j:=by
 have e:dPredict nn nt ps=pAll (ps.map (chRow nn nt ps)) ps (nt+1) nn 0 []:=by rw [dPredict,if_pos hps]
 rw [e];refine⟨(pAll_max _ ps (nt+1) nn 0 []).1,fun r hr=>?_⟩
 obtain⟨h1,h2⟩:=pAll_getD (ps.map (chRow nn nt ps)) ps (nt+1) nn 0 [] r hr;refine⟨h1,fun look hl=>?_⟩
 rw [h2 look (by omega),Nat.zero_add];rcases tk_spec (ps.map (chRow nn nt ps)) ps r look with⟨h,h3⟩|⟨i,h,h3,h4⟩
 ·exact .inl ⟨h,fun j hj=>h3 j ((selD_iff hps r look j).2 hj)⟩
 ·exact .inr ⟨i,h,(selD_iff hps r look i).1 h3,fun j hj=>h4 j ((selD_iff hps r look j).2 hj)⟩
end
end Go.Proofs.Ytapjfnfengefpaa.M
end

section
namespace Go.Proofs.Ytapjfnfengefpaa.M
open Go.RowKit Go.Proofs.YtapjfnfengefpaaW.PrintWords Go.Proofs.YtapjfnfengefpaaW.PrintLast Go.Proofs.YtapjfnfengefpaaW.PrintMore Go.Proofs.Ytapjfnfengefpaa.P Go.Proofs.Ytapjfnfengefpaa.H
set_option linter.unusedVariables false
set_option linter.unusedSimpArgs false
structure SynOk (ns:List ByteArray) (ts:List Tok) (ps:List Prod):Prop where
 n1:0<ns.length
 n5:ns.length≤5
 t1:0<ts.length
 t10:ts.length≤10
 p10:ps.length≤10
 ok:ps.all (okProd ns.length ts.length)=true
 r3:∀p∈ps,p.f1.length≤3
theorem SynOk.small {ns:List ByteArray}{ts:List Tok}{ps:List Prod}(h:SynOk ns ts ps):Small ps:=⟨by have:=h.p10;omega,fun p hp=>by have:=h.r3 p hp;omega⟩
theorem synOk_made {ns:List ByteArray}{ts:List Tok}{ps:List Prod}(h:MadeOk ns ts ps):SynOk ns ts ps:=⟨h.n1,h.n5,h.t1,by have:=h.t4;omega,h.p10,h.ok,h.r3⟩
theorem synOk_clear {ns:List ByteArray}{ts:List Tok}{ps:List Prod}(h:MadeOk ns ts ps):SynOk ns (clTs 0 ps.length) (clPs ps.length 0 ps):=
 ⟨h.n1,h.n5,by rw [clTs_length];exact h.p1,by rw [clTs_length];exact h.p10,by rw [clPs_length];exact h.p10,by rw [clTs_length];exact clPs_spec h.p1 ps 0 (by omega) h.ok,clPs_len _ ps 0 h.r3⟩
def Sized (nn nt:Nat) (tb:List (List Int)):Prop:=tb.length=nn∧∀r∈tb,r.length=nt+1
theorem dPredict_sized {nn nt:Nat}{ps:List Prod}(hps:ps.all (okProd nn nt)=true):Sized nn nt (dPredict nn nt ps).1:=by
 obtain⟨h1,h2⟩:=dPredict_table hps;refine⟨h1,fun r hr=>?_⟩
 obtain⟨i,hi,e⟩:=List.getElem_of_mem hr;have h3:=(h2 i (by omega)).1;rw [List.getD_eq_getElem?_getD,List.getElem?_eq_getElem hi] at h3;rw [←e];exact h3
theorem SynOk.fit {ns:List ByteArray}{ts:List Tok}{ps:List Prod}{tb:List (List Int)}(h:SynOk ns ts ps) (ht:Sized ns.length ts.length tb):Fit ts ps tb:=
 ⟨h.small,by have:=h.t10;omega,by have:=h.n5;have:=ht.1;omega,fun r hr=>by have:=h.t10;have:=ht.2 r hr;omega⟩
theorem table_ev {ns:List ByteArray}{ts:List Tok}{ps:List Prod}(h:SynOk ns ts ps) (a2 a3:Int) {at_ n:Int}(h0:0≤at_∧at_≤255) (hn:0≤n∧n≤255):∃tb,Ev (fun k=>regletlaw16_table.f k ns ts a2 a3 ps at_ n) tb∧Sized ns.length ts.length tb∧(200≤at_→tb=(dPredict ns.length ts.length ps).1):=by
 have hP:=refPredict_ev ns ts a2 a3 ps h.small (by have:=h.n5;omega) (by have:=h.t10;omega) (by have:=h.p10;omega);have hS:=dPredict_sized h.ok;have hn1:=h.n1;have hn5:=h.n5;have ht1:=h.t1;have ht10:=h.t10;have hp10:=h.p10;generalize (dPredict ns.length ts.length ps)=pr at hP hS;obtain⟨tb,cs⟩:=pr;simp only at hS
 by_cases ha:at_<200
 rotate_left
 ·refine⟨tb,?_,hS,fun _=>rfl⟩
  refine Ev.congr (fun k=>by rw [regletlaw16_table.f]) (Ev.bind hP ?_)
  exact Ev.neg ha (Ev.some rfl)
 have hl:(tb.length:Int)>0:=by have:=hS.1;omega
 have e0:wrap64 at_=at_:=wrap64_id (by omega) (by omega);have e1:wrap64 ((ps.length:Int)+2)=(ps.length:Int)+2:=wrap64_id (by omega) (by omega);have m0:0≤Int.tmod at_ (tb.length:Int):=Int.tmod_nonneg _ h0.1;have m1:Int.tmod at_ (tb.length:Int)<(tb.length:Int):=Int.tmod_lt_of_pos _ hl;generalize hi:Int.tmod at_ (tb.length:Int)=i at m0 m1;have er:rd_L5 tb i=tb.getD i.toNat []:=rfl
 have hrow:(tb.getD i.toNat []).length=ts.length+1:=by
  rw [List.getD_eq_getElem?_getD,List.getElem?_eq_getElem (by omega)];exact hS.2 _ (List.getElem_mem _)
 have d0:0≤Int.tdiv at_ 8:=Int.tdiv_nonneg h0.1 (by omega);have d1:Int.tdiv at_ 8≤255:=by rw [Int.tdiv_eq_ediv_of_nonneg h0.1];omega
 have e2:wrap64 (Int.tdiv at_ 8)=Int.tdiv at_ 8:=wrap64_id (by omega) (by omega);have k0:0≤Int.tmod (Int.tdiv at_ 8) ((tb.getD i.toNat []).length:Int):=Int.tmod_nonneg _ d0;have k1:Int.tmod (Int.tdiv at_ 8) ((tb.getD i.toNat []).length:Int)<((tb.getD i.toNat []).length:Int):=Int.tmod_lt_of_pos _ (by omega);refine⟨tb.set i.toNat ((tb.getD i.toNat []).set (Int.tmod (Int.tdiv at_ 8) ((tb.getD i.toNat []).length:Int)).toNat (wrap64 (Int.tmod (wrap64 n) ((ps.length:Int)+2) - 1))),?_,?_,fun h=>by omega⟩
 ·refine Ev.congr (fun k=>by rw [regletlaw16_table.f]) (Ev.bind hP ?_)
  simp only [e0,hi,e1,er,e2];refine Ev.pos ha (Ev.pos hl (Ev.neg (by omega) (Ev.pos m0 (Ev.pos m1 (Ev.neg (by omega) (Ev.neg (by omega) (Ev.pos k0 (Ev.pos k1 (Ev.some rfl)))))))))
 ·refine⟨by rw [List.length_set];exact hS.1,fun r hr=>?_⟩
  rcases List.mem_or_eq_of_mem_set hr with hr|rfl
  ·exact hS.2 r hr
  ·rw [List.length_set];exact hrow
theorem tokens_l0_ev {n:Int}(hn:0<n):∀(a pre out:List Int),(∀x∈pre++a,0≤x∧x≤255)→out.length=pre.length→pre.length≤10→(∀x∈out,0≤x∧x<n)→
 ∃t,Ev (fun k=>regletlaw16_tokens.l0 k (pre++a) n out (pre.length:Int)) t∧t.length≤10∧∀x∈t,0≤x∧x<n
 | [],pre,out,_,ho,hp,hx=>by
  refine⟨out,?_,by omega,hx⟩
  refine Ev.step (fun k=>by rw [regletlaw16_tokens.l0]) ?_
  exact Ev.neg (by simp) (Ev.some rfl)
 |x::a,pre,out,hu,ho,hp,hx=>by
  have er:rd (pre++x::a) (pre.length:Int)=x:=getD_mid _ pre x a _ rfl;have hxu:=hu x (by simp)
  by_cases h10:(pre.length:Int)<10
  ·have e0:wrap64 x=x:=wrap64_id (by omega) (by omega)
   have ih:=tokens_l0_ev hn a (pre++ [x]) (out++ [Int.tmod x n]) (by rw [List.append_assoc];exact hu) (by simp [ho]) (by simp;omega) (fun y hy=>by
    rcases List.mem_append.1 hy with h|h
    ·exact hx y h
    ·rw [List.mem_singleton.1 h]
     exact⟨Int.tmod_nonneg _ hxu.1,Int.tmod_lt_of_pos _ hn⟩)
   obtain⟨t,ht,h1,h2⟩:=ih;refine⟨t,?_,h1,h2⟩
   rw [←wrap_next pre x (by omega),List.append_assoc,List.singleton_append] at ht;refine Ev.step (fun k=>by rw [regletlaw16_tokens.l0]) (Ev.pos (by simp;omega) (Ev.pos h10 (Ev.pos (by omega) (Ev.neg (by omega) (Ev.pos (by omega) ?_)))))
   rw [er,e0];exact ht
  ·refine⟨out,?_,by omega,hx⟩
   refine Ev.step (fun k=>by rw [regletlaw16_tokens.l0]) (Ev.pos (by simp;omega) ?_)
   exact Ev.neg h10 (Ev.some rfl)
theorem tokens_ev {l:List Int}(hu:∀x∈l,0≤x∧x≤255) {n:Int}(hn:0<n):∃t,Ev (fun k=>regletlaw16_tokens.f k l n) t∧t.length≤10∧∀x∈t,0≤x∧x<n:=by
 obtain⟨t,ht,h1,h2⟩:=tokens_l0_ev hn l [] [] (by simpa using hu) rfl (by simp) (fun x h=>by cases h);exact⟨t,Ev.congr (fun k=>by rw [regletlaw16_tokens.f];rfl) ht,h1,h2⟩
theorem rowsOk_of {nt:Nat}{ps:List Prod}:∀(tb:List (List Int)) (r:Nat),(∀i,i<tb.length→(tb.getD i []).length=nt+1∧∀q∈tb.getD i [],okEnt ps ((r+i:Nat):Int) q=true)→rowsOk nt ps r tb=true
 | [],_,_=>rfl
 |row::tb,r,h=>by
  have h0:=h 0 (by simp);rw [rowsOk,Bool.and_eq_true,Bool.and_eq_true];refine⟨⟨decide_eq_true (by simpa using h0.1),List.all_eq_true.2 (fun q hq=>by have:=h0.2 q (by simpa using hq);rwa [Nat.add_zero] at this)⟩,rowsOk_of tb (r+1) (fun i hi=>?_)⟩
  have:=h (i+1) (by simp;omega);rw [show r+1+i=r+(i+1) by omega]
  simpa using this
theorem tbRight_pred {ns:List ByteArray}{ts:List Tok}{ps:List Prod}(h:SynOk ns ts ps):tbRight ns.length ts.length ps (dPredict ns.length ts.length ps).1=true:=by
 obtain⟨h1,h2⟩:=dPredict_table h.ok;have hn:=h.n1;simp only [tbRight,Bool.and_eq_true,Bool.not_eq_true',decide_eq_false_iff_not,decide_eq_true_eq];refine⟨h.ok,by omega,h1,rowsOk_of _ 0 (fun i hi=>?_)⟩
 obtain⟨h3,h4⟩:=h2 i (by omega);refine⟨h3,fun q hq=>?_⟩
 obtain⟨j,hj,e⟩:=List.getElem_of_mem hq;have h5:=h4 j (by omega);rw [List.getD_eq_getElem?_getD,List.getElem?_eq_getElem hj,Option.getD_some,e] at h5;rw [Nat.zero_add];rcases h5 with⟨rfl,_⟩|⟨m,rfl,hm,_⟩
 ·simp [okEnt];omega
 ·obtain⟨p,hp,hp0,_⟩:=hm
  obtain⟨hi',ep⟩:=List.getElem?_eq_some_iff.1 hp
  have er:rd_T35 ps (m:Int)=p:=by
   rw [rd_T35,Int.toNat_natCast,List.getD_eq_getElem?_getD,hp];rfl
  simp only [okEnt,er,hp0,Bool.and_eq_true,Bool.or_eq_true,decide_eq_true_eq];exact⟨⟨by omega,by omega⟩,.inr trivial⟩
structure TabR (nn nt:Nat) (ps:List Prod) (tb:List (List Int)):Prop where
 prods:ps.all (okProd nn nt)=true
 ent:∀x look:Int,0≤x→x<(nn:Int)→0≤look→look≤(nt:Int)→okEnt ps x (mEnt tb x look)=true
theorem tabR {nn nt:Nat}{ps:List Prod}{tb:List (List Int)}(h:tbRight nn nt ps tb=true):TabR nn nt ps tb:=by
 refine⟨tbRight_prods h,fun x look h0 h1 h2 h3=>?_⟩
 simp only [tbRight,Bool.and_eq_true,decide_eq_true_eq] at h;obtain⟨_,_,h4,h5⟩:=h;obtain⟨h6,h7⟩:=rowsOk_spec tb 0 h5 x.toNat (by omega)
 have h8:=h7 (mEnt tb x look) (by
  unfold mEnt
  generalize tb.getD x.toNat []=row at h6 ⊢;rw [List.getD_eq_getElem?_getD,List.getElem?_eq_getElem (by omega)];exact List.getElem_mem _)
 rwa [show((0+x.toNat:Nat):Int)=x by omega] at h8
theorem ent_prod {ps:List Prod}{r q:Int}(h:okEnt ps r q=true) (hq:¬q<0):rd_T35 ps q∈ps∧(rd_T35 ps q).f0=r∧q<(ps.length:Int):=by
 simp only [okEnt,Bool.and_eq_true,Bool.or_eq_true,decide_eq_true_eq] at h;obtain⟨⟨_,h1⟩,h2⟩:=h;refine⟨?_,?_,h1⟩
 ·rw [rd_T35,List.getD_eq_getElem?_getD,List.getElem?_eq_getElem (by omega)]
  exact List.getElem_mem _
 ·rcases h2 with h2|h2
  ·exact absurd h2 hq
  ·exact h2
section
variable {nn nt:Nat}{ps:List Prod}{tb:List (List Int)}{look:Int}
theorem mFeed_all (hT:TabR nn nt ps tb) (h0:0≤look) (h1:look≤(nt:Int)):∀(k:Nat) (st:List Sym) (sp:List Int) (R:Int×List Sym×List Int),mFeed nt ps tb look k st sp=some R→st.all (okSym nn nt)=true→R.1=0→R.2.1.all (okSym nn nt)=true∧(look=(nt:Int)→R.2.1= [])
 |0,_,_,_,h,_,_=>by simp [mFeed] at h
 |k+1,[],sp,R,h,_,_=>by
  rw [mFeed] at h;have h:=(Option.some.inj h).symm;subst h;exact⟨rfl,fun _=>rfl⟩
 |k+1,x::st,sp,R,h,hok,hR=>by
  rw [mFeed] at h;rw [List.all_cons,Bool.and_eq_true] at hok;obtain⟨hx,hok⟩:=hok
  split at h
  ·rename_i hc
   have h:=(Option.some.inj h).symm;subst h;refine⟨hok,fun hl=>?_⟩
   have:x.f1<(nt:Int):=by
    have:=hx;simp [okSym,hc.1] at this
    exact this.2
   omega
  ·split at h
   ·have h:=(Option.some.inj h).symm
    subst h;simp at hR
   ·rename_i hc1 hc2
    have hxf:x.f0=false:=by
     cases hb:x.f0 with
     |true=>exact absurd (.inl hb) hc2
     |false=>rfl
    obtain⟨hx0,hx1⟩:0≤x.f1∧x.f1<(nn:Int):=by simpa [okSym,hxf] using hx
    obtain⟨hm,_,_⟩:=ent_prod (hT.ent x.f1 look hx0 hx1 h0 h1) (fun h=>hc2 (.inr h));have hro:=List.all_eq_true.1 hT.prods _ hm;simp only [okProd,Bool.and_eq_true] at hro
    split at h
    ·exact mFeed_all hT h0 h1 k _ _ R h (by rw [List.all_append,hro.2,hok];rfl) hR
    ·have h:=(Option.some.inj h).symm
     subst h;simp at hR
def Goes (nn nt:Nat) (st:List Sym) (d:Bool):Prop:=d=false∧stAwaits nn nt st=true
theorem mFeedAll_eq (hr:tbRight nn nt ps tb=true) {st:List Sym}{d:Bool}(hg:Goes nn nt st d) (h0:0≤look) (h1:look≤(nt:Int)):∃R,mFeed nt ps tb look 10002 st.reverse []=some R∧mFeedAll nn nt ps tb st d look=mOut (some R):=by
 obtain⟨R,hR⟩:=mFeed_some (nt:=nt) (ps:=ps) (tb:=tb) (look:=look) 10002 st.reverse [] (by omega) (by simp);refine⟨R,hR,?_⟩
 unfold mFeedAll
 rw [if_pos ⟨hr,hg.2,h0,h1⟩,if_neg (by rw [hg.1];simp),hR]
theorem feed_goes (hr:tbRight nn nt ps tb=true) {st:List Sym}{d:Bool}(hg:Goes nn nt st d) (h0:0≤look) (h1:look≤(nt:Int)) (he:(mFeedAll nn nt ps tb st d look).2.2.2=0):
 Goes nn nt (mFeedAll nn nt ps tb st d look).1 (mFeedAll nn nt ps tb st d look).2.1∧(look=(nt:Int)→(mFeedAll nn nt ps tb st d look).1= []):=by
 obtain⟨R,hR,e⟩:=mFeedAll_eq hr hg h0 h1;rw [e] at he ⊢;obtain⟨er,s,p⟩:=R;have em:mOut (some (er,s,p))=if er=0 then(s.reverse,false,p,0) else([],true,p,er):=rfl
 rw [em] at he ⊢;have ha:=hg.2;simp only [stAwaits,Bool.and_eq_true,decide_eq_true_eq] at ha
 by_cases h:er=0
 rotate_left
 ·rw [if_neg h] at he
  exact absurd he h
 rw [if_pos h];have h2:=mFeed_all (tabR hr) h0 h1 10002 st.reverse [] _ hR (by rw [List.all_reverse];exact ha.2) h;have h3:=mFeed_len 10002 st.reverse [] _ hR (by rw [List.length_reverse];exact ha.1) (by simp);refine⟨⟨rfl,?_⟩,fun hl=>?_⟩
 ·simp only [stAwaits,Bool.and_eq_true,decide_eq_true_eq,List.length_reverse,List.all_reverse]
  exact⟨h3.2 h,h2.1⟩
 ·have:=h2.2 hl
  simp only at this;rw [this];rfl
theorem goes_start (hn:0<nn):Goes nn nt [⟨false,0⟩] false:=⟨rfl,by simp [stAwaits,okSym];omega⟩
end
end Go.Proofs.Ytapjfnfengefpaa.M
end
