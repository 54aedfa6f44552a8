/- Packed texts of this claim: the walks of the functions, and their plain laws; see the claim's last text. -/
import Derived.Test.YtapjfnfengefpaaKMachineLong3
section
namespace Go.Proofs.Ytapjfnfengefpaa.P
open Go.RowKit Go.Proofs.YtapjfnfengefpaaW.PrintWords Go.Proofs.YtapjfnfengefpaaW.PrintLast Go.Proofs.YtapjfnfengefpaaW.PrintMore
attribute [local go_sem] max2_int min2_int max_two min_two max_three min_three max_four min_four   -- for this text's walks alone
set_option linter.unusedVariables false
set_option linter.unusedSimpArgs false
def regletlaw16_fed.f (k:Nat) (aW:List ByteArray) (aX:List (S72)) (bM:Int) (bO:Int) (aV:List (S35)) (l1:List (List Int)) (dD:List (S43)) (eK:Bool) (a3:Int):Option (Bool):=(machine_Feed.f aW aX bM bO aV l1 dD eK a3).bind fun pA=>((regletref16_Feed.f k aW aX bM bO aV l1 dD eK a3).bind fun kY=>((regletref16_Same.f k pA.1 pA.2.1 kY.1 kY.2.1).bind fun t273=>(if t273=true then((regletref13_SameInts.f k pA.2.2.1 kY.2.2.1).bind fun t274=>(if t274=true then(if pA.2.2.2=kY.2.2.2 then((machine_Right.f aW aX bM bO aV l1).bind fun t275=>((regletref16_Right.f k aW aX bM bO aV l1).bind fun t276=>(some (t275==t276)))) else(none)) else(none))) else(none))))
def regletlaw16_fed.T3:Bool×List (List Nat×List Nat):=(true,[([],[]),([],[]),([0,1],[0,1]),([2,2],[2]),([3],[3]),([3],[3]),([4,5,3,3],[3,4,5]),([3,6],[3,6]),([7,6],[7]),([8],[8]),([8],[8]),([9,10,8],[8,9,10]),([8,11],[8,11]),([12,8],[12]),([13],[13]),([13],[13]),([14,15,13,13],[13,14,15]),([13],[13]),([13],[13]),([17,18,16,13],[13,17,18]),([16,19,13],[13,16,19]),([13,20],[13,20]),([21,19,0,1,2,3,4,5,6,7,8,9,10,11,12,13,14,15,16,17,18,19,20,21],[21])])
def regletlaw16_fed.B3:List Nat:= [0,0,3,7,15,15,63,127,255,511,511,2047,4095,8191,16383,16383,65535,16383,16383,524287,1048575,2097151,4194303]
theorem regletlaw16_fed.tab3:rtab .any (opsOf Try.f11 3)=regletlaw16_fed.T3:=by kernel_rfl
theorem regletlaw16_fed.bits3:waitsOk regletlaw16_fed.T3.2 regletlaw16_fed.B3=true:=by kernel_rfl
set_option maxHeartbeats 8000000 in
set_option maxRecDepth 100000 in
theorem regletlaw16_fed.calls (k:Nat) (cA:Option Addr) (cB:Nat) (aW:List ByteArray) (cE:Option Addr) (cF:Nat) (aX:List (S72)) (bM:Int) (bO:Int) (cK:Option Addr) (cG:Nat) (aV:List (S35)) (A1:Option Addr) (c1:Nat) (l1:List (List Int)) (fQ:Option Addr) (fR:Nat) (dD:List (S43)) (eK:Bool) (a3:Int) (r:Bool) (w:World) (fU:Kd.C Kd.string w cA aW.length aW) (gG:aW.length≤cB) (gH:Kd.C k72 w cE aX.length aX) (hU:aX.length≤cF) (gA:Kd.C k35 w cK aV.length aV) (iB:aV.length≤cG) (hr1:Kd.C (Kd.slice 3 (Kd.int .i64)) w A1 l1.length l1) (hc1:l1.length≤c1) (pZ:Kd.C k43 w fQ dD.length dD) (qA:dD.length≤fR) (h:regletlaw16_fed.f k aW aX bM bO aV l1 dD eK a3=some r):
 Calls Try.prog 11 #[.agg #[.slice cA aW.length cB,.slice cE aX.length cF,.int .i64 bM,.int .i64 bO,.slice cK aV.length cG],.slice A1 l1.length c1,.agg #[.slice fQ dD.length fR,.bool eK],.int .i64 a3] w fun e w'=>e= .returned (.bool r)∧Below w.heap.size w w':=by
 have hu26:=Try.underlying26;have hu31:=Try.underlying31;have gP:=aM fU;have iA:=aM gG;clear fU gG;have iE:=aM gH;have iF:=aM hU;clear gH hU;have gI:=aM gA;have iG:=aM iB;clear gA iB;have HR1:=aM hr1;have HC1:=aM hc1;clear hr1 hc1;have rU:=aM pZ;have rY:=aM qA;clear pZ qA;have HB:=aM (Below.refl w.heap.size w);have H:((machine_Feed.f aW aX bM bO aV l1 dD eK a3).bind fun pA=>((regletref16_Feed.f k aW aX bM bO aV l1 dD eK a3).bind fun kY=>((regletref16_Same.f k pA.1 pA.2.1 kY.1 kY.2.1).bind fun t273=>(if t273=true then((regletref13_SameInts.f k pA.2.2.1 kY.2.2.1).bind fun t274=>(if t274=true then(if pA.2.2.2=kY.2.2.2 then((machine_Right.f aW aX bM bO aV l1).bind fun t275=>((regletref16_Right.f k aW aX bM bO aV l1).bind fun t276=>(some (t275==t276)))) else(none)) else(none))) else(none)))))=some r:=h;clear h;replace H:=Option.bind_eq_some_iff.mp H;obtain⟨⟨t255,t258,t259,t262⟩,A50,H⟩:=H;replace H:((regletref16_Feed.f k aW aX bM bO aV l1 dD eK a3).bind fun kY=>((regletref16_Same.f k t255 t258 kY.1 kY.2.1).bind fun t273=>(if t273=true then((regletref13_SameInts.f k t259 kY.2.2.1).bind fun t274=>(if t274=true then(if t262=kY.2.2.2 then((machine_Right.f aW aX bM bO aV l1).bind fun t275=>((regletref16_Right.f k aW aX bM bO aV l1).bind fun t276=>(some (t275==t276)))) else(none)) else(none))) else(none))))=some r:=H;have A5:=aM A50;clear A50;replace H:=Option.bind_eq_some_iff.mp H;obtain⟨⟨t264,t267,t268,t271⟩,A60,H⟩:=H;replace H:((regletref16_Same.f k t255 t258 t264 t267).bind fun t273=>(if t273=true then((regletref13_SameInts.f k t259 t268).bind fun t274=>(if t274=true then(if t262=t271 then((machine_Right.f aW aX bM bO aV l1).bind fun t275=>((regletref16_Right.f k aW aX bM bO aV l1).bind fun t276=>(some (t275==t276)))) else(none)) else(none))) else(none)))=some r:=H;have A6:=aM A60;clear A60;replace H:=Option.bind_eq_some_iff.mp H;obtain⟨t273,A70,H⟩:=H;replace H:(if t273=true then((regletref13_SameInts.f k t259 t268).bind fun t274=>(if t274=true then(if t262=t271 then((machine_Right.f aW aX bM bO aV l1).bind fun t275=>((regletref16_Right.f k aW aX bM bO aV l1).bind fun t276=>(some (t275==t276)))) else(none)) else(none))) else(none))=some r:=H;have A7:=aM A70;clear A70
 by_cases c8:t273=true
 ·subst c8
  have H1:((regletref13_SameInts.f k t259 t268).bind fun t274=>(if t274=true then(if t262=t271 then((machine_Right.f aW aX bM bO aV l1).bind fun t275=>((regletref16_Right.f k aW aX bM bO aV l1).bind fun t276=>(some (t275==t276)))) else(none)) else(none)))=some r:=by rw [if_pos rfl] at H;exact H
  clear H;have H:=H1;clear H1;replace H:=Option.bind_eq_some_iff.mp H;obtain⟨t274,A90,H⟩:=H;replace H:(if t274=true then(if t262=t271 then((machine_Right.f aW aX bM bO aV l1).bind fun t275=>((regletref16_Right.f k aW aX bM bO aV l1).bind fun t276=>(some (t275==t276)))) else(none)) else(none))=some r:=H;have A9:=aM A90;clear A90
  by_cases c10:t274=true
  ·subst c10
   have H1:(if t262=t271 then((machine_Right.f aW aX bM bO aV l1).bind fun t275=>((regletref16_Right.f k aW aX bM bO aV l1).bind fun t276=>(some (t275==t276)))) else(none))=some r:=by rw [if_pos rfl] at H;exact H
   clear H;have H:=H1;clear H1
   by_cases c11:t262=t271
   ·rw [if_pos c11] at H
    have Lh:(t262==t271)=true:=beq_iff_eq.mpr c11;have Li:(t262 !=t271)=false:=bne_eq_false_iff_eq.mpr c11;clear c11;replace H:=Option.bind_eq_some_iff.mp H;obtain⟨t275,A120,H⟩:=H;replace H:((regletref16_Right.f k aW aX bM bO aV l1).bind fun t276=>(some (t275==t276)))=some r:=H;have A12:=aM A120;clear A120;replace H:=Option.bind_eq_some_iff.mp H;obtain⟨t276,A130,H⟩:=H;replace H:(some (t275==t276))=some r:=H;have A13:=aM A130;clear A130;obtain rfl:=Option.some.inj H;go_enter Try.func11,Try.ntmps11
    try go_wp2_with (first|((with_reducible refine bJ (N:=4) rfl ?_);refine box_event ?hg (N:=4) ?hd (cs:=#[.slice cA aW.length cB,.slice cE aX.length cF,.int .i64 bM,.int .i64 bO,.slice cK aV.length cG]) (t:=26) ?hr ?_;(case hd=>rfl);(case hg=>rfl);(case hr=>first|(go_simp;done)|(go_simp;rfl));intro gJ hg w14 hbox hb;have bX:=aM (bG (gW HB.out) hb);have bY:=aM (hbox);have cC:=aM ((by rw [hg];exact(bH (gW HB.out)):w.heap.size≤gJ));have cD:=aM ((by rw [hg];exact(bH (gW HB.out)):w.heap.size≤gJ));clear HB;have HB:=bX;have dE:=bY;have GW253:=cC;have pB:=cD;clear bX bY cC cD;clear hb hbox hg)|((with_reducible refine bJ (N:=6) rfl ?_);refine box_event ?hg (N:=6) ?hd (cs:=#[.slice fQ dD.length fR,.bool eK]) (t:=31) ?hr ?_;(case hd=>rfl);(case hg=>rfl);(case hr=>first|(go_simp;done)|(go_simp;rfl));intro jS hg w15 hbox hb;have bX:=aM (bF (gB dE.out) hb);have bY:=aM (bG (gW HB.out) hb);have cC:=aM (hbox);have cD:=aM ((by rw [hg];exact(bH (gW HB.out)):w.heap.size≤jS));have cL:=aM ((by rw [hg];exact(bH (gW HB.out)):w.heap.size≤jS));have cS:=aM ((by rw [hg];exact Nat.ne_of_lt (bN (g:=gJ) (o:= .cells #[.slice cA aW.length cB,.slice cE aX.length cF,.int .i64 bM,.int .i64 bO,.slice cK aV.length cG] 26 (0,0)) (gB dE.out)):gJ≠jS));have dB:=aM ((by rw [hg];exact Nat.ne_of_gt (bN (g:=gJ) (o:= .cells #[.slice cA aW.length cB,.slice cE aX.length cF,.int .i64 bM,.int .i64 bO,.slice cK aV.length cG] 26 (0,0)) (gB dE.out)):jS≠gJ));clear dE;clear HB;have dE:=bX;have HB:=bY;have fA:=cC;have GW254:=cD;have pC:=cL;have yP:=cS;have yQ:=dB;clear bX bY cC cD cL cS dB;clear hb hbox hg;have hnb16:=yP.out;have hnc16:=yQ.out;have Pm:w15.cell? ⟨gJ,0,none⟩=some (.slice cA aW.length cB):=(aG dE.out 0).trans rfl;have Pn:w15.cell? ⟨gJ,1,none⟩=some (.slice cE aX.length cF):=(aG dE.out 1).trans rfl;have Po:w15.cell? ⟨gJ,2,none⟩=some (.int .i64 bM):=(aG dE.out 2).trans rfl;have Pp:w15.cell? ⟨gJ,3,none⟩=some (.int .i64 bO):=(aG dE.out 3).trans rfl;have Pq:w15.cell? ⟨gJ,4,none⟩=some (.slice cK aV.length cG):=(aG dE.out 4).trans rfl;have Pr:=aH dE.out 0;have Ps:=aH dE.out 1;have Pt:=aH dE.out 2;have Pu:=aH dE.out 3;have Pv:=aH dE.out 4;have qW:w15.cell? ⟨jS,0,none⟩=some (.slice fQ dD.length fR):=(aG fA.out 0).trans rfl;have qX:w15.cell? ⟨jS,1,none⟩=some (.bool eK):=(aG fA.out 1).trans rfl;have qY:=aH fA.out 0;have qZ:=aH fA.out 1)|((with_reducible refine bI (f:=23) rfl ?_);refine goesL_ (some 20) rfl rfl Try.func23 (by kernel_rfl) rfl #[.agg #[.slice cA aW.length cB,.slice cE aX.length cF,.int .i64 bM,.int .i64 bO,.slice cK aV.length cG],.slice A1 l1.length c1,.agg #[.slice fQ dD.length fR,.bool eK],.int .i64 a3] rfl (by(try simp only [List.map_toArray,List.map_cons,List.map_nil]);first|done|rfl|(simp only [List.length_drop,List.length_take];rfl)) ?_;(with_reducible refine(machine_Feed.calls _ _ aW _ _ aX bM bO _ _ aV _ _ l1 _ _ dD eK a3 t255 t258 t259 t262 _ ?side1 ?side2 ?side3 ?side4 ?side5 ?side6 ?side7 ?side8 ?side9 ?side10 A5.out).mono ?_);(case side1=>exact gC (bD gP.out HB.out));(case side2=>exact iA.out);(case side3=>exact gC (bD iE.out HB.out));(case side4=>exact iF.out);(case side5=>exact gC (bD gI.out HB.out));(case side6=>exact iG.out);(case side7=>exact gC (bD HR1.out HB.out));(case side8=>exact HC1.out);(case side9=>exact gC (bD rU.out HB.out));(case side10=>exact rY.out);rintro e w19 ⟨v256,v260,rfl,ho0,ho1,hb⟩;refine⟨_,rfl,?_⟩;have bX:=aM (bL ho0 (bH (gW HB.out)));have bY:=aM (bL ho1 (bH (gW HB.out)));have cC:=aM (bF (gB dE.out) hb);have cD:=aM (bF (gB fA.out) hb);have cL:=aM (bG (gW HB.out) hb);clear dE;clear fA;clear HB;have gV:=bX;have gX:=bY;have dE:=cC;have fA:=cD;have HB:=cL;clear bX bY cC cD cL;(try clear hb);(try clear hb2);(try clear hk);(try clear hi);(try clear ho0);(try clear ho1))|((with_reducible refine bJ (N:=9) rfl ?_);refine box_event ?hg (N:=9) ?hd (cs:=#[.slice none 0 0,.bool false]) (t:=31) ?hr ?_;(case hd=>rfl);(case hg=>rfl);(case hr=>first|(go_simp;done)|(go_simp;rfl));intro iV hg w20 hbox hb;have bX:=aM (aD (gR gV.out) hb);have bY:=aM (aD (gR gX.out) hb);have cC:=aM (bF (gB dE.out) hb);have cD:=aM (bF (gB fA.out) hb);have cL:=aM (bG (gW HB.out) hb);have cS:=aM (hbox);have dB:=aM ((by rw [hg];exact(bH (gW HB.out)):w.heap.size≤iV));have dL:=aM ((by rw [hg];exact(bH (gW HB.out)):w.heap.size≤iV));have dX:=aM ((by rw [hg];exact Nat.ne_of_lt (bN (g:=gJ) (o:= .cells #[.slice cA aW.length cB,.slice cE aX.length cF,.int .i64 bM,.int .i64 bO,.slice cK aV.length cG] 26 (0,0)) (gB dE.out)):gJ≠iV));have fH:=aM ((by rw [hg];exact Nat.ne_of_gt (bN (g:=gJ) (o:= .cells #[.slice cA aW.length cB,.slice cE aX.length cF,.int .i64 bM,.int .i64 bO,.slice cK aV.length cG] 26 (0,0)) (gB dE.out)):iV≠gJ));have dT:=aM ((by rw [hg];exact Nat.ne_of_lt (bN (g:=jS) (o:= .cells #[.slice fQ dD.length fR,.bool eK] 31 (0,0)) (gB fA.out)):jS≠iV));have eC:=aM ((by rw [hg];exact Nat.ne_of_gt (bN (g:=jS) (o:= .cells #[.slice fQ dD.length fR,.bool eK] 31 (0,0)) (gB fA.out)):iV≠jS));clear gV;clear gX;clear dE;clear fA;clear HB;have gV:=bX;have gX:=bY;have dE:=cC;have fA:=cD;have HB:=cL;have eS:=cS;have GW263:=dB;have pD:=dL;have pM:=dX;have yR:=fH;have pN:=dT;have yS:=eC;clear bX bY cC cD cL cS dB dL dX fH dT eC;clear hb hbox hg;obtain⟨nF,kH,Ej⟩:=Kd.R_slice gV.out;subst Ej;have hnb22:=yR.out;have hnc22:=pM.out;have hnb23:=yS.out;have hnc23:=pN.out;have nL:w20.cell? ⟨iV,0,none⟩=some (.slice none 0 0):=(aG eS.out 0).trans rfl;have nM:w20.cell? ⟨iV,1,none⟩=some (.bool false):=(aG eS.out 1).trans rfl;have nN:=aH eS.out 0;have nO:=aH eS.out 1;have Bq:w20.cell? ⟨gJ,0,none⟩=some (.slice cA aW.length cB):=(aG dE.out 0).trans rfl;have Br:w20.cell? ⟨gJ,1,none⟩=some (.slice cE aX.length cF):=(aG dE.out 1).trans rfl;have Pw:w20.cell? ⟨gJ,2,none⟩=some (.int .i64 bM):=(aG dE.out 2).trans rfl;have Px:w20.cell? ⟨gJ,3,none⟩=some (.int .i64 bO):=(aG dE.out 3).trans rfl;have Py:w20.cell? ⟨gJ,4,none⟩=some (.slice cK aV.length cG):=(aG dE.out 4).trans rfl;have Bt:=aH dE.out 0;have Bu:=aH dE.out 1;have Pz:=aH dE.out 2;have Qa:=aH dE.out 3;have Qb:=aH dE.out 4;have rA:w20.cell? ⟨jS,0,none⟩=some (.slice fQ dD.length fR):=(aG fA.out 0).trans rfl;have rB:w20.cell? ⟨jS,1,none⟩=some (.bool eK):=(aG fA.out 1).trans rfl;have rC:=aH fA.out 0;have rD:=aH fA.out 1)|((with_reducible refine bI (f:=26) rfl ?_);refine goesL_ (some 29) rfl rfl Try.func26 (by kernel_rfl) rfl #[.agg #[.slice cA aW.length cB,.slice cE aX.length cF,.int .i64 bM,.int .i64 bO,.slice cK aV.length cG],.slice A1 l1.length c1,.agg #[.slice fQ dD.length fR,.bool eK],.int .i64 a3] rfl (by(try simp only [List.map_toArray,List.map_cons,List.map_nil]);first|done|rfl|(simp only [List.length_drop,List.length_take];rfl)) ?_;(with_reducible refine(regletref16_Feed.calls k _ _ aW _ _ aX bM bO _ _ aV _ _ l1 _ _ dD eK a3 t264 t267 t268 t271 _ ?side1 ?side2 ?side3 ?side4 ?side5 ?side6 ?side7 ?side8 ?side9 ?side10 A6.out).mono ?_);(case side1=>exact bD gP.out (by repeat(first|(with_reducible first|exact HB.out|apply aN|apply aP|apply aO|refine aL ?_ pB.out|refine aL ?_ pC.out|refine aL ?_ pD.out)|exact HB.out)));(case side2=>exact iA.out);(case side3=>exact bD iE.out (by repeat(first|(with_reducible first|exact HB.out|apply aN|apply aP|apply aO|refine aL ?_ pB.out|refine aL ?_ pC.out|refine aL ?_ pD.out)|exact HB.out)));(case side4=>exact iF.out);(case side5=>exact bD gI.out (by repeat(first|(with_reducible first|exact HB.out|apply aN|apply aP|apply aO|refine aL ?_ pB.out|refine aL ?_ pC.out|refine aL ?_ pD.out)|exact HB.out)));(case side6=>exact iG.out);(case side7=>exact bD HR1.out (by repeat(first|(with_reducible first|exact HB.out|apply aN|apply aP|apply aO|refine aL ?_ pB.out|refine aL ?_ pC.out|refine aL ?_ pD.out)|exact HB.out)));(case side8=>exact HC1.out);(case side9=>exact bD rU.out (by repeat(first|(with_reducible first|exact HB.out|apply aN|apply aP|apply aO|refine aL ?_ pB.out|refine aL ?_ pC.out|refine aL ?_ pD.out)|exact HB.out)));(case side10=>exact rY.out);rintro e w27 ⟨v265,v269,rfl,ho0,ho1,hb⟩;refine⟨_,rfl,?_⟩;have bX:=aM (bE (by(with_reducible repeat(first|apply aA|apply aB|apply aC));exact(Kd.R_mono (aE (p:=⟨iV,1,none⟩) (aE (p:=⟨iV,0,none⟩) (Kd.R_types gV.out eS.out (by decide)) (fun _ hk=>hk.2) (.slice nF t255.length kH)) (fun _ hk=>hk.2) (.bool t258)) (fun _ h_=>h_.1))) (Kd.R_base ho0) hb);have bY:=aM (bE (by(with_reducible repeat(first|apply aA|apply aB|apply aC));exact(Kd.R_mono (aE (p:=⟨iV,1,none⟩) (aE (p:=⟨iV,0,none⟩) (Kd.R_types gX.out eS.out (by decide)) (fun _ hk=>hk.2) (.slice nF t255.length kH)) (fun _ hk=>hk.2) (.bool t258)) (fun _ h_=>h_.1))) (Kd.R_base ho1) hb);have cC:=aM (bL (Kd.R_new' ho0 (Kd.R_lt (by(with_reducible repeat(first|apply aA|apply aB|apply aC));exact(Kd.R_mono (aE (p:=⟨iV,1,none⟩) (aE (p:=⟨iV,0,none⟩) (Kd.R_types gV.out eS.out (by decide)) (fun _ hk=>hk.2) (.slice nF t255.length kH)) (fun _ hk=>hk.2) (.bool t258)) (fun _ h_=>h_.1))))) (bH (by repeat(first|(with_reducible first|exact HB.out|apply aN|apply aP|apply aO|refine aL ?_ pB.out|refine aL ?_ pC.out|refine aL ?_ pD.out)|exact HB.out))));have cD:=aM (bL (Kd.R_new' ho1 (Kd.R_lt (by(with_reducible repeat(first|apply aA|apply aB|apply aC));exact(Kd.R_mono (aE (p:=⟨iV,1,none⟩) (aE (p:=⟨iV,0,none⟩) (Kd.R_types gX.out eS.out (by decide)) (fun _ hk=>hk.2) (.slice nF t255.length kH)) (fun _ hk=>hk.2) (.bool t258)) (fun _ h_=>h_.1))))) (bH (by repeat(first|(with_reducible first|exact HB.out|apply aN|apply aP|apply aO|refine aL ?_ pB.out|refine aL ?_ pC.out|refine aL ?_ pD.out)|exact HB.out))));have cL:=aM (bF (g:=gJ) (o:= .cells #[.slice cA aW.length cB,.slice cE aX.length cF,.int .i64 bM,.int .i64 bO,.slice cK aV.length cG] 26 (0,0)) (by(with_reducible repeat(first|refine aJ ?_ _|refine aK ?_|refine aI ?_ _));refine blk_far ?_ pM.out _;(with_reducible repeat(first|refine aJ ?_ _|refine aK ?_|refine aI ?_ _));refine blk_far ?_ pM.out _;(with_reducible repeat(first|refine aJ ?_ _|refine aK ?_|refine aI ?_ _));exact dE.out) hb);have cS:=aM (bF (g:=jS) (o:= .cells #[.slice fQ dD.length fR,.bool eK] 31 (0,0)) (by(with_reducible repeat(first|refine aJ ?_ _|refine aK ?_|refine aI ?_ _));refine blk_far ?_ pN.out _;(with_reducible repeat(first|refine aJ ?_ _|refine aK ?_|refine aI ?_ _));refine blk_far ?_ pN.out _;(with_reducible repeat(first|refine aJ ?_ _|refine aK ?_|refine aI ?_ _));exact fA.out) hb);have dB:=aM (bF (g:=iV) (o:= .cells #[.slice nF t255.length kH,.bool t258] 31 (0,0)) (by(with_reducible repeat(first|refine aJ ?_ _|refine aK ?_|refine aI ?_ _));refine blk_put (cs:=#[.slice nF t255.length kH,.bool false]) ?_ 1 _ rfl;(with_reducible repeat(first|refine aJ ?_ _|refine aK ?_|refine aI ?_ _));refine blk_put (cs:=#[.slice none 0 0,.bool false]) ?_ 0 _ rfl;(with_reducible repeat(first|refine aJ ?_ _|refine aK ?_|refine aI ?_ _));exact eS.out) hb);have dL:=aM (bG (by repeat(first|(with_reducible first|exact HB.out|apply aN|apply aP|apply aO|refine aL ?_ pB.out|refine aL ?_ pC.out|refine aL ?_ pD.out)|exact HB.out)) hb);clear gV;clear gX;clear dE;clear fA;clear eS;clear HB;have gV:=bX;have gX:=bY;have jD:=cC;have jE:=cD;have dE:=cL;have fA:=cS;have eS:=dB;have HB:=dL;clear bX bY cC cD cL cS dB dL;(try clear hb);(try clear hb2);(try clear hk);(try clear hi);(try clear ho0);(try clear ho1))|((with_reducible refine bJ (N:=12) rfl ?_);refine box_event ?hg (N:=12) ?hd (cs:=#[.slice none 0 0,.bool false]) (t:=31) ?hr ?_;(case hd=>rfl);(case hg=>rfl);(case hr=>first|(go_simp;done)|(go_simp;rfl));intro eX hg w28 hbox hb;have bX:=aM (aD (gR gV.out) hb);have bY:=aM (aD (gR gX.out) hb);have cC:=aM (aD (gR jD.out) hb);have cD:=aM (aD (gR jE.out) hb);have cL:=aM (bF (gB dE.out) hb);have cS:=aM (bF (gB fA.out) hb);have dB:=aM (bF (gB eS.out) hb);have dL:=aM (bG (gW HB.out) hb);have dX:=aM (hbox);have fH:=aM ((by rw [hg];exact(bH (gW HB.out)):w.heap.size≤eX));have dT:=aM ((by rw [hg];exact(bH (gW HB.out)):w.heap.size≤eX));have eC:=aM ((by rw [hg];exact Nat.ne_of_lt (bN (g:=gJ) (o:= .cells #[.slice cA aW.length cB,.slice cE aX.length cF,.int .i64 bM,.int .i64 bO,.slice cK aV.length cG] 26 (0,0)) (gB dE.out)):gJ≠eX));have eV:=aM ((by rw [hg];exact Nat.ne_of_gt (bN (g:=gJ) (o:= .cells #[.slice cA aW.length cB,.slice cE aX.length cF,.int .i64 bM,.int .i64 bO,.slice cK aV.length cG] 26 (0,0)) (gB dE.out)):eX≠gJ));have fI:=aM ((by rw [hg];exact Nat.ne_of_lt (bN (g:=jS) (o:= .cells #[.slice fQ dD.length fR,.bool eK] 31 (0,0)) (gB fA.out)):jS≠eX));have gU:=aM ((by rw [hg];exact Nat.ne_of_gt (bN (g:=jS) (o:= .cells #[.slice fQ dD.length fR,.bool eK] 31 (0,0)) (gB fA.out)):eX≠jS));have kI:=aM ((by rw [hg];exact Nat.ne_of_lt (bN (g:=iV) (o:= .cells #[.slice nF t255.length kH,.bool t258] 31 (0,0)) (gB eS.out)):iV≠eX));have pE:=aM ((by rw [hg];exact Nat.ne_of_gt (bN (g:=iV) (o:= .cells #[.slice nF t255.length kH,.bool t258] 31 (0,0)) (gB eS.out)):eX≠iV));clear gV;clear gX;clear jD;clear jE;clear dE;clear fA;clear eS;clear HB;have gV:=bX;have gX:=bY;have jD:=cC;have jE:=cD;have dE:=cL;have fA:=cS;have eS:=dB;have HB:=dL;have fW:=dX;have GW272:=fH;have Lj:=dT;have pO:=eC;have yT:=eV;have pP:=fI;have yU:=gU;have pQ:=kI;have yV:=pE;clear bX bY cC cD cL cS dB dL dX fH dT eC eV fI gU kI pE;clear hb hbox hg;obtain⟨fD,fE,Hf⟩:=Kd.R_slice jD.out;subst Hf;have hnb30:=yT.out;have hnc30:=pO.out;have hnb31:=yU.out;have hnc31:=pP.out;have hnb32:=yV.out;have hnc32:=pQ.out;have nB:w28.cell? ⟨eX,0,none⟩=some (.slice none 0 0):=(aG fW.out 0).trans rfl;have nC:w28.cell? ⟨eX,1,none⟩=some (.bool false):=(aG fW.out 1).trans rfl;have nD:=aH fW.out 0;have nE:=aH fW.out 1))
    have bX:Aside0 (Kd.R k43 43 ((w28.setCell ⟨eX,0,none⟩ (.slice fD t264.length fE)).setCell ⟨eX,1,none⟩ (.bool t267)) w.heap.size (fun k_=>some k_≠(.slice fD t264.length fE:Value).ownBlock) (.slice nF t255.length kH) t255):=⟨by(with_reducible repeat(first|apply aA|apply aB|apply aC));exact Kd.R_mono (aE (p:=⟨eX,1,none⟩) (aE (p:=⟨eX,0,none⟩) (Kd.R_types gV.out fW.out (by decide)) (fun _ hk=>hk.2) (.slice fD t264.length fE)) (fun _ hk=>hk.2) (.bool t267)) (fun _ hk=>hk.1.2)⟩;have bY:Aside0 (Kd.R (Kd.int .i64) 3 ((w28.setCell ⟨eX,0,none⟩ (.slice fD t264.length fE)).setCell ⟨eX,1,none⟩ (.bool t267)) w.heap.size (fun k_=>some k_≠(v269:Value).ownBlock) v260 t259):=⟨by(with_reducible repeat(first|apply aA|apply aB|apply aC));exact Kd.R_mono (aE (p:=⟨eX,1,none⟩) (aE (p:=⟨eX,0,none⟩) (Kd.R_types gX.out fW.out (by decide)) (fun _ hk=>hk.2) (.slice fD t264.length fE)) (fun _ hk=>hk.2) (.bool t267)) (fun _ hk=>hk.1.2)⟩;have cC:Aside0 (Kd.R k43 43 ((w28.setCell ⟨eX,0,none⟩ (.slice fD t264.length fE)).setCell ⟨eX,1,none⟩ (.bool t267)) w.heap.size (fun k_=>some k_≠(.slice nF t255.length kH:Value).ownBlock) (.slice fD t264.length fE) t264):=⟨by(with_reducible repeat(first|apply aA|apply aB|apply aC));exact Kd.R_mono (aE (p:=⟨eX,1,none⟩) (aE (p:=⟨eX,0,none⟩) (Kd.R_types jD.out fW.out (by decide)) (fun _ hk=>hk.2) (.slice fD t264.length fE)) (fun _ hk=>hk.2) (.bool t267)) (fun _ hk=>hk.1.2)⟩;have cD:Aside0 (Kd.R (Kd.int .i64) 3 ((w28.setCell ⟨eX,0,none⟩ (.slice fD t264.length fE)).setCell ⟨eX,1,none⟩ (.bool t267)) w.heap.size (fun k_=>some k_≠(v260:Value).ownBlock) v269 t268):=⟨by(with_reducible repeat(first|apply aA|apply aB|apply aC));exact Kd.R_mono (aE (p:=⟨eX,1,none⟩) (aE (p:=⟨eX,0,none⟩) (Kd.R_types jE.out fW.out (by decide)) (fun _ hk=>hk.2) (.slice fD t264.length fE)) (fun _ hk=>hk.2) (.bool t267)) (fun _ hk=>hk.1.2)⟩;have cL:Aside0 (((w28.setCell ⟨eX,0,none⟩ (.slice fD t264.length fE)).setCell ⟨eX,1,none⟩ (.bool t267)).heap[gJ]?=some (.cells #[.slice cA aW.length cB,.slice cE aX.length cF,.int .i64 bM,.int .i64 bO,.slice cK aV.length cG] 26 (0,0))):=⟨by(with_reducible repeat(first|refine aJ ?_ _|refine aK ?_|refine aI ?_ _));refine blk_far ?_ pO.out _;(with_reducible repeat(first|refine aJ ?_ _|refine aK ?_|refine aI ?_ _));refine blk_far ?_ pO.out _;(with_reducible repeat(first|refine aJ ?_ _|refine aK ?_|refine aI ?_ _));exact dE.out⟩;have cS:Aside0 (((w28.setCell ⟨eX,0,none⟩ (.slice fD t264.length fE)).setCell ⟨eX,1,none⟩ (.bool t267)).heap[jS]?=some (.cells #[.slice fQ dD.length fR,.bool eK] 31 (0,0))):=⟨by(with_reducible repeat(first|refine aJ ?_ _|refine aK ?_|refine aI ?_ _));refine blk_far ?_ pP.out _;(with_reducible repeat(first|refine aJ ?_ _|refine aK ?_|refine aI ?_ _));refine blk_far ?_ pP.out _;(with_reducible repeat(first|refine aJ ?_ _|refine aK ?_|refine aI ?_ _));exact fA.out⟩;have dB:Aside0 (((w28.setCell ⟨eX,0,none⟩ (.slice fD t264.length fE)).setCell ⟨eX,1,none⟩ (.bool t267)).heap[iV]?=some (.cells #[.slice nF t255.length kH,.bool t258] 31 (0,0))):=⟨by(with_reducible repeat(first|refine aJ ?_ _|refine aK ?_|refine aI ?_ _));refine blk_far ?_ pQ.out _;(with_reducible repeat(first|refine aJ ?_ _|refine aK ?_|refine aI ?_ _));refine blk_far ?_ pQ.out _;(with_reducible repeat(first|refine aJ ?_ _|refine aK ?_|refine aI ?_ _));exact eS.out⟩;have dL:Aside0 (((w28.setCell ⟨eX,0,none⟩ (.slice fD t264.length fE)).setCell ⟨eX,1,none⟩ (.bool t267)).heap[eX]?=some (.cells #[.slice fD t264.length fE,.bool t267] 31 (0,0))):=⟨by(with_reducible repeat(first|refine aJ ?_ _|refine aK ?_|refine aI ?_ _));refine blk_put (cs:=#[.slice fD t264.length fE,.bool false]) ?_ 1 _ rfl;(with_reducible repeat(first|refine aJ ?_ _|refine aK ?_|refine aI ?_ _));refine blk_put (cs:=#[.slice none 0 0,.bool false]) ?_ 0 _ rfl;(with_reducible repeat(first|refine aJ ?_ _|refine aK ?_|refine aI ?_ _));exact fW.out⟩;have dX:Aside0 (Below w.heap.size w ((w28.setCell ⟨eX,0,none⟩ (.slice fD t264.length fE)).setCell ⟨eX,1,none⟩ (.bool t267))):=⟨by repeat(first|(with_reducible first|exact HB.out|apply aN|apply aP|apply aO|refine aL ?_ pB.out|refine aL ?_ pC.out|refine aL ?_ pD.out|refine aL ?_ Lj.out)|exact HB.out)⟩
    (try clear gV);(try clear gX);(try clear jD);(try clear jE);(try clear dE);(try clear fA);(try clear eS);(try clear fW);(try clear HB)
    generalize ((w28.setCell ⟨eX,0,none⟩ (.slice fD t264.length fE)).setCell ⟨eX,1,none⟩ (.bool t267))=w34 at bX bY cC cD cL cS dB dL dX ⊢;have gV:=bX;have gX:=bY;have jD:=cC;have jE:=cD;have dE:=cL;have fA:=cS;have eS:=dB;have fW:=dL;have HB:=dX;clear bX bY cC cD cL cS dB dL dX;have bX:=aM (aC gV.out);have bY:=aM (aC gX.out);have cC:=aM (aC jD.out);have cD:=aM (aC jE.out);have cL:=aM (aK dE.out);have cS:=aM (aK fA.out);have dB:=aM (aK eS.out);have dL:=aM (aK fW.out);have dX:=aM (aO HB.out);clear gV gX jD jE dE fA eS fW HB;have gV:=bX;have gX:=bY;have jD:=cC;have jE:=cD;have dE:=cL;have fA:=cS;have eS:=dB;have fW:=dL;have HB:=dX;clear bX bY cC cD cL cS dB dL dX;refine start_ (n:=23) (S:=fun w'=>w'.cell? ⟨iV,0,none⟩=some (.slice nF t255.length kH)∧w'.cell? ⟨iV,1,none⟩=some (.bool t258)∧w'.cell? ⟨eX,0,none⟩=some (.slice fD t264.length fE)∧w'.cell? ⟨eX,1,none⟩=some (.bool t267)∧w'.cell? ⟨gJ,0,none⟩=some (.slice cA aW.length cB)∧w'.cell? ⟨gJ,1,none⟩=some (.slice cE aX.length cF)∧w'.cell? ⟨gJ,2,none⟩=some (.int .i64 bM)∧w'.cell? ⟨gJ,3,none⟩=some (.int .i64 bO)∧w'.cell? ⟨gJ,4,none⟩=some (.slice cK aV.length cG)) (ds:= []) #[F,F,F,F,F,F,F,F,F,F,F,F,F,F,F,F,F,F,F,F,F,F,F] (by kernel_rfl) rfl rfl ⟨(aG eS.out 0).trans rfl,(aG eS.out 1).trans rfl,(aG fW.out 0).trans rfl,(aG fW.out 1).trans rfl,(aG dE.out 0).trans rfl,(aG dE.out 1).trans rfl,(aG dE.out 2).trans rfl,(aG dE.out 3).trans rfl,(aG dE.out 4).trans rfl⟩ (fun hHeld=>?_);refine with_tabW regletlaw16_fed.tab3 regletlaw16_fed.bits3 (fun HT_ HW_=>?_)
    generalize w34.drew=w35 at gV gX jD jE dE fA eS fW HB hHeld ⊢;refine take_ (i:=0) (N:=some 33) (v:=?_) (a':=?_) #[T,F,F,F,F,F,F,F,F,F,F,F,F,F,F,F,F,F,F,F,F,F,F] rfl rfl (take_ofW HT_.out HW_.out (by kernel_rfl)) (fun _ _ _ h=>h) (Or.inl ⟨by rfl,?_⟩) hHeld ?_ ?_
    rotate_left
    ·rintro w' ⟨s0,s1,s2,s3,s4,s5,s6,s7,s8⟩
     go_simp
     with_reducible rfl
    rotate_left
    ·simp only [pq]
     rfl
    refine take_ (i:=1) (N:=some 34) (v:=?_) (a':=?_) #[T,T,F,F,F,F,F,F,F,F,F,F,F,F,F,F,F,F,F,F,F,F,F] rfl rfl (take_ofW HT_.out HW_.out (by kernel_rfl)) (fun _ _ _ h=>h) (Or.inl ⟨by rfl,?_⟩) hHeld ?_ ?_
    rotate_left
    ·rintro w' ⟨s0,s1,s2,s3,s4,s5,s6,s7,s8⟩
     go_simp
     with_reducible rfl
    rotate_left
    ·simp only [pq]
     rfl
    refine one_ (i:=2) (N:=some 35) #[T,T,T,F,F,F,F,F,F,F,F,F,F,F,F,F,F,F,F,F,F,F,F] rfl rfl (one_of HT_.out (by kernel_rfl)) (by decide) (fun K hK=>?_)
    refine goes_ Try.func16 (by kernel_rfl) rfl #[.agg #[.slice nF t255.length kH,.bool t258],.agg #[.slice fD t264.length fE,.bool t267]] (by rfl) rfl rfl (by(try simp only [List.map_toArray,List.map_cons,List.map_nil]);first|done|rfl|(simp only [List.length_drop,List.length_take];rfl)) ?_
    with_reducible refine(regletref16_Same.calls k _ _ t255 t258 _ _ t264 t267 true _ ?side1 ?side2 ?side3 ?side4 A7.out).mono ?_
    (case side1=>exact gC (aF gV.out).2.2)
    (case side2=>exact(aF gV.out).2.1)
    (case side3=>exact gC (aF jD.out).2.2)
    (case side4=>exact(aF jD.out).2.1)
    rintro e w36 ⟨rfl,hb⟩
    refine⟨_,rfl,?_⟩
    have bX:=aM (aD (gR gV.out) hb);have bY:=aM (aD (gR gX.out) hb);have cC:=aM (aD (gR jD.out) hb);have cD:=aM (aD (gR jE.out) hb);have cL:=aM (bF (gB dE.out) hb);have cS:=aM (bF (gB fA.out) hb);have dB:=aM (bF (gB eS.out) hb);have dL:=aM (bF (gB fW.out) hb);have dX:=aM (bG (gW HB.out) hb);clear gV gX jD jE dE fA eS fW HB;have gV:=bX;have gX:=bY;have jD:=cC;have jE:=cD;have dE:=cL;have fA:=cS;have eS:=dB;have fW:=dL;have HB:=dX;clear bX bY cC cD cL cS dB dL dX
    (try clear hb);(try clear hb2);(try clear hk);(try clear hi)
    obtain⟨pR,pS,lE⟩:=Kd.R_slice gX.out
    (first|subst lE|(injection lE with f1_ f2_ f3_;have f4_:=f1_.symm;have f5_:=f3_.symm;clear f1_ f2_ f3_;subst f4_;subst f5_))
    obtain⟨uN,uO,pF⟩:=Kd.R_slice jE.out
    (first|subst pF|(injection pF with f1_ f2_ f3_;have f4_:=f1_.symm;have f5_:=f3_.symm;clear f1_ f2_ f3_;subst f4_;subst f5_))
    refine hK.out _ _ ⟨(aG eS.out 0).trans rfl,(aG eS.out 1).trans rfl,(aG fW.out 0).trans rfl,(aG fW.out 1).trans rfl,(aG dE.out 0).trans rfl,(aG dE.out 1).trans rfl,(aG dE.out 2).trans rfl,(aG dE.out 3).trans rfl,(aG dE.out 4).trans rfl⟩ (fun hHeld=>?_)
    clear hK K;refine norm_ (a':=?_) ?_ ?_
    rotate_left
    ·show Act.put _ (some 35) _=_
     simp only [pq];rfl
    refine pure_ (i:=3) (N:=some 36) (v:=?_) (a':=?_) #[T,T,T,T,F,F,F,F,F,F,F,F,F,F,F,F,F,F,F,F,F,F,F] rfl rfl (any_of HT_.out (by kernel_rfl)) (fun _ _ _ h=>h) (Or.inl ⟨by rfl,?_⟩) ?_ ?_
    rotate_left;(intro w';go_simp;with_reducible rfl);rotate_left;(simp only [pq];rfl)
    refine pure_ (i:=4) (N:=some 37) (v:=?_) (a':=?_) #[T,T,T,T,T,F,F,F,F,F,F,F,F,F,F,F,F,F,F,F,F,F,F] rfl rfl (any_of HT_.out (by kernel_rfl)) (fun _ _ _ h=>h) (Or.inl ⟨by rfl,?_⟩) ?_ ?_
    rotate_left;(intro w';go_simp;with_reducible rfl);rotate_left;(simp only [pq];rfl)
    refine pure_ (i:=5) (N:=some 38) (v:=?_) (a':=?_) #[T,T,T,T,T,T,F,F,F,F,F,F,F,F,F,F,F,F,F,F,F,F,F] rfl rfl (any_of HT_.out (by kernel_rfl)) (fun _ _ _ h=>h) (Or.inl ⟨by rfl,?_⟩) ?_ ?_
    rotate_left;(intro w';go_simp;with_reducible rfl);rotate_left;(simp only [pq];rfl)
    refine one_ (i:=6) (N:=some 39) #[T,T,T,T,T,T,T,F,F,F,F,F,F,F,F,F,F,F,F,F,F,F,F] rfl rfl (one_of HT_.out (by kernel_rfl)) (by decide) (fun K hK=>?_)
    refine goes_ Try.func24 (by kernel_rfl) rfl #[.slice pR t259.length pS,.slice uN t268.length uO] (by rfl) rfl rfl (by(try simp only [List.map_toArray,List.map_cons,List.map_nil]);first|done|rfl|(simp only [List.length_drop,List.length_take];rfl)) ?_
    with_reducible refine(regletref13_SameInts.calls k _ _ t259 _ _ t268 true _ ?side1 ?side2 ?side3 ?side4 A9.out).mono ?_
    (case side1=>exact gC (aF gX.out).2.2)
    (case side2=>exact(aF gX.out).2.1)
    (case side3=>exact gC (aF jE.out).2.2)
    (case side4=>exact(aF jE.out).2.1)
    rintro e w' ⟨rfl,⟨nd,rfl⟩⟩
    refine⟨_,rfl,?_⟩
    refine hK.out _ _ ⟨(aG eS.out 0).trans rfl,(aG eS.out 1).trans rfl,(aG fW.out 0).trans rfl,(aG fW.out 1).trans rfl,(aG dE.out 0).trans rfl,(aG dE.out 1).trans rfl,(aG dE.out 2).trans rfl,(aG dE.out 3).trans rfl,(aG dE.out 4).trans rfl⟩ (fun hHeld=>?_)
    clear hK K;refine norm_ (a':=?_) ?_ ?_
    rotate_left
    ·show Act.put _ (some 39) _=_
     simp only [pq];rfl
    refine pure_ (i:=7) (N:=some 40) (v:=?_) (a':=?_) #[T,T,T,T,T,T,T,T,F,F,F,F,F,F,F,F,F,F,F,F,F,F,F] rfl rfl (any_of HT_.out (by kernel_rfl)) (fun _ _ _ h=>h) (Or.inl ⟨by rfl,?_⟩) ?_ ?_
    rotate_left;(intro w';go_simp;with_reducible rfl);rotate_left;(simp only [pq];rfl)
    refine pure_ (i:=8) (N:=some 41) (v:=?_) (a':=?_) #[T,T,T,T,T,T,T,T,T,F,F,F,F,F,F,F,F,F,F,F,F,F,F] rfl rfl (any_of HT_.out (by kernel_rfl)) (fun _ _ _ h=>h) (Or.inl ⟨by rfl,?_⟩) ?_ ?_
    rotate_left;(intro w';go_simp;with_reducible rfl);rotate_left;(simp only [pq];rfl)
    refine pure_ (i:=9) (N:=some 42) (v:=?_) (a':=?_) #[T,T,T,T,T,T,T,T,T,T,F,F,F,F,F,F,F,F,F,F,F,F,F] rfl rfl (any_of HT_.out (by kernel_rfl)) (fun _ _ _ h=>h) (Or.inl ⟨by rfl,?_⟩) ?_ ?_
    rotate_left;(intro w';go_simp;with_reducible rfl);rotate_left;(simp only [pq];rfl)
    refine pure_ (i:=10) (N:=some 43) (v:=?_) (a':=?_) #[T,T,T,T,T,T,T,T,T,T,T,F,F,F,F,F,F,F,F,F,F,F,F] rfl rfl (any_of HT_.out (by kernel_rfl)) (fun _ _ _ h=>h) (Or.inl ⟨by rfl,?_⟩) ?_ ?_
    rotate_left;(intro w';go_simp;with_reducible rfl);rotate_left;(simp only [pq];rfl)
    refine pure_ (i:=11) (N:=some 44) (v:=?_) (a':=?_) #[T,T,T,T,T,T,T,T,T,T,T,T,F,F,F,F,F,F,F,F,F,F,F] rfl rfl (any_of HT_.out (by kernel_rfl)) (fun _ _ _ h=>h) (Or.inl ⟨by rfl,?_⟩) ?_ ?_
    rotate_left;(intro w';go_simp;with_reducible rfl);rotate_left;(simp only [pq];rfl)
    refine pure_ (i:=12) (N:=some 45) (v:=?_) (a':=?_) #[T,T,T,T,T,T,T,T,T,T,T,T,T,F,F,F,F,F,F,F,F,F,F] rfl rfl (any_of HT_.out (by kernel_rfl)) (fun _ _ _ h=>h) (Or.inl ⟨by rfl,?_⟩) ?_ ?_
    rotate_left;(intro w';go_simp;with_reducible rfl);rotate_left;(simp only [pq];rfl)
    refine pure_ (i:=13) (N:=some 46) (v:=?_) (a':=?_) #[T,T,T,T,T,T,T,T,T,T,T,T,T,T,F,F,F,F,F,F,F,F,F] rfl rfl (any_of HT_.out (by kernel_rfl)) (fun _ _ _ h=>h) (Or.inl ⟨by rfl,?_⟩) ?_ ?_
    rotate_left;(intro w';go_simp;with_reducible rfl);rotate_left;(simp only [pq];rfl)
    refine pure_ (i:=15) (N:=some 48) (v:=?_) (a':=?_) #[T,T,T,T,T,T,T,T,T,T,T,T,T,T,F,T,F,F,F,F,F,F,F] rfl rfl (any_of HT_.out (by kernel_rfl)) (fun _ _ _ h=>h) (Or.inl ⟨by rfl,?_⟩) ?_ ?_
    rotate_left;(intro w';go_simp;with_reducible rfl);rotate_left;(simp only [pq];rfl)
    refine pure_ (i:=18) (N:=some 51) (v:=?_) (a':=?_) #[T,T,T,T,T,T,T,T,T,T,T,T,T,T,F,T,F,F,T,F,F,F,F] rfl rfl (any_of HT_.out (by kernel_rfl)) (fun _ _ _ h=>h) (Or.inl ⟨by rfl,?_⟩) ?_ ?_
    rotate_left;(intro w';go_simp;with_reducible rfl);rotate_left;(simp only [pq];rfl)
    refine take_ (i:=14) (N:=some 47) (v:=?_) (a':=?_) #[T,T,T,T,T,T,T,T,T,T,T,T,T,T,T,T,F,F,T,F,F,F,F] rfl rfl (take_ofW HT_.out HW_.out (by kernel_rfl)) (fun _ _ _ h=>h) (Or.inl ⟨by rfl,?_⟩) hHeld ?_ ?_
    rotate_left
    ·rintro w' ⟨s0,s1,s2,s3,s4,s5,s6,s7,s8⟩
     go_simp
     with_reducible rfl
    rotate_left
    ·simp only [pq]
     rfl
    refine take_ (i:=17) (N:=some 50) (v:=?_) (a':=?_) #[T,T,T,T,T,T,T,T,T,T,T,T,T,T,T,T,F,T,T,F,F,F,F] rfl rfl (take_ofW HT_.out HW_.out (by kernel_rfl)) (fun _ _ _ h=>h) (Or.inl ⟨by rfl,?_⟩) hHeld ?_ ?_
    rotate_left
    ·rintro w' ⟨s0,s1,s2,s3,s4,s5,s6,s7,s8⟩
     go_simp
     with_reducible rfl
    rotate_left
    ·simp only [pq]
     rfl
    refine one_ (i:=16) (N:=some 49) #[T,T,T,T,T,T,T,T,T,T,T,T,T,T,T,T,T,T,T,F,F,F,F] rfl rfl (one_of HT_.out (by kernel_rfl)) (by decide) (fun K hK=>?_)
    refine goes_ Try.func25 (by kernel_rfl) rfl #[.agg #[.slice cA aW.length cB,.slice cE aX.length cF,.int .i64 bM,.int .i64 bO,.slice cK aV.length cG],.slice A1 l1.length c1] (by rfl) rfl rfl (by(try simp only [List.map_toArray,List.map_cons,List.map_nil]);first|done|rfl|(simp only [List.length_drop,List.length_take];rfl)) ?_
    with_reducible refine(machine_Right.calls _ _ aW _ _ aX bM bO _ _ aV _ _ l1 t275 _ ?side1 ?side2 ?side3 ?side4 ?side5 ?side6 ?side7 ?side8 A12.out).mono ?_
    (case side1=>repeat(first|exact(bD gP.out (gW HB.out))|(with_reducible refine Kd.C_alloc ?_ _)|(with_reducible refine Kd.C_drewN ?_ _)|(with_reducible refine Kd.C_drew ?_)))
    (case side2=>exact iA.out)
    (case side3=>repeat(first|exact(bD iE.out (gW HB.out))|(with_reducible refine Kd.C_alloc ?_ _)|(with_reducible refine Kd.C_drewN ?_ _)|(with_reducible refine Kd.C_drew ?_)))
    (case side4=>exact iF.out)
    (case side5=>repeat(first|exact(bD gI.out (gW HB.out))|(with_reducible refine Kd.C_alloc ?_ _)|(with_reducible refine Kd.C_drewN ?_ _)|(with_reducible refine Kd.C_drew ?_)))
    (case side6=>exact iG.out)
    (case side7=>repeat(first|exact(bD HR1.out (gW HB.out))|(with_reducible refine Kd.C_alloc ?_ _)|(with_reducible refine Kd.C_drewN ?_ _)|(with_reducible refine Kd.C_drew ?_)))
    (case side8=>exact HC1.out)
    rintro e w39 ⟨rfl,hb⟩
    refine⟨_,rfl,?_⟩
    have bX:=aM (aD (gR gV.out) hb);have bY:=aM (aD (gR gX.out) hb);have cC:=aM (aD (gR jD.out) hb);have cD:=aM (aD (gR jE.out) hb);have cL:=aM (bF (gB dE.out) hb);have cS:=aM (bF (gB fA.out) hb);have dB:=aM (bF (gB eS.out) hb);have dL:=aM (bF (gB fW.out) hb);have dX:=aM (bG (gW HB.out) hb);clear gV gX jD jE dE fA eS fW HB;have gV:=bX;have gX:=bY;have jD:=cC;have jE:=cD;have dE:=cL;have fA:=cS;have eS:=dB;have fW:=dL;have HB:=dX;clear bX bY cC cD cL cS dB dL dX
    (try clear hb);(try clear hb2);(try clear hk);(try clear hi)
    refine hK.out _ _ ⟨(aG eS.out 0).trans rfl,(aG eS.out 1).trans rfl,(aG fW.out 0).trans rfl,(aG fW.out 1).trans rfl,(aG dE.out 0).trans rfl,(aG dE.out 1).trans rfl,(aG dE.out 2).trans rfl,(aG dE.out 3).trans rfl,(aG dE.out 4).trans rfl⟩ (fun hHeld=>?_)
    clear hK K;refine norm_ (a':=?_) ?_ ?_
    rotate_left
    ·show Act.put _ (some 49) _=_
     simp only [pq];rfl
    refine one_ (i:=19) (N:=some 52) #[T,T,T,T,T,T,T,T,T,T,T,T,T,T,T,T,T,T,T,T,F,F,F] rfl rfl (one_of HT_.out (by kernel_rfl)) (by decide) (fun K hK=>?_)
    refine goes_ Try.func27 (by kernel_rfl) rfl #[.agg #[.slice cA aW.length cB,.slice cE aX.length cF,.int .i64 bM,.int .i64 bO,.slice cK aV.length cG],.slice A1 l1.length c1] (by rfl) rfl rfl (by(try simp only [List.map_toArray,List.map_cons,List.map_nil]);first|done|rfl|(simp only [List.length_drop,List.length_take];rfl)) ?_
    with_reducible refine(regletref16_Right.calls k _ _ aW _ _ aX bM bO _ _ aV _ _ l1 t276 _ ?side1 ?side2 ?side3 ?side4 ?side5 ?side6 ?side7 ?side8 A13.out).mono ?_
    (case side1=>exact gC (bD gP.out HB.out))
    (case side2=>exact iA.out)
    (case side3=>exact gC (bD iE.out HB.out))
    (case side4=>exact iF.out)
    (case side5=>exact gC (bD gI.out HB.out))
    (case side6=>exact iG.out)
    (case side7=>exact gC (bD HR1.out HB.out))
    (case side8=>exact HC1.out)
    rintro e w40 ⟨rfl,hb⟩
    refine⟨_,rfl,?_⟩
    have bX:=aM (aD (gR gV.out) hb);have bY:=aM (aD (gR gX.out) hb);have cC:=aM (aD (gR jD.out) hb);have cD:=aM (aD (gR jE.out) hb);have cL:=aM (bF (gB dE.out) hb);have cS:=aM (bF (gB fA.out) hb);have dB:=aM (bF (gB eS.out) hb);have dL:=aM (bF (gB fW.out) hb);have dX:=aM (bG (gW HB.out) hb);clear gV gX jD jE dE fA eS fW HB;have gV:=bX;have gX:=bY;have jD:=cC;have jE:=cD;have dE:=cL;have fA:=cS;have eS:=dB;have fW:=dL;have HB:=dX;clear bX bY cC cD cL cS dB dL dX
    (try clear hb);(try clear hb2);(try clear hk);(try clear hi)
    refine hK.out _ _ ⟨(aG eS.out 0).trans rfl,(aG eS.out 1).trans rfl,(aG fW.out 0).trans rfl,(aG fW.out 1).trans rfl,(aG dE.out 0).trans rfl,(aG dE.out 1).trans rfl,(aG dE.out 2).trans rfl,(aG dE.out 3).trans rfl,(aG dE.out 4).trans rfl⟩ (fun hHeld=>?_)
    clear hK K;refine norm_ (a':=?_) ?_ ?_
    rotate_left
    ·show Act.put _ (some 52) _=_
     simp only [pq];rfl
    refine pure_ (i:=20) (N:=some 53) (v:=?_) (a':=?_) #[T,T,T,T,T,T,T,T,T,T,T,T,T,T,T,T,T,T,T,T,T,F,F] rfl rfl (any_of HT_.out (by kernel_rfl)) (fun _ _ _ h=>h) (Or.inl ⟨by rfl,?_⟩) ?_ ?_
    rotate_left;(intro w';go_simp;with_reducible rfl);rotate_left;(simp only [pq];rfl)
    refine pure_ (i:=21) (N:=some 54) (v:=?_) (a':=?_) #[T,T,T,T,T,T,T,T,T,T,T,T,T,T,T,T,T,T,T,T,T,T,F] rfl rfl (any_of HT_.out (by kernel_rfl)) (fun _ _ _ h=>h) (Or.inl ⟨by rfl,?_⟩) ?_ ?_
    rotate_left;(intro w';go_simp;with_reducible rfl);rotate_left;(simp only [pq];rfl)
    refine pure_ (i:=22) (N:=some 8) (v:=?_) (a':=?_) #[T,T,T,T,T,T,T,T,T,T,T,T,T,T,T,T,T,T,T,T,T,T,T] rfl rfl (any_of HT_.out (by kernel_rfl)) (fun _ _ _ h=>h) (Or.inl ⟨by rfl,?_⟩) ?_ ?_
    rotate_left;(intro w';go_simp;with_reducible rfl);rotate_left;(simp only [pq];rfl)
    refine done_ (done_of HT_.out (by kernel_rfl)) ?_
    try go_wp2
    go_ret
    exact⟨by first|rfl|(simp [errW_none,errW_some]<;>rfl)|(simp [*,errW_none,errW_some]<;>rfl),gW HB.out⟩
   ·rw [if_neg c11] at H
    have Lh:(t262==t271)=false:=beq_eq_false_iff_ne.mpr c11;have Li:(t262 !=t271)=true:=bne_iff_ne.mpr c11;exact absurd H (by simp)
  ·replace c10:=Bool.eq_false_iff.mpr c10
   subst c10;have H1:(none)=some r:=by rw [if_neg (show ¬(false=true) by decide)] at H;exact H
   clear H;have H:=H1;clear H1;exact absurd H (by simp)
 ·replace c8:=Bool.eq_false_iff.mpr c8
  subst c8;have H1:(none)=some r:=by rw [if_neg (show ¬(false=true) by decide)] at H;exact H
  clear H;have H:=H1;clear H1;exact absurd H (by simp)
attribute [local go_sem] max2_int min2_int max_two min_two max_three min_three max_four min_four   -- for this text's walks alone
set_option linter.unusedVariables false
set_option linter.unusedSimpArgs false
mutual
def machine_Run.l0:Nat→List (List Int)→List Int→List Int→List Int→Int→Int→List ByteArray→List (S72)→Int→Int→List (S35)→List (S43)→Bool→Option (List Int×Int×Int)
 |0,_,_,_,_,_,_,_,_,_,_,_,_,_=>none
 |k+1,x1,x2,x6,x22,x23,x24,x116000,x116001,x116002,x116003,x116004,x121000,x121001=>if x24<x23 then(if 0≤x24 then(if x24<(x22.length:Int) then(if x24<(x2.length:Int) then(machine_Run.j1 k x1 x2 x6 x24 (rd x22 x24) x22 x23 x24 ((rd x22 x24)==(x116001.length:Int)) x116000 x116001 x116002 x116003 x116004 x121000 x121001) else(machine_Run.j1 k x1 x2 x6 x24 (rd x22 x24) x22 x23 x24 false x116000 x116001 x116002 x116003 x116004 x121000 x121001)) else(none)) else(none)) else(some (x6,0,0))
def machine_Run.j1:Nat→List (List Int)→List Int→List Int→Int→Int→List Int→Int→Int→Bool→List ByteArray→List (S72)→Int→Int→List (S35)→List (S43)→Bool→Option (List Int×Int×Int)
 |0,_,_,_,_,_,_,_,_,_,_,_,_,_,_,_,_=>none
 |k+1,x1,x2,x6,x10,x11,x22,x23,x24,x39,x116000,x116001,x116002,x116003,x116004,x121000,x121001=>if x39=true then(some (([]:List Int),1,x10)) else((machine_Feed.f x116000 x116001 x116002 x116003 x116004 x1 x121000 x121001 x11).bind fun lF=>(if lF.2.2.2=0 then(if x6.length+lF.2.2.1.length<17592186044416 then(machine_Run.l0 k x1 x2 (x6++lF.2.2.1) x22 x23 (wrap64 (x24+1)) x116000 x116001 x116002 x116003 x116004 lF.1 lF.2.1) else(none)) else(some (([]:List Int),lF.2.2.2,x10))))
end
def machine_Run.f (k:Nat) (aW:List ByteArray) (aX:List (S72)) (bM:Int) (bO:Int) (aV:List (S35)) (l1:List (List Int)) (l2:List Int):Option (List Int×Int×Int):=(machine_Start.f).bind fun vA=>((slices_Clone_int_int.f l2).bind fun t121=>((some (([(aX.length:Int)]:List Int):List Int)).bind fun y124=>(if t121.length+y124.length<17592186044416 then((some (t121++y124:List Int)).bind fun y127=>(machine_Run.l0 k l1 l2 ([]:List Int) y127 (y127.length:Int) 0 aW aX bM bO aV vA.1 vA.2)) else(none))))
theorem machine_Run.mono_l:∀k,(∀y0 y1 y2 y3 y4 y5 y6 y7 y8 y9 y10 y11 y12,LeO (machine_Run.l0 k y0 y1 y2 y3 y4 y5 y6 y7 y8 y9 y10 y11 y12) (machine_Run.l0 (k+1) y0 y1 y2 y3 y4 y5 y6 y7 y8 y9 y10 y11 y12))∧(∀y0 y1 y2 y3 y4 y5 y6 y7 y8 y9 y10 y11 y12 y13 y14 y15,LeO (machine_Run.j1 k y0 y1 y2 y3 y4 y5 y6 y7 y8 y9 y10 y11 y12 y13 y14 y15) (machine_Run.j1 (k+1) y0 y1 y2 y3 y4 y5 y6 y7 y8 y9 y10 y11 y12 y13 y14 y15))
 |0=>⟨fun _ _ _ _ _ _ _ _ _ _ _ _ _ r h=>by simp [machine_Run.l0] at h,fun _ _ _ _ _ _ _ _ _ _ _ _ _ _ _ _ r h=>by simp [machine_Run.j1] at h⟩
 |k+1=>by
  obtain⟨ih0,ih1⟩:=machine_Run.mono_l k;refine⟨?_,?_⟩
  ·intro y0 y1 y2 y3 y4 y5 y6 y7 y8 y9 y10 y11 y12
   unfold machine_Run.l0
   repeat' first
   |(with_reducible exact ih0 _ _ _ _ _ _ _ _ _ _ _ _ _)
   |(with_reducible exact ih1 _ _ _ _ _ _ _ _ _ _ _ _ _ _ _ _)
   |(with_reducible exact LeO.refl _)
   |(with_reducible exact LeO.none _)
   |(with_reducible refine LeO.ite ?_ ?_)
   |(with_reducible refine LeO.bind ?_ (fun _=>?_))
   |exact ih0 _ _ _ _ _ _ _ _ _ _ _ _ _
   |exact ih1 _ _ _ _ _ _ _ _ _ _ _ _ _ _ _ _
   |exact LeO.none _
   |refine LeO.ite ?_ ?_
   |refine LeO.bind ?_ (fun _=>?_)
  ·intro y0 y1 y2 y3 y4 y5 y6 y7 y8 y9 y10 y11 y12 y13 y14 y15
   unfold machine_Run.j1
   repeat' first
   |(with_reducible exact ih0 _ _ _ _ _ _ _ _ _ _ _ _ _)
   |(with_reducible exact ih1 _ _ _ _ _ _ _ _ _ _ _ _ _ _ _ _)
   |(with_reducible exact LeO.refl _)
   |(with_reducible exact LeO.none _)
   |(with_reducible refine LeO.ite ?_ ?_)
   |(with_reducible refine LeO.bind ?_ (fun _=>?_))
   |exact ih0 _ _ _ _ _ _ _ _ _ _ _ _ _
   |exact ih1 _ _ _ _ _ _ _ _ _ _ _ _ _ _ _ _
   |exact LeO.none _
   |refine LeO.ite ?_ ?_
   |refine LeO.bind ?_ (fun _=>?_)
theorem machine_Run.mono:∀a0 a1 a2 a3 a4 a5 a6 k,LeO (machine_Run.f k a0 a1 a2 a3 a4 a5 a6) (machine_Run.f (k+1) a0 a1 a2 a3 a4 a5 a6):=by
 intro a0 a1 a2 a3 a4 a5 a6 k;obtain⟨ih0,ih1⟩:=machine_Run.mono_l k
 unfold machine_Run.f
 repeat' first
  |(with_reducible exact ih0 _ _ _ _ _ _ _ _ _ _ _ _ _)
  |(with_reducible exact ih1 _ _ _ _ _ _ _ _ _ _ _ _ _ _ _ _)
  |(with_reducible exact LeO.refl _)
  |(with_reducible exact LeO.none _)
  |(with_reducible refine LeO.ite ?_ ?_)
  |(with_reducible refine LeO.bind ?_ (fun _=>?_))
  |exact ih0 _ _ _ _ _ _ _ _ _ _ _ _ _
  |exact ih1 _ _ _ _ _ _ _ _ _ _ _ _ _ _ _ _
  |exact LeO.none _
  |refine LeO.ite ?_ ?_
  |refine LeO.bind ?_ (fun _=>?_)
def machine_Run.T2:Bool×List (List Nat×List Nat):=(true,[([],[]),([0],[0]),([],[]),([2],[2]),([3],[3]),([4],[4]),([1,5,1],[1,5]),([6],[6]),([],[])])
def machine_Run.B2:List Nat:= [0,1,0,4,12,28,63,127,0]
theorem machine_Run.tab2:rtab .any (opsOf Try.f22 2)=machine_Run.T2:=by kernel_rfl
theorem machine_Run.bits2:waitsOk machine_Run.T2.2 machine_Run.B2=true:=by kernel_rfl
set_option maxHeartbeats 8000000 in
set_option maxRecDepth 100000 in
theorem machine_Run.calls (k:Nat) (cA:Option Addr) (cB:Nat) (aW:List ByteArray) (cE:Option Addr) (cF:Nat) (aX:List (S72)) (bM:Int) (bO:Int) (cK:Option Addr) (cG:Nat) (aV:List (S35)) (A1:Option Addr) (c1:Nat) (l1:List (List Int)) (A2:Option Addr) (c2:Nat) (l2:List Int) (r1:List Int) (r2:Int) (r3:Int) (w:World) (fU:Kd.C Kd.string w cA aW.length aW) (gG:aW.length≤cB) (gH:Kd.C k72 w cE aX.length aX) (hU:aX.length≤cF) (gA:Kd.C k35 w cK aV.length aV) (iB:aV.length≤cG) (hr1:Kd.C (Kd.slice 3 (Kd.int .i64)) w A1 l1.length l1) (hc1:l1.length≤c1) (hr2:Kd.C (Kd.int .i64) w A2 l2.length l2) (hc2:l2.length≤c2) (h:machine_Run.f k aW aX bM bO aV l1 l2=some (r1,r2,r3)):
 Calls Try.prog 22 #[.agg #[.slice cA aW.length cB,.slice cE aX.length cF,.int .i64 bM,.int .i64 bO,.slice cK aV.length cG],.slice A1 l1.length c1,.slice A2 l2.length c2] w fun e w'=>∃v0_:Value,e= .returned (.tuple #[v0_,.int .i64 r2,.int .i64 r3])∧Kd.R (Kd.int .i64) 3 w' w.heap.size (fun _=>True) v0_ r1∧Below w.heap.size w w':=by
 have hu26:=Try.underlying26;have hu31:=Try.underlying31;have gP:=aM fU;have iA:=aM gG;clear fU gG;have iE:=aM gH;have iF:=aM hU;clear gH hU;have gI:=aM gA;have iG:=aM iB;clear gA iB;have HR1:=aM hr1;have HC1:=aM hc1;clear hr1 hc1;have HR2:=aM hr2;have HC2:=aM hc2;clear hr2 hc2;have HB:=aM (Below.refl w.heap.size w);have H:((machine_Start.f).bind fun vA=>((slices_Clone_int_int.f l2).bind fun t121=>((some (([(aX.length:Int)]:List Int):List Int)).bind fun y124=>(if t121.length+y124.length<17592186044416 then((some (t121++y124:List Int)).bind fun y127=>(machine_Run.l0 k l1 l2 ([]:List Int) y127 (y127.length:Int) 0 aW aX bM bO aV vA.1 vA.2)) else(none)))))=some (r1,r2,r3):=h;clear h;replace H:=Option.bind_eq_some_iff.mp H;obtain⟨⟨t116,t119⟩,A40,H⟩:=H;replace H:((slices_Clone_int_int.f l2).bind fun t121=>((some (([(aX.length:Int)]:List Int):List Int)).bind fun y124=>(if t121.length+y124.length<17592186044416 then((some (t121++y124:List Int)).bind fun y127=>(machine_Run.l0 k l1 l2 ([]:List Int) y127 (y127.length:Int) 0 aW aX bM bO aV t116 t119)) else(none))))=some (r1,r2,r3):=H;have A4:=aM A40;clear A40;replace H:=Option.bind_eq_some_iff.mp H;obtain⟨t121,A50,H⟩:=H;replace H:((some (([(aX.length:Int)]:List Int):List Int)).bind fun y124=>(if t121.length+y124.length<17592186044416 then((some (t121++y124:List Int)).bind fun y127=>(machine_Run.l0 k l1 l2 ([]:List Int) y127 (y127.length:Int) 0 aW aX bM bO aV t116 t119)) else(none)))=some (r1,r2,r3):=H;have A5:=aM A50;clear A50;obtain⟨y124,vB⟩:∃y_:List Int,y_=(([(aX.length:Int)]:List Int)):=⟨_,rfl⟩;replace H:(if t121.length+y124.length<17592186044416 then((some (t121++y124:List Int)).bind fun y127=>(machine_Run.l0 k l1 l2 ([]:List Int) y127 (y127.length:Int) 0 aW aX bM bO aV t116 t119)) else(none))=some (r1,r2,r3):=by first|(rw [vB];with_reducible exact H)|(have H2_:=(Option.bind_some _ _).symm.trans H;rw [vB];with_reducible exact H2_)|(have H2_:=(Option.bind_some _ _).symm.trans H;with_reducible exact H2_)|with_reducible exact H|(rw [vB];exact H)|exact H
 have yE:=aM vB;clear vB
 by_cases c6:t121.length+y124.length<17592186044416
 rotate_left
 ·rw [if_neg c6] at H
  exact absurd H (by simp)
 rw [if_pos c6] at H;have Sc:=aM c6;clear c6;obtain⟨y127,vC⟩:∃y_:List Int,y_=(t121++y124):=⟨_,rfl⟩;replace H:(machine_Run.l0 k l1 l2 ([]:List Int) y127 (y127.length:Int) 0 aW aX bM bO aV t116 t119)=some (r1,r2,r3):=by first|(rw [vC];with_reducible exact H)|(have H2_:=(Option.bind_some _ _).symm.trans H;rw [vC];with_reducible exact H2_)|(have H2_:=(Option.bind_some _ _).symm.trans H;with_reducible exact H2_)|with_reducible exact H|(rw [vC];exact H)|exact H
 have Lk:=aM vC;clear vC;have H':=aM H;clear H;go_enter Try.func22,Try.ntmps22
 try go_wp2_with (first|((with_reducible refine bJ (N:=3) rfl ?_);(try(refine gate_guard (by rfl) ?_;dsimp only));refine box_event ?hg (N:=3) ?hd (cs:=#[.slice cA aW.length cB,.slice cE aX.length cF,.int .i64 bM,.int .i64 bO,.slice cK aV.length cG]) (t:=26) ?hr ?_;(case hd=>rfl);(case hg=>rfl);(case hr=>first|(go_simp;done)|(go_simp;rfl));intro eH hg w7 hbox hb;have bX:=aM (bG (gW HB.out) hb);have bY:=aM (hbox);have cC:=aM ((by rw [hg];exact(bH (gW HB.out)):w.heap.size≤eH));have cD:=aM ((by rw [hg];exact(bH (gW HB.out)):w.heap.size≤eH));clear HB;have HB:=bX;have cI:=bY;have GW115:=cC;have yF:=cD;clear bX bY cC cD;clear hb hbox hg)|((with_reducible refine bI (f:=17) rfl ?_);refine goesL_ (some 15) rfl rfl Try.func17 (by kernel_rfl) rfl #[] rfl (by(try simp only [List.map_toArray,List.map_cons,List.map_nil]);first|done|rfl|(simp only [List.length_drop,List.length_take];rfl)) ?_;(with_reducible refine(machine_Start.calls  t116 t119 _ A4.out).mono ?_);rintro e w8 ⟨v117,rfl,ho0,hb⟩;refine⟨_,rfl,?_⟩;have bX:=aM (bL ho0 (bH (gW HB.out)));have bY:=aM (bF (gB cI.out) hb);have cC:=aM (bG (gW HB.out) hb);clear cI;clear HB;have gK:=bX;have cI:=bY;have HB:=cC;clear bX bY cC;(try clear hb);(try clear hb2);(try clear hk);(try clear hi);(try clear ho0))|((with_reducible refine bJ (N:=9) rfl ?_);(try(refine gate_guard (by rfl) ?_;dsimp only));refine box_event ?hg (N:=9) ?hd (cs:=#[.slice none 0 0,.bool false]) (t:=31) ?hr ?_;(case hd=>rfl);(case hg=>rfl);(case hr=>first|(go_simp;done)|(go_simp;rfl));intro eL hg w9 hbox hb;have bX:=aM (aD (gR gK.out) hb);have bY:=aM (bF (gB cI.out) hb);have cC:=aM (bG (gW HB.out) hb);have cD:=aM (hbox);have cL:=aM ((by rw [hg];exact(bH (gW HB.out)):w.heap.size≤eL));have cS:=aM ((by rw [hg];exact(bH (gW HB.out)):w.heap.size≤eL));have dB:=aM ((by rw [hg];exact Nat.ne_of_lt (bN (g:=eH) (o:= .cells #[.slice cA aW.length cB,.slice cE aX.length cF,.int .i64 bM,.int .i64 bO,.slice cK aV.length cG] 26 (0,0)) (gB cI.out)):eH≠eL));have dL:=aM ((by rw [hg];exact Nat.ne_of_gt (bN (g:=eH) (o:= .cells #[.slice cA aW.length cB,.slice cE aX.length cF,.int .i64 bM,.int .i64 bO,.slice cK aV.length cG] 26 (0,0)) (gB cI.out)):eL≠eH));clear gK;clear cI;clear HB;have gK:=bX;have cI:=bY;have HB:=cC;have dF:=cD;have GW120:=cL;have yG:=cS;have iN:=dB;have kE:=dL;clear bX bY cC cD cL cS dB dL;clear hb hbox hg;obtain⟨pG,pH,Sd⟩:=Kd.R_slice gK.out;subst Sd;have hnb11:=kE.out;have hnc11:=iN.out;have kO:w9.cell? ⟨eL,0,none⟩=some (.slice none 0 0):=(aG dF.out 0).trans rfl;have kP:w9.cell? ⟨eL,1,none⟩=some (.bool false):=(aG dF.out 1).trans rfl;have kQ:=aH dF.out 0;have kR:=aH dF.out 1))
 have bX:Aside0 (Kd.R k43 43 ((w9.setCell ⟨eL,0,none⟩ (.slice pG t116.length pH)).setCell ⟨eL,1,none⟩ (.bool t119)) w.heap.size (fun _=>True) (.slice pG t116.length pH) t116):=⟨by(with_reducible repeat(first|apply aA|apply aB|apply aC));exact Kd.R_mono (aE (p:=⟨eL,1,none⟩) (aE (p:=⟨eL,0,none⟩) (Kd.R_types gK.out dF.out (by decide)) (fun _ hk=>hk.2) (.slice pG t116.length pH)) (fun _ hk=>hk.2) (.bool t119)) (fun _ hk=>trivial)⟩;have bY:Aside0 (((w9.setCell ⟨eL,0,none⟩ (.slice pG t116.length pH)).setCell ⟨eL,1,none⟩ (.bool t119)).heap[eH]?=some (.cells #[.slice cA aW.length cB,.slice cE aX.length cF,.int .i64 bM,.int .i64 bO,.slice cK aV.length cG] 26 (0,0))):=⟨by(with_reducible repeat(first|refine aJ ?_ _|refine aK ?_|refine aI ?_ _));refine blk_far ?_ iN.out _;(with_reducible repeat(first|refine aJ ?_ _|refine aK ?_|refine aI ?_ _));refine blk_far ?_ iN.out _;(with_reducible repeat(first|refine aJ ?_ _|refine aK ?_|refine aI ?_ _));exact cI.out⟩;have cC:Aside0 (((w9.setCell ⟨eL,0,none⟩ (.slice pG t116.length pH)).setCell ⟨eL,1,none⟩ (.bool t119)).heap[eL]?=some (.cells #[.slice pG t116.length pH,.bool t119] 31 (0,0))):=⟨by(with_reducible repeat(first|refine aJ ?_ _|refine aK ?_|refine aI ?_ _));refine blk_put (cs:=#[.slice pG t116.length pH,.bool false]) ?_ 1 _ rfl;(with_reducible repeat(first|refine aJ ?_ _|refine aK ?_|refine aI ?_ _));refine blk_put (cs:=#[.slice none 0 0,.bool false]) ?_ 0 _ rfl;(with_reducible repeat(first|refine aJ ?_ _|refine aK ?_|refine aI ?_ _));exact dF.out⟩;have cD:Aside0 (Below w.heap.size w ((w9.setCell ⟨eL,0,none⟩ (.slice pG t116.length pH)).setCell ⟨eL,1,none⟩ (.bool t119))):=⟨by repeat(first|(with_reducible first|exact HB.out|apply aN|apply aP|apply aO|refine aL ?_ yF.out|refine aL ?_ yG.out)|exact HB.out)⟩
 (try clear gK);(try clear cI);(try clear dF);(try clear HB)
 generalize ((w9.setCell ⟨eL,0,none⟩ (.slice pG t116.length pH)).setCell ⟨eL,1,none⟩ (.bool t119))=w13 at bX bY cC cD ⊢;have gK:=bX;have cI:=bY;have dF:=cC;have HB:=cD;clear bX bY cC cD;have bX:=aM (aC gK.out);have bY:=aM (aK cI.out);have cC:=aM (aK dF.out);have cD:=aM (aO HB.out);clear gK cI dF HB;have gK:=bX;have cI:=bY;have dF:=cC;have HB:=cD;clear bX bY cC cD;refine start_ (n:=9) (S:=fun w'=>w'.cell? ⟨eH,0,none⟩=some (.slice cA aW.length cB)∧w'.cell? ⟨eH,1,none⟩=some (.slice cE aX.length cF)∧w'.cell? ⟨eH,2,none⟩=some (.int .i64 bM)∧w'.cell? ⟨eH,3,none⟩=some (.int .i64 bO)∧w'.cell? ⟨eH,4,none⟩=some (.slice cK aV.length cG)) (ds:= []) #[F,F,F,F,F,F,F,F,F] (by kernel_rfl) rfl rfl ⟨(aG cI.out 0).trans rfl,(aG cI.out 1).trans rfl,(aG cI.out 2).trans rfl,(aG cI.out 3).trans rfl,(aG cI.out 4).trans rfl⟩ (fun hHeld=>?_);refine with_tabW machine_Run.tab2 machine_Run.bits2 (fun HT_ HW_=>?_)
 generalize w13.drew=w14 at gK cI dF HB hHeld ⊢;refine pure_ (i:=0) (N:=some 16) (v:=?_) (a':=?_) #[T,F,F,F,F,F,F,F,F] rfl rfl (any_of HT_.out (by kernel_rfl)) (fun _ _ _ h=>h) (Or.inl ⟨by rfl,?_⟩) ?_ ?_
 rotate_left;(intro w';go_simp;with_reducible rfl);rotate_left;(simp only [pq];rfl)
 refine pure_ (i:=2) (N:=some 18) (v:=?_) (a':=?_) #[T,F,T,F,F,F,F,F,F] rfl rfl (any_of HT_.out (by kernel_rfl)) (fun _ _ _ h=>h) (Or.inl ⟨by rfl,?_⟩) ?_ ?_
 rotate_left;(intro w';go_simp;with_reducible rfl);rotate_left;(simp only [pq];rfl)
 refine pure_ (i:=8) (N:=some 24) (v:=?_) (a':=?_) #[T,F,T,F,F,F,F,F,T] rfl rfl (any_of HT_.out (by kernel_rfl)) (fun _ _ _ h=>h) (Or.inl ⟨by rfl,?_⟩) ?_ ?_
 rotate_left;(intro w';go_simp;with_reducible rfl);rotate_left;(simp only [pq];rfl)
 refine take_ (i:=3) (N:=some 19) (v:=?_) (a':=?_) #[T,F,T,T,F,F,F,F,T] rfl rfl (take_ofW HT_.out HW_.out (by kernel_rfl)) (fun _ _ _ h=>h) (Or.inl ⟨by rfl,?_⟩) hHeld ?_ ?_
 rotate_left
 ·rintro w' ⟨s0,s1,s2,s3,s4⟩
  go_simp
  with_reducible rfl
 rotate_left
 ·simp only [pq]
  rfl
 refine pure_ (i:=4) (N:=some 20) (v:=?_) (a':=?_) #[T,F,T,T,T,F,F,F,T] rfl rfl (any_of HT_.out (by kernel_rfl)) (fun _ _ _ h=>h) (Or.inl ⟨by rfl,?_⟩) ?_ ?_
 rotate_left;(intro w';go_simp;with_reducible rfl);rotate_left;(simp only [pq];rfl)
 refine join_ (σ:=Value×Value) 2 #[T,T,T,T,T,T,F,F,T] (fun s_=> [(17,s_.1),(21,s_.2)]) (fun s_ w'=>(w'.cell? ⟨eH,0,none⟩=some (.slice cA aW.length cB)∧w'.cell? ⟨eH,1,none⟩=some (.slice cE aX.length cF)∧w'.cell? ⟨eH,2,none⟩=some (.int .i64 bM)∧w'.cell? ⟨eH,3,none⟩=some (.int .i64 bO)∧w'.cell? ⟨eH,4,none⟩=some (.slice cK aV.length cG))∧(Kd.R k43 43 w' w.heap.size (fun _=>True) (.slice pG t116.length pH) t116)∧(Kd.R (Kd.int .i64) 3 w' w.heap.size (fun k_=>some k_≠(s_.2:Value).ownBlock) s_.1 t121)∧(Kd.R (Kd.int .i64) 3 w' w.heap.size (fun k_=>some k_≠(s_.1:Value).ownBlock) s_.2 y124)∧(w'.heap[eH]?=some (.cells #[.slice cA aW.length cB,.slice cE aX.length cF,.int .i64 bM,.int .i64 bO,.slice cK aV.length cG] 26 (0,0)))∧(w'.heap[eL]?=some (.cells #[.slice pG t116.length pH,.bool t119] 31 (0,0)))∧(Below w.heap.size w w')) ?_ ?_
 rotate_left
 ·intro hCont
  refine two_ (i:=1) (j:=5) (Ni:=some 17) (Nj:=some 21) #[T,T,T,T,T,F,F,F,T] #[T,F,T,T,T,T,F,F,T] rfl rfl rfl rfl (two_of HT_.out (by kernel_rfl)) (by decide) (by decide) (fun K hK=>?_) (fun K hK=>?_)
  ·skip
   refine goes_ Try.func34 (by kernel_rfl) rfl #[.slice A2 l2.length c2] (by rfl) rfl rfl (by(try simp only [List.map_toArray,List.map_cons,List.map_nil]);first|done|rfl|(simp only [List.length_drop,List.length_take];rfl)) ?_
   with_reducible refine(slices_Clone_int_int.calls _ _ l2 t121 _ ?side1 ?side2 A5.out).mono ?_
   (case side1=>exact gC (bD HR2.out HB.out))
   (case side2=>exact HC2.out)
   rintro e w15 ⟨v122,rfl,ho0,hb⟩
   refine⟨_,rfl,?_⟩
   have bX:=aM (aD (gR gK.out) hb);have bY:=aM (bL ho0 (bH (gW HB.out)));have cC:=aM (bF (gB cI.out) hb);have cD:=aM (bF (gB dF.out) hb);have cL:=aM (bG (gW HB.out) hb);clear gK cI dF HB;have gK:=bX;have lG:=bY;have cI:=cC;have dF:=cD;have HB:=cL;clear bX bY cC cD cL
   (try clear hb);(try clear hb2);(try clear hk);(try clear hi);(try clear ho0)
   refine hK.out _ _ ⟨(aG cI.out 0).trans rfl,(aG cI.out 1).trans rfl,(aG cI.out 2).trans rfl,(aG cI.out 3).trans rfl,(aG cI.out 4).trans rfl⟩ (fun hHeld=>?_)
   clear hK K;refine norm_ (a':=?_) ?_ ?_
   rotate_left
   ·show Act.put _ (some 17) _=_
    simp only [pq];rfl
   refine one_ (i:=5) (N:=some 21) #[T,T,T,T,T,T,F,F,T] rfl rfl (one_of HT_.out (by kernel_rfl)) (by decide) (fun K hK=>?_)
   refine Kd.R_lit_step (Kd.int .i64) _ 3 ?hg (N:=21) ?hd (xs:=([(aX.length:Int)]:List Int)) (inner:= [.int .i64 (aX.length:Int)]) (ok:=fun _=>True) (okp:=fun _=>True) ?hr ?hp (fun _ hk=>hk) trivial (Below.refl _ _) (Nat.le_refl _) (by simp) ?_;(case hd=>rfl);(case hg=>rfl);(case hr=>first|(go_simp;done)|(go_simp;rfl));(case hp=>exact(Reps.one (show Kd.M (Kd.int .i64) _ _ _ (aX.length:Int) [.int .i64 (aX.length:Int)] from rfl) (Reps.none _ _)))
   intro v125 w16 ho17 hb hg_ hnew_;clear hg_ hnew_
   (first|rw [←yE.out] at ho17|(simp only [Int.reduceToNat] at ho17;rw [←yE.out] at ho17))
   have bX:=aM (aD (gR gK.out) hb);have bY:=aM (bE (gR lG.out) (Kd.R_base ho17) hb);have cC:=aM (bL (Kd.R_new' ho17 (Kd.R_lt (gR lG.out))) (bH (gW HB.out)));have cD:=aM (bF (gB cI.out) hb);have cL:=aM (bF (gB dF.out) hb);have cS:=aM (bG (gW HB.out) hb);clear gK lG cI dF HB;have gK:=bX;have lG:=bY;have kZ:=cC;have cI:=cD;have dF:=cL;have HB:=cS;clear bX bY cC cD cL cS hb ho17;refine hK.out _ _ ⟨(aG cI.out 0).trans rfl,(aG cI.out 1).trans rfl,(aG cI.out 2).trans rfl,(aG cI.out 3).trans rfl,(aG cI.out 4).trans rfl⟩ (fun hHeld=>?_)
   clear hK K;refine norm_ (a':=?_) ?_ ?_
   rotate_left
   ·show Act.put _ (some 21) _=_
    simp only [pq];rfl
   exact norm_ (by simp only [putAll,Act.put,List.setIfInBounds_toArray,List.set_cons_zero,List.set_cons_succ]) (hCont (v122,v125) _ ⟨hHeld,(gR gK.out),(by(with_reducible repeat(first|apply aA|apply aB|apply aC));exact Kd.R_mono lG.out (fun _ hk=>hk.2)),(by(with_reducible repeat(first|apply aA|apply aB|apply aC));exact Kd.R_mono kZ.out (fun _ hk=>hk.2)),(gB cI.out),(gB dF.out),(gW HB.out)⟩)
  ·skip
   refine Kd.R_lit_step (Kd.int .i64) _ 3 ?hg (N:=21) ?hd (xs:=([(aX.length:Int)]:List Int)) (inner:= [.int .i64 (aX.length:Int)]) (ok:=fun _=>True) (okp:=fun _=>True) ?hr ?hp (fun _ hk=>hk) trivial (Below.refl _ _) (Nat.le_refl _) (by simp) ?_;(case hd=>rfl);(case hg=>rfl);(case hr=>first|(go_simp;done)|(go_simp;rfl));(case hp=>exact(Reps.one (show Kd.M (Kd.int .i64) _ _ _ (aX.length:Int) [.int .i64 (aX.length:Int)] from rfl) (Reps.none _ _)))
   intro v125 w15 ho16 hb hg_ hnew_;clear hg_ hnew_
   (first|rw [←yE.out] at ho16|(simp only [Int.reduceToNat] at ho16;rw [←yE.out] at ho16))
   have bX:=aM (aD (gR gK.out) hb);have bY:=aM (bL ho16 (bH (gW HB.out)));have cC:=aM (bF (gB cI.out) hb);have cD:=aM (bF (gB dF.out) hb);have cL:=aM (bG (gW HB.out) hb);clear gK cI dF HB;have gK:=bX;have kZ:=bY;have cI:=cC;have dF:=cD;have HB:=cL;clear bX bY cC cD cL hb ho16;refine hK.out _ _ ⟨(aG cI.out 0).trans rfl,(aG cI.out 1).trans rfl,(aG cI.out 2).trans rfl,(aG cI.out 3).trans rfl,(aG cI.out 4).trans rfl⟩ (fun hHeld=>?_)
   clear hK K;refine norm_ (a':=?_) ?_ ?_
   rotate_left
   ·show Act.put _ (some 21) _=_
    simp only [pq];rfl
   refine one_ (i:=1) (N:=some 17) #[T,T,T,T,T,T,F,F,T] rfl rfl (one_of HT_.out (by kernel_rfl)) (by decide) (fun K hK=>?_)
   refine goes_ Try.func34 (by kernel_rfl) rfl #[.slice A2 l2.length c2] (by rfl) rfl rfl (by(try simp only [List.map_toArray,List.map_cons,List.map_nil]);first|done|rfl|(simp only [List.length_drop,List.length_take];rfl)) ?_
   with_reducible refine(slices_Clone_int_int.calls _ _ l2 t121 _ ?side1 ?side2 A5.out).mono ?_
   (case side1=>exact gC (bD HR2.out HB.out))
   (case side2=>exact HC2.out)
   rintro e w17 ⟨v122,rfl,ho0,hb⟩
   refine⟨_,rfl,?_⟩
   have bX:=aM (aD (gR gK.out) hb);have bY:=aM (bE (gR kZ.out) (Kd.R_base ho0) hb);have cC:=aM (bL (Kd.R_new' ho0 (Kd.R_lt (gR kZ.out))) (bH (gW HB.out)));have cD:=aM (bF (gB cI.out) hb);have cL:=aM (bF (gB dF.out) hb);have cS:=aM (bG (gW HB.out) hb);clear gK kZ cI dF HB;have gK:=bX;have kZ:=bY;have lG:=cC;have cI:=cD;have dF:=cL;have HB:=cS;clear bX bY cC cD cL cS
   (try clear hb);(try clear hb2);(try clear hk);(try clear hi);(try clear ho0)
   refine hK.out _ _ ⟨(aG cI.out 0).trans rfl,(aG cI.out 1).trans rfl,(aG cI.out 2).trans rfl,(aG cI.out 3).trans rfl,(aG cI.out 4).trans rfl⟩ (fun hHeld=>?_)
   clear hK K;refine norm_ (a':=?_) ?_ ?_
   rotate_left
   ·show Act.put _ (some 17) _=_
    simp only [pq];rfl
   exact norm_ (by simp only [putAll,Act.put,List.setIfInBounds_toArray,List.set_cons_zero,List.set_cons_succ]) (hCont (v122,v125) _ ⟨hHeld,(gR gK.out),(by(with_reducible repeat(first|apply aA|apply aB|apply aC));exact Kd.R_mono lG.out (fun _ hk=>hk.2)),(by(with_reducible repeat(first|apply aA|apply aB|apply aC));exact Kd.R_mono kZ.out (fun _ hk=>hk.2)),(gB cI.out),(gB dF.out),(gW HB.out)⟩)
 rintro⟨v122,v125⟩ w18 ⟨hS_,h0_,h1_,h2_,h3_,h4_,h5_⟩
 have bX:Aside0 (Kd.R k43 43 w18 w.heap.size (fun _=>True) (.slice pG t116.length pH) t116):=⟨h0_⟩;have bY:Aside0 (Kd.R (Kd.int .i64) 3 w18 w.heap.size (fun k_=>some k_≠(v125:Value).ownBlock) v122 t121):=⟨h1_⟩;have cC:Aside0 (Kd.R (Kd.int .i64) 3 w18 w.heap.size (fun k_=>some k_≠(v122:Value).ownBlock) v125 y124):=⟨h2_⟩;have cD:Aside0 (w18.heap[eH]?=some (.cells #[.slice cA aW.length cB,.slice cE aX.length cF,.int .i64 bM,.int .i64 bO,.slice cK aV.length cG] 26 (0,0))):=⟨h3_⟩;have cL:Aside0 (w18.heap[eL]?=some (.cells #[.slice pG t116.length pH,.bool t119] 31 (0,0))):=⟨h4_⟩;have cS:Aside0 (Below w.heap.size w w18):=⟨h5_⟩;clear gK cI dF HB h0_ h1_ h2_ h3_ h4_ h5_;have gK:=bX;have lG:=bY;have kZ:=cC;have cI:=cD;have dF:=cL;have HB:=cS;clear bX bY cC cD cL cS;have hHeld:w18.cell? ⟨eH,0,none⟩=some (.slice cA aW.length cB)∧w18.cell? ⟨eH,1,none⟩=some (.slice cE aX.length cF)∧w18.cell? ⟨eH,2,none⟩=some (.int .i64 bM)∧w18.cell? ⟨eH,3,none⟩=some (.int .i64 bO)∧w18.cell? ⟨eH,4,none⟩=some (.slice cK aV.length cG):=hS_;obtain⟨Se,Sf,Ll⟩:=Kd.R_slice kZ.out
 (first|subst Ll|(injection Ll with f1_ f2_ f3_;have f4_:=f1_.symm;have f5_:=f3_.symm;clear f1_ f2_ f3_;subst f4_;subst f5_))
 refine norm_ (a':=?_) ?_ ?_
 rotate_left
 ·simp only [putAll,Act.put,List.setIfInBounds_toArray,List.set_cons_zero,List.set_cons_succ]
  rfl
 refine one_ (i:=6) (N:=some 22) #[T,T,T,T,T,T,T,F,T] rfl rfl (one_of HT_.out (by kernel_rfl)) (by decide) (fun K hK=>?_)
 refine Kd.R_append_rows_step (Kd.int .i64) (w0:=w) w.heap.size (by rfl) (.tmp 17) (.tmp 21) 32 3 (.int .i64 0) 8 rfl Try.underlying32 info3 rfl (by decide) (by omega) v122 t121 y124 _ _ _ (fun k_=>some k_≠(.slice Se y124.length Sf:Value).ownBlock) (fun _=>False) rfl rfl ?aO ?aR (fun _ _ h=>h) (fun _ h=>h.elim) ?aF ?aB ?aS ?aL ?_
 (case aR=>exact gC (aF kZ.out).2.2)
 (case aB=>exact(gW HB.out))
 (case aF=>exact(fun k_ hk=>Kd.fresh' (Kd.R_lt (gR kZ.out)) k_ hk))
 (case aO=>exact(gR lG.out))
 (case aS=>exact(bH (gW HB.out)))
 (case aL=>have:=Sc.out;omega)
 intro v128 w19 ho hb hg hat;rw [←Lk.out] at ho;have bX:=aM (blk_grown (gB cI.out) hg (Kd.R_ne lG.out cI.out (by decide)));have bY:=aM (Kd.R_over' (gR gK.out) (Kd.R_typed (gR lG.out)) (by decide) hg);have cC:=aM (blk_grown (gB dF.out) hg (Kd.R_ne lG.out dF.out (by decide)));have cD:=aM (Kd.R_after (ok:=(fun _=>True)) (by(with_reducible repeat(first|apply aA|apply aB|apply aC));exact Kd.R_mono kZ.out (fun _ hk=>⟨trivial,hk⟩)) hg hat);have cL:=aM (hb);have cS:=aM (ho);clear cI gK dF kZ HB lG;have cI:=bX;have gK:=bY;have dF:=cC;have kZ:=cD;have HB:=cL;have Fp:=cS;clear bX bY cC cD cL cS ho hb hg hat;obtain⟨nF,kH,Ej⟩:=Kd.R_slice Fp.out
 (first|subst Ej|(injection Ej with f1_ f2_ f3_;have f4_:=f1_.symm;have f5_:=f3_.symm;clear f1_ f2_ f3_;subst f4_;subst f5_))
 refine hK.out _ _ ⟨(aG cI.out 0).trans rfl,(aG cI.out 1).trans rfl,(aG cI.out 2).trans rfl,(aG cI.out 3).trans rfl,(aG cI.out 4).trans rfl⟩ (fun hHeld=>?_)
 clear hK K;refine norm_ (a':=?_) ?_ ?_
 rotate_left
 ·show Act.put _ (some 22) _=_
  simp only [pq];rfl
 refine pure_ (i:=7) (N:=some 23) (v:=?_) (a':=?_) #[T,T,T,T,T,T,T,T,T] rfl rfl (any_of HT_.out (by kernel_rfl)) (fun _ _ _ h=>h) (Or.inl ⟨by rfl,?_⟩) ?_ ?_
 rotate_left;(intro w';go_simp;with_reducible rfl);rotate_left;(simp only [pq];rfl)
 refine done_ (done_of HT_.out (by kernel_rfl)) ?_
 try go_wp2
 go_loopg [6,24] k (fun kq v6 v24 w'=>∃(kN:List Int) (gD:Int) (eM:List (S43)) (eN:Bool) (u121000:Value),v24= .int .i64 gD∧Aside0 (machine_Run.l0 kq l1 l2 kN y127 (y127.length:Int) gD aW aX bM bO aV eM eN=some (r1,r2,r3))∧Aside0 (kq≤k)∧Aside0 (Kd.R (Kd.int .i64) 3 w' w.heap.size (fun k_=>some k_≠((.slice nF y127.length kH):Value).ownBlock) v6 kN)∧Aside0 (Kd.R (Kd.int .i64) 3 w' w.heap.size (fun k_=>some k_≠(v6:Value).ownBlock) (.slice nF y127.length kH) y127)∧Aside0 (Kd.R k43 43 w' w.heap.size (fun _=>True) u121000 eM)∧Aside0 (w'.heap[eH]?=some (.cells #[(.slice cA aW.length cB),(.slice cE aX.length cF),.int .i64 bM,.int .i64 bO,(.slice cK aV.length cG)] 26 (0,0)))∧Aside0 (w'.heap[eL]?=some (.cells #[u121000,.bool eN] 31 (0,0)))∧Aside0 (Below w.heap.size w w'))
 case atStart=>exact⟨(([]:List Int)),(0),(t116),(t119),(.slice pG t116.length pH),(by first|rfl|(simp;done)|(simp [*];done)),H',⟨Nat.le_refl _⟩,⟨by first|exact Kd.R_nil _ _ _ _ _|exact Kd.N_nil _ _ _ _ _|exact Kd.V_nil _ _ _ _ _|exact Kd.Q_nil _ _ _ _ _|exact Kd.S_nil _ _ _ _ _⟩,⟨by(with_reducible repeat(first|apply aA|apply aB|apply aC));exact Kd.R_mono Fp.out (fun _ hk=>(by simp [Value.ownBlock]))⟩,⟨gR gK.out⟩,⟨gB cI.out⟩,⟨gB dF.out⟩,⟨gW HB.out⟩⟩
 case round=>
  clear H'
  (try clear c1);(try clear c2);(try clear p2);(try clear c3);(try clear c6);(try clear c11);(try clear c17);(try clear kO);(try clear kP);(try clear kQ);(try clear kR)
  obtain⟨kN,gD,eM,eN,u121000,rfl,HA,HK1,jH,gO,dH,cI,dF,HB⟩:=hrel
  cases gk with
  |zero=>exact absurd HA.out (by simp [machine_Run.l0])
  |succ k1=>
   have H:=HA.out;clear HA;simp only [machine_Run.l0] at H
   by_cases c22:gD<(y127.length:Int)
   ·rw [if_pos c22] at H
    have zL:decide (gD<(y127.length:Int))=true:=decide_eq_true c22;clear c22
    by_cases c23:0≤gD
    rotate_left
    ·rw [if_neg c23] at H
     exact absurd H (by simp)
    rw [if_pos c23] at H;have zM:decide (0≤gD)=true:=decide_eq_true c23;clear c23
    by_cases c24:gD<(y127.length:Int)
    rotate_left
    ·rw [if_neg c24] at H
     exact absurd H (by simp)
    rw [if_pos c24] at H;have Ff:decide (gD<(y127.length:Int))=true:=decide_eq_true c24;clear c24;have HC25:=aM H;clear H;have p130:0≤(gD:Int):=of_decide_eq_true (by first|(with_reducible assumption)|assumption);have q130:gD<(y127.length:Int):=of_decide_eq_true (by first|(with_reducible assumption)|assumption);obtain⟨rV,e130,Ek⟩:=Kd.at_int (aF gO.out).2.2 gD p130 q130
    cases e130;replace p130:=eq_true p130;replace q130:=eq_true q130
    go_upto_region 5 with(fail)
    go_cut [39] (fun v39 wc=>∃(kq:Nat) (uP:Bool),v39= .bool uP∧Aside0 (machine_Run.j1 kq l1 l2 kN gD (rd y127 gD) y127 (y127.length:Int) gD uP aW aX bM bO aV eM eN=some (r1,r2,r3))∧Aside0 (kq≤k1)∧Aside0 (Kd.R (Kd.int .i64) 3 wc w.heap.size (fun k_=>some k_≠((.slice (some rV) y127.length kH):Value).ownBlock) u6 kN)∧Aside0 (Kd.R (Kd.int .i64) 3 wc w.heap.size (fun k_=>some k_≠(u6:Value).ownBlock) (.slice (some rV) y127.length kH) y127)∧Aside0 (Kd.R k43 43 wc w.heap.size (fun _=>True) u121000 eM)∧Aside0 (wc.heap[eH]?=some (.cells #[(.slice cA aW.length cB),(.slice cE aX.length cF),.int .i64 bM,.int .i64 bO,(.slice cK aV.length cG)] 26 (0,0)))∧Aside0 (wc.heap[eL]?=some (.cells #[u121000,.bool eN] 31 (0,0)))∧Aside0 (Below w.heap.size w wc))
    case first=>
     have H:=HC25.out;clear HC25
     by_cases c26:gD<(l2.length:Int)
     ·rw [if_pos c26] at H
      have pY:decide (gD<(l2.length:Int))=true:=decide_eq_true c26;clear c26
      (first|rw [pY]|(simp only [i64_w,i32_w];rw [pY])|skip)
      have H':=aM H;clear H;have hnb27:=iN.out;have hnc27:=kE.out;have mL:wr.cell? ⟨eH,0,none⟩=some (.slice cA aW.length cB):=(aG cI.out 0).trans rfl;have mM:wr.cell? ⟨eH,1,none⟩=some (.slice cE aX.length cF):=(aG cI.out 1).trans rfl;have xA:wr.cell? ⟨eH,2,none⟩=some (.int .i64 bM):=(aG cI.out 2).trans rfl;have xB:wr.cell? ⟨eH,3,none⟩=some (.int .i64 bO):=(aG cI.out 3).trans rfl;have xC:wr.cell? ⟨eH,4,none⟩=some (.slice cK aV.length cG):=(aG cI.out 4).trans rfl;have mN:=aH cI.out 0;have mO:=aH cI.out 1;have xD:=aH cI.out 2;have xE:=aH cI.out 3;have xF:=aH cI.out 4;go_wp2
      go_meet
      case rel=>exact⟨_,(((rd y127 gD)==(aX.length:Int))),(by first|rfl|(simp;done)|(simp [*];done)),H',⟨by have:=HK1.out;first|omega|exact Nat.le_refl _⟩,⟨gR jH.out⟩,⟨gR gO.out⟩,⟨gR dH.out⟩,⟨gB cI.out⟩,⟨gB dF.out⟩,⟨gW HB.out⟩⟩
     ·rw [if_neg c26] at H
      have pY:decide (gD<(l2.length:Int))=false:=decide_eq_false c26;clear c26
      (first|rw [pY]|(simp only [i64_w,i32_w];rw [pY])|skip)
      have H':=aM H;clear H;go_wp2
      go_meet
      case rel=>exact⟨_,(false),(by first|rfl|(simp;done)|(simp [*];done)),H',⟨by have:=HK1.out;first|omega|exact Nat.le_refl _⟩,⟨gR jH.out⟩,⟨gR gO.out⟩,⟨gR dH.out⟩,⟨gB cI.out⟩,⟨gB dF.out⟩,⟨gW HB.out⟩⟩
    case rest=>
     clear HC25
     (try clear c1);(try clear p1);(try clear q1);(try clear hx1);(try clear c2);(try clear p2);(try clear c3);(try clear c6);(try clear c11);(try clear p13);(try clear q13);(try clear hx13);(try clear c17);(try clear c22);(try clear zL);(try clear c23);(try clear zM);(try clear c24);(try clear Ff);(try clear c26);(try clear pY);(try clear c27);(try clear kO);(try clear kP);(try clear mL)
     (try clear mM);(try clear xA);(try clear xB);(try clear xC);(try clear kQ);(try clear kR);(try clear mN);(try clear mO);(try clear xD);(try clear xE);(try clear xF);(try clear Ek);(try clear p130);(try clear p2);(try clear q130)
     obtain⟨kq,uP,rfl,HA,HJ24,jH,gO,dH,cI,dF,HB⟩:=hcut
     cases kq with
     |zero=>exact absurd HA.out (by simp [machine_Run.j1])
     |succ El=>
      have H:=HA.out;clear HA;simp only [machine_Run.j1] at H
      by_cases c29:uP=true
      ·subst c29
       have H1:(some (([]:List Int),1,gD))=some (r1,r2,r3):=by rw [if_pos rfl] at H;exact H
       clear H;have H:=H1;clear H1;simp only [Option.some.injEq,Prod.mk.injEq] at H;obtain⟨rfl,rfl,rfl⟩:=H;go_wp2
       go_ret3
       exact⟨_,by first|rfl|(simp [errW_none,errW_some]<;>rfl)|(simp [*,errW_none,errW_some]<;>rfl),by first|exact Kd.R_nil _ _ _ _ _|exact Kd.N_nil _ _ _ _ _|exact Kd.V_nil _ _ _ _ _|exact Kd.Q_nil _ _ _ _ _|exact Kd.S_nil _ _ _ _ _,gW HB.out⟩
      ·replace c29:=Bool.eq_false_iff.mpr c29
       subst c29;have H1:((machine_Feed.f aW aX bM bO aV l1 eM eN (rd y127 gD)).bind fun lF=>(if lF.2.2.2=0 then(if kN.length+lF.2.2.1.length<17592186044416 then(machine_Run.l0 El l1 l2 (kN++lF.2.2.1) y127 (y127.length:Int) (wrap64 (gD+1)) aW aX bM bO aV lF.1 lF.2.1) else(none)) else(some (([]:List Int),lF.2.2.2,gD))))=some (r1,r2,r3):=by rw [if_neg (show ¬(false=true) by decide)] at H;exact H
       clear H;have H:=H1;clear H1;replace H:=Option.bind_eq_some_iff.mp H;obtain⟨⟨t131,t134,t135,t138⟩,A300,H⟩:=H;replace H:(if t138=0 then(if kN.length+t135.length<17592186044416 then(machine_Run.l0 El l1 l2 (kN++t135) y127 (y127.length:Int) (wrap64 (gD+1)) aW aX bM bO aV t131 t134) else(none)) else(some (([]:List Int),t138,gD)))=some (r1,r2,r3):=H;have A30:=aM A300;clear A300
       by_cases c31:t138=0
       ·rw [if_pos c31] at H
        have zO:(t138==0)=true:=beq_iff_eq.mpr c31;have zP:(t138 !=0)=false:=bne_eq_false_iff_eq.mpr c31;clear c31
        by_cases c32:kN.length+t135.length<17592186044416
        rotate_left
        ·rw [if_neg c32] at H
         exact absurd H (by simp)
        rw [if_pos c32] at H;have Lm:=aM c32;clear c32;obtain⟨y140,vD⟩:∃y_:List Int,y_=(kN++t135):=⟨_,rfl⟩;replace H:(machine_Run.l0 El l1 l2 y140 y127 (y127.length:Int) (wrap64 (gD+1)) aW aX bM bO aV t131 t134)=some (r1,r2,r3):=by first|(rw [vD];with_reducible exact H)|(have H2_:=(Option.bind_some _ _).symm.trans H;rw [vD];with_reducible exact H2_)|(have H2_:=(Option.bind_some _ _).symm.trans H;with_reducible exact H2_)|with_reducible exact H|(rw [vD];exact H)|exact H
        have Ln:=aM vD;clear vD;have H':=aM H;clear H;have hnb33:=iN.out;have hnc33:=kE.out;have xG:wc.cell? ⟨eH,0,none⟩=some (.slice cA aW.length cB):=(aG cI.out 0).trans rfl;have xH:wc.cell? ⟨eH,1,none⟩=some (.slice cE aX.length cF):=(aG cI.out 1).trans rfl;have Dd:wc.cell? ⟨eH,2,none⟩=some (.int .i64 bM):=(aG cI.out 2).trans rfl;have De:wc.cell? ⟨eH,3,none⟩=some (.int .i64 bO):=(aG cI.out 3).trans rfl;have Df:wc.cell? ⟨eH,4,none⟩=some (.slice cK aV.length cG):=(aG cI.out 4).trans rfl;have xI:=aH cI.out 0;have xJ:=aH cI.out 1;have Dg:=aH cI.out 2;have Dh:=aH cI.out 3;have Di:=aH cI.out 4;have mP:wc.cell? ⟨eL,0,none⟩=some (u121000):=(aG dF.out 0).trans rfl;have mQ:wc.cell? ⟨eL,1,none⟩=some (.bool eN):=(aG dF.out 1).trans rfl;have mR:=aH dF.out 0;have mS:=aH dF.out 1;obtain⟨kJ,kK,lA⟩:=Kd.R_slice dH.out;subst lA
        try go_wp2_with (first|((with_reducible refine bI (f:=23) rfl ?_);refine goesL_ (some 46) rfl rfl Try.func23 (by kernel_rfl) rfl #[.agg #[.slice cA aW.length cB,.slice cE aX.length cF,.int .i64 bM,.int .i64 bO,.slice cK aV.length cG],.slice A1 l1.length c1,.agg #[.slice kJ eM.length kK,.bool eN],.int .i64 (rd y127 gD)] rfl (by(try simp only [List.map_toArray,List.map_cons,List.map_nil]);first|done|rfl|(simp only [List.length_drop,List.length_take];rfl)) ?_;(with_reducible refine(machine_Feed.calls _ _ aW _ _ aX bM bO _ _ aV _ _ l1 _ _ eM eN (rd y127 gD) t131 t134 t135 t138 _ ?side1 ?side2 ?side3 ?side4 ?side5 ?side6 ?side7 ?side8 ?side9 ?side10 A30.out).mono ?_);(case side1=>exact gC (bD gP.out HB.out));(case side2=>exact iA.out);(case side3=>exact gC (bD iE.out HB.out));(case side4=>exact iF.out);(case side5=>exact gC (bD gI.out HB.out));(case side6=>exact iG.out);(case side7=>exact gC (bD HR1.out HB.out));(case side8=>exact HC1.out);(case side9=>exact gC (aF dH.out).2.2);(case side10=>exact(aF dH.out).2.1);rintro e w37 ⟨v132,v136,rfl,ho0,ho1,hb⟩;refine⟨_,rfl,?_⟩;have bX:=aM (bE (gR jH.out) (Kd.R_base ho1) hb);have bY:=aM (bE (gR gO.out) (Kd.R_base ho1) hb);have cC:=aM (bE (gR dH.out) (Kd.R_base ho0) hb);have cD:=aM (bL (Kd.R_new' ho0 (Kd.R_lt (gR dH.out))) (bH (gW HB.out)));have cL:=aM (bL (Kd.R_new' (Kd.R_new' ho1 (Kd.R_lt (gR jH.out))) (Kd.R_lt (gR gO.out))) (bH (gW HB.out)));have cS:=aM (bF (gB cI.out) hb);have dB:=aM (bF (gB dF.out) hb);have dL:=aM (bG (gW HB.out) hb);clear jH;clear gO;clear dH;clear cI;clear dF;clear HB;have jH:=bX;have gO:=bY;have dH:=cC;have jJ:=cD;have jK:=cL;have cI:=cS;have dF:=dB;have HB:=dL;clear bX bY cC cD cL cS dB dL;(try clear hb);(try clear hb2);(try clear hk);(try clear hi);(try clear ho0);(try clear ho1))|((with_reducible refine bJ (N:=12) rfl ?_);(try(refine gate_guard (by rfl) ?_;dsimp only));refine box_event ?hg (N:=12) ?hd (cs:=#[.slice none 0 0,.bool false]) (t:=31) ?hr ?_;(case hd=>rfl);(case hg=>rfl);(case hr=>first|(go_simp;done)|(go_simp;rfl));intro eI hg w38 hbox hb;have bX:=aM (aD (gR jH.out) hb);have bY:=aM (aD (gR gO.out) hb);have cC:=aM (aD (gR dH.out) hb);have cD:=aM (aD (gR jJ.out) hb);have cL:=aM (aD (gR jK.out) hb);have cS:=aM (bF (gB cI.out) hb);have dB:=aM (bF (gB dF.out) hb);have dL:=aM (bG (gW HB.out) hb);have dX:=aM (hbox);have fH:=aM ((by rw [hg];exact(bH (gW HB.out)):w.heap.size≤eI));have dT:=aM ((by rw [hg];exact(bH (gW HB.out)):w.heap.size≤eI));have eC:=aM ((by rw [hg];exact Nat.ne_of_lt (bN (g:=eH) (o:= .cells #[.slice cA aW.length cB,.slice cE aX.length cF,.int .i64 bM,.int .i64 bO,.slice cK aV.length cG] 26 (0,0)) (gB cI.out)):eH≠eI));have eV:=aM ((by rw [hg];exact Nat.ne_of_gt (bN (g:=eH) (o:= .cells #[.slice cA aW.length cB,.slice cE aX.length cF,.int .i64 bM,.int .i64 bO,.slice cK aV.length cG] 26 (0,0)) (gB cI.out)):eI≠eH));have fI:=aM ((by rw [hg];exact Nat.ne_of_lt (bN (g:=eL) (o:= .cells #[.slice kJ eM.length kK,.bool eN] 31 (0,0)) (gB dF.out)):eL≠eI));have gU:=aM ((by rw [hg];exact Nat.ne_of_gt (bN (g:=eL) (o:= .cells #[.slice kJ eM.length kK,.bool eN] 31 (0,0)) (gB dF.out)):eI≠eL));clear jH;clear gO;clear dH;clear jJ;clear jK;clear cI;clear dF;clear HB;have jH:=bX;have gO:=bY;have dH:=cC;have jJ:=cD;have jK:=cL;have cI:=cS;have dF:=dB;have HB:=dL;have gY:=dX;have GW139:=fH;have yH:=dT;have lH:=eC;have pT:=eV;have jW:=fI;have jB:=gU;clear bX bY cC cD cL cS dB dL dX fH dT eC eV fI gU;clear hb hbox hg;obtain⟨eD,eE,wL⟩:=Kd.R_slice jJ.out;subst wL;have hnb40:=pT.out;have hnc40:=lH.out;have hnb41:=jB.out;have hnc41:=jW.out;have Co:w38.cell? ⟨eI,0,none⟩=some (.slice none 0 0):=(aG gY.out 0).trans rfl;have Cp:w38.cell? ⟨eI,1,none⟩=some (.bool false):=(aG gY.out 1).trans rfl;have Cq:=aH gY.out 0;have Cr:=aH gY.out 1))
        have bX:Aside0 (Kd.R (Kd.int .i64) 3 ((w38.setCell ⟨eI,0,none⟩ (.slice eD t131.length eE)).setCell ⟨eI,1,none⟩ (.bool t134)) w.heap.size (fun k_=>some k_≠(.slice (some rV) y127.length kH:Value).ownBlock∧some k_≠(v136:Value).ownBlock) u6 kN):=⟨by(with_reducible repeat(first|apply aA|apply aB|apply aC));exact Kd.R_mono (aE (p:=⟨eI,1,none⟩) (aE (p:=⟨eI,0,none⟩) (Kd.R_types jH.out gY.out (by decide)) (fun _ hk=>hk.2) (.slice eD t131.length eE)) (fun _ hk=>hk.2) (.bool t134)) (fun _ hk=>⟨hk.1.1,hk.1.2⟩)⟩;have bY:Aside0 (Kd.R (Kd.int .i64) 3 ((w38.setCell ⟨eI,0,none⟩ (.slice eD t131.length eE)).setCell ⟨eI,1,none⟩ (.bool t134)) w.heap.size (fun k_=>some k_≠(u6:Value).ownBlock∧some k_≠(v136:Value).ownBlock) (.slice (some rV) y127.length kH) y127):=⟨by(with_reducible repeat(first|apply aA|apply aB|apply aC));exact Kd.R_mono (aE (p:=⟨eI,1,none⟩) (aE (p:=⟨eI,0,none⟩) (Kd.R_types gO.out gY.out (by decide)) (fun _ hk=>hk.2) (.slice eD t131.length eE)) (fun _ hk=>hk.2) (.bool t134)) (fun _ hk=>⟨hk.1.1,hk.1.2⟩)⟩;have cC:Aside0 (Kd.R k43 43 ((w38.setCell ⟨eI,0,none⟩ (.slice eD t131.length eE)).setCell ⟨eI,1,none⟩ (.bool t134)) w.heap.size (fun k_=>some k_≠(.slice eD t131.length eE:Value).ownBlock) (.slice kJ eM.length kK) eM):=⟨by(with_reducible repeat(first|apply aA|apply aB|apply aC));exact Kd.R_mono (aE (p:=⟨eI,1,none⟩) (aE (p:=⟨eI,0,none⟩) (Kd.R_types dH.out gY.out (by decide)) (fun _ hk=>hk.2) (.slice eD t131.length eE)) (fun _ hk=>hk.2) (.bool t134)) (fun _ hk=>hk.1.2)⟩;have cD:Aside0 (Kd.R k43 43 ((w38.setCell ⟨eI,0,none⟩ (.slice eD t131.length eE)).setCell ⟨eI,1,none⟩ (.bool t134)) w.heap.size (fun k_=>some k_≠(.slice kJ eM.length kK:Value).ownBlock) (.slice eD t131.length eE) t131):=⟨by(with_reducible repeat(first|apply aA|apply aB|apply aC));exact Kd.R_mono (aE (p:=⟨eI,1,none⟩) (aE (p:=⟨eI,0,none⟩) (Kd.R_types jJ.out gY.out (by decide)) (fun _ hk=>hk.2) (.slice eD t131.length eE)) (fun _ hk=>hk.2) (.bool t134)) (fun _ hk=>hk.1.2)⟩;have cL:Aside0 (Kd.R (Kd.int .i64) 3 ((w38.setCell ⟨eI,0,none⟩ (.slice eD t131.length eE)).setCell ⟨eI,1,none⟩ (.bool t134)) w.heap.size (fun k_=>some k_≠(u6:Value).ownBlock∧some k_≠(.slice (some rV) y127.length kH:Value).ownBlock) v136 t135):=⟨by(with_reducible repeat(first|apply aA|apply aB|apply aC));exact Kd.R_mono (aE (p:=⟨eI,1,none⟩) (aE (p:=⟨eI,0,none⟩) (Kd.R_types jK.out gY.out (by decide)) (fun _ hk=>hk.2) (.slice eD t131.length eE)) (fun _ hk=>hk.2) (.bool t134)) (fun _ hk=>⟨hk.1.1.2,hk.1.2⟩)⟩;have cS:Aside0 (((w38.setCell ⟨eI,0,none⟩ (.slice eD t131.length eE)).setCell ⟨eI,1,none⟩ (.bool t134)).heap[eH]?=some (.cells #[.slice cA aW.length cB,.slice cE aX.length cF,.int .i64 bM,.int .i64 bO,.slice cK aV.length cG] 26 (0,0))):=⟨by(with_reducible repeat(first|refine aJ ?_ _|refine aK ?_|refine aI ?_ _));refine blk_far ?_ lH.out _;(with_reducible repeat(first|refine aJ ?_ _|refine aK ?_|refine aI ?_ _));refine blk_far ?_ lH.out _;(with_reducible repeat(first|refine aJ ?_ _|refine aK ?_|refine aI ?_ _));exact cI.out⟩;have dB:Aside0 (((w38.setCell ⟨eI,0,none⟩ (.slice eD t131.length eE)).setCell ⟨eI,1,none⟩ (.bool t134)).heap[eL]?=some (.cells #[.slice kJ eM.length kK,.bool eN] 31 (0,0))):=⟨by(with_reducible repeat(first|refine aJ ?_ _|refine aK ?_|refine aI ?_ _));refine blk_far ?_ jW.out _;(with_reducible repeat(first|refine aJ ?_ _|refine aK ?_|refine aI ?_ _));refine blk_far ?_ jW.out _;(with_reducible repeat(first|refine aJ ?_ _|refine aK ?_|refine aI ?_ _));exact dF.out⟩;have dL:Aside0 (((w38.setCell ⟨eI,0,none⟩ (.slice eD t131.length eE)).setCell ⟨eI,1,none⟩ (.bool t134)).heap[eI]?=some (.cells #[.slice eD t131.length eE,.bool t134] 31 (0,0))):=⟨by(with_reducible repeat(first|refine aJ ?_ _|refine aK ?_|refine aI ?_ _));refine blk_put (cs:=#[.slice eD t131.length eE,.bool false]) ?_ 1 _ rfl;(with_reducible repeat(first|refine aJ ?_ _|refine aK ?_|refine aI ?_ _));refine blk_put (cs:=#[.slice none 0 0,.bool false]) ?_ 0 _ rfl;(with_reducible repeat(first|refine aJ ?_ _|refine aK ?_|refine aI ?_ _));exact gY.out⟩;have dX:Aside0 (Below w.heap.size w ((w38.setCell ⟨eI,0,none⟩ (.slice eD t131.length eE)).setCell ⟨eI,1,none⟩ (.bool t134))):=⟨by repeat(first|(with_reducible first|exact HB.out|apply aN|apply aP|apply aO|refine aL ?_ yF.out|refine aL ?_ yG.out|refine aL ?_ yH.out)|exact HB.out)⟩
        (try clear jH);(try clear gO);(try clear dH);(try clear jJ);(try clear jK);(try clear cI);(try clear dF);(try clear gY);(try clear HB)
        generalize ((w38.setCell ⟨eI,0,none⟩ (.slice eD t131.length eE)).setCell ⟨eI,1,none⟩ (.bool t134))=w43 at bX bY cC cD cL cS dB dL dX ⊢;have jH:=bX;have gO:=bY;have dH:=cC;have jJ:=cD;have jK:=cL;have cI:=cS;have dF:=dB;have gY:=dL;have HB:=dX;clear bX bY cC cD cL cS dB dL dX;have bX:=aM (aC jH.out);have bY:=aM (aC gO.out);have cC:=aM (aC dH.out);have cD:=aM (aC jJ.out);have cL:=aM (aC jK.out);have cS:=aM (aK cI.out);have dB:=aM (aK dF.out);have dL:=aM (aK gY.out);have dX:=aM (aO HB.out);clear jH gO dH jJ jK cI dF gY HB;have jH:=bX;have gO:=bY;have dH:=cC;have jJ:=cD;have jK:=cL;have cI:=cS;have dF:=dB;have gY:=dL;have HB:=dX;clear bX bY cC cD cL cS dB dL dX;obtain⟨Lo,Lp,Lq⟩:=Kd.R_slice jK.out
        (first|subst Lq|(injection Lq with f1_ f2_ f3_;have f4_:=f1_.symm;have f5_:=f3_.symm;clear f1_ f2_ f3_;subst f4_;subst f5_))
        refine start_ (n:=6) (S:=fun w'=>w'.cell? ⟨eI,0,none⟩=some (.slice eD t131.length eE)∧w'.cell? ⟨eI,1,none⟩=some (.bool t134)) (ds:= []) #[false,false,false,false,false,false] (by kernel_rfl) rfl rfl ⟨(aG gY.out 0).trans rfl,(aG gY.out 1).trans rfl⟩ (fun hHeld=>?_)
        generalize w43.drew=w44 at jH gO dH jJ jK cI dF gY HB hHeld ⊢;refine pure_ (i:=1) (N:=some 55) (v:=?_) (a':=?_) #[false,true,false,false,false,false] rfl rfl (by kernel_rfl) (fun _ _ _ h=>h) (Or.inl ⟨by rfl,?_⟩) ?_ ?_
        rotate_left;(intro w';go_simp;with_reducible rfl);rotate_left;(simp only [pq];rfl)
        refine pure_ (i:=2) (N:=some 56) (v:=?_) (a':=?_) #[false,true,true,false,false,false] rfl rfl (by kernel_rfl) (fun _ _ _ h=>h) (Or.inl ⟨by rfl,?_⟩) ?_ ?_
        rotate_left;(intro w';go_simp;with_reducible rfl);rotate_left;(simp only [pq];rfl)
        refine take_ (i:=0) (N:=some 54) (v:=?_) (a':=?_) #[true,true,true,false,false,false] rfl rfl (by kernel_rfl) (fun _ _ _ h=>h) (Or.inl ⟨by rfl,?_⟩) hHeld ?_ ?_
        rotate_left
        ·rintro w' ⟨s0,s1⟩
         go_simp
         with_reducible rfl
        rotate_left
        ·simp only [pq]
         rfl
        refine one_ (i:=3) (N:=some 57) #[true,true,true,true,false,false] rfl rfl (by kernel_rfl) (by decide) (fun K hK=>?_)
        refine Kd.R_append_rows_step (Kd.int .i64) (w0:=w) w.heap.size (by rfl) (.tmp 55) (.tmp 56) 32 3 (.int .i64 0) 8 rfl Try.underlying32 info3 rfl (by decide) (by omega) u6 kN t135 _ _ _ (fun k_=>some k_≠(.slice (some rV) y127.length kH:Value).ownBlock∧some k_≠(.slice Lo t135.length Lp:Value).ownBlock) (fun _=>False) rfl rfl ?aO ?aR (fun _ _ h=>h) (fun _ h=>h.elim) ?aF ?aB ?aS ?aL ?_
        (case aR=>exact gC (aF jK.out).2.2)
        (case aB=>exact(gW HB.out))
        (case aF=>exact(fun k_ hk=>⟨Kd.fresh' (Kd.R_lt (gR gO.out)) k_ hk,Kd.fresh' (Kd.R_lt (gR jK.out)) k_ hk⟩))
        (case aO=>exact(gR jH.out))
        (case aS=>exact(bH (gW HB.out)))
        (case aL=>have:=Lm.out;omega)
        intro v141 w45 ho hb hg hat;rw [←Ln.out] at ho;have bX:=aM (Kd.R_after (ok:=(fun k_=>some k_≠(.slice Lo t135.length Lp:Value).ownBlock)) (by(with_reducible repeat(first|apply aA|apply aB|apply aC));exact Kd.R_mono gO.out (fun _ hk=>⟨hk.2,hk.1⟩)) hg hat);have bY:=aM (Kd.R_over' (gR dH.out) (Kd.R_typed (gR jH.out)) (by decide) hg);have cC:=aM (blk_grown (gB cI.out) hg (Kd.R_ne jH.out cI.out (by decide)));have cD:=aM (blk_grown (gB dF.out) hg (Kd.R_ne jH.out dF.out (by decide)));have cL:=aM (Kd.R_over' (gR jJ.out) (Kd.R_typed (gR jH.out)) (by decide) hg);have cS:=aM (Kd.R_after (ok:=(fun k_=>some k_≠(.slice (some rV) y127.length kH:Value).ownBlock)) (by(with_reducible repeat(first|apply aA|apply aB|apply aC));exact Kd.R_mono jK.out (fun _ hk=>⟨hk.2,hk.1⟩)) hg hat);have dB:=aM (blk_grown (gB gY.out) hg (Kd.R_ne jH.out gY.out (by decide)));have dL:=aM (hb);have dX:=aM (ho);clear gO dH cI dF jJ jK gY HB jH;have gO:=bX;have dH:=bY;have cI:=cC;have dF:=cD;have jJ:=cL;have jK:=cS;have gY:=dB;have HB:=dL;have Lr:=dX;clear bX bY cC cD cL cS dB dL dX ho hb hg hat;refine hK.out _ _ ⟨(aG gY.out 0).trans rfl,(aG gY.out 1).trans rfl⟩ (fun hHeld=>?_)
        clear hK K;refine norm_ (a':=?_) ?_ ?_
        rotate_left
        ·show Act.put _ (some 57) _=_
         simp only [pq];rfl
        refine one_ (i:=4) (N:=none) #[true,true,true,true,true,false] rfl rfl (by kernel_rfl) (by decide) (fun K hK=>?_)
        have hs47:w45.cell? ⟨eL,0,none⟩=some (.slice kJ eM.length kK):=(aG dF.out 0).trans rfl;have hfs47:=aH dF.out 0;have hns47_0:=iN.out;have hns47_2:=jB.out;have hms47_0:=kE.out;have hms47_2:=jW.out;have hs48:w45.cell? ⟨eL,1,none⟩=some (.bool eN):=(aG dF.out 1).trans rfl;have hfs48:=aH dF.out 1;have hns48_0:=iN.out;have hns48_2:=jB.out;have hms48_0:=kE.out;have hms48_2:=jW.out;refine skip_ (w1:=?_) (by rfl) rfl ?_ ?_
        rotate_left
        ·go_simp
         rfl
        refine hK.out _ _ ⟨((cell_far (p:=⟨eL,_,none⟩) jB.out _).trans (((cell_far (p:=⟨eL,_,none⟩) jB.out _).trans (hHeld.1)))),((cell_far (p:=⟨eL,_,none⟩) jB.out _).trans (((cell_far (p:=⟨eL,_,none⟩) jB.out _).trans (hHeld.2))))⟩ (fun hHeld=>?_)
        clear hK K;refine pure_ (i:=5) (N:=some 6) (v:=?_) (a':=?_) #[true,true,true,true,true,true] rfl rfl (by kernel_rfl) (fun _ _ _ h=>h) (Or.inl ⟨by rfl,?_⟩) ?_ ?_
        rotate_left;(intro w';go_simp;with_reducible rfl);rotate_left;(simp only [pq];rfl)
        refine done_ (by kernel_rfl) ?_
        try go_wp2
        go_roundg El
        case measure=>have:=HK1.out;have:=HJ24.out;omega
        case rel=>exact⟨(y140),(wrap64 (gD+1)),(t131),(t134),(.slice eD t131.length eE),(by first|rfl|(simp;done)|(simp [*];done)),H',⟨by have:=HK1.out;have:=HJ24.out;omega⟩,⟨by(with_reducible repeat(first|apply aA|apply aB|apply aC));exact Kd.R_mono (aE (p:=⟨eL,1,none⟩) (aE (p:=⟨eL,0,none⟩) (Kd.R_types Lr.out dF.out (by decide)) (fun _ hk=>hk.2) (.slice eD t131.length eE)) (fun _ hk=>hk.2) (.bool t134)) (fun _ hk=>hk.1.1)⟩,⟨by(with_reducible repeat(first|apply aA|apply aB|apply aC));exact Kd.R_mono (aE (p:=⟨eL,1,none⟩) (aE (p:=⟨eL,0,none⟩) (Kd.R_types gO.out dF.out (by decide)) (fun _ hk=>hk.2) (.slice eD t131.length eE)) (fun _ hk=>hk.2) (.bool t134)) (fun _ hk=>hk.1.2)⟩,⟨by(with_reducible repeat(first|apply aA|apply aB|apply aC));exact Kd.R_mono (aE (p:=⟨eL,1,none⟩) (aE (p:=⟨eL,0,none⟩) (Kd.R_types jJ.out dF.out (by decide)) (fun _ hk=>hk.2) (.slice eD t131.length eE)) (fun _ hk=>hk.2) (.bool t134)) (fun _ hk=>trivial)⟩,⟨by(with_reducible repeat(first|refine aJ ?_ _|refine aK ?_|refine aI ?_ _));refine blk_far ?_ iN.out _;(with_reducible repeat(first|refine aJ ?_ _|refine aK ?_|refine aI ?_ _));refine blk_far ?_ iN.out _;(with_reducible repeat(first|refine aJ ?_ _|refine aK ?_|refine aI ?_ _));exact cI.out⟩,⟨by(with_reducible repeat(first|refine aJ ?_ _|refine aK ?_|refine aI ?_ _));refine blk_put (cs:=#[.slice eD t131.length eE,.bool eN]) ?_ 1 _ rfl;(with_reducible repeat(first|refine aJ ?_ _|refine aK ?_|refine aI ?_ _));refine blk_put (cs:=#[.slice kJ eM.length kK,.bool eN]) ?_ 0 _ rfl;(with_reducible repeat(first|refine aJ ?_ _|refine aK ?_|refine aI ?_ _));exact dF.out⟩,⟨by repeat(first|(with_reducible first|exact HB.out|apply aN|apply aP|apply aO|refine aL ?_ yF.out|refine aL ?_ yG.out|refine aL ?_ yH.out)|exact HB.out)⟩⟩
       ·rw [if_neg c31] at H
        have zO:(t138==0)=false:=beq_eq_false_iff_ne.mpr c31;have zP:(t138 !=0)=true:=bne_iff_ne.mpr c31;simp only [Option.some.injEq,Prod.mk.injEq] at H;obtain⟨rfl,rfl,rfl⟩:=H;have hnb49:=iN.out;have hnc49:=kE.out;have uF:wc.cell? ⟨eH,0,none⟩=some (.slice cA aW.length cB):=(aG cI.out 0).trans rfl;have uG:wc.cell? ⟨eH,1,none⟩=some (.slice cE aX.length cF):=(aG cI.out 1).trans rfl;have Qc:wc.cell? ⟨eH,2,none⟩=some (.int .i64 bM):=(aG cI.out 2).trans rfl;have Qd:wc.cell? ⟨eH,3,none⟩=some (.int .i64 bO):=(aG cI.out 3).trans rfl;have Qe:wc.cell? ⟨eH,4,none⟩=some (.slice cK aV.length cG):=(aG cI.out 4).trans rfl;have uH:=aH cI.out 0;have uI:=aH cI.out 1;have Qf:=aH cI.out 2;have Qg:=aH cI.out 3;have Qh:=aH cI.out 4;have Qi:wc.cell? ⟨eL,0,none⟩=some (u121000):=(aG dF.out 0).trans rfl;have Qj:wc.cell? ⟨eL,1,none⟩=some (.bool eN):=(aG dF.out 1).trans rfl;have Qk:=aH dF.out 0;have Ql:=aH dF.out 1;obtain⟨Hg,Hh,Sg⟩:=Kd.R_slice dH.out;subst Sg
        go_wp2_with (first|((with_reducible refine bI (f:=23) rfl ?_);refine goesL_ (some 46) rfl rfl Try.func23 (by kernel_rfl) rfl #[.agg #[.slice cA aW.length cB,.slice cE aX.length cF,.int .i64 bM,.int .i64 bO,.slice cK aV.length cG],.slice A1 l1.length c1,.agg #[.slice Hg eM.length Hh,.bool eN],.int .i64 (rd y127 gD)] rfl (by(try simp only [List.map_toArray,List.map_cons,List.map_nil]);first|done|rfl|(simp only [List.length_drop,List.length_take];rfl)) ?_;(with_reducible refine(machine_Feed.calls _ _ aW _ _ aX bM bO _ _ aV _ _ l1 _ _ eM eN (rd y127 gD) t131 t134 t135 t138 _ ?side1 ?side2 ?side3 ?side4 ?side5 ?side6 ?side7 ?side8 ?side9 ?side10 A30.out).mono ?_);(case side1=>exact gC (bD gP.out HB.out));(case side2=>exact iA.out);(case side3=>exact gC (bD iE.out HB.out));(case side4=>exact iF.out);(case side5=>exact gC (bD gI.out HB.out));(case side6=>exact iG.out);(case side7=>exact gC (bD HR1.out HB.out));(case side8=>exact HC1.out);(case side9=>exact gC (aF dH.out).2.2);(case side10=>exact(aF dH.out).2.1);rintro e w53 ⟨v132,v136,rfl,ho0,ho1,hb⟩;refine⟨_,rfl,?_⟩;have bX:=aM (bE (gR jH.out) (Kd.R_base ho1) hb);have bY:=aM (bE (gR gO.out) (Kd.R_base ho1) hb);have cC:=aM (bE (gR dH.out) (Kd.R_base ho0) hb);have cD:=aM (bL (Kd.R_new' ho0 (Kd.R_lt (gR dH.out))) (bH (gW HB.out)));have cL:=aM (bL (Kd.R_new' (Kd.R_new' ho1 (Kd.R_lt (gR jH.out))) (Kd.R_lt (gR gO.out))) (bH (gW HB.out)));have cS:=aM (bF (gB cI.out) hb);have dB:=aM (bF (gB dF.out) hb);have dL:=aM (bG (gW HB.out) hb);clear jH;clear gO;clear dH;clear cI;clear dF;clear HB;have jH:=bX;have gO:=bY;have dH:=cC;have jJ:=cD;have jK:=cL;have cI:=cS;have dF:=dB;have HB:=dL;clear bX bY cC cD cL cS dB dL;(try clear hb);(try clear hb2);(try clear hk);(try clear hi);(try clear ho0);(try clear ho1))|((with_reducible refine bJ (N:=12) rfl ?_);(try(refine gate_guard (by rfl) ?_;dsimp only));refine box_event ?hg (N:=12) ?hd (cs:=#[.slice none 0 0,.bool false]) (t:=31) ?hr ?_;(case hd=>rfl);(case hg=>rfl);(case hr=>first|(go_simp;done)|(go_simp;rfl));intro eI hg w54 hbox hb;have bX:=aM (aD (gR jH.out) hb);have bY:=aM (aD (gR gO.out) hb);have cC:=aM (aD (gR dH.out) hb);have cD:=aM (aD (gR jJ.out) hb);have cL:=aM (aD (gR jK.out) hb);have cS:=aM (bF (gB cI.out) hb);have dB:=aM (bF (gB dF.out) hb);have dL:=aM (bG (gW HB.out) hb);have dX:=aM (hbox);have fH:=aM ((by rw [hg];exact(bH (gW HB.out)):w.heap.size≤eI));have dT:=aM ((by rw [hg];exact(bH (gW HB.out)):w.heap.size≤eI));have eC:=aM ((by rw [hg];exact Nat.ne_of_lt (bN (g:=eH) (o:= .cells #[.slice cA aW.length cB,.slice cE aX.length cF,.int .i64 bM,.int .i64 bO,.slice cK aV.length cG] 26 (0,0)) (gB cI.out)):eH≠eI));have eV:=aM ((by rw [hg];exact Nat.ne_of_gt (bN (g:=eH) (o:= .cells #[.slice cA aW.length cB,.slice cE aX.length cF,.int .i64 bM,.int .i64 bO,.slice cK aV.length cG] 26 (0,0)) (gB cI.out)):eI≠eH));have fI:=aM ((by rw [hg];exact Nat.ne_of_lt (bN (g:=eL) (o:= .cells #[.slice Hg eM.length Hh,.bool eN] 31 (0,0)) (gB dF.out)):eL≠eI));have gU:=aM ((by rw [hg];exact Nat.ne_of_gt (bN (g:=eL) (o:= .cells #[.slice Hg eM.length Hh,.bool eN] 31 (0,0)) (gB dF.out)):eI≠eL));clear jH;clear gO;clear dH;clear jJ;clear jK;clear cI;clear dF;clear HB;have jH:=bX;have gO:=bY;have dH:=cC;have jJ:=cD;have jK:=cL;have cI:=cS;have dF:=dB;have HB:=dL;have gY:=dX;have GW139:=fH;have yH:=dT;have lH:=eC;have pT:=eV;have jW:=fI;have jB:=gU;clear bX bY cC cD cL cS dB dL dX fH dT eC eV fI gU;clear hb hbox hg;obtain⟨Uh,Ui,Sh⟩:=Kd.R_slice jJ.out;subst Sh;have hnb56:=pT.out;have hnc56:=lH.out;have hnb57:=jB.out;have hnc57:=jW.out;have Qm:w54.cell? ⟨eI,0,none⟩=some (.slice none 0 0):=(aG gY.out 0).trans rfl;have Qn:w54.cell? ⟨eI,1,none⟩=some (.bool false):=(aG gY.out 1).trans rfl;have Qo:=aH gY.out 0;have Qp:=aH gY.out 1))
        go_ret3
        exact⟨_,by first|rfl|(simp [errW_none,errW_some]<;>rfl)|(simp [*,errW_none,errW_some]<;>rfl),by first|exact Kd.R_nil _ _ _ _ _|exact Kd.N_nil _ _ _ _ _|exact Kd.V_nil _ _ _ _ _|exact Kd.Q_nil _ _ _ _ _|exact Kd.S_nil _ _ _ _ _,by repeat(first|(with_reducible first|exact HB.out|apply aN|apply aP|apply aO|refine aL ?_ yF.out|refine aL ?_ yG.out|refine aL ?_ yH.out)|exact HB.out)⟩
   ·rw [if_neg c22] at H
    have zL:decide (gD<(y127.length:Int))=false:=decide_eq_false c22;clear c22;simp only [Option.some.injEq,Prod.mk.injEq] at H;obtain⟨rfl,rfl,rfl⟩:=H;go_wp2
    go_ret3
    exact⟨_,by first|rfl|(simp [errW_none,errW_some]<;>rfl)|(simp [*,errW_none,errW_some]<;>rfl),by(with_reducible repeat(first|apply aA|apply aB|apply aC));exact Kd.R_mono jH.out (fun _ hk=>trivial),gW HB.out⟩
end Go.Proofs.Ytapjfnfengefpaa.P
end
