/- Packed texts of this claim: the walks of the functions, and their plain laws; see the claim's last text. -/
import Derived.Deep.RegionHeld3
import Derived.WalkSpells
import Derived.Outline
import Derived.BigQuiet
import Derived.Deep.Cut
import Derived.Test.YtapjfnfengefpaaKMachineClear2
section
namespace Go.Proofs.Ytapjfnfengefpaa.P
open Go.RowKit Go.Proofs.YtapjfnfengefpaaW.PrintWords Go.Proofs.YtapjfnfengefpaaW.PrintLast Go.Proofs.YtapjfnfengefpaaW.PrintMore
attribute [local go_sem] max2_int min2_int max_two min_two max_three min_three max_four min_four   -- for this text's walks alone
set_option linter.unusedVariables false
set_option linter.unusedSimpArgs false
mutual
def regletref13_Right.l0:Nat→Int→List ByteArray→List (S72)→Int→Int→List (S35)→Option (Bool)
 |0,_,_,_,_,_,_=>none
 |k+1,x3,x209000,x209001,x209002,x209003,x209004=>if x3<(x209004.length:Int) then(if 0≤x3 then(if((rd_T35 x209004 x3).f0)<0 then(regletref13_Right.j1 k x3 true x209000 x209001 x209002 x209003 x209004 ((rd_T35 x209004 x3).f0) ((rd_T35 x209004 x3).f1)) else(regletref13_Right.j1 k x3 (decide (((rd_T35 x209004 x3).f0)≥(x209000.length:Int))) x209000 x209001 x209002 x209003 x209004 ((rd_T35 x209004 x3).f0) ((rd_T35 x209004 x3).f1))) else(none)) else(some true)
def regletref13_Right.j1:Nat→Int→Bool→List ByteArray→List (S72)→Int→Int→List (S35)→Int→List (S43)→Option (Bool)
 |0,_,_,_,_,_,_,_,_,_=>none
 |k+1,x3,x29,x209000,x209001,x209002,x209003,x209004,x211000,x211001=>if x29=true then(some false) else(regletref13_Right.l1 k x3 0 x209000 x209001 x209002 x209003 x209004 x211000 x211001)
def regletref13_Right.l1:Nat→Int→Int→List ByteArray→List (S72)→Int→Int→List (S35)→Int→List (S43)→Option (Bool)
 |0,_,_,_,_,_,_,_,_,_=>none
 |k+1,x3,x5,x209000,x209001,x209002,x209003,x209004,x211000,x211001=>if x5<(x211001.length:Int) then(if 0≤x5 then(if(rd_T43 x211001 x5).f0=true then(if((rd_T43 x211001 x5).f1)<0 then(some false) else(if((rd_T43 x211001 x5).f1)≥(x209001.length:Int) then(some false) else(regletref13_Right.l1 k x3 (wrap64 (x5+1)) x209000 x209001 x209002 x209003 x209004 x211000 x211001))) else(if((rd_T43 x211001 x5).f1)<0 then(some false) else(if((rd_T43 x211001 x5).f1)≥(x209000.length:Int) then(some false) else(regletref13_Right.l1 k x3 (wrap64 (x5+1)) x209000 x209001 x209002 x209003 x209004 x211000 x211001)))) else(none)) else(regletref13_Right.l0 k (wrap64 (x3+1)) x209000 x209001 x209002 x209003 x209004)
end
def regletref13_Right.f (k:Nat) (aU:List ByteArray) (aX:List (S72)) (bA:Int) (bB:Int) (aQ:List (S35)):Option (Bool):=regletref13_Right.l0 k 0 aU aX bA bB aQ
set_option maxHeartbeats 8000000 in
set_option maxRecDepth 100000 in
theorem regletref13_Right.calls (k:Nat) (bM:Option Addr) (bO:Nat) (aU:List ByteArray) (bQ:Option Addr) (bR:Nat) (aX:List (S72)) (bA:Int) (bB:Int) (bV:Option Addr) (bS:Nat) (aQ:List (S35)) (r:Bool) (w:World) (dX:Kd.C Kd.string w bM aU.length aU) (eE:aU.length≤bO) (eF:Kd.C k72 w bQ aX.length aX) (eG:aX.length≤bR) (dZ:Kd.C k35 w bV aQ.length aQ) (eM:aQ.length≤bS) (h:regletref13_Right.f k aU aX bA bB aQ=some r):
 Calls Try.prog 30 #[.agg #[.slice bM aU.length bO,.slice bQ aX.length bR,.int .i64 bA,.int .i64 bB,.slice bV aQ.length bS]] w fun e w'=>e= .returned (.bool r)∧Below w.heap.size w w':=by
 have hu26:=Try.underlying26;have hu35:=Try.underlying35;have fN:=aM dX;have fS:=aM eE;clear dX eE;have gA:=aM eF;have gD:=aM eG;clear eF eG;have eJ:=aM dZ;have gE:=aM eM;clear dZ eM;have HB:=aM (Below.refl w.heap.size w);have H:(regletref13_Right.l0 k 0 aU aX bA bB aQ)=some r:=h;clear h;have H':=aM H;clear H;go_enter Try.func30,Try.ntmps30
 go_wp2_with (first|((with_reducible refine bJ (N:=1) rfl ?_);(try(refine gate_guard (by rfl) ?_;dsimp only));refine box_event ?hg (N:=1) ?hd (cs:=#[.slice bM aU.length bO,.slice bQ aX.length bR,.int .i64 bA,.int .i64 bB,.slice bV aQ.length bS]) (t:=26) ?hr ?_;(case hd=>rfl);(case hg=>rfl);(case hr=>first|(go_simp;done)|(go_simp;rfl));intro eU hg w2 hbox hb;have cE:=aM (bG (gW HB.out) hb);have cF:=aM (hbox);have cH:=aM ((by rw [hg];exact(bH (gW HB.out)):w.heap.size≤eU));have cM:=aM ((by rw [hg];exact(bH (gW HB.out)):w.heap.size≤eU));clear HB;have HB:=cE;have cU:=cF;have GW208:=cH;have Xl:=cM;clear cE cF cH cM;clear hb hbox hg))
 go_loopg [3] k (fun kq v3 w'=>∃(dF:Int),v3= .int .i64 dF∧Aside0 (regletref13_Right.l0 kq dF aU aX bA bB aQ=some r)∧Aside0 (kq≤k)∧Aside0 (w'.heap[eU]?=some (.cells #[(.slice bM aU.length bO),(.slice bQ aX.length bR),.int .i64 bA,.int .i64 bB,(.slice bV aQ.length bS)] 26 (0,0)))∧Aside0 (Below w.heap.size w w'))
 case atStart=>exact⟨(0),(by first|rfl|(simp;done)|(simp [*];done)),H',⟨Nat.le_refl _⟩,⟨gB cU.out⟩,⟨gW HB.out⟩⟩
 case round=>
  clear H'
  (try clear p2)
  obtain⟨dF,rfl,HA,HK1,cU,HB⟩:=hrel
  cases gk with
  |zero=>exact absurd HA.out (by simp [regletref13_Right.l0])
  |succ k1=>
   have H:=HA.out;clear HA;simp only [regletref13_Right.l0] at H
   by_cases c3:dF<(aQ.length:Int)
   ·rw [if_pos c3] at H
    have uM:decide (dF<(aQ.length:Int))=true:=decide_eq_true c3;clear c3
    by_cases c4:0≤dF
    rotate_left
    ·rw [if_neg c4] at H
     exact absurd H (by simp)
    rw [if_pos c4] at H;have Di:decide (0≤dF)=true:=decide_eq_true c4;clear c4;have HC5:=aM H;clear H;have sE:wr.cell? ⟨eU,0,none⟩=some (.slice bM aU.length bO):=(aG cU.out 0).trans rfl;have sF:wr.cell? ⟨eU,1,none⟩=some (.slice bQ aX.length bR):=(aG cU.out 1).trans rfl;have sG:wr.cell? ⟨eU,2,none⟩=some (.int .i64 bA):=(aG cU.out 2).trans rfl;have sH:wr.cell? ⟨eU,3,none⟩=some (.int .i64 bB):=(aG cU.out 3).trans rfl;have sI:wr.cell? ⟨eU,4,none⟩=some (.slice bV aQ.length bS):=(aG cU.out 4).trans rfl;have sJ:=aH cU.out 0;have sK:=aH cU.out 1;have sL:=aH cU.out 2;have sM:=aH cU.out 3;have sN:=aH cU.out 4;have p209:0≤(dF:Int):=of_decide_eq_true (by first|(with_reducible assumption)|assumption);have q209:dF<(aQ.length:Int):=of_decide_eq_true (by first|(with_reducible assumption)|assumption);obtain⟨sO,qS,qT,e209,uR,uS,Ko,Kp⟩:=at_T35 eJ.out dF p209 q209
    cases e209;replace uR:=(HB.out.cell (World.block_lt_of_cell? w _ uR)).trans uR;replace uS:=(HB.out.cell (World.block_lt_of_cell? w _ uS)).trans uS;have iZ:=aM Kp;have LE:=aM Ko;clear Kp Ko;replace p209:=eq_true p209;replace q209:=eq_true q209
    go_upto_region 5 with(first|((with_reducible refine bJ (N:=4) rfl ?_);(try(refine gate_guard (by rfl) ?_;dsimp only));refine box_event ?hg (N:=4) ?hd (cs:=#[.int .i64 0,.slice none 0 0]) (t:=35) ?hr ?_;(case hd=>rfl);(case hg=>rfl);(case hr=>first|(go_simp;done)|(go_simp;rfl));intro jF hg w7 hbox hb;have cE:=aM (bF (gB cU.out) hb);have cF:=aM (bG (gW HB.out) hb);have cH:=aM (hbox);have cM:=aM ((by rw [hg];exact(bH (gW HB.out)):w.heap.size≤jF));have dH:=aM ((by rw [hg];exact(bH (gW HB.out)):w.heap.size≤jF));have dN:=aM ((by rw [hg];exact Nat.ne_of_lt (bN (g:=eU) (o:= .cells #[.slice bM aU.length bO,.slice bQ aX.length bR,.int .i64 bA,.int .i64 bB,.slice (some sO) aQ.length bS] 26 (0,0)) (gB cU.out)):eU≠jF));have dY:=aM ((by rw [hg];exact Nat.ne_of_gt (bN (g:=eU) (o:= .cells #[.slice bM aU.length bO,.slice bQ aX.length bR,.int .i64 bA,.int .i64 bB,.slice (some sO) aQ.length bS] 26 (0,0)) (gB cU.out)):jF≠eU));clear cU;clear HB;have cU:=cE;have HB:=cF;have fJ:=cH;have GW210:=cM;have Xm:=dH;have gX:=dN;have jL:=dY;clear cE cF cH cM dH dN dY;clear hb hbox hg;have hnb8:=jL.out;have hnc8:=gX.out;have nW:w7.cell? ⟨jF,0,none⟩=some (.int .i64 0):=(aG fJ.out 0).trans rfl;have nX:w7.cell? ⟨jF,1,none⟩=some (.slice none 0 0):=(aG fJ.out 1).trans rfl;have nY:=aH fJ.out 0;have nZ:=aH fJ.out 1))
    (try simp only [Act.put,List.setIfInBounds_toArray,List.set_cons_zero,List.set_cons_succ])
    go_cut [29] (fun v29 wc=>∃(kq:Nat) (Kq:Bool),v29= .bool Kq∧Aside0 (regletref13_Right.j1 kq dF Kq aU aX bA bB aQ ((rd_T35 aQ dF).f0) ((rd_T35 aQ dF).f1)=some r)∧Aside0 (kq≤k1)∧Aside0 (wc.heap[eU]?=some (.cells #[(.slice bM aU.length bO),(.slice bQ aX.length bR),.int .i64 bA,.int .i64 bB,(.slice (some sO) aQ.length bS)] 26 (0,0)))∧Aside0 (wc.heap[jF]?=some (.cells #[.int .i64 ((rd_T35 aQ dF).f0),(.slice qS ((rd_T35 aQ dF).f1).length qT)] 35 (0,0)))∧Aside0 (Below w.heap.size w wc))
    case first=>
     have H:=HC5.out;clear HC5
     by_cases c10:((rd_T35 aQ dF).f0)<0
     ·rw [if_pos c10] at H
      have pS:decide (((rd_T35 aQ dF).f0)<0)=true:=decide_eq_true c10;clear c10
      (first|rw [pS]|(simp only [i64_w,i32_w];rw [pS])|skip)
      have H':=aM H;clear H;have hnb11:=jL.out;have hnc11:=gX.out;have mU:w7.cell? ⟨jF,0,none⟩=some (.int .i64 0):=(aG fJ.out 0).trans rfl;have mV:w7.cell? ⟨jF,1,none⟩=some (.slice none 0 0):=(aG fJ.out 1).trans rfl;have mW:=aH fJ.out 0;have mX:=aH fJ.out 1;go_wp2
      go_meet
      case rel=>exact⟨_,(true),(by first|rfl|(simp;done)|(simp [*];done)),H',⟨by have:=HK1.out;first|omega|exact Nat.le_refl _⟩,⟨by(with_reducible repeat(first|refine aJ ?_ _|refine aK ?_|refine aI ?_ _));refine blk_far ?_ gX.out _;(with_reducible repeat(first|refine aJ ?_ _|refine aK ?_|refine aI ?_ _));refine blk_far ?_ gX.out _;(with_reducible repeat(first|refine aJ ?_ _|refine aK ?_|refine aI ?_ _));exact cU.out⟩,⟨by(with_reducible repeat(first|refine aJ ?_ _|refine aK ?_|refine aI ?_ _));refine blk_put (cs:=#[.int .i64 ((rd_T35 aQ dF).f0),.slice none 0 0]) ?_ 1 _ rfl;(with_reducible repeat(first|refine aJ ?_ _|refine aK ?_|refine aI ?_ _));refine blk_put (cs:=#[.int .i64 0,.slice none 0 0]) ?_ 0 _ rfl;(with_reducible repeat(first|refine aJ ?_ _|refine aK ?_|refine aI ?_ _));exact fJ.out⟩,⟨by repeat(first|(with_reducible first|exact HB.out|apply aN|apply aP|apply aO|refine aL ?_ Xl.out|refine aL ?_ Xm.out)|exact HB.out)⟩⟩
     ·rw [if_neg c10] at H
      have pS:decide (((rd_T35 aQ dF).f0)<0)=false:=decide_eq_false c10;clear c10
      (first|rw [pS]|(simp only [i64_w,i32_w];rw [pS])|skip)
      have H':=aM H;clear H;have hnb13:=jL.out;have hnc13:=gX.out;have kW:w7.cell? ⟨jF,0,none⟩=some (.int .i64 0):=(aG fJ.out 0).trans rfl;have kX:w7.cell? ⟨jF,1,none⟩=some (.slice none 0 0):=(aG fJ.out 1).trans rfl;have kY:=aH fJ.out 0;have kZ:=aH fJ.out 1;have Kr:w7.cell? ⟨eU,0,none⟩=some (.slice bM aU.length bO):=(aG cU.out 0).trans rfl;have Ks:w7.cell? ⟨eU,1,none⟩=some (.slice bQ aX.length bR):=(aG cU.out 1).trans rfl;have Kt:w7.cell? ⟨eU,2,none⟩=some (.int .i64 bA):=(aG cU.out 2).trans rfl;have Ku:w7.cell? ⟨eU,3,none⟩=some (.int .i64 bB):=(aG cU.out 3).trans rfl;have Kv:w7.cell? ⟨eU,4,none⟩=some (.slice (some sO) aQ.length bS):=(aG cU.out 4).trans rfl;have Kw:=aH cU.out 0;have Kx:=aH cU.out 1;have Ky:=aH cU.out 2;have Kz:=aH cU.out 3;have La:=aH cU.out 4;go_wp2
      go_meet
      case rel=>exact⟨_,(decide (((rd_T35 aQ dF).f0)≥(aU.length:Int))),(by first|rfl|(simp;done)|(simp [*];done)),H',⟨by have:=HK1.out;first|omega|exact Nat.le_refl _⟩,⟨by(with_reducible repeat(first|refine aJ ?_ _|refine aK ?_|refine aI ?_ _));refine blk_far ?_ gX.out _;(with_reducible repeat(first|refine aJ ?_ _|refine aK ?_|refine aI ?_ _));refine blk_far ?_ gX.out _;(with_reducible repeat(first|refine aJ ?_ _|refine aK ?_|refine aI ?_ _));exact cU.out⟩,⟨by(with_reducible repeat(first|refine aJ ?_ _|refine aK ?_|refine aI ?_ _));refine blk_put (cs:=#[.int .i64 ((rd_T35 aQ dF).f0),.slice none 0 0]) ?_ 1 _ rfl;(with_reducible repeat(first|refine aJ ?_ _|refine aK ?_|refine aI ?_ _));refine blk_put (cs:=#[.int .i64 0,.slice none 0 0]) ?_ 0 _ rfl;(with_reducible repeat(first|refine aJ ?_ _|refine aK ?_|refine aI ?_ _));exact fJ.out⟩,⟨by repeat(first|(with_reducible first|exact HB.out|apply aN|apply aP|apply aO|refine aL ?_ Xl.out|refine aL ?_ Xm.out)|exact HB.out)⟩⟩
    case rest=>
     clear HC5
     (try clear c1);(try clear c2);(try clear p2);(try clear q2);(try clear hx2);(try clear c3);(try clear uM);(try clear c4);(try clear Di);(try clear c8);(try clear c10);(try clear pS);(try clear c11);(try clear c13);(try clear mU);(try clear mV);(try clear kW);(try clear kX);(try clear Kr);(try clear Ks);(try clear Kt);(try clear Ku);(try clear Kv)
     (try clear sE);(try clear sF);(try clear sG);(try clear sH);(try clear sI);(try clear nW);(try clear nX);(try clear mW);(try clear mX);(try clear kY);(try clear kZ);(try clear Kw);(try clear Kx);(try clear Ky);(try clear Kz);(try clear La);(try clear sJ);(try clear sK);(try clear sL);(try clear sM);(try clear sN)
     (try clear nY);(try clear nZ);(try clear uR);(try clear uS);(try clear p2);(try clear p209);(try clear q209)
     obtain⟨kq,Kq,rfl,HA,HJ4,cU,fJ,HB⟩:=hcut
     cases kq with
     |zero=>exact absurd HA.out (by simp [regletref13_Right.j1])
     |succ Rt=>
      have H:=HA.out;clear HA;simp only [regletref13_Right.j1] at H
      by_cases c16:Kq=true
      ·subst c16
       have H1:(some false)=some r:=by rw [if_pos rfl] at H;exact H
       clear H;have H:=H1;clear H1;obtain rfl:=Option.some.inj H;go_wp2
       go_ret
       exact⟨by first|rfl|(simp [errW_none,errW_some]<;>rfl)|(simp [*,errW_none,errW_some]<;>rfl),gW HB.out⟩
      ·replace c16:=Bool.eq_false_iff.mpr c16
       subst c16;have H1:(regletref13_Right.l1 Rt dF 0 aU aX bA bB aQ ((rd_T35 aQ dF).f0) ((rd_T35 aQ dF).f1))=some r:=by rw [if_neg (show ¬(false=true) by decide)] at H;exact H
       clear H;have H:=H1;clear H1;have H':=aM H;clear H;go_wp2
       go_loopg [5] Rt (fun kq v5 w'=>∃(eR:Int),v5= .int .i64 eR∧Aside0 (regletref13_Right.l1 kq dF eR aU aX bA bB aQ ((rd_T35 aQ dF).f0) ((rd_T35 aQ dF).f1)=some r)∧Aside0 (kq≤Rt)∧Aside0 (w'.heap[eU]?=some (.cells #[(.slice bM aU.length bO),(.slice bQ aX.length bR),.int .i64 bA,.int .i64 bB,(.slice (some sO) aQ.length bS)] 26 (0,0)))∧Aside0 (w'.heap[jF]?=some (.cells #[.int .i64 ((rd_T35 aQ dF).f0),(.slice qS ((rd_T35 aQ dF).f1).length qT)] 35 (0,0)))∧Aside0 (Below w.heap.size w w'))
       case atStart=>exact⟨(0),(by first|rfl|(simp;done)|(simp [*];done)),H',⟨Nat.le_refl _⟩,⟨gB cU.out⟩,⟨gB fJ.out⟩,⟨gW HB.out⟩⟩
       case round=>
        clear H'
        (try clear c1);(try clear c2);(try clear p2);(try clear q2);(try clear hx2);(try clear c3);(try clear uM);(try clear c4);(try clear Di);(try clear c8);(try clear c10);(try clear pS);(try clear c11);(try clear c13);(try clear c16);(try clear mU);(try clear mV);(try clear kW);(try clear kX);(try clear Kr);(try clear Ks);(try clear Kt);(try clear Ku);(try clear Kv)
        (try clear sE);(try clear sF);(try clear sG);(try clear sH);(try clear sI);(try clear nW);(try clear nX);(try clear mW);(try clear mX);(try clear kY);(try clear kZ);(try clear Kw);(try clear Kx);(try clear Ky);(try clear Kz);(try clear La);(try clear sJ);(try clear sK);(try clear sL);(try clear sM);(try clear sN)
        (try clear nY);(try clear nZ);(try clear uR);(try clear uS);(try clear p2);(try clear p209);(try clear q2);(try clear q209)
        obtain⟨eR,rfl,HA,HK3,cU,fJ,HB⟩:=hrel
        cases gk with
        |zero=>exact absurd HA.out (by simp [regletref13_Right.l1])
        |succ k3=>
         have H:=HA.out;clear HA;simp only [regletref13_Right.l1] at H
         by_cases c17:eR<(((rd_T35 aQ dF).f1).length:Int)
         ·rw [if_pos c17] at H
          have mN:decide (eR<(((rd_T35 aQ dF).f1).length:Int))=true:=decide_eq_true c17;clear c17
          by_cases c18:0≤eR
          rotate_left
          ·rw [if_neg c18] at H
           exact absurd H (by simp)
          rw [if_pos c18] at H;have Kl:decide (0≤eR)=true:=decide_eq_true c18;clear c18;obtain⟨bq19,hbq19⟩:∃b_:Bool,b_=((rd_T43 ((rd_T35 aQ dF).f1) eR).f0):=⟨_,rfl⟩;replace H:(if bq19=true then(if((rd_T43 ((rd_T35 aQ dF).f1) eR).f1)<0 then(some false) else(if((rd_T43 ((rd_T35 aQ dF).f1) eR).f1)≥(aX.length:Int) then(some false) else(regletref13_Right.l1 k3 dF (wrap64 (eR+1)) aU aX bA bB aQ ((rd_T35 aQ dF).f0) ((rd_T35 aQ dF).f1)))) else(if((rd_T43 ((rd_T35 aQ dF).f1) eR).f1)<0 then(some false) else(if((rd_T43 ((rd_T35 aQ dF).f1) eR).f1)≥(aU.length:Int) then(some false) else(regletref13_Right.l1 k3 dF (wrap64 (eR+1)) aU aX bA bB aQ ((rd_T35 aQ dF).f0) ((rd_T35 aQ dF).f1)))))=some r:=by rw [←hbq19] at H;exact H
          have Nbq19:=aM hbq19;clear hbq19
          by_cases c20:bq19=true
          ·subst c20
           have H1:(if((rd_T43 ((rd_T35 aQ dF).f1) eR).f1)<0 then(some false) else(if((rd_T43 ((rd_T35 aQ dF).f1) eR).f1)≥(aX.length:Int) then(some false) else(regletref13_Right.l1 k3 dF (wrap64 (eR+1)) aU aX bA bB aQ ((rd_T35 aQ dF).f0) ((rd_T35 aQ dF).f1))))=some r:=by rw [if_pos rfl] at H;exact H
           clear H;have H:=H1;clear H1
           by_cases c21:((rd_T43 ((rd_T35 aQ dF).f1) eR).f1)<0
           ·rw [if_pos c21] at H
            have Ov:decide (((rd_T43 ((rd_T35 aQ dF).f1) eR).f1)<0)=true:=decide_eq_true c21;clear c21;obtain rfl:=Option.some.inj H;have hnb22:=jL.out;have hnc22:=gX.out;have Ru:wr.cell? ⟨jF,0,none⟩=some (.int .i64 ((rd_T35 aQ dF).f0)):=(aG fJ.out 0).trans rfl;have Rv:wr.cell? ⟨jF,1,none⟩=some (.slice qS ((rd_T35 aQ dF).f1).length qT):=(aG fJ.out 1).trans rfl;have Rw:=aH fJ.out 0;have Rx:=aH fJ.out 1;have yZ:wr.cell? ⟨eU,0,none⟩=some (.slice bM aU.length bO):=(aG cU.out 0).trans rfl;have zA:wr.cell? ⟨eU,1,none⟩=some (.slice bQ aX.length bR):=(aG cU.out 1).trans rfl;have zB:wr.cell? ⟨eU,2,none⟩=some (.int .i64 bA):=(aG cU.out 2).trans rfl;have zC:wr.cell? ⟨eU,3,none⟩=some (.int .i64 bB):=(aG cU.out 3).trans rfl;have zD:wr.cell? ⟨eU,4,none⟩=some (.slice (some sO) aQ.length bS):=(aG cU.out 4).trans rfl;have zE:=aH cU.out 0;have zF:=aH cU.out 1;have zG:=aH cU.out 2;have zH:=aH cU.out 3;have zI:=aH cU.out 4;have p211:0≤(eR:Int):=of_decide_eq_true (by first|(with_reducible assumption)|assumption);have q211:eR<(((rd_T35 aQ dF).f1).length:Int):=of_decide_eq_true (by first|(with_reducible assumption)|assumption);obtain⟨oA,e211,fD,gI⟩:=at_T43 iZ.out eR p211 q211
            (try rw [←Nbq19.out] at fD)
            cases e211;replace fD:=(HB.out.cell (World.block_lt_of_cell? w _ fD)).trans fD;replace gI:=(HB.out.cell (World.block_lt_of_cell? w _ gI)).trans gI;replace p211:=eq_true p211;replace q211:=eq_true q211;have p212:0≤(eR:Int):=of_decide_eq_true (by first|(with_reducible assumption)|assumption);have q212:eR<(((rd_T35 aQ dF).f1).length:Int):=of_decide_eq_true (by first|(with_reducible assumption)|assumption);obtain⟨Hh,e212,jU,lR⟩:=at_T43 iZ.out eR p212 q212
            (try rw [←Nbq19.out] at jU)
            obtain rfl:oA=Hh:=(by injection e212);replace jU:=(HB.out.cell (World.block_lt_of_cell? w _ jU)).trans jU;replace lR:=(HB.out.cell (World.block_lt_of_cell? w _ lR)).trans lR;replace p212:=eq_true p212;replace q212:=eq_true q212;go_wp2
            go_ret
            exact⟨by first|rfl|(simp [errW_none,errW_some]<;>rfl)|(simp [*,errW_none,errW_some]<;>rfl),gW HB.out⟩
           ·rw [if_neg c21] at H
            have Ov:decide (((rd_T43 ((rd_T35 aQ dF).f1) eR).f1)<0)=false:=decide_eq_false c21;clear c21
            by_cases c25:((rd_T43 ((rd_T35 aQ dF).f1) eR).f1)≥(aX.length:Int)
            ·rw [if_pos c25] at H
             have Cy:decide ((aX.length:Int)≤((rd_T43 ((rd_T35 aQ dF).f1) eR).f1))=true:=decide_eq_true c25;clear c25;obtain rfl:=Option.some.inj H;have hnb26:=jL.out;have hnc26:=gX.out;have tD:wr.cell? ⟨jF,0,none⟩=some (.int .i64 ((rd_T35 aQ dF).f0)):=(aG fJ.out 0).trans rfl;have tE:wr.cell? ⟨jF,1,none⟩=some (.slice qS ((rd_T35 aQ dF).f1).length qT):=(aG fJ.out 1).trans rfl;have tF:=aH fJ.out 0;have tG:=aH fJ.out 1;have qU:wr.cell? ⟨eU,0,none⟩=some (.slice bM aU.length bO):=(aG cU.out 0).trans rfl;have qV:wr.cell? ⟨eU,1,none⟩=some (.slice bQ aX.length bR):=(aG cU.out 1).trans rfl;have Dj:wr.cell? ⟨eU,2,none⟩=some (.int .i64 bA):=(aG cU.out 2).trans rfl;have Dk:wr.cell? ⟨eU,3,none⟩=some (.int .i64 bB):=(aG cU.out 3).trans rfl;have Dl:wr.cell? ⟨eU,4,none⟩=some (.slice (some sO) aQ.length bS):=(aG cU.out 4).trans rfl;have qW:=aH cU.out 0;have qX:=aH cU.out 1;have Dm:=aH cU.out 2;have Dn:=aH cU.out 3;have Do:=aH cU.out 4;have p211:0≤(eR:Int):=of_decide_eq_true (by first|(with_reducible assumption)|assumption);have q211:eR<(((rd_T35 aQ dF).f1).length:Int):=of_decide_eq_true (by first|(with_reducible assumption)|assumption);obtain⟨oA,e211,fD,gI⟩:=at_T43 iZ.out eR p211 q211
             (try rw [←Nbq19.out] at fD)
             cases e211;replace fD:=(HB.out.cell (World.block_lt_of_cell? w _ fD)).trans fD;replace gI:=(HB.out.cell (World.block_lt_of_cell? w _ gI)).trans gI;replace p211:=eq_true p211;replace q211:=eq_true q211;have p212:0≤(eR:Int):=of_decide_eq_true (by first|(with_reducible assumption)|assumption);have q212:eR<(((rd_T35 aQ dF).f1).length:Int):=of_decide_eq_true (by first|(with_reducible assumption)|assumption);obtain⟨Hh,e212,jU,lR⟩:=at_T43 iZ.out eR p212 q212
             (try rw [←Nbq19.out] at jU)
             obtain rfl:oA=Hh:=(by injection e212);replace jU:=(HB.out.cell (World.block_lt_of_cell? w _ jU)).trans jU;replace lR:=(HB.out.cell (World.block_lt_of_cell? w _ lR)).trans lR;replace p212:=eq_true p212;replace q212:=eq_true q212;have p213:0≤(eR:Int):=of_decide_eq_true (by first|(with_reducible assumption)|assumption);have q213:eR<(((rd_T35 aQ dF).f1).length:Int):=of_decide_eq_true (by first|(with_reducible assumption)|assumption);obtain⟨Oy,e213,mY,qY⟩:=at_T43 iZ.out eR p213 q213
             (try rw [←Nbq19.out] at mY)
             obtain rfl:oA=Oy:=(by injection e213);replace mY:=(HB.out.cell (World.block_lt_of_cell? w _ mY)).trans mY;replace qY:=(HB.out.cell (World.block_lt_of_cell? w _ qY)).trans qY;replace p213:=eq_true p213;replace q213:=eq_true q213;go_wp2
             go_ret
             exact⟨by first|rfl|(simp [errW_none,errW_some]<;>rfl)|(simp [*,errW_none,errW_some]<;>rfl),gW HB.out⟩
            ·rw [if_neg c25] at H
             have Cy:decide ((aX.length:Int)≤((rd_T43 ((rd_T35 aQ dF).f1) eR).f1))=false:=decide_eq_false c25;clear c25;have H':=aM H;clear H;have hnb29:=jL.out;have hnc29:=gX.out;have zJ:wr.cell? ⟨jF,0,none⟩=some (.int .i64 ((rd_T35 aQ dF).f0)):=(aG fJ.out 0).trans rfl;have zK:wr.cell? ⟨jF,1,none⟩=some (.slice qS ((rd_T35 aQ dF).f1).length qT):=(aG fJ.out 1).trans rfl;have zL:=aH fJ.out 0;have zM:=aH fJ.out 1;have zN:wr.cell? ⟨eU,0,none⟩=some (.slice bM aU.length bO):=(aG cU.out 0).trans rfl;have zO:wr.cell? ⟨eU,1,none⟩=some (.slice bQ aX.length bR):=(aG cU.out 1).trans rfl;have Dp:wr.cell? ⟨eU,2,none⟩=some (.int .i64 bA):=(aG cU.out 2).trans rfl;have Dq:wr.cell? ⟨eU,3,none⟩=some (.int .i64 bB):=(aG cU.out 3).trans rfl;have Dr:wr.cell? ⟨eU,4,none⟩=some (.slice (some sO) aQ.length bS):=(aG cU.out 4).trans rfl;have zP:=aH cU.out 0;have zQ:=aH cU.out 1;have Ds:=aH cU.out 2;have Dt:=aH cU.out 3;have Du:=aH cU.out 4;have p211:0≤(eR:Int):=of_decide_eq_true (by first|(with_reducible assumption)|assumption);have q211:eR<(((rd_T35 aQ dF).f1).length:Int):=of_decide_eq_true (by first|(with_reducible assumption)|assumption);obtain⟨oA,e211,fD,gI⟩:=at_T43 iZ.out eR p211 q211
             (try rw [←Nbq19.out] at fD)
             cases e211;replace fD:=(HB.out.cell (World.block_lt_of_cell? w _ fD)).trans fD;replace gI:=(HB.out.cell (World.block_lt_of_cell? w _ gI)).trans gI;replace p211:=eq_true p211;replace q211:=eq_true q211;have p212:0≤(eR:Int):=of_decide_eq_true (by first|(with_reducible assumption)|assumption);have q212:eR<(((rd_T35 aQ dF).f1).length:Int):=of_decide_eq_true (by first|(with_reducible assumption)|assumption);obtain⟨Hh,e212,jU,lR⟩:=at_T43 iZ.out eR p212 q212
             (try rw [←Nbq19.out] at jU)
             obtain rfl:oA=Hh:=(by injection e212);replace jU:=(HB.out.cell (World.block_lt_of_cell? w _ jU)).trans jU;replace lR:=(HB.out.cell (World.block_lt_of_cell? w _ lR)).trans lR;replace p212:=eq_true p212;replace q212:=eq_true q212;have p213:0≤(eR:Int):=of_decide_eq_true (by first|(with_reducible assumption)|assumption);have q213:eR<(((rd_T35 aQ dF).f1).length:Int):=of_decide_eq_true (by first|(with_reducible assumption)|assumption);obtain⟨Oy,e213,mY,qY⟩:=at_T43 iZ.out eR p213 q213
             (try rw [←Nbq19.out] at mY)
             obtain rfl:oA=Oy:=(by injection e213);replace mY:=(HB.out.cell (World.block_lt_of_cell? w _ mY)).trans mY;replace qY:=(HB.out.cell (World.block_lt_of_cell? w _ qY)).trans qY;replace p213:=eq_true p213;replace q213:=eq_true q213;go_wp2
             go_roundg k3
             case measure=>have:=HK1.out;have:=HJ4.out;have:=HK3.out;omega
             case rel=>exact⟨(wrap64 (eR+1)),(by first|rfl|(simp;done)|(simp [*];done)),H',⟨by have:=HK1.out;have:=HJ4.out;have:=HK3.out;omega⟩,⟨gB cU.out⟩,⟨gB fJ.out⟩,⟨gW HB.out⟩⟩
          ·replace c20:=Bool.eq_false_iff.mpr c20
           subst c20;have H1:(if((rd_T43 ((rd_T35 aQ dF).f1) eR).f1)<0 then(some false) else(if((rd_T43 ((rd_T35 aQ dF).f1) eR).f1)≥(aU.length:Int) then(some false) else(regletref13_Right.l1 k3 dF (wrap64 (eR+1)) aU aX bA bB aQ ((rd_T35 aQ dF).f0) ((rd_T35 aQ dF).f1))))=some r:=by rw [if_neg (show ¬(false=true) by decide)] at H;exact H
           clear H;have H:=H1;clear H1
           by_cases c32:((rd_T43 ((rd_T35 aQ dF).f1) eR).f1)<0
           ·rw [if_pos c32] at H
            have DK:decide (((rd_T43 ((rd_T35 aQ dF).f1) eR).f1)<0)=true:=decide_eq_true c32;clear c32;obtain rfl:=Option.some.inj H;have hnb33:=jL.out;have hnc33:=gX.out;have qZ:wr.cell? ⟨jF,0,none⟩=some (.int .i64 ((rd_T35 aQ dF).f0)):=(aG fJ.out 0).trans rfl;have rA:wr.cell? ⟨jF,1,none⟩=some (.slice qS ((rd_T35 aQ dF).f1).length qT):=(aG fJ.out 1).trans rfl;have rB:=aH fJ.out 0;have rC:=aH fJ.out 1;have mZ:wr.cell? ⟨eU,0,none⟩=some (.slice bM aU.length bO):=(aG cU.out 0).trans rfl;have mK:wr.cell? ⟨eU,1,none⟩=some (.slice bQ aX.length bR):=(aG cU.out 1).trans rfl;have uT:wr.cell? ⟨eU,2,none⟩=some (.int .i64 bA):=(aG cU.out 2).trans rfl;have uU:wr.cell? ⟨eU,3,none⟩=some (.int .i64 bB):=(aG cU.out 3).trans rfl;have uV:wr.cell? ⟨eU,4,none⟩=some (.slice (some sO) aQ.length bS):=(aG cU.out 4).trans rfl;have nA:=aH cU.out 0;have nB:=aH cU.out 1;have uW:=aH cU.out 2;have uX:=aH cU.out 3;have uY:=aH cU.out 4;have p211:0≤(eR:Int):=of_decide_eq_true (by first|(with_reducible assumption)|assumption);have q211:eR<(((rd_T35 aQ dF).f1).length:Int):=of_decide_eq_true (by first|(with_reducible assumption)|assumption);obtain⟨oA,e211,fD,gI⟩:=at_T43 iZ.out eR p211 q211
            (try rw [←Nbq19.out] at fD)
            cases e211;replace fD:=(HB.out.cell (World.block_lt_of_cell? w _ fD)).trans fD;replace gI:=(HB.out.cell (World.block_lt_of_cell? w _ gI)).trans gI;replace p211:=eq_true p211;replace q211:=eq_true q211;have p214:0≤(eR:Int):=of_decide_eq_true (by first|(with_reducible assumption)|assumption);have q214:eR<(((rd_T35 aQ dF).f1).length:Int):=of_decide_eq_true (by first|(with_reducible assumption)|assumption);obtain⟨Hi,e214,jV,lS⟩:=at_T43 iZ.out eR p214 q214
            (try rw [←Nbq19.out] at jV)
            obtain rfl:oA=Hi:=(by injection e214);replace jV:=(HB.out.cell (World.block_lt_of_cell? w _ jV)).trans jV;replace lS:=(HB.out.cell (World.block_lt_of_cell? w _ lS)).trans lS;replace p214:=eq_true p214;replace q214:=eq_true q214;go_wp2
            go_ret
            exact⟨by first|rfl|(simp [errW_none,errW_some]<;>rfl)|(simp [*,errW_none,errW_some]<;>rfl),gW HB.out⟩
           ·rw [if_neg c32] at H
            have DK:decide (((rd_T43 ((rd_T35 aQ dF).f1) eR).f1)<0)=false:=decide_eq_false c32;clear c32
            by_cases c36:((rd_T43 ((rd_T35 aQ dF).f1) eR).f1)≥(aU.length:Int)
            ·rw [if_pos c36] at H
             have DL:decide ((aU.length:Int)≤((rd_T43 ((rd_T35 aQ dF).f1) eR).f1))=true:=decide_eq_true c36;clear c36;obtain rfl:=Option.some.inj H;have hnb37:=jL.out;have hnc37:=gX.out;have Ry:wr.cell? ⟨jF,0,none⟩=some (.int .i64 ((rd_T35 aQ dF).f0)):=(aG fJ.out 0).trans rfl;have Rz:wr.cell? ⟨jF,1,none⟩=some (.slice qS ((rd_T35 aQ dF).f1).length qT):=(aG fJ.out 1).trans rfl;have Sa:=aH fJ.out 0;have Sb:=aH fJ.out 1;have zR:wr.cell? ⟨eU,0,none⟩=some (.slice bM aU.length bO):=(aG cU.out 0).trans rfl;have zS:wr.cell? ⟨eU,1,none⟩=some (.slice bQ aX.length bR):=(aG cU.out 1).trans rfl;have Dv:wr.cell? ⟨eU,2,none⟩=some (.int .i64 bA):=(aG cU.out 2).trans rfl;have Dw:wr.cell? ⟨eU,3,none⟩=some (.int .i64 bB):=(aG cU.out 3).trans rfl;have Dx:wr.cell? ⟨eU,4,none⟩=some (.slice (some sO) aQ.length bS):=(aG cU.out 4).trans rfl;have zT:=aH cU.out 0;have zU:=aH cU.out 1;have Dy:=aH cU.out 2;have Dz:=aH cU.out 3;have Ea:=aH cU.out 4;have p211:0≤(eR:Int):=of_decide_eq_true (by first|(with_reducible assumption)|assumption);have q211:eR<(((rd_T35 aQ dF).f1).length:Int):=of_decide_eq_true (by first|(with_reducible assumption)|assumption);obtain⟨oA,e211,fD,gI⟩:=at_T43 iZ.out eR p211 q211
             (try rw [←Nbq19.out] at fD)
             cases e211;replace fD:=(HB.out.cell (World.block_lt_of_cell? w _ fD)).trans fD;replace gI:=(HB.out.cell (World.block_lt_of_cell? w _ gI)).trans gI;replace p211:=eq_true p211;replace q211:=eq_true q211;have p214:0≤(eR:Int):=of_decide_eq_true (by first|(with_reducible assumption)|assumption);have q214:eR<(((rd_T35 aQ dF).f1).length:Int):=of_decide_eq_true (by first|(with_reducible assumption)|assumption);obtain⟨Hi,e214,jV,lS⟩:=at_T43 iZ.out eR p214 q214
             (try rw [←Nbq19.out] at jV)
             obtain rfl:oA=Hi:=(by injection e214);replace jV:=(HB.out.cell (World.block_lt_of_cell? w _ jV)).trans jV;replace lS:=(HB.out.cell (World.block_lt_of_cell? w _ lS)).trans lS;replace p214:=eq_true p214;replace q214:=eq_true q214;have p215:0≤(eR:Int):=of_decide_eq_true (by first|(with_reducible assumption)|assumption);have q215:eR<(((rd_T35 aQ dF).f1).length:Int):=of_decide_eq_true (by first|(with_reducible assumption)|assumption);obtain⟨Oz,e215,nC,rD⟩:=at_T43 iZ.out eR p215 q215
             (try rw [←Nbq19.out] at nC)
             obtain rfl:oA=Oz:=(by injection e215);replace nC:=(HB.out.cell (World.block_lt_of_cell? w _ nC)).trans nC;replace rD:=(HB.out.cell (World.block_lt_of_cell? w _ rD)).trans rD;replace p215:=eq_true p215;replace q215:=eq_true q215;go_wp2
             go_ret
             exact⟨by first|rfl|(simp [errW_none,errW_some]<;>rfl)|(simp [*,errW_none,errW_some]<;>rfl),gW HB.out⟩
            ·rw [if_neg c36] at H
             have DL:decide ((aU.length:Int)≤((rd_T43 ((rd_T35 aQ dF).f1) eR).f1))=false:=decide_eq_false c36;clear c36;have H':=aM H;clear H;have hnb40:=jL.out;have hnc40:=gX.out;have zV:wr.cell? ⟨jF,0,none⟩=some (.int .i64 ((rd_T35 aQ dF).f0)):=(aG fJ.out 0).trans rfl;have zW:wr.cell? ⟨jF,1,none⟩=some (.slice qS ((rd_T35 aQ dF).f1).length qT):=(aG fJ.out 1).trans rfl;have zX:=aH fJ.out 0;have zY:=aH fJ.out 1;have Lb:wr.cell? ⟨eU,0,none⟩=some (.slice bM aU.length bO):=(aG cU.out 0).trans rfl;have Lc:wr.cell? ⟨eU,1,none⟩=some (.slice bQ aX.length bR):=(aG cU.out 1).trans rfl;have Sc:wr.cell? ⟨eU,2,none⟩=some (.int .i64 bA):=(aG cU.out 2).trans rfl;have Sd:wr.cell? ⟨eU,3,none⟩=some (.int .i64 bB):=(aG cU.out 3).trans rfl;have Se:wr.cell? ⟨eU,4,none⟩=some (.slice (some sO) aQ.length bS):=(aG cU.out 4).trans rfl;have Ld:=aH cU.out 0;have Le:=aH cU.out 1;have Sf:=aH cU.out 2;have Sg:=aH cU.out 3;have Si:=aH cU.out 4;have p211:0≤(eR:Int):=of_decide_eq_true (by first|(with_reducible assumption)|assumption);have q211:eR<(((rd_T35 aQ dF).f1).length:Int):=of_decide_eq_true (by first|(with_reducible assumption)|assumption);obtain⟨oA,e211,fD,gI⟩:=at_T43 iZ.out eR p211 q211
             (try rw [←Nbq19.out] at fD)
             cases e211;replace fD:=(HB.out.cell (World.block_lt_of_cell? w _ fD)).trans fD;replace gI:=(HB.out.cell (World.block_lt_of_cell? w _ gI)).trans gI;replace p211:=eq_true p211;replace q211:=eq_true q211;have p214:0≤(eR:Int):=of_decide_eq_true (by first|(with_reducible assumption)|assumption);have q214:eR<(((rd_T35 aQ dF).f1).length:Int):=of_decide_eq_true (by first|(with_reducible assumption)|assumption);obtain⟨Hi,e214,jV,lS⟩:=at_T43 iZ.out eR p214 q214
             (try rw [←Nbq19.out] at jV)
             obtain rfl:oA=Hi:=(by injection e214);replace jV:=(HB.out.cell (World.block_lt_of_cell? w _ jV)).trans jV;replace lS:=(HB.out.cell (World.block_lt_of_cell? w _ lS)).trans lS;replace p214:=eq_true p214;replace q214:=eq_true q214;have p215:0≤(eR:Int):=of_decide_eq_true (by first|(with_reducible assumption)|assumption);have q215:eR<(((rd_T35 aQ dF).f1).length:Int):=of_decide_eq_true (by first|(with_reducible assumption)|assumption);obtain⟨Oz,e215,nC,rD⟩:=at_T43 iZ.out eR p215 q215
             (try rw [←Nbq19.out] at nC)
             obtain rfl:oA=Oz:=(by injection e215);replace nC:=(HB.out.cell (World.block_lt_of_cell? w _ nC)).trans nC;replace rD:=(HB.out.cell (World.block_lt_of_cell? w _ rD)).trans rD;replace p215:=eq_true p215;replace q215:=eq_true q215;go_wp2
             go_roundg k3
             case measure=>have:=HK1.out;have:=HJ4.out;have:=HK3.out;omega
             case rel=>exact⟨(wrap64 (eR+1)),(by first|rfl|(simp;done)|(simp [*];done)),H',⟨by have:=HK1.out;have:=HJ4.out;have:=HK3.out;omega⟩,⟨gB cU.out⟩,⟨gB fJ.out⟩,⟨gW HB.out⟩⟩
         ·rw [if_neg c17] at H
          have mN:decide (eR<(((rd_T35 aQ dF).f1).length:Int))=false:=decide_eq_false c17;clear c17;have H':=aM H;clear H;have hnb43:=jL.out;have hnc43:=gX.out;have uZ:wr.cell? ⟨jF,0,none⟩=some (.int .i64 ((rd_T35 aQ dF).f0)):=(aG fJ.out 0).trans rfl;have tH:wr.cell? ⟨jF,1,none⟩=some (.slice qS ((rd_T35 aQ dF).f1).length qT):=(aG fJ.out 1).trans rfl;have vA:=aH fJ.out 0;have vB:=aH fJ.out 1;go_wp2
          go_roundg k3
          case measure=>have:=HK1.out;have:=HJ4.out;have:=HK3.out;omega
          case rel=>exact⟨(wrap64 (dF+1)),(by first|rfl|(simp;done)|(simp [*];done)),H',⟨by have:=HK1.out;have:=HJ4.out;have:=HK3.out;omega⟩,⟨gB cU.out⟩,⟨gW HB.out⟩⟩
   ·rw [if_neg c3] at H
    have uM:decide (dF<(aQ.length:Int))=false:=decide_eq_false c3;clear c3;obtain rfl:=Option.some.inj H;have Sj:wr.cell? ⟨eU,0,none⟩=some (.slice bM aU.length bO):=(aG cU.out 0).trans rfl;have Sk:wr.cell? ⟨eU,1,none⟩=some (.slice bQ aX.length bR):=(aG cU.out 1).trans rfl;have Sl:wr.cell? ⟨eU,2,none⟩=some (.int .i64 bA):=(aG cU.out 2).trans rfl;have Sm:wr.cell? ⟨eU,3,none⟩=some (.int .i64 bB):=(aG cU.out 3).trans rfl;have Sn:wr.cell? ⟨eU,4,none⟩=some (.slice bV aQ.length bS):=(aG cU.out 4).trans rfl;have So:=aH cU.out 0;have Sp:=aH cU.out 1;have Sq:=aH cU.out 2;have Sr:=aH cU.out 3;have Ss:=aH cU.out 4;go_wp2
    go_ret
    exact⟨by first|rfl|(simp [errW_none,errW_some]<;>rfl)|(simp [*,errW_none,errW_some]<;>rfl),gW HB.out⟩
attribute [local go_sem] max2_int min2_int max_two min_two max_three min_three max_four min_four   -- for this text's walks alone
set_option linter.unusedVariables false
set_option linter.unusedSimpArgs false
mutual
def regletref13_Empty.l0:Nat→List Bool→Bool→List ByteArray→List (S72)→Int→Int→List (S35)→Option (List Bool)
 |0,_,_,_,_,_,_,_=>none
 |k+1,x3,x4,x344000,x344001,x344002,x344003,x344004=>if x4=true then(regletref13_Empty.l1 k x3 false 0 x344000 x344001 x344002 x344003 x344004) else(some x3)
def regletref13_Empty.l1:Nat→List Bool→Bool→Int→List ByteArray→List (S72)→Int→Int→List (S35)→Option (List Bool)
 |0,_,_,_,_,_,_,_,_=>none
 |k+1,x3,x4,x5,x344000,x344001,x344002,x344003,x344004=>if x5<(x344004.length:Int) then(regletref13_Empty.l2 k x3 x4 x5 true 0 x344000 x344001 x344002 x344003 x344004) else(regletref13_Empty.l0 k x3 x4 x344000 x344001 x344002 x344003 x344004)
def regletref13_Empty.l2:Nat→List Bool→Bool→Int→Bool→Int→List ByteArray→List (S72)→Int→Int→List (S35)→Option (List Bool)
 |0,_,_,_,_,_,_,_,_,_,_=>none
 |k+1,x3,x4,x5,x6,x7,x344000,x344001,x344002,x344003,x344004=>if 0≤x5 then(if x5<(x344004.length:Int) then(if x7<(((rd_T35 x344004 x5).f1).length:Int) then(if 0≤x7 then(if x6=true then(if((rd_T43 ((rd_T35 x344004 x5).f1) x7).f0=true) then(regletref13_Empty.l2 k x3 x4 x5 false (wrap64 (x7+1)) x344000 x344001 x344002 x344003 x344004) else(if 0≤((rd_T43 ((rd_T35 x344004 x5).f1) x7).f1) then(if((rd_T43 ((rd_T35 x344004 x5).f1) x7).f1)<(x3.length:Int) then(regletref13_Empty.l2 k x3 x4 x5 (rdOf false x3 ((rd_T43 ((rd_T35 x344004 x5).f1) x7).f1)) (wrap64 (x7+1)) x344000 x344001 x344002 x344003 x344004) else(none)) else(none))) else(regletref13_Empty.l2 k x3 x4 x5 false (wrap64 (x7+1)) x344000 x344001 x344002 x344003 x344004)) else(none)) else(if x6=true then(if 0≤((rd_T35 x344004 x5).f0) then(if((rd_T35 x344004 x5).f0)<(x3.length:Int) then(if(rdOf false x3 ((rd_T35 x344004 x5).f0)=true) then(regletref13_Empty.l1 k x3 x4 (wrap64 (x5+1)) x344000 x344001 x344002 x344003 x344004) else(regletref13_Empty.l1 k (x3.set (((rd_T35 x344004 x5).f0):Int).toNat true) true (wrap64 (x5+1)) x344000 x344001 x344002 x344003 x344004)) else(none)) else(none)) else(regletref13_Empty.l1 k x3 x4 (wrap64 (x5+1)) x344000 x344001 x344002 x344003 x344004))) else(none)) else(none)
end
def regletref13_Empty.f (k:Nat) (aU:List ByteArray) (aX:List (S72)) (bA:Int) (bB:Int) (aQ:List (S35)):Option (List Bool):=(regletref13_Right.f k aU aX bA bB aQ).bind fun t344=>(if t344=true then(if 0≤(aU.length:Int) then(if((aU.length:Int):Int).toNat≤281474976710656 then(regletref13_Empty.l0 k (List.replicate ((aU.length:Int):Int).toNat false) true aU aX bA bB aQ) else(none)) else(none)) else(some ([]:List Bool)))
set_option maxHeartbeats 8000000 in
set_option maxRecDepth 100000 in
theorem regletref13_Empty.calls (k:Nat) (bM:Option Addr) (bO:Nat) (aU:List ByteArray) (bQ:Option Addr) (bR:Nat) (aX:List (S72)) (bA:Int) (bB:Int) (bV:Option Addr) (bS:Nat) (aQ:List (S35)) (r:List Bool) (w:World) (dX:Kd.C Kd.string w bM aU.length aU) (eE:aU.length≤bO) (eF:Kd.C k72 w bQ aX.length aX) (eG:aX.length≤bR) (dZ:Kd.C k35 w bV aQ.length aQ) (eM:aQ.length≤bS) (h:regletref13_Empty.f k aU aX bA bB aQ=some r):
 Calls Try.prog 45 #[.agg #[.slice bM aU.length bO,.slice bQ aX.length bR,.int .i64 bA,.int .i64 bB,.slice bV aQ.length bS]] w fun e w'=>∃v0_:Value,e= .returned (v0_)∧Kd.R Kd.bool 4 w' w.heap.size (fun _=>True) v0_ r∧Below w.heap.size w w':=by
 have hu26:=Try.underlying26;have hu43:=Try.underlying43;have fN:=aM dX;have fS:=aM eE;clear dX eE;have gA:=aM eF;have gD:=aM eG;clear eF eG;have eJ:=aM dZ;have gE:=aM eM;clear dZ eM;have HB:=aM (Below.refl w.heap.size w);have H:((regletref13_Right.f k aU aX bA bB aQ).bind fun t344=>(if t344=true then(if 0≤(aU.length:Int) then(if((aU.length:Int):Int).toNat≤281474976710656 then(regletref13_Empty.l0 k (List.replicate ((aU.length:Int):Int).toNat false) true aU aX bA bB aQ) else(none)) else(none)) else(some ([]:List Bool))))=some r:=h;clear h;replace H:=Option.bind_eq_some_iff.mp H;obtain⟨t344,A20,H⟩:=H;replace H:(if t344=true then(if 0≤(aU.length:Int) then(if((aU.length:Int):Int).toNat≤281474976710656 then(regletref13_Empty.l0 k (List.replicate ((aU.length:Int):Int).toNat false) true aU aX bA bB aQ) else(none)) else(none)) else(some ([]:List Bool)))=some r:=H;have A2:=aM A20;clear A20
 by_cases c3:t344=true
 ·subst c3
  have H1:(if 0≤(aU.length:Int) then(if((aU.length:Int):Int).toNat≤281474976710656 then(regletref13_Empty.l0 k (List.replicate ((aU.length:Int):Int).toNat false) true aU aX bA bB aQ) else(none)) else(none))=some r:=by rw [if_pos rfl] at H;exact H
  clear H;have H:=H1;clear H1
  by_cases c4:0≤(aU.length:Int)
  rotate_left
  ·rw [if_neg c4] at H
   exact absurd H (by simp)
  rw [if_pos c4] at H;have Di:=eq_true c4;have Zr:decide (0≤(aU.length:Int))=true:=decide_eq_true c4;clear c4
  by_cases c5:((aU.length:Int):Int).toNat≤281474976710656
  rotate_left
  ·rw [if_neg c5] at H
   exact absurd H (by simp)
  rw [if_pos c5] at H;have Gt:=eq_true c5;have Oh:decide (((aU.length:Int):Int).toNat≤281474976710656)=true:=decide_eq_true c5;clear c5;obtain⟨y345,Hj⟩:∃y_:List Bool,y_=(List.replicate ((aU.length:Int):Int).toNat false):=⟨_,rfl⟩;replace H:(regletref13_Empty.l0 k y345 true aU aX bA bB aQ)=some r:=by first|(rw [Hj];with_reducible exact H)|(have H2_:=(Option.bind_some _ _).symm.trans H;rw [Hj];with_reducible exact H2_)|(have H2_:=(Option.bind_some _ _).symm.trans H;with_reducible exact H2_)|with_reducible exact H|(rw [Hj];exact H)|exact H
  have Xn:=aM Hj;clear Hj;have H':=aM H;clear H;go_enter Try.func45,Try.ntmps45
  go_wp2_with (first|((with_reducible refine bJ (N:=1) rfl ?_);refine box_event ?hg (N:=1) ?hd (cs:=#[.slice bM aU.length bO,.slice bQ aX.length bR,.int .i64 bA,.int .i64 bB,.slice bV aQ.length bS]) (t:=26) ?hr ?_;(case hd=>rfl);(case hg=>rfl);(case hr=>first|(go_simp;done)|(go_simp;rfl));intro dS hg w6 hbox hb;have cE:=aM (bG (gW HB.out) hb);have cF:=aM (hbox);have cH:=aM ((by rw [hg];exact(bH (gW HB.out)):w.heap.size≤dS));have cM:=aM ((by rw [hg];exact(bH (gW HB.out)):w.heap.size≤dS));clear HB;have HB:=cE;have cG:=cF;have GW343:=cH;have Lf:=cM;clear cE cF cH cM;clear hb hbox hg;have Jn:w6.cell? ⟨dS,0,none⟩=some (.slice bM aU.length bO):=(aG cG.out 0).trans rfl;have Jo:w6.cell? ⟨dS,1,none⟩=some (.slice bQ aX.length bR):=(aG cG.out 1).trans rfl;have Jp:w6.cell? ⟨dS,2,none⟩=some (.int .i64 bA):=(aG cG.out 2).trans rfl;have Jq:w6.cell? ⟨dS,3,none⟩=some (.int .i64 bB):=(aG cG.out 3).trans rfl;have Jr:w6.cell? ⟨dS,4,none⟩=some (.slice bV aQ.length bS):=(aG cG.out 4).trans rfl;have Js:=aH cG.out 0;have Jt:=aH cG.out 1;have Ju:=aH cG.out 2;have Jv:=aH cG.out 3;have Jw:=aH cG.out 4)|((with_reducible refine bI (f:=30) rfl ?_);refine goesL_ (some 10) rfl rfl Try.func30 (by kernel_rfl) rfl #[.agg #[.slice bM aU.length bO,.slice bQ aX.length bR,.int .i64 bA,.int .i64 bB,.slice bV aQ.length bS]] rfl (by(try simp only [List.map_toArray,List.map_cons,List.map_nil]);first|done|rfl|(simp only [List.length_drop,List.length_take];rfl)) ?_;(with_reducible refine(regletref13_Right.calls k _ _ aU _ _ aX bA bB _ _ aQ true _ ?side1 ?side2 ?side3 ?side4 ?side5 ?side6 A2.out).mono ?_);(case side1=>exact gC (bD fN.out HB.out));(case side2=>exact fS.out);(case side3=>exact gC (bD gA.out HB.out));(case side4=>exact gD.out);(case side5=>exact gC (bD eJ.out HB.out));(case side6=>exact gE.out);rintro e w8 ⟨rfl,hb⟩;refine⟨_,rfl,?_⟩;have cE:=aM (bF (gB cG.out) hb);have cF:=aM (bG (gW HB.out) hb);clear cG;clear HB;have cG:=cE;have HB:=cF;clear cE cF;(try clear hb);(try clear hb2);(try clear hk);(try clear hi);have nW:w8.cell? ⟨dS,0,none⟩=some (.slice bM aU.length bO):=(aG cG.out 0).trans rfl;have nX:w8.cell? ⟨dS,1,none⟩=some (.slice bQ aX.length bR):=(aG cG.out 1).trans rfl;have Bv:w8.cell? ⟨dS,2,none⟩=some (.int .i64 bA):=(aG cG.out 2).trans rfl;have Bw:w8.cell? ⟨dS,3,none⟩=some (.int .i64 bB):=(aG cG.out 3).trans rfl;have By:w8.cell? ⟨dS,4,none⟩=some (.slice bV aQ.length bS):=(aG cG.out 4).trans rfl;have nY:=aH cG.out 0;have nZ:=aH cG.out 1;have Bz:=aH cG.out 2;have Ca:=aH cG.out 3;have Cb:=aH cG.out 4)|((with_reducible refine bJ (N:=15) rfl ?_);refine Kd.R_make Kd.bool _ 4 rfl (N:=15) rfl 90 _ _ rfl (aU.length:Int) rfl rfl Try.underlying90 (.bool false) 1 info4 rfl (by decide) (by omega) false (ok:=fun _=>True) (okp:=fun _=>True) rfl (fun _ hk=>hk) trivial (of_decide_eq_true (by first|(with_reducible assumption)|assumption)) (Nat.le_trans (Nat.mul_le_mul_right _ (of_decide_eq_true (by first|(with_reducible assumption)|assumption):(aU.length:Int).toNat≤281474976710656)) (by omega)) (Below.refl _ _) (Nat.le_refl _) ?_;intro v346 w10 ho11 hb hg_ hnew_;clear hg_ hnew_;(first|rw [←Xn.out] at ho11|(simp only [Int.reduceToNat] at ho11;rw [←Xn.out] at ho11));have cE:=aM (bL ho11 (bH (gW HB.out)));have cF:=aM (bF (gB cG.out) hb);have cH:=aM (bG (gW HB.out) hb);clear cG;clear HB;have DM:=cE;have cG:=cF;have HB:=cH;clear cE cF cH;clear hb ho11))
  go_loopg [4] k (fun kq v4 w'=>∃(dF:List Bool) (cC:Bool),v4= .bool cC∧Aside0 (regletref13_Empty.l0 kq dF cC aU aX bA bB aQ=some r)∧Aside0 (kq≤k)∧Aside0 (Kd.R Kd.bool 4 w' w.heap.size (fun _=>True) v346 dF)∧Aside0 (w'.heap[dS]?=some (.cells #[(.slice bM aU.length bO),(.slice bQ aX.length bR),.int .i64 bA,.int .i64 bB,(.slice bV aQ.length bS)] 26 (0,0)))∧Aside0 (Below w.heap.size w w'))
  case atStart=>exact⟨(y345),(true),(by first|rfl|(simp;done)|(simp [*];done)),H',⟨Nat.le_refl _⟩,⟨gR DM.out⟩,⟨gB cG.out⟩,⟨gW HB.out⟩⟩
  case round=>
   clear H'
   (try clear p2);(try clear c3);(try clear c4);(try clear Di);(try clear Zr);(try clear c5);(try clear Gt);(try clear Oh);(try clear Jn);(try clear Jo);(try clear Jp);(try clear Jq);(try clear Jr);(try clear nW);(try clear nX);(try clear Bv);(try clear Bw);(try clear By);(try clear Js);(try clear Jt);(try clear Ju);(try clear Jv);(try clear Jw)
   (try clear nY);(try clear nZ);(try clear Bz);(try clear Ca);(try clear Cb)
   obtain⟨dF,cC,rfl,HA,HK1,gG,cG,HB⟩:=hrel
   cases gk with
   |zero=>exact absurd HA.out (by simp [regletref13_Empty.l0])
   |succ k1=>
    have H:=HA.out;clear HA;simp only [regletref13_Empty.l0] at H
    by_cases c12:cC=true
    ·subst c12
     have H1:(regletref13_Empty.l1 k1 dF false 0 aU aX bA bB aQ)=some r:=by rw [if_pos rfl] at H;exact H
     clear H;have H:=H1;clear H1;have H':=aM H;clear H;go_wp2
     go_loopg [4,5] k1 (fun kq v4 v5 w'=>∃(iX:List Bool) (sC:Bool) (bU:Int),v4= .bool sC∧v5= .int .i64 bU∧Aside0 (regletref13_Empty.l1 kq iX sC bU aU aX bA bB aQ=some r)∧Aside0 (kq≤k1)∧Aside0 (Kd.R Kd.bool 4 w' w.heap.size (fun _=>True) v346 iX)∧Aside0 (w'.heap[dS]?=some (.cells #[(.slice bM aU.length bO),(.slice bQ aX.length bR),.int .i64 bA,.int .i64 bB,(.slice bV aQ.length bS)] 26 (0,0)))∧Aside0 (Below w.heap.size w w'))
     case atStart=>exact⟨(dF),(false),(0),(by first|rfl|(simp;done)|(simp [*];done)),(by first|rfl|(simp;done)|(simp [*];done)),H',⟨Nat.le_refl _⟩,⟨gR gG.out⟩,⟨gB cG.out⟩,⟨gW HB.out⟩⟩
     case round=>
      clear H'
      (try clear c1);(try clear p2);(try clear c3);(try clear c4);(try clear Di);(try clear Zr);(try clear c5);(try clear Gt);(try clear Oh);(try clear c12);(try clear Jn);(try clear Jo);(try clear Jp);(try clear Jq);(try clear Jr);(try clear nW);(try clear nX);(try clear Bv);(try clear Bw);(try clear By);(try clear Js);(try clear Jt);(try clear Ju)
      (try clear Jv);(try clear Jw);(try clear nY);(try clear nZ);(try clear Bz);(try clear Ca);(try clear Cb);(try clear p2)
      obtain⟨iX,sC,bU,rfl,rfl,HA,HK2,gG,cG,HB⟩:=hrel
      cases gk with
      |zero=>exact absurd HA.out (by simp [regletref13_Empty.l1])
      |succ k2=>
       have H:=HA.out;clear HA;simp only [regletref13_Empty.l1] at H
       by_cases c13:bU<(aQ.length:Int)
       ·rw [if_pos c13] at H
        have oF:decide (bU<(aQ.length:Int))=true:=decide_eq_true c13;clear c13;have H':=aM H;clear H;have kW:wr.cell? ⟨dS,0,none⟩=some (.slice bM aU.length bO):=(aG cG.out 0).trans rfl;have kX:wr.cell? ⟨dS,1,none⟩=some (.slice bQ aX.length bR):=(aG cG.out 1).trans rfl;have nD:wr.cell? ⟨dS,2,none⟩=some (.int .i64 bA):=(aG cG.out 2).trans rfl;have nE:wr.cell? ⟨dS,3,none⟩=some (.int .i64 bB):=(aG cG.out 3).trans rfl;have nF:wr.cell? ⟨dS,4,none⟩=some (.slice bV aQ.length bS):=(aG cG.out 4).trans rfl;have kY:=aH cG.out 0;have kZ:=aH cG.out 1;have nG:=aH cG.out 2;have nH:=aH cG.out 3;have nI:=aH cG.out 4;go_wp2
        go_loopg [6,7] k2 (fun kq v6 v7 w'=>∃(eT:Bool) (hF:Int),v6= .bool eT∧v7= .int .i64 hF∧Aside0 (regletref13_Empty.l2 kq iX sC bU eT hF aU aX bA bB aQ=some r)∧Aside0 (kq≤k2)∧Aside0 (Kd.R Kd.bool 4 w' w.heap.size (fun _=>True) v346 iX)∧Aside0 (w'.heap[dS]?=some (.cells #[(.slice bM aU.length bO),(.slice bQ aX.length bR),.int .i64 bA,.int .i64 bB,(.slice bV aQ.length bS)] 26 (0,0)))∧Aside0 (Below w.heap.size w w'))
        case atStart=>exact⟨(true),(0),(by first|rfl|(simp;done)|(simp [*];done)),(by first|rfl|(simp;done)|(simp [*];done)),H',⟨Nat.le_refl _⟩,⟨gR gG.out⟩,⟨gB cG.out⟩,⟨gW HB.out⟩⟩
        case round=>
         clear H'
         (try clear c1);(try clear p2);(try clear c3);(try clear c4);(try clear Di);(try clear Zr);(try clear c5);(try clear Gt);(try clear Oh);(try clear c12);(try clear c13);(try clear oF);(try clear kW);(try clear kX);(try clear nD);(try clear nE);(try clear nF);(try clear Jn);(try clear Jo);(try clear Jp);(try clear Jq);(try clear Jr);(try clear nW)
         (try clear nX);(try clear Bv);(try clear Bw);(try clear By);(try clear kY);(try clear kZ);(try clear nG);(try clear nH);(try clear nI);(try clear Js);(try clear Jt);(try clear Ju);(try clear Jv);(try clear Jw);(try clear nY);(try clear nZ);(try clear Bz);(try clear Ca);(try clear Cb);(try clear p2)
         obtain⟨eT,hF,rfl,rfl,HA,HK3,gG,cG,HB⟩:=hrel
         cases gk with
         |zero=>exact absurd HA.out (by simp [regletref13_Empty.l2])
         |succ k3=>
          have H:=HA.out;clear HA;simp only [regletref13_Empty.l2] at H
          by_cases c15:0≤bU
          rotate_left
          ·rw [if_neg c15] at H
           exact absurd H (by simp)
          rw [if_pos c15] at H;have Ce:decide (0≤bU)=true:=decide_eq_true c15;clear c15
          by_cases c16:bU<(aQ.length:Int)
          rotate_left
          ·rw [if_neg c16] at H
           exact absurd H (by simp)
          rw [if_pos c16] at H;have Ou:decide (bU<(aQ.length:Int))=true:=decide_eq_true c16;clear c16
          by_cases c17:hF<(((rd_T35 aQ bU).f1).length:Int)
          ·rw [if_pos c17] at H
           have mN:decide (hF<(((rd_T35 aQ bU).f1).length:Int))=true:=decide_eq_true c17;clear c17
           by_cases c18:0≤hF
           rotate_left
           ·rw [if_neg c18] at H
            exact absurd H (by simp)
           rw [if_pos c18] at H;have Kl:decide (0≤hF)=true:=decide_eq_true c18;clear c18
           by_cases c19:eT=true
           ·subst c19
            have H1:(if((rd_T43 ((rd_T35 aQ bU).f1) hF).f0=true) then(regletref13_Empty.l2 k3 iX sC bU false (wrap64 (hF+1)) aU aX bA bB aQ) else(if 0≤((rd_T43 ((rd_T35 aQ bU).f1) hF).f1) then(if((rd_T43 ((rd_T35 aQ bU).f1) hF).f1)<(iX.length:Int) then(regletref13_Empty.l2 k3 iX sC bU (rdOf false iX ((rd_T43 ((rd_T35 aQ bU).f1) hF).f1)) (wrap64 (hF+1)) aU aX bA bB aQ) else(none)) else(none)))=some r:=by rw [if_pos rfl] at H;exact H
            clear H;have H:=H1;clear H1;obtain⟨bq20,hbq20⟩:∃b_:Bool,b_=((rd_T43 ((rd_T35 aQ bU).f1) hF).f0):=⟨_,rfl⟩;replace H:(if(bq20=true) then(regletref13_Empty.l2 k3 iX sC bU false (wrap64 (hF+1)) aU aX bA bB aQ) else(if 0≤((rd_T43 ((rd_T35 aQ bU).f1) hF).f1) then(if((rd_T43 ((rd_T35 aQ bU).f1) hF).f1)<(iX.length:Int) then(regletref13_Empty.l2 k3 iX sC bU (rdOf false iX ((rd_T43 ((rd_T35 aQ bU).f1) hF).f1)) (wrap64 (hF+1)) aU aX bA bB aQ) else(none)) else(none)))=some r:=by rw [←hbq20] at H;exact H
            have Nbq20:=aM hbq20;clear hbq20
            by_cases c21:(bq20=true)
            ·subst c21
             have H1:(regletref13_Empty.l2 k3 iX sC bU false (wrap64 (hF+1)) aU aX bA bB aQ)=some r:=by rw [if_pos rfl] at H;exact H
             clear H;have H:=H1;clear H1;have H':=aM H;clear H;have St:wr.cell? ⟨dS,0,none⟩=some (.slice bM aU.length bO):=(aG cG.out 0).trans rfl;have Su:wr.cell? ⟨dS,1,none⟩=some (.slice bQ aX.length bR):=(aG cG.out 1).trans rfl;have LF:wr.cell? ⟨dS,2,none⟩=some (.int .i64 bA):=(aG cG.out 2).trans rfl;have LG:wr.cell? ⟨dS,3,none⟩=some (.int .i64 bB):=(aG cG.out 3).trans rfl;have LH:wr.cell? ⟨dS,4,none⟩=some (.slice bV aQ.length bS):=(aG cG.out 4).trans rfl;have Sv:=aH cG.out 0;have Sw:=aH cG.out 1;have LI:=aH cG.out 2;have LJ:=aH cG.out 3;have LK:=aH cG.out 4;have p348:0≤(bU:Int):=of_decide_eq_true (by first|(with_reducible assumption)|assumption);have q348:bU<(aQ.length:Int):=of_decide_eq_true (by first|(with_reducible assumption)|assumption);obtain⟨mO,Cf,Cg,e348,gJ,fE,iP,iQ⟩:=at_T35 eJ.out bU p348 q348
             cases e348;replace gJ:=(HB.out.cell (World.block_lt_of_cell? w _ gJ)).trans gJ;replace fE:=(HB.out.cell (World.block_lt_of_cell? w _ fE)).trans fE;have vC:=aM iQ;have vD:=aM iP;clear iQ iP;replace p348:=eq_true p348;replace q348:=eq_true q348;have p349:0≤(bU:Int):=of_decide_eq_true (by first|(with_reducible assumption)|assumption);have q349:bU<(aQ.length:Int):=of_decide_eq_true (by first|(with_reducible assumption)|assumption);obtain⟨Hk,Pa,Pb,e349,lT,jW,oG,oH⟩:=at_T35 eJ.out bU p349 q349;obtain rfl:mO=Hk:=(by injection e349);replace lT:=(HB.out.cell (World.block_lt_of_cell? w _ lT)).trans lT;replace jW:=(HB.out.cell (World.block_lt_of_cell? w _ jW)).trans jW;have vE:=aM oH;have Lg:=aM oG;clear oH oG;replace p349:=eq_true p349;replace q349:=eq_true q349;have ea_:=Option.some.inj (fE.symm.trans jW);injection ea_ with ea_ en_ ec_
             subst ea_;subst ec_;clear en_;have p350:0≤(hF:Int):=of_decide_eq_true (by first|(with_reducible assumption)|assumption);have q350:hF<(((rd_T35 aQ bU).f1).length:Int):=of_decide_eq_true (by first|(with_reducible assumption)|assumption);obtain⟨Xo,e350,kI,lU⟩:=at_T43 vE.out hF p350 q350
             (try rw [←Nbq20.out] at kI)
             cases e350;replace kI:=(HB.out.cell (World.block_lt_of_cell? w _ kI)).trans kI;replace lU:=(HB.out.cell (World.block_lt_of_cell? w _ lU)).trans lU;replace p350:=eq_true p350;replace q350:=eq_true q350
             go_wp2_with (first|((with_reducible refine bJ (N:=8) rfl ?_);refine box_event ?hg (N:=8) ?hd (cs:=#[.bool false,.int .i64 0]) (t:=43) ?hr ?_;(case hd=>rfl);(case hg=>rfl);(case hr=>first|(go_simp;done)|(go_simp;rfl));intro iK hg w23 hbox hb;have cE:=aM (aD (gR gG.out) hb);have cF:=aM (bF (gB cG.out) hb);have cH:=aM (bG (gW HB.out) hb);have cM:=aM (hbox);have dH:=aM ((by rw [hg];exact(bH (gW HB.out)):w.heap.size≤iK));have dN:=aM ((by rw [hg];exact(bH (gW HB.out)):w.heap.size≤iK));have dY:=aM ((by rw [hg];exact Nat.ne_of_lt (bN (g:=dS) (o:= .cells #[.slice bM aU.length bO,.slice bQ aX.length bR,.int .i64 bA,.int .i64 bB,.slice (some mO) aQ.length bS] 26 (0,0)) (gB cG.out)):dS≠iK));have fB:=aM ((by rw [hg];exact Nat.ne_of_gt (bN (g:=dS) (o:= .cells #[.slice bM aU.length bO,.slice bQ aX.length bR,.int .i64 bA,.int .i64 bB,.slice (some mO) aQ.length bS] 26 (0,0)) (gB cG.out)):iK≠dS));clear gG;clear cG;clear HB;have gG:=cE;have cG:=cF;have HB:=cH;have lV:=cM;have GW351:=dH;have Hl:=dN;have jC:=dY;have pT:=fB;clear cE cF cH cM dH dN dY fB;clear hb hbox hg;have hnb24:=pT.out;have hnc24:=jC.out;have Lh:w23.cell? ⟨iK,0,none⟩=some (.bool false):=(aG lV.out 0).trans rfl;have Li:w23.cell? ⟨iK,1,none⟩=some (.int .i64 0):=(aG lV.out 1).trans rfl;have Lj:=aH lV.out 0;have Lk:=aH lV.out 1))
             go_roundg k3
             case measure=>have:=HK1.out;have:=HK2.out;have:=HK3.out;omega
             case rel=>exact⟨(false),(wrap64 (hF+1)),(by first|rfl|(simp;done)|(simp [*];done)),(by first|rfl|(simp;done)|(simp [*];done)),H',⟨by have:=HK1.out;have:=HK2.out;have:=HK3.out;omega⟩,⟨by(with_reducible repeat(first|apply aA|apply aB|apply aC));exact Kd.R_mono (aE (p:=⟨iK,1,none⟩) (aE (p:=⟨iK,0,none⟩) (Kd.R_types gG.out lV.out (by decide)) (fun _ hk=>hk.2) (.bool true)) (fun _ hk=>hk.2) (.int .i64 ((rd_T43 ((rd_T35 aQ bU).f1) hF).f1))) (fun _ hk=>trivial)⟩,⟨by(with_reducible repeat(first|refine aJ ?_ _|refine aK ?_|refine aI ?_ _));refine blk_far ?_ jC.out _;(with_reducible repeat(first|refine aJ ?_ _|refine aK ?_|refine aI ?_ _));refine blk_far ?_ jC.out _;(with_reducible repeat(first|refine aJ ?_ _|refine aK ?_|refine aI ?_ _));exact cG.out⟩,⟨by repeat(first|(with_reducible first|exact HB.out|apply aN|apply aP|apply aO|refine aL ?_ Lf.out|refine aL ?_ Hl.out)|exact HB.out)⟩⟩
            ·replace c21:=Bool.eq_false_iff.mpr c21
             subst c21;have H1:(if 0≤((rd_T43 ((rd_T35 aQ bU).f1) hF).f1) then(if((rd_T43 ((rd_T35 aQ bU).f1) hF).f1)<(iX.length:Int) then(regletref13_Empty.l2 k3 iX sC bU (rdOf false iX ((rd_T43 ((rd_T35 aQ bU).f1) hF).f1)) (wrap64 (hF+1)) aU aX bA bB aQ) else(none)) else(none))=some r:=by rw [if_neg (show ¬(false=true) by decide)] at H;exact H
             clear H;have H:=H1;clear H1
             by_cases c26:0≤((rd_T43 ((rd_T35 aQ bU).f1) hF).f1)
             rotate_left
             ·rw [if_neg c26] at H
              exact absurd H (by simp)
             rw [if_pos c26] at H;have vF:decide (0≤((rd_T43 ((rd_T35 aQ bU).f1) hF).f1))=true:=decide_eq_true c26;clear c26
             by_cases c27:((rd_T43 ((rd_T35 aQ bU).f1) hF).f1)<(iX.length:Int)
             rotate_left
             ·rw [if_neg c27] at H
              exact absurd H (by simp)
             rw [if_pos c27] at H;have TS:decide (((rd_T43 ((rd_T35 aQ bU).f1) hF).f1)<(iX.length:Int))=true:=decide_eq_true c27;clear c27;have H':=aM H;clear H;have qU:wr.cell? ⟨dS,0,none⟩=some (.slice bM aU.length bO):=(aG cG.out 0).trans rfl;have qV:wr.cell? ⟨dS,1,none⟩=some (.slice bQ aX.length bR):=(aG cG.out 1).trans rfl;have Dj:wr.cell? ⟨dS,2,none⟩=some (.int .i64 bA):=(aG cG.out 2).trans rfl;have Dk:wr.cell? ⟨dS,3,none⟩=some (.int .i64 bB):=(aG cG.out 3).trans rfl;have Dl:wr.cell? ⟨dS,4,none⟩=some (.slice bV aQ.length bS):=(aG cG.out 4).trans rfl;have qW:=aH cG.out 0;have qX:=aH cG.out 1;have Dm:=aH cG.out 2;have Dn:=aH cG.out 3;have Do:=aH cG.out 4;have p348:0≤(bU:Int):=of_decide_eq_true (by first|(with_reducible assumption)|assumption);have q348:bU<(aQ.length:Int):=of_decide_eq_true (by first|(with_reducible assumption)|assumption);obtain⟨mO,Cf,Cg,e348,gJ,fE,iP,iQ⟩:=at_T35 eJ.out bU p348 q348
             cases e348;replace gJ:=(HB.out.cell (World.block_lt_of_cell? w _ gJ)).trans gJ;replace fE:=(HB.out.cell (World.block_lt_of_cell? w _ fE)).trans fE;have vC:=aM iQ;have vD:=aM iP;clear iQ iP;replace p348:=eq_true p348;replace q348:=eq_true q348;have p349:0≤(bU:Int):=of_decide_eq_true (by first|(with_reducible assumption)|assumption);have q349:bU<(aQ.length:Int):=of_decide_eq_true (by first|(with_reducible assumption)|assumption);obtain⟨Hk,Pa,Pb,e349,lT,jW,oG,oH⟩:=at_T35 eJ.out bU p349 q349;obtain rfl:mO=Hk:=(by injection e349);replace lT:=(HB.out.cell (World.block_lt_of_cell? w _ lT)).trans lT;replace jW:=(HB.out.cell (World.block_lt_of_cell? w _ jW)).trans jW;have vE:=aM oH;have Lg:=aM oG;clear oH oG;replace p349:=eq_true p349;replace q349:=eq_true q349;have ea_:=Option.some.inj (fE.symm.trans jW);injection ea_ with ea_ en_ ec_
             subst ea_;subst ec_;clear en_;have p350:0≤(hF:Int):=of_decide_eq_true (by first|(with_reducible assumption)|assumption);have q350:hF<(((rd_T35 aQ bU).f1).length:Int):=of_decide_eq_true (by first|(with_reducible assumption)|assumption);obtain⟨Xo,e350,kI,lU⟩:=at_T43 vE.out hF p350 q350
             (try rw [←Nbq20.out] at kI)
             cases e350;replace kI:=(HB.out.cell (World.block_lt_of_cell? w _ kI)).trans kI;replace lU:=(HB.out.cell (World.block_lt_of_cell? w _ lU)).trans lU;replace p350:=eq_true p350;replace q350:=eq_true q350
             go_wp2_with (first|((with_reducible refine bJ (N:=8) rfl ?_);refine box_event ?hg (N:=8) ?hd (cs:=#[.bool false,.int .i64 0]) (t:=43) ?hr ?_;(case hd=>rfl);(case hg=>rfl);(case hr=>first|(go_simp;done)|(go_simp;rfl));intro iK hg w29 hbox hb;have cE:=aM (aD (gR gG.out) hb);have cF:=aM (bF (gB cG.out) hb);have cH:=aM (bG (gW HB.out) hb);have cM:=aM (hbox);have dH:=aM ((by rw [hg];exact(bH (gW HB.out)):w.heap.size≤iK));have dN:=aM ((by rw [hg];exact(bH (gW HB.out)):w.heap.size≤iK));have dY:=aM ((by rw [hg];exact Nat.ne_of_lt (bN (g:=dS) (o:= .cells #[.slice bM aU.length bO,.slice bQ aX.length bR,.int .i64 bA,.int .i64 bB,.slice (some mO) aQ.length bS] 26 (0,0)) (gB cG.out)):dS≠iK));have fB:=aM ((by rw [hg];exact Nat.ne_of_gt (bN (g:=dS) (o:= .cells #[.slice bM aU.length bO,.slice bQ aX.length bR,.int .i64 bA,.int .i64 bB,.slice (some mO) aQ.length bS] 26 (0,0)) (gB cG.out)):iK≠dS));clear gG;clear cG;clear HB;have gG:=cE;have cG:=cF;have HB:=cH;have lV:=cM;have GW351:=dH;have Hl:=dN;have jC:=dY;have pT:=fB;clear cE cF cH cM dH dN dY fB;clear hb hbox hg;have hnb30:=pT.out;have hnc30:=jC.out;have zN:w29.cell? ⟨iK,0,none⟩=some (.bool false):=(aG lV.out 0).trans rfl;have zO:w29.cell? ⟨iK,1,none⟩=some (.int .i64 0):=(aG lV.out 1).trans rfl;have zP:=aH lV.out 0;have zQ:=aH lV.out 1;obtain⟨VP,VQ,QY⟩:=Kd.R_slice gG.out;subst QY;have p352:0≤(((rd_T43 ((rd_T35 aQ bU).f1) hF).f1):Int):=of_decide_eq_true (by first|(with_reducible assumption)|assumption);have q352:((rd_T43 ((rd_T35 aQ bU).f1) hF).f1)<(iX.length:Int):=of_decide_eq_true (by first|(with_reducible assumption)|assumption);obtain⟨Xp,e352,vG⟩:=Kd.at_bool (aF gG.out).2.2 ((rd_T43 ((rd_T35 aQ bU).f1) hF).f1) p352 q352;(try rw [←Nbq20.out] at vG);cases e352;have hn352_0:Xp.block≠iK:=Kd.own_blk (Kd.R_ne gG.out lV.out (by decide));have hn352_1:Xp.block≠iK:=Kd.own_blk (Kd.R_ne gG.out lV.out (by decide));replace vG:=(cell_far (p:=⟨iK,0,none⟩) (by first|(rw [add_block];exact hn352_0)|(show(Addr.add _ _).block≠_;rw [add_block];exact hn352_0)|exact hn352_0) (.bool false)).trans vG;replace vG:=(cell_far (p:=⟨iK,1,none⟩) (by first|(rw [add_block];exact hn352_1)|(show(Addr.add _ _).block≠_;rw [add_block];exact hn352_1)|exact hn352_1) (.int .i64 ((rd_T43 ((rd_T35 aQ bU).f1) hF).f1))).trans vG;clear hn352_0;clear hn352_1;replace p352:=eq_true p352;replace q352:=eq_true q352))
             go_roundg k3
             case measure=>have:=HK1.out;have:=HK2.out;have:=HK3.out;omega
             case rel=>exact⟨(rdOf false iX ((rd_T43 ((rd_T35 aQ bU).f1) hF).f1)),(wrap64 (hF+1)),(by first|rfl|(simp;done)|(simp [*];done)),(by first|rfl|(simp;done)|(simp [*];done)),H',⟨by have:=HK1.out;have:=HK2.out;have:=HK3.out;omega⟩,⟨by(with_reducible repeat(first|apply aA|apply aB|apply aC));exact Kd.R_mono (aE (p:=⟨iK,1,none⟩) (aE (p:=⟨iK,0,none⟩) (Kd.R_types gG.out lV.out (by decide)) (fun _ hk=>hk.2) (.bool false)) (fun _ hk=>hk.2) (.int .i64 ((rd_T43 ((rd_T35 aQ bU).f1) hF).f1))) (fun _ hk=>trivial)⟩,⟨by(with_reducible repeat(first|refine aJ ?_ _|refine aK ?_|refine aI ?_ _));refine blk_far ?_ jC.out _;(with_reducible repeat(first|refine aJ ?_ _|refine aK ?_|refine aI ?_ _));refine blk_far ?_ jC.out _;(with_reducible repeat(first|refine aJ ?_ _|refine aK ?_|refine aI ?_ _));exact cG.out⟩,⟨by repeat(first|(with_reducible first|exact HB.out|apply aN|apply aP|apply aO|refine aL ?_ Lf.out|refine aL ?_ Hl.out)|exact HB.out)⟩⟩
           ·replace c19:=Bool.eq_false_iff.mpr c19
            subst c19;have H1:(regletref13_Empty.l2 k3 iX sC bU false (wrap64 (hF+1)) aU aX bA bB aQ)=some r:=by rw [if_neg (show ¬(false=true) by decide)] at H;exact H
            clear H;have H:=H1;clear H1;have H':=aM H;clear H;have rE:wr.cell? ⟨dS,0,none⟩=some (.slice bM aU.length bO):=(aG cG.out 0).trans rfl;have rF:wr.cell? ⟨dS,1,none⟩=some (.slice bQ aX.length bR):=(aG cG.out 1).trans rfl;have tI:wr.cell? ⟨dS,2,none⟩=some (.int .i64 bA):=(aG cG.out 2).trans rfl;have tJ:wr.cell? ⟨dS,3,none⟩=some (.int .i64 bB):=(aG cG.out 3).trans rfl;have tK:wr.cell? ⟨dS,4,none⟩=some (.slice bV aQ.length bS):=(aG cG.out 4).trans rfl;have rG:=aH cG.out 0;have rH:=aH cG.out 1;have tL:=aH cG.out 2;have tM:=aH cG.out 3;have tN:=aH cG.out 4;have p348:0≤(bU:Int):=of_decide_eq_true (by first|(with_reducible assumption)|assumption);have q348:bU<(aQ.length:Int):=of_decide_eq_true (by first|(with_reducible assumption)|assumption);obtain⟨mO,Cf,Cg,e348,gJ,fE,iP,iQ⟩:=at_T35 eJ.out bU p348 q348
            cases e348;replace gJ:=(HB.out.cell (World.block_lt_of_cell? w _ gJ)).trans gJ;replace fE:=(HB.out.cell (World.block_lt_of_cell? w _ fE)).trans fE;have vC:=aM iQ;have vD:=aM iP;clear iQ iP;replace p348:=eq_true p348;replace q348:=eq_true q348;have p349:0≤(bU:Int):=of_decide_eq_true (by first|(with_reducible assumption)|assumption);have q349:bU<(aQ.length:Int):=of_decide_eq_true (by first|(with_reducible assumption)|assumption);obtain⟨Hk,Pa,Pb,e349,lT,jW,oG,oH⟩:=at_T35 eJ.out bU p349 q349;obtain rfl:mO=Hk:=(by injection e349);replace lT:=(HB.out.cell (World.block_lt_of_cell? w _ lT)).trans lT;replace jW:=(HB.out.cell (World.block_lt_of_cell? w _ jW)).trans jW;have vE:=aM oH;have Lg:=aM oG;clear oH oG;replace p349:=eq_true p349;replace q349:=eq_true q349;have ea_:=Option.some.inj (fE.symm.trans jW);injection ea_ with ea_ en_ ec_
            subst ea_;subst ec_;clear en_;have p350:0≤(hF:Int):=of_decide_eq_true (by first|(with_reducible assumption)|assumption);have q350:hF<(((rd_T35 aQ bU).f1).length:Int):=of_decide_eq_true (by first|(with_reducible assumption)|assumption);obtain⟨Xo,e350,kI,lU⟩:=at_T43 vE.out hF p350 q350
            cases e350;replace kI:=(HB.out.cell (World.block_lt_of_cell? w _ kI)).trans kI;replace lU:=(HB.out.cell (World.block_lt_of_cell? w _ lU)).trans lU;replace p350:=eq_true p350;replace q350:=eq_true q350
            go_wp2_with (first|((with_reducible refine bJ (N:=8) rfl ?_);refine box_event ?hg (N:=8) ?hd (cs:=#[.bool false,.int .i64 0]) (t:=43) ?hr ?_;(case hd=>rfl);(case hg=>rfl);(case hr=>first|(go_simp;done)|(go_simp;rfl));intro iK hg w34 hbox hb;have cE:=aM (aD (gR gG.out) hb);have cF:=aM (bF (gB cG.out) hb);have cH:=aM (bG (gW HB.out) hb);have cM:=aM (hbox);have dH:=aM ((by rw [hg];exact(bH (gW HB.out)):w.heap.size≤iK));have dN:=aM ((by rw [hg];exact(bH (gW HB.out)):w.heap.size≤iK));have dY:=aM ((by rw [hg];exact Nat.ne_of_lt (bN (g:=dS) (o:= .cells #[.slice bM aU.length bO,.slice bQ aX.length bR,.int .i64 bA,.int .i64 bB,.slice (some mO) aQ.length bS] 26 (0,0)) (gB cG.out)):dS≠iK));have fB:=aM ((by rw [hg];exact Nat.ne_of_gt (bN (g:=dS) (o:= .cells #[.slice bM aU.length bO,.slice bQ aX.length bR,.int .i64 bA,.int .i64 bB,.slice (some mO) aQ.length bS] 26 (0,0)) (gB cG.out)):iK≠dS));clear gG;clear cG;clear HB;have gG:=cE;have cG:=cF;have HB:=cH;have lV:=cM;have GW351:=dH;have Hl:=dN;have jC:=dY;have pT:=fB;clear cE cF cH cM dH dN dY fB;clear hb hbox hg;have hnb35:=pT.out;have hnc35:=jC.out;have tO:w34.cell? ⟨iK,0,none⟩=some (.bool false):=(aG lV.out 0).trans rfl;have tP:w34.cell? ⟨iK,1,none⟩=some (.int .i64 0):=(aG lV.out 1).trans rfl;have tQ:=aH lV.out 0;have tR:=aH lV.out 1))
            go_roundg k3
            case measure=>have:=HK1.out;have:=HK2.out;have:=HK3.out;omega
            case rel=>exact⟨(false),(wrap64 (hF+1)),(by first|rfl|(simp;done)|(simp [*];done)),(by first|rfl|(simp;done)|(simp [*];done)),H',⟨by have:=HK1.out;have:=HK2.out;have:=HK3.out;omega⟩,⟨by(with_reducible repeat(first|apply aA|apply aB|apply aC));exact Kd.R_mono (aE (p:=⟨iK,1,none⟩) (aE (p:=⟨iK,0,none⟩) (Kd.R_types gG.out lV.out (by decide)) (fun _ hk=>hk.2) (.bool ((rd_T43 ((rd_T35 aQ bU).f1) hF).f0))) (fun _ hk=>hk.2) (.int .i64 ((rd_T43 ((rd_T35 aQ bU).f1) hF).f1))) (fun _ hk=>trivial)⟩,⟨by(with_reducible repeat(first|refine aJ ?_ _|refine aK ?_|refine aI ?_ _));refine blk_far ?_ jC.out _;(with_reducible repeat(first|refine aJ ?_ _|refine aK ?_|refine aI ?_ _));refine blk_far ?_ jC.out _;(with_reducible repeat(first|refine aJ ?_ _|refine aK ?_|refine aI ?_ _));exact cG.out⟩,⟨by repeat(first|(with_reducible first|exact HB.out|apply aN|apply aP|apply aO|refine aL ?_ Lf.out|refine aL ?_ Hl.out)|exact HB.out)⟩⟩
          ·rw [if_neg c17] at H
           have mN:decide (hF<(((rd_T35 aQ bU).f1).length:Int))=false:=decide_eq_false c17;clear c17
           by_cases c37:eT=true
           ·subst c37
            have H1:(if 0≤((rd_T35 aQ bU).f0) then(if((rd_T35 aQ bU).f0)<(iX.length:Int) then(if(rdOf false iX ((rd_T35 aQ bU).f0)=true) then(regletref13_Empty.l1 k3 iX sC (wrap64 (bU+1)) aU aX bA bB aQ) else(regletref13_Empty.l1 k3 (iX.set (((rd_T35 aQ bU).f0):Int).toNat true) true (wrap64 (bU+1)) aU aX bA bB aQ)) else(none)) else(none))=some r:=by rw [if_pos rfl] at H;exact H
            clear H;have H:=H1;clear H1
            by_cases c38:0≤((rd_T35 aQ bU).f0)
            rotate_left
            ·rw [if_neg c38] at H
             exact absurd H (by simp)
            rw [if_pos c38] at H;have TT:decide (0≤((rd_T35 aQ bU).f0))=true:=decide_eq_true c38;clear c38
            by_cases c39:((rd_T35 aQ bU).f0)<(iX.length:Int)
            rotate_left
            ·rw [if_neg c39] at H
             exact absurd H (by simp)
            rw [if_pos c39] at H;have TU:decide (((rd_T35 aQ bU).f0)<(iX.length:Int))=true:=decide_eq_true c39;clear c39;obtain⟨bq40,hbq40⟩:∃b_:Bool,b_=(rdOf false iX ((rd_T35 aQ bU).f0)):=⟨_,rfl⟩;replace H:(if(bq40=true) then(regletref13_Empty.l1 k3 iX sC (wrap64 (bU+1)) aU aX bA bB aQ) else(regletref13_Empty.l1 k3 (iX.set (((rd_T35 aQ bU).f0):Int).toNat true) true (wrap64 (bU+1)) aU aX bA bB aQ))=some r:=by rw [←hbq40] at H;exact H
            have Nbq40:=aM hbq40;clear hbq40
            by_cases c41:(bq40=true)
            ·subst c41
             have H1:(regletref13_Empty.l1 k3 iX sC (wrap64 (bU+1)) aU aX bA bB aQ)=some r:=by rw [if_pos rfl] at H;exact H
             clear H;have H:=H1;clear H1;have H':=aM H;clear H;have Lb:wr.cell? ⟨dS,0,none⟩=some (.slice bM aU.length bO):=(aG cG.out 0).trans rfl;have Lc:wr.cell? ⟨dS,1,none⟩=some (.slice bQ aX.length bR):=(aG cG.out 1).trans rfl;have Sc:wr.cell? ⟨dS,2,none⟩=some (.int .i64 bA):=(aG cG.out 2).trans rfl;have Sd:wr.cell? ⟨dS,3,none⟩=some (.int .i64 bB):=(aG cG.out 3).trans rfl;have Se:wr.cell? ⟨dS,4,none⟩=some (.slice bV aQ.length bS):=(aG cG.out 4).trans rfl;have Ld:=aH cG.out 0;have Le:=aH cG.out 1;have Sf:=aH cG.out 2;have Sg:=aH cG.out 3;have Si:=aH cG.out 4;have p348:0≤(bU:Int):=of_decide_eq_true (by first|(with_reducible assumption)|assumption);have q348:bU<(aQ.length:Int):=of_decide_eq_true (by first|(with_reducible assumption)|assumption);obtain⟨mO,Cf,Cg,e348,gJ,fE,iP,iQ⟩:=at_T35 eJ.out bU p348 q348
             cases e348;replace gJ:=(HB.out.cell (World.block_lt_of_cell? w _ gJ)).trans gJ;replace fE:=(HB.out.cell (World.block_lt_of_cell? w _ fE)).trans fE;have vC:=aM iQ;have vD:=aM iP;clear iQ iP;replace p348:=eq_true p348;replace q348:=eq_true q348;have p353:0≤(bU:Int):=of_decide_eq_true (by first|(with_reducible assumption)|assumption);have q353:bU<(aQ.length:Int):=of_decide_eq_true (by first|(with_reducible assumption)|assumption);obtain⟨Pc,Zs,Zt,e353,rI,nJ,vH,vI⟩:=at_T35 eJ.out bU p353 q353;obtain rfl:mO=Pc:=(by injection e353);replace rI:=(HB.out.cell (World.block_lt_of_cell? w _ rI)).trans rI;replace nJ:=(HB.out.cell (World.block_lt_of_cell? w _ nJ)).trans nJ;have Sx:=aM vI;have Sy:=aM vH;clear vI vH;replace p353:=eq_true p353;replace q353:=eq_true q353;have ea_:=Option.some.inj (fE.symm.trans nJ);injection ea_ with ea_ en_ ec_
             subst ea_;subst ec_;clear en_;obtain⟨uJ,uK,Pd⟩:=Kd.R_slice gG.out;subst Pd;have p354:0≤(((rd_T35 aQ bU).f0):Int):=of_decide_eq_true (by first|(with_reducible assumption)|assumption);have q354:((rd_T35 aQ bU).f0)<(iX.length:Int):=of_decide_eq_true (by first|(with_reducible assumption)|assumption);obtain⟨DN,e354,zZ⟩:=Kd.at_bool (aF gG.out).2.2 ((rd_T35 aQ bU).f0) p354 q354
             (try rw [←Nbq40.out] at zZ)
             cases e354;replace p354:=eq_true p354;replace q354:=eq_true q354;go_wp2
             go_roundg k3
             case measure=>have:=HK1.out;have:=HK2.out;have:=HK3.out;omega
             case rel=>exact⟨(iX),(sC),(wrap64 (bU+1)),(by first|rfl|(simp;done)|(simp [*];done)),(by first|rfl|(simp;done)|(simp [*];done)),H',⟨by have:=HK1.out;have:=HK2.out;have:=HK3.out;omega⟩,⟨gR gG.out⟩,⟨gB cG.out⟩,⟨gW HB.out⟩⟩
            ·replace c41:=Bool.eq_false_iff.mpr c41
             subst c41;have H1:(regletref13_Empty.l1 k3 (iX.set (((rd_T35 aQ bU).f0):Int).toNat true) true (wrap64 (bU+1)) aU aX bA bB aQ)=some r:=by rw [if_neg (show ¬(false=true) by decide)] at H;exact H
             clear H;have H:=H1;clear H1;obtain⟨y356,Hm⟩:∃y_:List Bool,y_=(iX.set (((rd_T35 aQ bU).f0):Int).toNat true):=⟨_,rfl⟩;replace H:(regletref13_Empty.l1 k3 y356 true (wrap64 (bU+1)) aU aX bA bB aQ)=some r:=by first|(rw [Hm];with_reducible exact H)|(have H2_:=(Option.bind_some _ _).symm.trans H;rw [Hm];with_reducible exact H2_)|(have H2_:=(Option.bind_some _ _).symm.trans H;with_reducible exact H2_)|with_reducible exact H|(rw [Hm];exact H)|exact H
             have DO:=aM Hm;clear Hm;have H':=aM H;clear H;have Sj:wr.cell? ⟨dS,0,none⟩=some (.slice bM aU.length bO):=(aG cG.out 0).trans rfl;have Sk:wr.cell? ⟨dS,1,none⟩=some (.slice bQ aX.length bR):=(aG cG.out 1).trans rfl;have Sl:wr.cell? ⟨dS,2,none⟩=some (.int .i64 bA):=(aG cG.out 2).trans rfl;have Sm:wr.cell? ⟨dS,3,none⟩=some (.int .i64 bB):=(aG cG.out 3).trans rfl;have Sn:wr.cell? ⟨dS,4,none⟩=some (.slice bV aQ.length bS):=(aG cG.out 4).trans rfl;have So:=aH cG.out 0;have Sp:=aH cG.out 1;have Sq:=aH cG.out 2;have Sr:=aH cG.out 3;have Ss:=aH cG.out 4;have p348:0≤(bU:Int):=of_decide_eq_true (by first|(with_reducible assumption)|assumption);have q348:bU<(aQ.length:Int):=of_decide_eq_true (by first|(with_reducible assumption)|assumption);obtain⟨mO,Cf,Cg,e348,gJ,fE,iP,iQ⟩:=at_T35 eJ.out bU p348 q348
             cases e348;replace gJ:=(HB.out.cell (World.block_lt_of_cell? w _ gJ)).trans gJ;replace fE:=(HB.out.cell (World.block_lt_of_cell? w _ fE)).trans fE;have vC:=aM iQ;have vD:=aM iP;clear iQ iP;replace p348:=eq_true p348;replace q348:=eq_true q348;have p353:0≤(bU:Int):=of_decide_eq_true (by first|(with_reducible assumption)|assumption);have q353:bU<(aQ.length:Int):=of_decide_eq_true (by first|(with_reducible assumption)|assumption);obtain⟨Pc,Zs,Zt,e353,rI,nJ,vH,vI⟩:=at_T35 eJ.out bU p353 q353;obtain rfl:mO=Pc:=(by injection e353);replace rI:=(HB.out.cell (World.block_lt_of_cell? w _ rI)).trans rI;replace nJ:=(HB.out.cell (World.block_lt_of_cell? w _ nJ)).trans nJ;have Sx:=aM vI;have Sy:=aM vH;clear vI vH;replace p353:=eq_true p353;replace q353:=eq_true q353;have ea_:=Option.some.inj (fE.symm.trans nJ);injection ea_ with ea_ en_ ec_
             subst ea_;subst ec_;clear en_;obtain⟨Zu,Sz,Ta⟩:=Kd.R_slice gG.out;subst Ta;have p354:0≤(((rd_T35 aQ bU).f0):Int):=of_decide_eq_true (by first|(with_reducible assumption)|assumption);have q354:((rd_T35 aQ bU).f0)<(iX.length:Int):=of_decide_eq_true (by first|(with_reducible assumption)|assumption);obtain⟨DN,e354,zZ⟩:=Kd.at_bool (aF gG.out).2.2 ((rd_T35 aQ bU).f0) p354 q354
             (try rw [←Nbq40.out] at zZ)
             cases e354;replace p354:=eq_true p354;replace q354:=eq_true q354;have p355:0≤(bU:Int):=of_decide_eq_true (by first|(with_reducible assumption)|assumption);have q355:bU<(aQ.length:Int):=of_decide_eq_true (by first|(with_reducible assumption)|assumption);obtain⟨DP,QZ,RA,e355,Eb,Aa,Ll,Lm⟩:=at_T35 eJ.out bU p355 q355;obtain rfl:mO=DP:=(by injection e355);replace Eb:=(HB.out.cell (World.block_lt_of_cell? w _ Eb)).trans Eb;replace Aa:=(HB.out.cell (World.block_lt_of_cell? w _ Aa)).trans Aa;have LL:=aM Lm;have LM:=aM Ll;clear Lm Ll;replace p355:=eq_true p355;replace q355:=eq_true q355;have ea_:=Option.some.inj (fE.symm.trans Aa);injection ea_ with ea_ en_ ec_
             subst ea_;subst ec_;clear en_;have p44:0≤(((rd_T35 aQ bU).f0):Int):=of_decide_eq_true (by first|(with_reducible assumption)|assumption);have q44:(((rd_T35 aQ bU).f0):Int)<((iX.length:Int):Int):=of_decide_eq_true (by first|(with_reducible assumption)|assumption);obtain⟨go44,VR,DQ,DR,gl44,cl44,HG44⟩:=Kd.R_form gG.out (by omega)
             (first|cases DQ|(injection DQ with ea_ en_ ec_;(first|subst ea_|(injection ea_ with ea_;subst ea_));subst ec_;clear en_))
             have GB44:=aM DR;have GG44:=aM HG44;clear DR gl44 HG44
             (first|simp only [add_plain] at zZ|skip)
             obtain⟨RC,hf44_0⟩:=Kd.R_celln false gG.out (((rd_T35 aQ bU).f0):Int) p44 q44;replace p44:=eq_true p44;replace q44:=eq_true q44;have HP47:=Kd.R_putg gG.out (((rd_T35 aQ bU).f0):Int) true
             go_wp2_with (first|((with_reducible refine gate_store (t:=4) (p:=77) rfl ?_);refine store_event (t:=4) (p:=77) (v:=?vo_w48) (w1:=(wr.setCell ⟨go44,(((rd_T35 aQ bU).f0):Int).toNat,none⟩ (.bool true))) ?hg ?ho ?hn ?hr ?_;(case ho=>rfl);(case hg=>rfl);(case hn=>rfl);(case hr=>first|(go_simp;done)|(go_simp;rfl));intro w48 hw;have hg:wr.grownBy w48 (some go44):=(by rw [hw];exact HP47.2);have hp_:Kd.R Kd.bool 4 w48 w.heap.size (fun _=>True) (.slice (some ⟨go44,0,none⟩) iX.length Sz) y356:=(by rw [hw,DO.out];exact HP47.1);clear HP47;have cE:=aM (hp_);have cF:=aM (blk_grown (gB cG.out) hg (Kd.R_ne gG.out cG.out (by decide)));have cH:=aM ((by rw [hw];exact aL (HB.out) GB44.out:Below w.heap.size w w48));clear gG;clear cG;clear HB;have gG:=cE;have cG:=cF;have HB:=cH;clear cE cF cH;clear hg hw hp_))
             go_roundg k3
             case measure=>have:=HK1.out;have:=HK2.out;have:=HK3.out;omega
             case rel=>exact⟨(y356),(true),(wrap64 (bU+1)),(by first|rfl|(simp;done)|(simp [*];done)),(by first|rfl|(simp;done)|(simp [*];done)),H',⟨by have:=HK1.out;have:=HK2.out;have:=HK3.out;omega⟩,⟨gR gG.out⟩,⟨gB cG.out⟩,⟨gW HB.out⟩⟩
           ·replace c37:=Bool.eq_false_iff.mpr c37
            subst c37;have H1:(regletref13_Empty.l1 k3 iX sC (wrap64 (bU+1)) aU aX bA bB aQ)=some r:=by rw [if_neg (show ¬(false=true) by decide)] at H;exact H
            clear H;have H:=H1;clear H1;have H':=aM H;clear H;have LO:wr.cell? ⟨dS,0,none⟩=some (.slice bM aU.length bO):=(aG cG.out 0).trans rfl;have LP:wr.cell? ⟨dS,1,none⟩=some (.slice bQ aX.length bR):=(aG cG.out 1).trans rfl;have LQ:wr.cell? ⟨dS,2,none⟩=some (.int .i64 bA):=(aG cG.out 2).trans rfl;have LR:wr.cell? ⟨dS,3,none⟩=some (.int .i64 bB):=(aG cG.out 3).trans rfl;have LS:wr.cell? ⟨dS,4,none⟩=some (.slice bV aQ.length bS):=(aG cG.out 4).trans rfl;have LT:=aH cG.out 0;have LU:=aH cG.out 1;have LV:=aH cG.out 2;have LW:=aH cG.out 3;have LX:=aH cG.out 4;have p348:0≤(bU:Int):=of_decide_eq_true (by first|(with_reducible assumption)|assumption);have q348:bU<(aQ.length:Int):=of_decide_eq_true (by first|(with_reducible assumption)|assumption);obtain⟨mO,Cf,Cg,e348,gJ,fE,iP,iQ⟩:=at_T35 eJ.out bU p348 q348
            cases e348;replace gJ:=(HB.out.cell (World.block_lt_of_cell? w _ gJ)).trans gJ;replace fE:=(HB.out.cell (World.block_lt_of_cell? w _ fE)).trans fE;have vC:=aM iQ;have vD:=aM iP;clear iQ iP;replace p348:=eq_true p348;replace q348:=eq_true q348;go_wp2
            go_roundg k3
            case measure=>have:=HK1.out;have:=HK2.out;have:=HK3.out;omega
            case rel=>exact⟨(iX),(sC),(wrap64 (bU+1)),(by first|rfl|(simp;done)|(simp [*];done)),(by first|rfl|(simp;done)|(simp [*];done)),H',⟨by have:=HK1.out;have:=HK2.out;have:=HK3.out;omega⟩,⟨gR gG.out⟩,⟨gB cG.out⟩,⟨gW HB.out⟩⟩
       ·rw [if_neg c13] at H
        have oF:decide (bU<(aQ.length:Int))=false:=decide_eq_false c13;clear c13;have H':=aM H;clear H;have Ab:wr.cell? ⟨dS,0,none⟩=some (.slice bM aU.length bO):=(aG cG.out 0).trans rfl;have Ac:wr.cell? ⟨dS,1,none⟩=some (.slice bQ aX.length bR):=(aG cG.out 1).trans rfl;have Tb:wr.cell? ⟨dS,2,none⟩=some (.int .i64 bA):=(aG cG.out 2).trans rfl;have Tc:wr.cell? ⟨dS,3,none⟩=some (.int .i64 bB):=(aG cG.out 3).trans rfl;have Td:wr.cell? ⟨dS,4,none⟩=some (.slice bV aQ.length bS):=(aG cG.out 4).trans rfl;have Ad:=aH cG.out 0;have Ag:=aH cG.out 1;have Te:=aH cG.out 2;have Tf:=aH cG.out 3;have Tg:=aH cG.out 4;go_wp2
        go_roundg k2
        case measure=>have:=HK1.out;have:=HK2.out;omega
        case rel=>exact⟨(iX),(sC),(by first|rfl|(simp;done)|(simp [*];done)),H',⟨by have:=HK1.out;have:=HK2.out;omega⟩,⟨gR gG.out⟩,⟨gB cG.out⟩,⟨gW HB.out⟩⟩
    ·replace c12:=Bool.eq_false_iff.mpr c12
     subst c12;have H1:(some dF)=some r:=by rw [if_neg (show ¬(false=true) by decide)] at H;exact H
     clear H;have H:=H1;clear H1;obtain rfl:=Option.some.inj H;go_wp2
     go_ret
     exact⟨_,by first|rfl|(simp [errW_none,errW_some]<;>rfl)|(simp [*,errW_none,errW_some]<;>rfl),gR gG.out,gW HB.out⟩
 ·replace c3:=Bool.eq_false_iff.mpr c3
  subst c3;have H1:(some ([]:List Bool))=some r:=by rw [if_neg (show ¬(false=true) by decide)] at H;exact H
  clear H;have H:=H1;clear H1;obtain rfl:=Option.some.inj H;go_enter Try.func45,Try.ntmps45
  go_wp2_with (first|((with_reducible refine bJ (N:=1) rfl ?_);refine box_event ?hg (N:=1) ?hd (cs:=#[.slice bM aU.length bO,.slice bQ aX.length bR,.int .i64 bA,.int .i64 bB,.slice bV aQ.length bS]) (t:=26) ?hr ?_;(case hd=>rfl);(case hg=>rfl);(case hr=>first|(go_simp;done)|(go_simp;rfl));intro dS hg w51 hbox hb;have cE:=aM (bG (gW HB.out) hb);have cF:=aM (hbox);have cH:=aM ((by rw [hg];exact(bH (gW HB.out)):w.heap.size≤dS));have cM:=aM ((by rw [hg];exact(bH (gW HB.out)):w.heap.size≤dS));clear HB;have HB:=cE;have cG:=cF;have GW343:=cH;have Lf:=cM;clear cE cF cH cM;clear hb hbox hg;have vJ:w51.cell? ⟨dS,0,none⟩=some (.slice bM aU.length bO):=(aG cG.out 0).trans rfl;have vK:w51.cell? ⟨dS,1,none⟩=some (.slice bQ aX.length bR):=(aG cG.out 1).trans rfl;have Th:w51.cell? ⟨dS,2,none⟩=some (.int .i64 bA):=(aG cG.out 2).trans rfl;have Ti:w51.cell? ⟨dS,3,none⟩=some (.int .i64 bB):=(aG cG.out 3).trans rfl;have Tj:w51.cell? ⟨dS,4,none⟩=some (.slice bV aQ.length bS):=(aG cG.out 4).trans rfl;have vL:=aH cG.out 0;have vM:=aH cG.out 1;have Tk:=aH cG.out 2;have Tl:=aH cG.out 3;have Tm:=aH cG.out 4)|((with_reducible refine bI (f:=30) rfl ?_);refine goesL_ (some 10) rfl rfl Try.func30 (by kernel_rfl) rfl #[.agg #[.slice bM aU.length bO,.slice bQ aX.length bR,.int .i64 bA,.int .i64 bB,.slice bV aQ.length bS]] rfl (by(try simp only [List.map_toArray,List.map_cons,List.map_nil]);first|done|rfl|(simp only [List.length_drop,List.length_take];rfl)) ?_;(with_reducible refine(regletref13_Right.calls k _ _ aU _ _ aX bA bB _ _ aQ false _ ?side1 ?side2 ?side3 ?side4 ?side5 ?side6 A2.out).mono ?_);(case side1=>exact gC (bD fN.out HB.out));(case side2=>exact fS.out);(case side3=>exact gC (bD gA.out HB.out));(case side4=>exact gD.out);(case side5=>exact gC (bD eJ.out HB.out));(case side6=>exact gE.out);rintro e w53 ⟨rfl,hb⟩;refine⟨_,rfl,?_⟩;have cE:=aM (bF (gB cG.out) hb);have cF:=aM (bG (gW HB.out) hb);clear cG;clear HB;have cG:=cE;have HB:=cF;clear cE cF;(try clear hb);(try clear hb2);(try clear hk);(try clear hi)))
  go_ret
  exact⟨_,by first|rfl|(simp [errW_none,errW_some]<;>rfl)|(simp [*,errW_none,errW_some]<;>rfl),by first|exact Kd.R_nil _ _ _ _ _|exact Kd.N_nil _ _ _ _ _|exact Kd.V_nil _ _ _ _ _|exact Kd.Q_nil _ _ _ _ _|exact Kd.S_nil _ _ _ _ _,gW HB.out⟩
end Go.Proofs.Ytapjfnfengefpaa.P
end

section
namespace Go.Proofs.Ytapjfnfengefpaa.P
open Go.RowKit Go.Proofs.YtapjfnfengefpaaW.PrintWords Go.Proofs.YtapjfnfengefpaaW.PrintLast Go.Proofs.YtapjfnfengefpaaW.PrintMore Go.Proofs.Ytapjfnfengefpaa.R
set_option linter.unusedVariables false
set_option linter.unusedSimpArgs false
def regletref13_first.l1 (aU:List ByteArray) (aX:List (S72)) (bA:Int) (bB:Int) (aQ:List (S35)):Nat→List (List Bool)→List Bool→Bool→Int→Option (Bool×List (List Bool))
 |0,_,_,_,_=>none
 |k+1,out,em,more,i=>
  if i<(aQ.length:Int) then
   if 0≤i then
    (regletref13_begins.f k aU aX bA bB aQ (rd_T35 aQ i).f1 out em).bind fun m=>
     if 0≤(rd_T35 aQ i).f0 then
      if(rd_T35 aQ i).f0<(out.length:Int) then
       (regletref13_join.f k (out.getD (rd_T35 aQ i).f0.toNat []) m.1).bind fun b=>
        regletref13_first.l1 aU aX bA bB aQ k (out.set (rd_T35 aQ i).f0.toNat b.2) em (if b.1=true then true else more) (wrap64 (i+1))
      else none
     else none
   else none
  else some (more,out)
def regletref13_first.l0 (aU:List ByteArray) (aX:List (S72)) (bA:Int) (bB:Int) (aQ:List (S35)):Nat→List (List Bool)→List Bool→Bool→Option (List (List Bool))
 |0,_,_,_=>none
 |k+1,out,em,more=>if more=true then(regletref13_first.l1 aU aX bA bB aQ k out em false 0).bind fun r=>regletref13_first.l0 aU aX bA bB aQ k r.2 em r.1 else some out
def regletref13_first.f (k:Nat) (aU:List ByteArray) (aX:List (S72)) (bA:Int) (bB:Int) (aQ:List (S35)):Option (List (List Bool)):=
 (regletref13_marks.f k aU aX bA bB aQ).bind fun out=>(regletref13_Empty.f k aU aX bA bB aQ).bind fun em=>regletref13_first.l0 aU aX bA bB aQ k out em true
set_option maxHeartbeats 2000000 in
set_option maxRecDepth 100000 in
theorem regletref13_first.calls (k:Nat) (bM:Option Addr) (bO:Nat) (aU:List ByteArray) (bQ:Option Addr) (bR:Nat) (aX:List (S72)) (bA:Int) (bB:Int) (bV:Option Addr) (bS:Nat) (aQ:List (S35)) (r:List (List Bool)) (w:World) (dX:Kd.C Kd.string w bM aU.length aU) (eE:aU.length≤bO) (eF:Kd.C k72 w bQ aX.length aX) (eG:aX.length≤bR) (dZ:Kd.C k35 w bV aQ.length aQ) (eM:aQ.length≤bS) (h:regletref13_first.f k aU aX bA bB aQ=some r):
 Calls Try.prog 44 #[.agg #[.slice bM aU.length bO,.slice bQ aX.length bR,.int .i64 bA,.int .i64 bB,.slice bV aQ.length bS]] w fun e w'=>∃v0_:Value,e= .returned (v0_)∧Kd.S (Kd.slice 4 Kd.bool) 90 w' w.heap.size (fun _=>True) v0_ r∧Below w.heap.size w w':=by
 obtain⟨m0,hm0,h2⟩:=Option.bind_eq_some_iff.1 h;clear h;obtain⟨em,hem,h3⟩:=Option.bind_eq_some_iff.1 h2;clear h2;have HM:=aM hm0;have HE:=aM hem;have HL:=aM h3;clear h3 hm0 hem;have HA1:Aside0 (Below w.heap.size w (w.alloc (.cells #[.slice bM aU.length bO,.slice bQ aX.length bR,.int .i64 bA,.int .i64 bB,.slice bV aQ.length bS] 26))):=⟨(Below.refl _ w).alloc (Nat.le_refl _) _⟩;have HA2:Aside0 ((w.alloc (.cells #[.slice bM aU.length bO,.slice bQ aX.length bR,.int .i64 bA,.int .i64 bB,.slice bV aQ.length bS] 26)).heap[w.heap.size]?=some (.cells #[.slice bM aU.length bO,.slice bQ aX.length bR,.int .i64 bA,.int .i64 bB,.slice bV aQ.length bS] 26 (0,0))):=⟨by simpa using heap_alloc_new w _⟩;go_enter Try.func44,Try.ntmps44
 go_wp2_with (go_at_call 43;(with_reducible refine(regletref13_marks.calls k bM bO aU bQ bR aX bA bB bV bS aQ m0 _ (bD dX HA1.out) eE (bD eF HA1.out) eG (bD dZ HA1.out) eM HM.out).mono ?_);rintro e w1 ⟨v1,rfl,hS1,hb1⟩;have HS1:=aM hS1;have HB1:=aM hb1;clear hS1 hb1;have Zv:Aside0 (w1.heap[w.heap.size]?=some (.cells #[.slice bM aU.length bO,.slice bQ aX.length bR,.int .i64 bA,.int .i64 bB,.slice bV aQ.length bS] 26 (0,0))):=⟨(HB1.out.block _ (by simp)).trans HA2.out⟩;have BL1:Aside0 (Below w.heap.size w w1):=⟨HA1.out.trans (HB1.out.mono (by simp))⟩;have SZ1:Aside0 (w.heap.size<w1.heap.size):=⟨by have:=HB1.out.size;simp at this;omega⟩;have HS2:Aside0 (Kd.S (Kd.slice 4 Kd.bool) 90 w1 w.heap.size (fun k_=>w.heap.size<k_∧k_<w1.heap.size) v1 m0):=⟨Kd.S_mono (Kd.S_lower (Kd.S_bound HS1.out) (by simp)) (fun k_ hk=>by have:=hk.2.1;have:=hk.2.2.1;simp at *;omega)⟩;clear HS1 HB1 HA1 HA2 HM;have q0:w1.cell? ⟨w.heap.size,0,none⟩=some (.slice bM aU.length bO):=(aG Zv.out 0).trans rfl;have q1:w1.cell? ⟨w.heap.size,1,none⟩=some (.slice bQ aX.length bR):=(aG Zv.out 1).trans rfl;have q2:w1.cell? ⟨w.heap.size,2,none⟩=some (.int .i64 bA):=(aG Zv.out 2).trans rfl;have q3:w1.cell? ⟨w.heap.size,3,none⟩=some (.int .i64 bB):=(aG Zv.out 3).trans rfl;have q4:w1.cell? ⟨w.heap.size,4,none⟩=some (.slice bV aQ.length bS):=(aG Zv.out 4).trans rfl)
 go_wp2_with (go_at_call 45;(with_reducible refine(regletref13_Empty.calls k bM bO aU bQ bR aX bA bB bV bS aQ em _ (bD dX BL1.out) eE (bD eF BL1.out) eG (bD dZ BL1.out) eM HE.out).mono ?_);rintro e w2 ⟨v2,rfl,hR2,hb2⟩;have HR2:=aM hR2;have HB2:=aM hb2;clear hR2 hb2 q0 q1 q2 q3 q4;have TV:Aside0 (w2.heap[w.heap.size]?=some (.cells #[.slice bM aU.length bO,.slice bQ aX.length bR,.int .i64 bA,.int .i64 bB,.slice bV aQ.length bS] 26 (0,0))):=⟨(HB2.out.block _ SZ1.out).trans Zv.out⟩;have BL2:Aside0 (Below w.heap.size w w2):=⟨BL1.out.trans (HB2.out.mono (Nat.le_of_lt SZ1.out))⟩;have HS3:Aside0 (Kd.S (Kd.slice 4 Kd.bool) 90 w2 w.heap.size (fun k_=>w.heap.size<k_∧k_<w1.heap.size) v1 m0):=⟨Kd.S_below HS2.out HB2.out⟩;have HR3:Aside0 (Kd.R Kd.bool 4 w2 w.heap.size (fun k_=>w1.heap.size≤k_) v2 em):=⟨Kd.R_mono (bL (Kd.R_bound HR2.out) (Nat.le_of_lt SZ1.out)) (fun k_ hk=>hk.2.1)⟩;have SZ2:Aside0 (w1.heap.size≤w2.heap.size):=⟨HB2.out.size⟩;clear Zv BL1 HS2 HR2 HB2 HE)
 obtain⟨A1,c1,rfl⟩:=Kd.S_slice HS3.out;obtain⟨A2,c2,rfl⟩:=Kd.R_slice HR3.out
 go_loopg [5] k (fun kq v5 wr=>∃(m:List (List Bool)) (more:Bool),v5= .bool more∧Aside0 (m.length=m0.length)∧Aside0 (regletref13_first.l0 aU aX bA bB aQ kq m em more=some r)∧Aside0 (kq≤k)∧Aside0 (wr.heap[w.heap.size]?=some (.cells #[.slice bM aU.length bO,.slice bQ aX.length bR,.int .i64 bA,.int .i64 bB,.slice bV aQ.length bS] 26 (0,0)))∧Aside0 (Below w.heap.size w wr)∧Aside0 (w1.heap.size≤wr.heap.size)∧Aside0 (Kd.S (Kd.slice 4 Kd.bool) 90 wr w.heap.size (fun k_=>w.heap.size<k_∧k_<w1.heap.size) (.slice A1 m0.length c1) m)∧Aside0 (Kd.R Kd.bool 4 wr w.heap.size (fun k_=>w1.heap.size≤k_) (.slice A2 em.length c2) em))
 case atStart=>exact⟨m0,true,rfl,⟨rfl⟩,HL,⟨Nat.le_refl _⟩,TV,BL2,SZ2,HS3,HR3⟩
 case round=>
  clear TV BL2 SZ2 HS3 HR3 HL;obtain⟨m,more,rfl,LN,HA,HK,BK,BL,SZ,HS,HR⟩:=hrel
  cases gk with
  |zero=>exact absurd HA.out (by simp [regletref13_first.l0])
  |succ k1=>
   have H:=HA.out;clear HA;simp only [regletref13_first.l0] at H
   cases more with
   |false=>
    obtain rfl:=Option.some.inj (by simpa using H);clear H;go_wp2
    go_ret
    exact⟨_,rfl,Kd.S_mono HS.out (fun _ _=>trivial),BL.out⟩
   |true=>
    rw [if_pos rfl] at H;obtain⟨⟨mr,outr⟩,h1,h2⟩:=Option.bind_eq_some_iff.1 H;clear H;have H1:=aM h1;have H2:=aM h2;clear h1 h2;go_wp2
    obtain⟨wo,ewo⟩:∃wo:World,wo=wr:=⟨_,rfl⟩;subst ewo
    go_loopg [5,6] k1 (fun kq v5 v6 wr=>∃(m:List (List Bool)) (more:Bool) (i:Int),v5= .bool more∧v6= .int .i64 i∧Aside0 (m.length=m0.length)∧Aside0 (regletref13_first.l1 aU aX bA bB aQ kq m em more i=some (mr,outr))∧Aside0 (kq≤k1)∧Aside0 (wr.heap[w.heap.size]?=some (.cells #[.slice bM aU.length bO,.slice bQ aX.length bR,.int .i64 bA,.int .i64 bB,.slice bV aQ.length bS] 26 (0,0)))∧Aside0 (Below w.heap.size w wr)∧Aside0 (w1.heap.size≤wr.heap.size)∧Aside0 (Kd.S (Kd.slice 4 Kd.bool) 90 wr w.heap.size (fun k_=>w.heap.size<k_∧k_<w1.heap.size) (.slice A1 m0.length c1) m)∧Aside0 (Kd.R Kd.bool 4 wr w.heap.size (fun k_=>w1.heap.size≤k_) (.slice A2 em.length c2) em))
    case atStart=>exact⟨m,false,0,rfl,rfl,LN,H1,⟨Nat.le_refl _⟩,BK,BL,SZ,HS,HR⟩
    case round=>
     clear H1 LN BK BL SZ HS HR;obtain⟨m,more,i,rfl,rfl,LN,HA,HK2,BK,BL,SZ,HS,HR⟩:=hrel
     cases gk with
     |zero=>exact absurd HA.out (by simp [regletref13_first.l1])
     |succ k2=>
      have H:=HA.out;clear HA;simp only [regletref13_first.l1] at H;have q0:wr.cell? ⟨w.heap.size,0,none⟩=some (.slice bM aU.length bO):=(aG BK.out 0).trans rfl;have q1:wr.cell? ⟨w.heap.size,1,none⟩=some (.slice bQ aX.length bR):=(aG BK.out 1).trans rfl;have q2:wr.cell? ⟨w.heap.size,2,none⟩=some (.int .i64 bA):=(aG BK.out 2).trans rfl;have q3:wr.cell? ⟨w.heap.size,3,none⟩=some (.int .i64 bB):=(aG BK.out 3).trans rfl;have q4:wr.cell? ⟨w.heap.size,4,none⟩=some (.slice bV aQ.length bS):=(aG BK.out 4).trans rfl
      by_cases hi:i<(aQ.length:Int)
      ·rw [if_pos hi] at H
       by_cases hi0:0≤i
       rotate_left
       ·rw [if_neg hi0] at H;exact absurd H (by simp)
       rw [if_pos hi0] at H;obtain⟨⟨bm,be⟩,hbg,H3⟩:=Option.bind_eq_some_iff.1 H;clear H;have HG:=aM hbg;clear hbg;simp only at H3
       by_cases hl0:0≤(rd_T35 aQ i).f0
       rotate_left
       ·rw [if_neg hl0] at H3;exact absurd H3 (by simp)
       rw [if_pos hl0] at H3
       by_cases hl1:(rd_T35 aQ i).f0<(m.length:Int)
       rotate_left
       ·rw [if_neg hl1] at H3;exact absurd H3 (by simp)
       rw [if_pos hl1] at H3;obtain⟨⟨jb,jr⟩,hj,H4⟩:=Option.bind_eq_some_iff.1 H3;clear H3;simp only at H4;have HJ:=aM hj;have HN:=aM H4;clear hj H4;have AT:Aside0 (∀W:World,Below w.heap.size w W→∃ad A1 c1,bV=some ad∧W.cell? (ad.add (i.toNat * 2))=some (.int .i64 (rd_T35 aQ i).f0)∧W.cell? ⟨(ad.add (i.toNat * 2)).block,(ad.add (i.toNat * 2)).off+1,none⟩=some (.slice A1 (rd_T35 aQ i).f1.length c1)∧(rd_T35 aQ i).f1.length≤c1∧Kd.C k43 W A1 (rd_T35 aQ i).f1.length (rd_T35 aQ i).f1):=⟨fun W hW=>at_T35 (bD dZ hW) i hi0 hi⟩;generalize rd_T35 aQ i=p at AT HG HJ HN hl0 hl1;obtain⟨ad,A3,c3,ead,e0,e1,hle3,hC3⟩:=AT.out wr BL.out
       cases ead;have d0:decide (i<(aQ.length:Int))=true:=decide_eq_true hi;have p0:=eq_true hi0;have p1:=eq_true hi;have HI:=aM (And.intro hi hi0);have HLL:=aM (And.intro hl0 hl1);clear hi hi0 hl0 hl1;have HC3:=aM hC3;have HLE3:=aM hle3;clear hC3 hle3;go_wp2
       have SZW:Aside0 (w.heap.size<wr.drew.heap.size):=⟨Nat.lt_of_lt_of_le SZ1.out SZ.out⟩;have KEEP:Aside0 (∀w3:World,Below wr.drew.heap.size wr.drew w3→w3.cell? ⟨w.heap.size,0,none⟩=some (.slice bM aU.length bO)∧w3.cell? ⟨w.heap.size,1,none⟩=some (.slice bQ aX.length bR)∧w3.cell? ⟨w.heap.size,2,none⟩=some (.int .i64 bA)∧w3.cell? ⟨w.heap.size,3,none⟩=some (.int .i64 bB)∧w3.cell? ⟨w.heap.size,4,none⟩=some (.slice (some ad) aQ.length bS)∧w3.cell? ⟨(ad.add (i.toNat * 2)).block,(ad.add (i.toNat * 2)).off+1,none⟩=some (.slice A3 p.f1.length c3)):=⟨fun w3 h3=>⟨(h3.cell (p:=⟨w.heap.size,0,none⟩) SZW.out).trans q0,(h3.cell (p:=⟨w.heap.size,1,none⟩) SZW.out).trans q1,(h3.cell (p:=⟨w.heap.size,2,none⟩) SZW.out).trans q2,(h3.cell (p:=⟨w.heap.size,3,none⟩) SZW.out).trans q3,(h3.cell (p:=⟨w.heap.size,4,none⟩) SZW.out).trans q4,(h3.cell (p:=⟨(ad.add (i.toNat * 2)).block,(ad.add (i.toNat * 2)).off+1,none⟩) (World.block_lt_of_cell? wr _ e1)).trans e1⟩⟩;have hcon:=regletref13_begins.calls k2 bM bO aU bQ bR aX bA bB (some ad) bS aQ A3 c3 p.f1 A1 c1 m A2 c2 em bm be wr.drew (bD dX (aO BL.out)) eE (bD eF (aO BL.out)) eG (bD dZ (aO BL.out)) eM (bD HC3.out (aO (Below.refl _ _))) HLE3.out (by have:=(Kd.S_reads' (aW HS.out)).2.2;exact this) (by rw [LN.out];exact(Kd.S_reads' HS.out).2.1) (aF (aC HR.out)).2.2 (aF HR.out).2.1 HG.out;rw [LN.out] at hcon
       go_region_held3 (fun w'=>w'.cell? ⟨w.heap.size,0,none⟩=some (.slice bM aU.length bO)∧w'.cell? ⟨w.heap.size,1,none⟩=some (.slice bQ aX.length bR)∧w'.cell? ⟨w.heap.size,2,none⟩=some (.int .i64 bA)∧w'.cell? ⟨w.heap.size,3,none⟩=some (.int .i64 bB)∧w'.cell? ⟨w.heap.size,4,none⟩=some (.slice (some ad) aQ.length bS)∧w'.cell? ⟨(ad.add (i.toNat * 2)).block,(ad.add (i.toNat * 2)).off+1,none⟩=some (.slice A3 p.f1.length c3))
        (first|go_keep|exact KEEP.out _ HB3.out)
        (first|(go_at_call 46;(with_reducible refine hcon.mono ?_);rintro e w3 ⟨v3,rfl,hR5,hb3⟩;have HR5:=aM hR5;have HB3:=aM hb3;clear hR5 hb3))
       have RD:Aside0 (w3.heap[w.heap.size]?=some (.cells #[.slice bM aU.length bO,.slice bQ aX.length bR,.int .i64 bA,.int .i64 bB,.slice (some ad) aQ.length bS] 26 (0,0))):=⟨(HB3.out.block _ SZW.out).trans BK.out⟩;have BL3:Aside0 (Below w.heap.size w w3):=⟨(aO BL.out).trans (HB3.out.mono (Nat.le_of_lt SZW.out))⟩;have SZ3:Aside0 (w1.heap.size≤w3.heap.size):=⟨Nat.le_trans SZ.out HB3.out.size⟩;have HS6:=aM (Kd.S_below (aW HS.out) HB3.out);have HR6:=aM (aD (aC HR.out) HB3.out);obtain⟨A5,c5,rfl⟩:=Kd.R_slice HR5.out;obtain⟨g,vr,P,eA,hcell,hRow,hP,hback⟩:=S_row rfl HS6.out p.f0 HLL.out.1 HLL.out.2
       cases eA;generalize m.getD p.f0.toNat []=row at hRow HJ;obtain⟨A4,c4,rfl⟩:=Kd.R_slice hRow;obtain⟨ad',A3',c3',ead,e0',e1',_,_⟩:=AT.out w3 BL3.out
       cases ead;have hcon2:=regletref13_join.calls k2 P _ _ A5 c5 bm jb jr w w3 BL3.out hRow (fun W_ hk=>(aF (Kd.R_step (Kd.R_bound HR5.out) (fun k_ hk1 hk2=>hk.2 k_ hk2 (fun hk3=>by have:=(hP k_ hk3).1.2;have:=hk1.2.1;have:=SZ.out;simp at *;omega)))).2.2) (aF HR5.out).2.1 HJ.out;have HBK:=aM hback;have HP:=aM hP;clear KEEP hback hP hRow HS6 HR5 HB3 hcon e0 e1 q0 q1 q2 q3 q4 BK BL SZ HS HR;have q4:w3.cell? ⟨w.heap.size,4,none⟩=some (.slice (some ad) aQ.length bS):=(aG RD.out 4).trans rfl;have p2:=eq_true HLL.out.1;have p3:(p.f0<(m0.length:Int))=True:=eq_true (by have:=HLL.out.2;rw [LN.out] at this;exact this)
       cases jb
       all_goals
        go_wp2_with (go_at_call 47;(with_reducible refine hcon2.mono ?_);rintro e w4 ⟨rfl,hR7,hb4,hk4⟩;have HR7:=aM hR7;have HB4:=aM hb4;have HK4:=aM hk4;clear hR7 hb4 hk4 hcon2)
        have VS:Aside0 (w4.heap[w.heap.size]?=some (.cells #[.slice bM aU.length bO,.slice bQ aX.length bR,.int .i64 bA,.int .i64 bB,.slice (some ad) aQ.length bS] 26 (0,0))):=⟨(HK4.out.2 _ (Nat.lt_of_lt_of_le SZ1.out SZ3.out) (fun hk=>by have:=(HP.out _ hk).1.1;omega)).trans RD.out⟩;have SZ4:Aside0 (w1.heap.size≤w4.heap.size):=⟨Nat.le_trans SZ3.out HK4.out.1⟩;have HS7:=aM (HBK.out w4 _ jr HK4.out HR7.out);have HR8:Aside0 (Kd.R Kd.bool 4 w4 w.heap.size (fun k_=>w1.heap.size≤k_) (.slice A2 em.length c2) em):=⟨Kd.R_step HR6.out (fun k_ hk hlt=>HK4.out.2 k_ hlt (fun hk3=>by have:=(HP.out _ hk3).1.2;omega))⟩;clear HBK HP HR7 HK4 HR6 HJ RD BL3 SZ3
        go_roundg k2
        case measure=>omega
        case rel=>exact⟨m.set p.f0.toNat jr,_,_,rfl,rfl,⟨by rw [List.length_set];exact LN.out⟩,HN,⟨by have:=HK2.out;omega⟩,VS,HB4,SZ4,HS7,HR8⟩
      ·rw [if_neg hi] at H
       have he:=Option.some.inj H;injection he with e1 e2
       subst e1;subst e2;clear H;have d0:decide (i<(aQ.length:Int))=false:=decide_eq_false hi;clear hi;go_wp2
       go_roundg k1
       case measure=>omega
       case rel=>exact⟨m,more,rfl,LN,H2,⟨by have:=HK.out;omega⟩,BK,BL,SZ,HS,HR⟩
end Go.Proofs.Ytapjfnfengefpaa.P
end

section
namespace Go.Proofs.Ytapjfnfengefpaa.P
open Go.RowKit Go.Proofs.YtapjfnfengefpaaW.PrintWords Go.Proofs.YtapjfnfengefpaaW.PrintLast Go.Proofs.YtapjfnfengefpaaW.PrintMore
attribute [local go_sem] max2_int min2_int max_two min_two max_three min_three max_four min_four   -- for this text's walks alone
set_option linter.unusedVariables false
set_option linter.unusedSimpArgs false
def regletref13_list.l0:Nat→List Bool→List Int→Int→Option (List Int)
 |0,_,_,_=>none
 |k+1,x0,x3,x4=>if x4<(x0.length:Int) then(if 0≤x4 then(if rdOf false x0 x4=true then(if x3.length<17592186044416 then(regletref13_list.l0 k x0 (x3++ [x4]) (wrap64 (x4+1))) else(none)) else(regletref13_list.l0 k x0 x3 (wrap64 (x4+1)))) else(none)) else(some x3)
def regletref13_list.f (k:Nat) (l0:List Bool):Option (List Int):=regletref13_list.l0 k l0 ([]:List Int) 0
set_option maxHeartbeats 8000000 in
set_option maxRecDepth 100000 in
theorem regletref13_list.calls (k:Nat) (A0:Option Addr) (c0:Nat) (l0:List Bool) (r:List Int) (w:World) (hr0:Kd.C Kd.bool w A0 l0.length l0) (hc0:l0.length≤c0) (h:regletref13_list.f k l0=some r):
 Calls Try.prog 49 #[.slice A0 l0.length c0] w fun e w'=>∃v0_:Value,e= .returned (v0_)∧Kd.R (Kd.int .i64) 3 w' w.heap.size (fun _=>True) v0_ r∧Below w.heap.size w w':=by
 have HR0:=aM hr0;have HC0:=aM hc0;clear hr0 hc0;have HB:=aM (Below.refl w.heap.size w);have H:(regletref13_list.l0 k l0 ([]:List Int) 0)=some r:=h;clear h;have H':=aM H;clear H;go_enter Try.func49,Try.ntmps49
 go_wp2
 go_loopg [3,4] k (fun kq v3 v4 w'=>∃(dF:List Int) (cC:Int),v4= .int .i64 cC∧Aside0 (regletref13_list.l0 kq l0 dF cC=some r)∧Aside0 (kq≤k)∧Aside0 (Kd.R (Kd.int .i64) 3 w' w.heap.size (fun _=>True) v3 dF)∧Aside0 (Below w.heap.size w w'))
 case atStart=>exact⟨(([]:List Int)),(0),(by first|rfl|(simp;done)|(simp [*];done)),H',⟨Nat.le_refl _⟩,⟨by first|exact Kd.R_nil _ _ _ _ _|exact Kd.N_nil _ _ _ _ _|exact Kd.V_nil _ _ _ _ _|exact Kd.Q_nil _ _ _ _ _|exact Kd.S_nil _ _ _ _ _⟩,⟨gW HB.out⟩⟩
 case round=>
  clear H';obtain⟨dF,cC,rfl,HA,HK1,gG,HB⟩:=hrel
  cases gk with
  |zero=>exact absurd HA.out (by simp [regletref13_list.l0])
  |succ k1=>
   have H:=HA.out;clear HA;simp only [regletref13_list.l0] at H
   by_cases c2:cC<(l0.length:Int)
   ·rw [if_pos c2] at H
    have Zw:decide (cC<(l0.length:Int))=true:=decide_eq_true c2;clear c2
    by_cases c3:0≤cC
    rotate_left
    ·rw [if_neg c3] at H
     exact absurd H (by simp)
    rw [if_pos c3] at H;have uM:decide (0≤cC)=true:=decide_eq_true c3;clear c3;obtain⟨bq4,hbq4⟩:∃b_:Bool,b_=(rdOf false l0 cC):=⟨_,rfl⟩;replace H:(if bq4=true then(if dF.length<17592186044416 then(regletref13_list.l0 k1 l0 (dF++ [cC]) (wrap64 (cC+1))) else(none)) else(regletref13_list.l0 k1 l0 dF (wrap64 (cC+1))))=some r:=by rw [←hbq4] at H;exact H
    have Nbq4:=aM hbq4;clear hbq4
    by_cases c5:bq4=true
    ·subst c5
     have H1:(if dF.length<17592186044416 then(regletref13_list.l0 k1 l0 (dF++ [cC]) (wrap64 (cC+1))) else(none))=some r:=by rw [if_pos rfl] at H;exact H
     clear H;have H:=H1;clear H1
     by_cases c6:dF.length<17592186044416
     rotate_left
     ·rw [if_neg c6] at H
      exact absurd H (by simp)
     rw [if_pos c6] at H;have Zx:=aM c6;clear c6;obtain⟨y385,Hn⟩:∃y_:List Int,y_=(dF++ [cC]):=⟨_,rfl⟩;replace H:(regletref13_list.l0 k1 l0 y385 (wrap64 (cC+1)))=some r:=by first|(rw [Hn];with_reducible exact H)|(have H2_:=(Option.bind_some _ _).symm.trans H;rw [Hn];with_reducible exact H2_)|(have H2_:=(Option.bind_some _ _).symm.trans H;with_reducible exact H2_)|with_reducible exact H|(rw [Hn];exact H)|exact H
     have DS:=aM Hn;clear Hn;have H':=aM H;clear H;have p384:0≤(cC:Int):=of_decide_eq_true (by first|(with_reducible assumption)|assumption);have q384:cC<(l0.length:Int):=of_decide_eq_true (by first|(with_reducible assumption)|assumption);obtain⟨DT,e384,nK⟩:=Kd.at_bool HR0.out cC p384 q384
     (try rw [←Nbq4.out] at nK)
     cases e384;replace nK:=(HB.out.cell (World.block_lt_of_cell? w _ nK)).trans nK;replace p384:=eq_true p384;replace q384:=eq_true q384
     go_wp2_with (first|((with_reducible refine gate_builtin (b:= .append) (xs:=#[.tmp 15,.tmp 17]) rfl ?_);at_builtin;refine Kd.R_append (Kd.int .i64) (w0:=w) w.heap.size rfl (.tmp 15) (.tmp 17) 32 3 (.int .i64 0) 8 rfl Try.underlying32 info3 rfl (by decide) (by omega) u3 dF cC [.int .i64 cC] (fun _=>True) (fun _=>False) rfl rfl ?aP (fun _ hk=>hk.elim) ?aF ?aO ?aB ?aS ?aL ?_;(case aP=>exact rfl);(case aB=>exact(gW HB.out));(case aF=>exact(fun _ _=>trivial));(case aO=>exact(gR gG.out));(case aS=>exact(bH (gW HB.out)));(case aL=>have:=Zx.out;omega);intro v386 w7 ho hb hg hat;rw [←DS.out] at ho;have cE:=aM (hb);have cF:=aM (ho);clear HB;clear gG;have HB:=cE;have DU:=cF;clear cE cF;clear ho hb hg hat))
     go_roundg k1
     case measure=>have:=HK1.out;omega
     case rel=>exact⟨(y385),(wrap64 (cC+1)),(by first|rfl|(simp;done)|(simp [*];done)),H',⟨by have:=HK1.out;omega⟩,⟨gR DU.out⟩,⟨gW HB.out⟩⟩
    ·replace c5:=Bool.eq_false_iff.mpr c5
     subst c5;have H1:(regletref13_list.l0 k1 l0 dF (wrap64 (cC+1)))=some r:=by rw [if_neg (show ¬(false=true) by decide)] at H;exact H
     clear H;have H:=H1;clear H1;have H':=aM H;clear H;have p384:0≤(cC:Int):=of_decide_eq_true (by first|(with_reducible assumption)|assumption);have q384:cC<(l0.length:Int):=of_decide_eq_true (by first|(with_reducible assumption)|assumption);obtain⟨DT,e384,nK⟩:=Kd.at_bool HR0.out cC p384 q384
     (try rw [←Nbq4.out] at nK)
     cases e384;replace nK:=(HB.out.cell (World.block_lt_of_cell? w _ nK)).trans nK;replace p384:=eq_true p384;replace q384:=eq_true q384;go_wp2
     go_roundg k1
     case measure=>have:=HK1.out;omega
     case rel=>exact⟨(dF),(wrap64 (cC+1)),(by first|rfl|(simp;done)|(simp [*];done)),H',⟨by have:=HK1.out;omega⟩,⟨gR gG.out⟩,⟨gW HB.out⟩⟩
   ·rw [if_neg c2] at H
    have Zw:decide (cC<(l0.length:Int))=false:=decide_eq_false c2;clear c2;obtain rfl:=Option.some.inj H;go_wp2
    go_ret
    exact⟨_,by first|rfl|(simp [errW_none,errW_some]<;>rfl)|(simp [*,errW_none,errW_some]<;>rfl),gR gG.out,gW HB.out⟩
def regletref13_lists.l0:Nat→List (List Bool)→List (List Int)→Int→Option ((List (List Int)))
 |0,_,_,_=>none
 |k+1,x0,x3,x4=>if x4<(x0.length:Int) then(if 0≤x4 then((regletref13_list.f k (rd_L17 x0 x4)).bind fun t389=>(if x3.length<5864062014805 then(regletref13_lists.l0 k x0 (x3++ [t389]) (wrap64 (x4+1))) else(none))) else(none)) else(some x3)
def regletref13_lists.f (k:Nat) (l0:List (List Bool)):Option ((List (List Int))):=regletref13_lists.l0 k l0 ([]:List (List Int)) 0
set_option maxHeartbeats 8000000 in
set_option maxRecDepth 100000 in
theorem regletref13_lists.calls (k:Nat) (A0:Option Addr) (c0:Nat) (l0:List (List Bool)) (r:List (List Int)) (w:World) (hr0:Kd.C (Kd.slice 4 Kd.bool) w A0 l0.length l0) (hc0:l0.length≤c0) (h:regletref13_lists.f k l0=some r):
 Calls Try.prog 48 #[.slice A0 l0.length c0] w fun e w'=>∃v0_:Value,e= .returned (v0_)∧Kd.S (Kd.slice 3 (Kd.int .i64)) 32 w' w.heap.size (fun _=>True) v0_ r∧Below w.heap.size w w':=by
 have HR0:=aM hr0;have HC0:=aM hc0;clear hr0 hc0;have HB:=aM (Below.refl w.heap.size w);have H:(regletref13_lists.l0 k l0 ([]:List (List Int)) 0)=some r:=h;clear h;have H':=aM H;clear H;go_enter Try.func48,Try.ntmps48
 go_wp2
 go_loopg [3,4] k (fun kq v3 v4 w'=>∃(dF:List (List Int)) (cC:Int),v4= .int .i64 cC∧Aside0 (regletref13_lists.l0 kq l0 dF cC=some r)∧Aside0 (kq≤k)∧Aside0 (Kd.S (Kd.slice 3 (Kd.int .i64)) 32 w' w.heap.size (fun _=>True) v3 dF)∧Aside0 (Below w.heap.size w w'))
 case atStart=>exact⟨(([]:List (List Int))),(0),(by first|rfl|(simp;done)|(simp [*];done)),H',⟨Nat.le_refl _⟩,⟨by first|exact Kd.S_nil _ _ _ _ _|exact Kd.N_nil _ _ _ _ _|exact Kd.V_nil _ _ _ _ _|exact Kd.Q_nil _ _ _ _ _|exact Kd.R_nil _ _ _ _ _⟩,⟨gW HB.out⟩⟩
 case round=>
  clear H';obtain⟨dF,cC,rfl,HA,HK1,gG,HB⟩:=hrel
  cases gk with
  |zero=>exact absurd HA.out (by simp [regletref13_lists.l0])
  |succ k1=>
   have H:=HA.out;clear HA;simp only [regletref13_lists.l0] at H
   by_cases c2:cC<(l0.length:Int)
   ·rw [if_pos c2] at H
    have Zw:decide (cC<(l0.length:Int))=true:=decide_eq_true c2;clear c2
    by_cases c3:0≤cC
    rotate_left
    ·rw [if_neg c3] at H
     exact absurd H (by simp)
    rw [if_pos c3] at H;have uM:decide (0≤cC)=true:=decide_eq_true c3;clear c3;replace H:=Option.bind_eq_some_iff.mp H;obtain⟨t389,A40,H⟩:=H;replace H:(if dF.length<5864062014805 then(regletref13_lists.l0 k1 l0 (dF++ [t389]) (wrap64 (cC+1))) else(none))=some r:=H;have A4:=aM A40;clear A40
    by_cases c5:dF.length<5864062014805
    rotate_left
    ·rw [if_neg c5] at H
     exact absurd H (by simp)
    rw [if_pos c5] at H;have RE:=aM c5;clear c5;obtain⟨y392,Ho⟩:∃y_:List (List Int),y_=(dF++ [t389]):=⟨_,rfl⟩;replace H:(regletref13_lists.l0 k1 l0 y392 (wrap64 (cC+1)))=some r:=by first|(rw [Ho];with_reducible exact H)|(have H2_:=(Option.bind_some _ _).symm.trans H;rw [Ho];with_reducible exact H2_)|(have H2_:=(Option.bind_some _ _).symm.trans H;with_reducible exact H2_)|with_reducible exact H|(rw [Ho];exact H)|exact H
    have DV:=aM Ho;clear Ho;have H':=aM H;clear H;have p388:0≤(cC:Int):=of_decide_eq_true (by first|(with_reducible assumption)|assumption);have q388:cC<(l0.length:Int):=of_decide_eq_true (by first|(with_reducible assumption)|assumption);obtain⟨TW,Zy,Zz,e388,Ec,Ln,Lo⟩:=at_L17 HR0.out cC p388 q388
    cases e388;replace Ec:=(HB.out.cell (World.block_lt_of_cell? w _ Ec)).trans Ec;have Tn:=aM Lo;have To:=aM Ln;clear Lo Ln;replace p388:=eq_true p388;replace q388:=eq_true q388
    go_wp2_with (first|((with_reducible refine bI (f:=49) rfl ?_);refine goesL_ (some 16) rfl rfl Try.func49 (by kernel_rfl) rfl #[.slice Zy (rd_L17 l0 cC).length Zz] rfl (by(try simp only [List.map_toArray,List.map_cons,List.map_nil]);first|done|rfl|(simp only [List.length_drop,List.length_take];rfl)) ?_;(with_reducible refine(regletref13_list.calls k1 _ _ (rd_L17 l0 cC) t389 _ ?side1 ?side2 A4.out).mono ?_);(case side1=>exact gC (bD Tn.out HB.out));(case side2=>exact To.out);rintro e w6 ⟨v390,rfl,ho0,hb⟩;refine⟨_,rfl,?_⟩;have cE:=aM (Kd.S_elder' (gS gG.out) (Kd.R_base ho0) hb);have cF:=aM (bL ho0 (bH (gW HB.out)));have cH:=aM (bG (gW HB.out) hb);clear gG;clear HB;have gG:=cE;have Lp:=cF;have HB:=cH;clear cE cF cH;(try clear hb);(try clear hb2);(try clear hk);(try clear hi);(try clear ho0);obtain⟨BY,Zm,BX⟩:=Kd.R_slice Lp.out;subst BX)|((with_reducible refine gate_builtin (b:= .append) (xs:=#[.tmp 11,.tmp 17]) rfl ?_);at_builtin;refine Kd.S_append (Kd.slice 3 (Kd.int .i64)) (w0:=w) w.heap.size rfl (.tmp 11) (.tmp 17) 27 32 (.slice none 0 0) 24 rfl Try.underlying27 info32 rfl (by decide) (by omega) u3 dF t389 [.slice BY t389.length Zm] (fun _=>True) (fun k_=>some k_=(.slice BY t389.length Zm:Value).ownBlock) rfl rfl ?aP (fun k_ hk_=>((Kd.R_mono (ok':=fun k_=>((fun _=>True)) k_∧some k_≠(u3:Value).ownBlock) (Kd.R_apart' (Lp.out) (Kd.S_typed gG.out) (by decide)) (fun k_ hk=>⟨trivial,hk.2⟩))).1 k_ hk_.symm) ?aF ?aO ?aB ?aS ?aL ?_;(case aP=>exact Kd.M_row (Kd.R_mono (Kd.R_tight rfl (Kd.R_mono (ok':=fun k_=>((fun _=>True)) k_∧some k_≠(u3:Value).ownBlock) (Kd.R_apart' (Lp.out) (Kd.S_typed gG.out) (by decide)) (fun k_ hk=>⟨trivial,hk.2⟩))) (fun _ h_=>h_)));(case aB=>exact(gW HB.out));(case aF=>exact(fun _ _=>trivial));(case aO=>exact(by(with_reducible repeat(first|apply Kd.S_alloc|apply aV|apply aW));exact Kd.S_mono gG.out (fun k_ hk=>⟨trivial,fun e_=>hk.2 e_⟩)));(case aS=>exact(bH (gW HB.out)));(case aL=>have:=RE.out;omega);intro v393 w7 ho hb hg hat;rw [←DV.out] at ho;have cE:=aM (hb);have cF:=aM (ho);clear HB;clear gG;clear Lp;have HB:=cE;have DW:=cF;clear cE cF;clear ho hb hg hat))
    go_roundg k1
    case measure=>have:=HK1.out;omega
    case rel=>exact⟨(y392),(wrap64 (cC+1)),(by first|rfl|(simp;done)|(simp [*];done)),H',⟨by have:=HK1.out;omega⟩,⟨gS DW.out⟩,⟨gW HB.out⟩⟩
   ·rw [if_neg c2] at H
    have Zw:decide (cC<(l0.length:Int))=false:=decide_eq_false c2;clear c2;obtain rfl:=Option.some.inj H;go_wp2
    go_ret
    exact⟨_,by first|rfl|(simp [errW_none,errW_some]<;>rfl)|(simp [*,errW_none,errW_some]<;>rfl),gS gG.out,gW HB.out⟩
def regletref14_has.l0:Nat→List Int→Int→Int→Option (Bool)
 |0,_,_,_=>none
 |k+1,x0,x1,x5=>if x5<(x0.length:Int) then(if 0≤x5 then(if(rd x0 x5)=x1 then(some true) else(regletref14_has.l0 k x0 x1 (wrap64 (x5+1)))) else(none)) else(some false)
def regletref14_has.f (k:Nat) (l0:List Int) (a1:Int):Option (Bool):=regletref14_has.l0 k l0 a1 0
set_option maxHeartbeats 8000000 in
set_option maxRecDepth 100000 in
theorem regletref14_has.calls (k:Nat) (A0:Option Addr) (c0:Nat) (l0:List Int) (a1:Int) (r:Bool) (w:World) (hr0:Kd.C (Kd.int .i64) w A0 l0.length l0) (hc0:l0.length≤c0) (h:regletref14_has.f k l0 a1=some r):
 Calls Try.prog 33 #[.slice A0 l0.length c0,.int .i64 a1] w fun e w'=>e= .returned (.bool r)∧Drawn0 w w':=by
 have HR0:=aM hr0;have HC0:=aM hc0;clear hr0 hc0;have H:(regletref14_has.l0 k l0 a1 0)=some r:=h;clear h;have H':=aM H;clear H;go_enter Try.func33,Try.ntmps33
 go_wp2
 go_loopg [5] k (fun kq v5 w'=>∃(gH:Int),v5= .int .i64 gH∧Aside0 (regletref14_has.l0 kq l0 a1 gH=some r)∧Aside0 (kq≤k)∧Drawn0 w w')
 case atStart=>exact⟨(0),(by first|rfl|(simp;done)|(simp [*];done)),H',⟨Nat.le_refl _⟩,by repeat(first|exact Drawn0.refl _|apply Drawn0.step)⟩
 case round=>
  clear H'
  (try clear p2)
  obtain⟨gH,rfl,HA,HK1,⟨m1,rfl⟩⟩:=hrel
  cases gk with
  |zero=>exact absurd HA.out (by simp [regletref14_has.l0])
  |succ k1=>
   have H:=HA.out;clear HA;simp only [regletref14_has.l0] at H
   by_cases c3:gH<(l0.length:Int)
   ·rw [if_pos c3] at H
    have uM:decide (gH<(l0.length:Int))=true:=decide_eq_true c3;clear c3
    by_cases c4:0≤gH
    rotate_left
    ·rw [if_neg c4] at H
     exact absurd H (by simp)
    rw [if_pos c4] at H;have Di:decide (0≤gH)=true:=decide_eq_true c4;clear c4
    by_cases c5:(rd l0 gH)=a1
    ·rw [if_pos c5] at H
     have Gt:((rd l0 gH)==a1)=true:=beq_iff_eq.mpr c5;have Oh:((rd l0 gH) !=a1)=false:=bne_eq_false_iff_eq.mpr c5;clear c5;obtain rfl:=Option.some.inj H;have p395:0≤(gH:Int):=of_decide_eq_true (by first|(with_reducible assumption)|assumption);have q395:gH<(l0.length:Int):=of_decide_eq_true (by first|(with_reducible assumption)|assumption);obtain⟨DX,e395,Tp⟩:=Kd.at_int HR0.out gH p395 q395
     cases e395;replace p395:=eq_true p395;replace q395:=eq_true q395;go_wp2
     go_ret
     exact⟨by first|rfl|(simp;done)|(simp [*];done),by repeat(first|exact Drawn0.refl _|apply Drawn0.step)⟩
    ·rw [if_neg c5] at H
     have Gt:((rd l0 gH)==a1)=false:=beq_eq_false_iff_ne.mpr c5;have Oh:((rd l0 gH) !=a1)=true:=bne_iff_ne.mpr c5;have H':=aM H;clear H;have p395:0≤(gH:Int):=of_decide_eq_true (by first|(with_reducible assumption)|assumption);have q395:gH<(l0.length:Int):=of_decide_eq_true (by first|(with_reducible assumption)|assumption);obtain⟨DX,e395,Tp⟩:=Kd.at_int HR0.out gH p395 q395
     cases e395;replace p395:=eq_true p395;replace q395:=eq_true q395;go_wp2
     go_roundg k1
     case measure=>have:=HK1.out;omega
     case rel=>exact⟨(wrap64 (gH+1)),(by first|rfl|(simp;done)|(simp [*];done)),H',⟨by have:=HK1.out;omega⟩,by repeat(first|exact Drawn0.refl _|apply Drawn0.step)⟩
   ·rw [if_neg c3] at H
    have uM:decide (gH<(l0.length:Int))=false:=decide_eq_false c3;clear c3;obtain rfl:=Option.some.inj H;go_wp2
    go_ret
    exact⟨by first|rfl|(simp;done)|(simp [*];done),by repeat(first|exact Drawn0.refl _|apply Drawn0.step)⟩
end Go.Proofs.Ytapjfnfengefpaa.P
end

section
namespace Go.Proofs.Ytapjfnfengefpaa.P
open Go.RowKit Go.Proofs.YtapjfnfengefpaaW.PrintWords Go.Proofs.YtapjfnfengefpaaW.PrintLast Go.Proofs.YtapjfnfengefpaaW.PrintMore Go.Proofs.Ytapjfnfengefpaa.R
set_option linter.unusedVariables false
set_option linter.unusedSimpArgs false
def regletref13_Of.f (k:Nat) (aU:List ByteArray) (aX:List (S72)) (bA:Int) (bB:Int) (aQ:List (S35)) (l1:List (S43)):Option (List Int×Bool):=
 (regletref13_Right.f k aU aX bA bB aQ).bind fun r=>if r=true then if(aU.length:Int)=0 then some ([],false) else(regletref13_Right.f k aU aX bA bB [⟨0,l1⟩]).bind fun r2=>if r2=true then(regletref13_first.f k aU aX bA bB aQ).bind fun f=>(regletref13_Empty.f k aU aX bA bB aQ).bind fun e=>(regletref13_begins.f k aU aX bA bB aQ l1 f e).bind fun y=>(regletref13_list.f k y.1).bind fun z=>some (z,y.2) else some ([],false) else some ([],false)
set_option maxHeartbeats 4000000 in
theorem regletref13_Of.calls (k:Nat) (bM:Option Addr) (bO:Nat) (aU:List ByteArray) (bQ:Option Addr) (bR:Nat) (aX:List (S72)) (bA:Int) (bB:Int) (bV:Option Addr) (bS:Nat) (aQ:List (S35)) (A1:Option Addr) (c1:Nat) (l1:List (S43)) (r1:List Int) (r2:Bool) (w:World) (dX:Kd.C Kd.string w bM aU.length aU) (eE:aU.length≤bO) (eF:Kd.C k72 w bQ aX.length aX) (eG:aX.length≤bR) (dZ:Kd.C k35 w bV aQ.length aQ) (eM:aQ.length≤bS) (hr1:Kd.C k43 w A1 l1.length l1) (hc1:l1.length≤c1) (h:regletref13_Of.f k aU aX bA bB aQ l1=some (r1,r2)):
 Calls Try.prog 32 #[.agg #[.slice bM aU.length bO,.slice bQ aX.length bR,.int .i64 bA,.int .i64 bB,.slice bV aQ.length bS],.slice A1 l1.length c1] w fun e w'=>∃v0_:Value,e= .returned (.tuple #[v0_,.bool r2])∧Kd.R (Kd.int .i64) 3 w' w.heap.size (fun _=>True) v0_ r1∧Below w.heap.size w w':=by
 obtain⟨rt,hrt,h2⟩:=Option.bind_eq_some_iff.1 h;have HRT:=aM hrt;clear h hrt;have H0:Aside0 (((((w.alloc (.cells #[.slice bM aU.length bO,.slice bQ aX.length bR,.int .i64 bA,.int .i64 bB,.slice bV aQ.length bS] 26)).alloc (.cells #[.int .i64 0,.slice A1 l1.length c1] 35)).alloc (.cells #[.slice bM aU.length bO,.slice bQ aX.length bR,.int .i64 bA,.int .i64 bB,.slice (some ⟨w.heap.size+1+1+1,0,none⟩) 1 1] 26)).alloc (.cells #[.int .i64 0,.slice A1 l1.length c1] 35)).heap[w.heap.size]?=some (.cells #[.slice bM aU.length bO,.slice bQ aX.length bR,.int .i64 bA,.int .i64 bB,.slice bV aQ.length bS] 26 (0,0))):=⟨aI (aI (aI (heap_alloc_new w _) _) _) _⟩;have H1:Aside0 (((((w.alloc (.cells #[.slice bM aU.length bO,.slice bQ aX.length bR,.int .i64 bA,.int .i64 bB,.slice bV aQ.length bS] 26)).alloc (.cells #[.int .i64 0,.slice A1 l1.length c1] 35)).alloc (.cells #[.slice bM aU.length bO,.slice bQ aX.length bR,.int .i64 bA,.int .i64 bB,.slice (some ⟨w.heap.size+1+1+1,0,none⟩) 1 1] 26)).alloc (.cells #[.int .i64 0,.slice A1 l1.length c1] 35)).heap[w.heap.size+1+1]?=some (.cells #[.slice bM aU.length bO,.slice bQ aX.length bR,.int .i64 bA,.int .i64 bB,.slice (some ⟨w.heap.size+1+1+1,0,none⟩) 1 1] 26 (0,0))):=⟨aI (by have h:=heap_alloc_new ((w.alloc (.cells #[.slice bM aU.length bO,.slice bQ aX.length bR,.int .i64 bA,.int .i64 bB,.slice bV aQ.length bS] 26)).alloc (.cells #[.int .i64 0,.slice A1 l1.length c1] 35)) (.cells #[.slice bM aU.length bO,.slice bQ aX.length bR,.int .i64 bA,.int .i64 bB,.slice (some ⟨w.heap.size+1+1+1,0,none⟩) 1 1] 26);simp only [World.size_alloc] at h;exact h) _⟩;have HC:Aside0 (∀W,Below (w.heap.size+4) ((((w.alloc (.cells #[.slice bM aU.length bO,.slice bQ aX.length bR,.int .i64 bA,.int .i64 bB,.slice bV aQ.length bS] 26)).alloc (.cells #[.int .i64 0,.slice A1 l1.length c1] 35)).alloc (.cells #[.slice bM aU.length bO,.slice bQ aX.length bR,.int .i64 bA,.int .i64 bB,.slice (some ⟨w.heap.size+1+1+1,0,none⟩) 1 1] 26)).alloc (.cells #[.int .i64 0,.slice A1 l1.length c1] 35)) W→W.cell? ⟨w.heap.size,0,none⟩=some (.slice bM aU.length bO)∧W.cell? ⟨w.heap.size,1,none⟩=some (.slice bQ aX.length bR)∧W.cell? ⟨w.heap.size,2,none⟩=some (.int .i64 bA)∧W.cell? ⟨w.heap.size,3,none⟩=some (.int .i64 bB)∧W.cell? ⟨w.heap.size,4,none⟩=some (.slice bV aQ.length bS)):=⟨fun W hW=>⟨(aG ((hW.block _ (by omega)).trans H0.out) 0).trans rfl,(aG ((hW.block _ (by omega)).trans H0.out) 1).trans rfl,(aG ((hW.block _ (by omega)).trans H0.out) 2).trans rfl,(aG ((hW.block _ (by omega)).trans H0.out) 3).trans rfl,(aG ((hW.block _ (by omega)).trans H0.out) 4).trans rfl⟩⟩;have HD:Aside0 (∀W,Below (w.heap.size+4) ((((w.alloc (.cells #[.slice bM aU.length bO,.slice bQ aX.length bR,.int .i64 bA,.int .i64 bB,.slice bV aQ.length bS] 26)).alloc (.cells #[.int .i64 0,.slice A1 l1.length c1] 35)).alloc (.cells #[.slice bM aU.length bO,.slice bQ aX.length bR,.int .i64 bA,.int .i64 bB,.slice (some ⟨w.heap.size+1+1+1,0,none⟩) 1 1] 26)).alloc (.cells #[.int .i64 0,.slice A1 l1.length c1] 35)) W→W.cell? ⟨w.heap.size+1+1,0,none⟩=some (.slice bM aU.length bO)∧W.cell? ⟨w.heap.size+1+1,1,none⟩=some (.slice bQ aX.length bR)∧W.cell? ⟨w.heap.size+1+1,2,none⟩=some (.int .i64 bA)∧W.cell? ⟨w.heap.size+1+1,3,none⟩=some (.int .i64 bB)∧W.cell? ⟨w.heap.size+1+1,4,none⟩=some (.slice (some ⟨w.heap.size+1+1+1,0,none⟩) 1 1)):=⟨fun W hW=>⟨(aG ((hW.block _ (by omega)).trans H1.out) 0).trans rfl,(aG ((hW.block _ (by omega)).trans H1.out) 1).trans rfl,(aG ((hW.block _ (by omega)).trans H1.out) 2).trans rfl,(aG ((hW.block _ (by omega)).trans H1.out) 3).trans rfl,(aG ((hW.block _ (by omega)).trans H1.out) 4).trans rfl⟩⟩;have HA4:Aside0 (Below w.heap.size w ((((w.alloc (.cells #[.slice bM aU.length bO,.slice bQ aX.length bR,.int .i64 bA,.int .i64 bB,.slice bV aQ.length bS] 26)).alloc (.cells #[.int .i64 0,.slice A1 l1.length c1] 35)).alloc (.cells #[.slice bM aU.length bO,.slice bQ aX.length bR,.int .i64 bA,.int .i64 bB,.slice (some ⟨w.heap.size+1+1+1,0,none⟩) 1 1] 26)).alloc (.cells #[.int .i64 0,.slice A1 l1.length c1] 35))):=⟨aN (aN (aN (aN (Below.refl _ w) _) _) _) _⟩
 have HT:Aside0 (∀W,Below (w.heap.size+4) ((((w.alloc (.cells #[.slice bM aU.length bO,.slice bQ aX.length bR,.int .i64 bA,.int .i64 bB,.slice bV aQ.length bS] 26)).alloc (.cells #[.int .i64 0,.slice A1 l1.length c1] 35)).alloc (.cells #[.slice bM aU.length bO,.slice bQ aX.length bR,.int .i64 bA,.int .i64 bB,.slice (some ⟨w.heap.size+1+1+1,0,none⟩) 1 1] 26)).alloc (.cells #[.int .i64 0,.slice A1 l1.length c1] 35)) W→Kd.C k35 W (some ⟨w.heap.size+1+1+1,0,none⟩) [(⟨0,l1⟩:S35)].length [(⟨0,l1⟩:S35)]):=⟨fun W hW=>by
  have hb:W.heap[w.heap.size+1+1+1]?=some (.cells #[.int .i64 0,.slice A1 l1.length c1] 35 (0,0)):=by
   have h4:=heap_alloc_new (((w.alloc (.cells #[.slice bM aU.length bO,.slice bQ aX.length bR,.int .i64 bA,.int .i64 bB,.slice bV aQ.length bS] 26)).alloc (.cells #[.int .i64 0,.slice A1 l1.length c1] 35)).alloc (.cells #[.slice bM aU.length bO,.slice bQ aX.length bR,.int .i64 bA,.int .i64 bB,.slice (some ⟨w.heap.size+1+1+1,0,none⟩) 1 1] 26)) (.cells #[.int .i64 0,.slice A1 l1.length c1] 35);simp only [World.size_alloc] at h4;exact(hW.block _ (by omega)).trans h4
  refine⟨rfl,by simp,fun _=>⟨_,rfl,fun j p hj=>?_⟩⟩
  have hj0:j=0:=by
   cases j with
   |zero=>rfl
   |succ j=>simp at hj
  subst hj0;obtain rfl:(⟨0,l1⟩:S35)=p:=by simpa using hj
  refine⟨_,rfl,k35_mk W ⟨0,l1⟩ hc1 (bD hr1 (HA4.out.trans (hW.mono (by omega)))),fun i u hi=>?_⟩
  rw [Nat.zero_mul,Nat.zero_add,add_plain,aG hb]
  simpa using hi⟩
 cases rt with
 |false=>
  rw [if_neg (by simp)] at h2;obtain⟨rfl,rfl⟩:=Prod.mk.inj (Option.some.inj h2);clear h2;go_enter Try.func32,Try.ntmps32
  go_wp2_with (go_at_call 30;(with_reducible refine(regletref13_Right.calls k bM bO aU bQ bR aX bA bB bV bS aQ false _ (bD dX HA4.out) eE (bD eF HA4.out) eG (bD dZ HA4.out) eM HRT.out).mono ?_);rintro e w1 ⟨rfl,hb1⟩)
  go_ret2
  exact⟨_,rfl,Kd.R_nil _ _ _ _ _,HA4.out.trans (hb1.mono (by simp;omega))⟩
 |true=>
  rw [if_pos rfl] at h2
  by_cases hz:(aU.length:Int)=0
  ·rw [if_pos hz] at h2
   obtain⟨rfl,rfl⟩:=Prod.mk.inj (Option.some.inj h2);clear h2;have hzb:((aU.length:Int)==0)=true:=beq_iff_eq.mpr hz;have hzn:(aU.length=0)=True:=eq_true (by omega);clear hz;go_enter Try.func32,Try.ntmps32
   go_wp2_with (first|(go_at_call 30;(with_reducible refine(regletref13_Right.calls k bM bO aU bQ bR aX bA bB bV bS aQ true _ (bD dX HA4.out) eE (bD eF HA4.out) eG (bD dZ HA4.out) eM HRT.out).mono ?_);rintro e w1 ⟨rfl,hb1⟩;have HB1:Aside0 (Below (w.heap.size+4) ((((w.alloc (.cells #[.slice bM aU.length bO,.slice bQ aX.length bR,.int .i64 bA,.int .i64 bB,.slice bV aQ.length bS] 26)).alloc (.cells #[.int .i64 0,.slice A1 l1.length c1] 35)).alloc (.cells #[.slice bM aU.length bO,.slice bQ aX.length bR,.int .i64 bA,.int .i64 bB,.slice (some ⟨w.heap.size+1+1+1,0,none⟩) 1 1] 26)).alloc (.cells #[.int .i64 0,.slice A1 l1.length c1] 35)) w1):=⟨hb1.mono (by simp)⟩;have HB01:Aside0 (Below w.heap.size w w1):=⟨HA4.out.trans (HB1.out.mono (by omega))⟩;clear hb1;obtain⟨q0,q1,q2,q3,q4⟩:=HC.out w1 HB1.out;obtain⟨t0,t1,t2,t3,t4⟩:=HD.out w1 HB1.out))
   go_ret2
   exact⟨_,rfl,Kd.R_nil _ _ _ _ _,HB01.out⟩
  ·rw [if_neg hz] at h2
   have hzb:((aU.length:Int)==0)=false:=beq_eq_false_iff_ne.mpr hz;have hzn:(aU.length=0)=False:=eq_false (by omega);clear hz;obtain⟨rt2,hrt2,h3⟩:=Option.bind_eq_some_iff.1 h2;have HRT2:=aM hrt2;clear h2 hrt2
   cases rt2 with
   |false=>
    rw [if_neg (by simp)] at h3;obtain⟨rfl,rfl⟩:=Prod.mk.inj (Option.some.inj h3);clear h3;go_enter Try.func32,Try.ntmps32
    go_wp2_with (first
     |(go_at_call 30;have hR2:=regletref13_Right.calls k bM bO aU bQ bR aX bA bB (some ⟨w.heap.size+1+1+1,0,none⟩) 1 [(⟨0,l1⟩:S35)] false w1 (bD dX HB01.out) eE (bD eF HB01.out) eG (HT.out w1 HB1.out) (by simp) HRT2.out;simp only [List.length_cons,List.length_nil,Nat.zero_add] at hR2;(with_reducible refine hR2.mono ?_);rintro e w2 ⟨rfl,hb2⟩;have HB2:Aside0 (Below (w.heap.size+4) ((((w.alloc (.cells #[.slice bM aU.length bO,.slice bQ aX.length bR,.int .i64 bA,.int .i64 bB,.slice bV aQ.length bS] 26)).alloc (.cells #[.int .i64 0,.slice A1 l1.length c1] 35)).alloc (.cells #[.slice bM aU.length bO,.slice bQ aX.length bR,.int .i64 bA,.int .i64 bB,.slice (some ⟨w.heap.size+1+1+1,0,none⟩) 1 1] 26)).alloc (.cells #[.int .i64 0,.slice A1 l1.length c1] 35)) w2):=⟨HB1.out.trans (hb2.mono (by have:=HB1.out.size;simp at this;omega))⟩;have HB02:Aside0 (Below w.heap.size w w2):=⟨HA4.out.trans (HB2.out.mono (by omega))⟩;clear hR2 hb2 t0 t1 t2 t3 t4 q0 q1 q2 q3 q4;obtain⟨q0,q1,q2,q3,q4⟩:=HC.out w2 HB2.out)
     |(go_at_call 30;(with_reducible refine(regletref13_Right.calls k bM bO aU bQ bR aX bA bB bV bS aQ true _ (bD dX HA4.out) eE (bD eF HA4.out) eG (bD dZ HA4.out) eM HRT.out).mono ?_);rintro e w1 ⟨rfl,hb1⟩;have HB1:Aside0 (Below (w.heap.size+4) ((((w.alloc (.cells #[.slice bM aU.length bO,.slice bQ aX.length bR,.int .i64 bA,.int .i64 bB,.slice bV aQ.length bS] 26)).alloc (.cells #[.int .i64 0,.slice A1 l1.length c1] 35)).alloc (.cells #[.slice bM aU.length bO,.slice bQ aX.length bR,.int .i64 bA,.int .i64 bB,.slice (some ⟨w.heap.size+1+1+1,0,none⟩) 1 1] 26)).alloc (.cells #[.int .i64 0,.slice A1 l1.length c1] 35)) w1):=⟨hb1.mono (by simp)⟩;have HB01:Aside0 (Below w.heap.size w w1):=⟨HA4.out.trans (HB1.out.mono (by omega))⟩;clear hb1;obtain⟨q0,q1,q2,q3,q4⟩:=HC.out w1 HB1.out;obtain⟨t0,t1,t2,t3,t4⟩:=HD.out w1 HB1.out))
    go_ret2
    exact⟨_,rfl,Kd.R_nil _ _ _ _ _,HB02.out⟩
   |true=>
    rw [if_pos rfl] at h3;obtain⟨f,hf,h4⟩:=Option.bind_eq_some_iff.1 h3;obtain⟨em,he,h5⟩:=Option.bind_eq_some_iff.1 h4;obtain⟨⟨bl,bb⟩,hbg,h6⟩:=Option.bind_eq_some_iff.1 h5;obtain⟨ri,hri,h7⟩:=Option.bind_eq_some_iff.1 h6;obtain⟨rfl,rfl⟩:=Prod.mk.inj (Option.some.inj h7);have HF:=aM hf;have HE:=aM he;have HBG:=aM hbg;have HRI:=aM hri;clear h3 h4 h5 h6 h7 hf he hbg hri;go_enter Try.func32,Try.ntmps32
    go_upto_region 6 with(first
     |(go_at_call 30;have hR2:=regletref13_Right.calls k bM bO aU bQ bR aX bA bB (some ⟨w.heap.size+1+1+1,0,none⟩) 1 [(⟨0,l1⟩:S35)] true w1 (bD dX HB01.out) eE (bD eF HB01.out) eG (HT.out w1 HB1.out) (by simp) HRT2.out;simp only [List.length_cons,List.length_nil,Nat.zero_add] at hR2;(with_reducible refine hR2.mono ?_);rintro e w2 ⟨rfl,hb2⟩;have HB2:Aside0 (Below (w.heap.size+4) ((((w.alloc (.cells #[.slice bM aU.length bO,.slice bQ aX.length bR,.int .i64 bA,.int .i64 bB,.slice bV aQ.length bS] 26)).alloc (.cells #[.int .i64 0,.slice A1 l1.length c1] 35)).alloc (.cells #[.slice bM aU.length bO,.slice bQ aX.length bR,.int .i64 bA,.int .i64 bB,.slice (some ⟨w.heap.size+1+1+1,0,none⟩) 1 1] 26)).alloc (.cells #[.int .i64 0,.slice A1 l1.length c1] 35)) w2):=⟨HB1.out.trans (hb2.mono (by have:=HB1.out.size;simp at this;omega))⟩;have HB02:Aside0 (Below w.heap.size w w2):=⟨HA4.out.trans (HB2.out.mono (by omega))⟩;clear hR2 hb2 t0 t1 t2 t3 t4 q0 q1 q2 q3 q4;obtain⟨q0,q1,q2,q3,q4⟩:=HC.out w2 HB2.out)
     |(go_at_call 30;(with_reducible refine(regletref13_Right.calls k bM bO aU bQ bR aX bA bB bV bS aQ true _ (bD dX HA4.out) eE (bD eF HA4.out) eG (bD dZ HA4.out) eM HRT.out).mono ?_);rintro e w1 ⟨rfl,hb1⟩;have HB1:Aside0 (Below (w.heap.size+4) ((((w.alloc (.cells #[.slice bM aU.length bO,.slice bQ aX.length bR,.int .i64 bA,.int .i64 bB,.slice bV aQ.length bS] 26)).alloc (.cells #[.int .i64 0,.slice A1 l1.length c1] 35)).alloc (.cells #[.slice bM aU.length bO,.slice bQ aX.length bR,.int .i64 bA,.int .i64 bB,.slice (some ⟨w.heap.size+1+1+1,0,none⟩) 1 1] 26)).alloc (.cells #[.int .i64 0,.slice A1 l1.length c1] 35)) w1):=⟨hb1.mono (by simp)⟩;have HB01:Aside0 (Below w.heap.size w w1):=⟨HA4.out.trans (HB1.out.mono (by omega))⟩;clear hb1;obtain⟨q0,q1,q2,q3,q4⟩:=HC.out w1 HB1.out;obtain⟨t0,t1,t2,t3,t4⟩:=HD.out w1 HB1.out))
    have HFC:Aside0 (∀W:World,Below w.heap.size w W→Calls Try.prog 44 #[.agg #[.slice bM aU.length bO,.slice bQ aX.length bR,.int .i64 bA,.int .i64 bB,.slice bV aQ.length bS]] W fun e w'=>∃v0_:Value,e= .returned (v0_)∧Kd.S (Kd.slice 4 Kd.bool) 90 w' W.heap.size (fun _=>True) v0_ f∧Below W.heap.size W w'):=⟨fun W hb=>regletref13_first.calls k bM bO aU bQ bR aX bA bB bV bS aQ f W (bD dX hb) eE (bD eF hb) eG (bD dZ hb) eM HF.out⟩;have HEC:Aside0 (∀W:World,Below w.heap.size w W→Calls Try.prog 45 #[.agg #[.slice bM aU.length bO,.slice bQ aX.length bR,.int .i64 bA,.int .i64 bB,.slice bV aQ.length bS]] W fun e w'=>∃v0_:Value,e= .returned (v0_)∧Kd.R Kd.bool 4 w' W.heap.size (fun _=>True) v0_ em∧Below W.heap.size W w'):=⟨fun W hb=>regletref13_Empty.calls k bM bO aU bQ bR aX bA bB bV bS aQ em W (bD dX hb) eE (bD eF hb) eG (bD dZ hb) eM HE.out⟩
    go_cut [8,9] from 10 (fun s8 s9 wc=>∃A7 c7,s8= .slice A7 bl.length c7∧s9= .bool bb∧Aside0 (Kd.R Kd.bool 4 wc w.heap.size (fun _=>True) (.slice A7 bl.length c7) bl)∧Aside0 (Below w.heap.size w wc))
    case first=>
     go_region_held3 (fun W=>W.cell? ⟨w.heap.size,0,none⟩=some (.slice bM aU.length bO)∧W.cell? ⟨w.heap.size,1,none⟩=some (.slice bQ aX.length bR)∧W.cell? ⟨w.heap.size,2,none⟩=some (.int .i64 bA)∧W.cell? ⟨w.heap.size,3,none⟩=some (.int .i64 bB)∧W.cell? ⟨w.heap.size,4,none⟩=some (.slice bV aQ.length bS))
      (first|exact HC.out _ KBB.out|exact HC.out _ KBL.out|exact HC.out _ KB1.out|exact HC.out _ (Below.drew HB2.out)|go_keep)
      (first
       |(go_at_call 44;(with_reducible refine(HFC.out w2.drew (aO HB02.out)).mono ?_);rintro e wf ⟨vf,rfl,hSf,hbf⟩;obtain⟨Af,cf,rfl⟩:=Kd.S_slice hSf;have HSF:=aM hSf;have HBF:Aside0 (Below w.heap.size w wf):=⟨((aO HB02.out)).trans (hbf.mono ((aO HB02.out)).size)⟩;have KB1:Aside0 (Below (w.heap.size+4) ((((w.alloc (.cells #[.slice bM aU.length bO,.slice bQ aX.length bR,.int .i64 bA,.int .i64 bB,.slice bV aQ.length bS] 26)).alloc (.cells #[.int .i64 0,.slice A1 l1.length c1] 35)).alloc (.cells #[.slice bM aU.length bO,.slice bQ aX.length bR,.int .i64 bA,.int .i64 bB,.slice (some ⟨w.heap.size+1+1+1,0,none⟩) 1 1] 26)).alloc (.cells #[.int .i64 0,.slice A1 l1.length c1] 35)) wf):=⟨((Below.drew HB2.out)).trans (hbf.mono (by have:=((Below.drew HB2.out)).size;simp at this ⊢;omega))⟩;clear hSf hbf q0 q1 q2 q3 q4)
       |(go_at_call 44;(with_reducible refine(HFC.out we HBE.out).mono ?_);rintro e wf ⟨vf,rfl,hSf,hbf⟩;obtain⟨Af,cf,rfl⟩:=Kd.S_slice hSf;have HBL:Aside0 (Below w.heap.size w wf):=⟨(HBE.out).trans (hbf.mono (HBE.out).size)⟩;have KBL:Aside0 (Below (w.heap.size+4) ((((w.alloc (.cells #[.slice bM aU.length bO,.slice bQ aX.length bR,.int .i64 bA,.int .i64 bB,.slice bV aQ.length bS] 26)).alloc (.cells #[.int .i64 0,.slice A1 l1.length c1] 35)).alloc (.cells #[.slice bM aU.length bO,.slice bQ aX.length bR,.int .i64 bA,.int .i64 bB,.slice (some ⟨w.heap.size+1+1+1,0,none⟩) 1 1] 26)).alloc (.cells #[.int .i64 0,.slice A1 l1.length c1] 35)) wf):=⟨(KB1.out).trans (hbf.mono (by have:=(KB1.out).size;simp at this ⊢;omega))⟩;have CF:=aM (Kd.S_reads' hSf).2;have CE:=aM (And.intro (aF HRE.out).2.1 (bD (aF HRE.out).2.2 hbf));clear hSf hbf)
       |(go_at_call 45;(with_reducible refine(HEC.out w2.drew (aO HB02.out)).mono ?_);rintro e we ⟨ve,rfl,hRe,hbe⟩;obtain⟨Ae,ce,rfl⟩:=Kd.R_slice hRe;have HRE:=aM hRe;have HBE:Aside0 (Below w.heap.size w we):=⟨((aO HB02.out)).trans (hbe.mono ((aO HB02.out)).size)⟩;have KB1:Aside0 (Below (w.heap.size+4) ((((w.alloc (.cells #[.slice bM aU.length bO,.slice bQ aX.length bR,.int .i64 bA,.int .i64 bB,.slice bV aQ.length bS] 26)).alloc (.cells #[.int .i64 0,.slice A1 l1.length c1] 35)).alloc (.cells #[.slice bM aU.length bO,.slice bQ aX.length bR,.int .i64 bA,.int .i64 bB,.slice (some ⟨w.heap.size+1+1+1,0,none⟩) 1 1] 26)).alloc (.cells #[.int .i64 0,.slice A1 l1.length c1] 35)) we):=⟨((Below.drew HB2.out)).trans (hbe.mono (by have:=((Below.drew HB2.out)).size;simp at this ⊢;omega))⟩;clear hRe hbe q0 q1 q2 q3 q4)
       |(go_at_call 45;(with_reducible refine(HEC.out wf HBF.out).mono ?_);rintro e we ⟨ve,rfl,hRe,hbe⟩;obtain⟨Ae,ce,rfl⟩:=Kd.R_slice hRe;have HBL:Aside0 (Below w.heap.size w we):=⟨(HBF.out).trans (hbe.mono (HBF.out).size)⟩;have KBL:Aside0 (Below (w.heap.size+4) ((((w.alloc (.cells #[.slice bM aU.length bO,.slice bQ aX.length bR,.int .i64 bA,.int .i64 bB,.slice bV aQ.length bS] 26)).alloc (.cells #[.int .i64 0,.slice A1 l1.length c1] 35)).alloc (.cells #[.slice bM aU.length bO,.slice bQ aX.length bR,.int .i64 bA,.int .i64 bB,.slice (some ⟨w.heap.size+1+1+1,0,none⟩) 1 1] 26)).alloc (.cells #[.int .i64 0,.slice A1 l1.length c1] 35)) we):=⟨(KB1.out).trans (hbe.mono (by have:=(KB1.out).size;simp at this ⊢;omega))⟩;have CE:=aM (aF hRe).2;have CF:=aM (And.intro (Kd.S_reads' HSF.out).2.1 (bD (Kd.S_reads' HSF.out).2.2 hbe));clear hRe hbe)
       |(go_at_call 46;(with_reducible refine(regletref13_begins.calls k bM bO aU bQ bR aX bA bB bV bS aQ A1 c1 l1 Af cf f Ae ce em bl bb _ (bD dX HBL.out) eE (bD eF HBL.out) eG (bD dZ HBL.out) eM (bD hr1 HBL.out) hc1 CF.out.2 CF.out.1 CE.out.2 CE.out.1 HBG.out).mono ?_);rintro e wb ⟨vb,rfl,hRb,hbb⟩;obtain⟨A7,c7,rfl⟩:=Kd.R_slice hRb;have HRB:=aM (bL hRb HBL.out.size);have HBB:Aside0 (Below w.heap.size w wb):=⟨HBL.out.trans (hbb.mono HBL.out.size)⟩;have KBB:Aside0 (Below (w.heap.size+4) ((((w.alloc (.cells #[.slice bM aU.length bO,.slice bQ aX.length bR,.int .i64 bA,.int .i64 bB,.slice bV aQ.length bS] 26)).alloc (.cells #[.int .i64 0,.slice A1 l1.length c1] 35)).alloc (.cells #[.slice bM aU.length bO,.slice bQ aX.length bR,.int .i64 bA,.int .i64 bB,.slice (some ⟨w.heap.size+1+1+1,0,none⟩) 1 1] 26)).alloc (.cells #[.int .i64 0,.slice A1 l1.length c1] 35)) wb):=⟨KBL.out.trans (hbb.mono (by have:=KBL.out.size;simp at this ⊢;omega))⟩;clear hRb hbb))
     all_goals
      go_wp2_with fail
      go_meet
      case rel=>exact⟨A7,c7,rfl,rfl,HRB,HBB⟩
    case rest=>
     obtain⟨A7,c7,rfl,rfl,HRB,HBB⟩:=hcut
     go_wp2_with (go_at_call 49;(with_reducible refine(regletref13_list.calls k A7 c7 bl ri _ (aF HRB.out).2.2 (aF HRB.out).2.1 HRI.out).mono ?_);rintro e w5 ⟨v5,rfl,hR5,hb5⟩;have HR5:=aM hR5;have HB5:=aM hb5;clear hR5 hb5)
     go_ret2
     exact⟨_,rfl,bL HR5.out HBB.out.size,HBB.out.trans (HB5.out.mono HBB.out.size)⟩
def rJoinRow (k:Nat) (n:Int) (m:List Bool) (out:List (List Bool)):Option (Bool×List (List Bool)):=
 if 0≤n then if n<(out.length:Int) then(regletref13_join.f k (out.getD n.toNat []) m).bind fun b=>some (b.1,out.set n.toNat b.2) else none else none
def rJoinFrom (k:Nat) (left:Int) (m:List Bool) (e:Bool) (out:List (List Bool)):Option (List Bool):=
 if e=true then if 0≤left then if left<(out.length:Int) then(regletref13_join.f k m (out.getD left.toNat [])).bind fun b=>some b.2 else none else none else some m
def rFollowIn (k:Nat) (aU:List ByteArray) (aX:List (S72)) (bA:Int) (bB:Int) (aQ:List (S35)) (f:List (List Bool)) (em:List Bool) (left:Int):List (S43)→Bool→List (List Bool)→Option (Bool×List (List Bool))
 | [],more,out=>some (more,out)
 |y::ys,more,out=>if y.f0=true then rFollowIn k aU aX bA bB aQ f em left ys more out else
  (regletref13_begins.f k aU aX bA bB aQ ys f em).bind fun l=>(rJoinFrom k left l.1 l.2 out).bind fun m=>(rJoinRow k y.f1 m out).bind fun b=>rFollowIn k aU aX bA bB aQ f em left ys (if b.1=true then true else more) b.2
def rFollowPs (k:Nat) (aU:List ByteArray) (aX:List (S72)) (bA:Int) (bB:Int) (aQ:List (S35)) (f:List (List Bool)) (em:List Bool):List (S35)→Bool→List (List Bool)→Option (Bool×List (List Bool))
 | [],more,out=>some (more,out)
 |p::ps,more,out=>(rFollowIn k aU aX bA bB aQ f em p.f0 p.f1 more out).bind fun b=>rFollowPs k aU aX bA bB aQ f em ps b.1 b.2
def rFollowOut (kk:Nat) (aU:List ByteArray) (aX:List (S72)) (bA:Int) (bB:Int) (aQ:List (S35)) (f:List (List Bool)) (em:List Bool):Nat→List (List Bool)→Bool→Option (List (List Bool))
 |0,_,_=>none
 |k+1,out,more=>if more=true then(rFollowPs kk aU aX bA bB aQ f em aQ false out).bind fun b=>rFollowOut kk aU aX bA bB aQ f em k b.2 b.1 else some out
def rFollow0 (nt:Nat) (out:List (List Bool)):Option (List (List Bool)):=
 if 0<out.length then if nt<(out.getD 0 []).length then some (out.set 0 ((out.getD 0 []).set nt true)) else none else some out
def regletref13_Follow.f (k:Nat) (aU:List ByteArray) (aX:List (S72)) (bA:Int) (bB:Int) (aQ:List (S35)):Option (List (List Int)):=
 if aQ.length≤9223372036854775807∧aQ.all (fun p=>decide (p.f1.length≤9223372036854775807))=true then
 (regletref13_Right.f k aU aX bA bB aQ).bind fun r=>if r=true then(regletref13_marks.f k aU aX bA bB aQ).bind fun out=>(regletref13_first.f k aU aX bA bB aQ).bind fun f=>(regletref13_Empty.f k aU aX bA bB aQ).bind fun em=>(rFollow0 aX.length out).bind fun out0=>(rFollowOut k aU aX bA bB aQ f em k out0 true).bind fun o=>regletref13_lists.f k o else some []
 else none
structure RFollowI (w w5:World) (lo hi:Nat) (Ao:Option Addr) (co N:Nat) (out:List (List Bool)) (W:World):Prop where
 bel:Below w.heap.size w W
 r:Kd.S (Kd.slice 4 Kd.bool) 90 W w.heap.size (fun k=>lo≤k∧k<hi) (.slice Ao N co) out
 k:Kept w5 W (fun k=>lo≤k∧k<hi)
 h:hi≤W.heap.size
section
variable {w w5:World}{lo hi:Nat}{Ao:Option Addr}{co N:Nat}{out out':List (List Bool)}{W W':World}
theorem RFollowI.below (h:RFollowI w w5 lo hi Ao co N out W) (hb:Below W.heap.size W W'):RFollowI w w5 lo hi Ao co N out W':=
 ⟨h.bel.trans (hb.mono h.bel.size),Kd.S_below h.r hb,h.k.below hb,Nat.le_trans h.h hb.size⟩
end
set_option maxHeartbeats 1000000 in
theorem rjoin_from (k:Nat) (w w5 W:World) (lo hi:Nat) (Ao:Option Addr) (co N:Nat) (out:List (List Bool)) (HI:RFollowI w w5 lo hi Ao co N out W) (left:Int) (hl0:0≤left) (hl1:left<(out.length:Int)) (m m':List Bool) (b:Bool) (B:Nat) (hB:w5.heap.size≤B) (hhi:hi≤w5.heap.size) (hBW:B≤W.heap.size) (A2:Option Addr) (c2:Nat) (hm:Kd.R Kd.bool 4 W w.heap.size (fun k=>B≤k) (.slice A2 m.length c2) m) (h:regletref13_join.f k m (out.getD left.toNat [])=some (b,m')):
 ∃(go:Nat) (A4:Option Addr) (c4 m4:Nat),Ao=some ⟨go,0,none⟩∧W.cell? ⟨go,left.toNat,none⟩=some (.slice A4 m4 c4)∧
  Calls Try.prog 47 #[.slice A2 m.length c2,.slice A4 m4 c4] W fun e w'=>e= .returned (.bool b)∧Aside0 (RFollowI w w5 lo hi Ao co N out w')∧Aside0 (Kd.R Kd.bool 4 w' w.heap.size (fun k=>B≤k) (.slice A2 m.length c2) m')∧Aside0 (Kept W w' (fun k=>B≤k)):=by
 obtain⟨go,vr,P,eA,hcell,hRow,hP,hback⟩:=S_row rfl HI.r left hl0 hl1;obtain⟨A4,c4,rfl⟩:=Kd.R_slice hRow;refine⟨go,A4,c4,_,eA,hcell,?_⟩
 refine(regletref13_join.calls k (fun k=>B≤k) _ m A4 c4 (out.getD left.toNat []) b m' w W HI.bel hm (Kd.C_kept_own hRow (fun k hk hh=>by have:=(hP k hk).1.2;omega)) (aF hRow).2.1 h).mono ?_
 rintro e w3 ⟨rfl,hR3,hb3,hk3⟩
 refine⟨rfl,⟨⟨hb3,Kd.S_kept HI.r hk3 (fun k h1 h2=>by omega),HI.k.then_ hk3 (fun k h2=> .inr (Nat.le_trans hB h2)),Nat.le_trans HI.h hk3.1⟩⟩,⟨Kd.R_mono hR3 (fun k hk=>hk.elim id (fun h2=>Nat.le_trans hBW h2))⟩,⟨hk3⟩⟩
set_option maxHeartbeats 1000000 in
theorem rjoin_row (k:Nat) (w w5 W:World) (lo hi:Nat) (Ao:Option Addr) (co N:Nat) (out out':List (List Bool)) (HI:RFollowI w w5 lo hi Ao co N out W) (n:Int) (m:List Bool) (n2:Nat) (b:Bool) (B:Nat) (hhi:hi≤B) (A2:Option Addr) (c2:Nat) (hm:Kd.R Kd.bool 4 W w.heap.size (fun k=>B≤k) (.slice A2 n2 c2) m) (h:rJoinRow k n m out=some (b,out')):
 ∃(go:Nat) (A4:Option Addr) (c4 m4:Nat),0≤n∧n<(out.length:Int)∧Ao=some ⟨go,0,none⟩∧W.cell? ⟨go,n.toNat,none⟩=some (.slice A4 m4 c4)∧out'.length=out.length∧
  Calls Try.prog 47 #[.slice A4 m4 c4,.slice A2 n2 c2] W fun e w'=>e= .returned (.bool b)∧Aside0 (RFollowI w w5 lo hi Ao co N out' w')∧Aside0 (Kept W w' (fun k=>lo≤k∧k<hi)):=by
 unfold rJoinRow at h
 split at h
 case isFalse=>simp at h
 rename_i h0
 split at h
 case isFalse=>simp at h
 rename_i h1
 obtain⟨⟨ab,ar⟩,had,h2⟩:=Option.bind_eq_some_iff.1 h;obtain⟨rfl,rfl⟩:=Prod.mk.inj (Option.some.inj h2);have hn2:=(aF hm).1;subst hn2;obtain⟨go,vr,P,eA,hcell,hRow,hP,hback⟩:=S_row rfl HI.r n h0 h1;obtain⟨A4,c4,rfl⟩:=Kd.R_slice hRow;refine⟨go,A4,c4,_,h0,h1,eA,hcell,by simp,?_⟩
 refine(regletref13_join.calls k P _ _ A2 c2 m ab ar w W HI.bel hRow (Kd.C_kept_own hm (fun k hk hp=>by have:=(hP k hp).1.2;omega)) (aF hm).2.1 had).mono ?_
 rintro e w3 ⟨rfl,hR3,hb3,hk3⟩
 exact⟨rfl,⟨⟨hb3,hback w3 _ ar hk3 hR3,HI.k.then_ hk3 (fun k h2=> .inl (hP k h2).1),Nat.le_trans HI.h hk3.1⟩⟩,⟨Kept.mono hk3 (fun k hk=>(hP k hk).1)⟩⟩
theorem infoSymR:(Try.prog.info? 43).map (fun i=>(i.zero,i.size,i.bytes))=some (some (.agg #[.bool false,.int .i64 0]),2,16):=by kernel_rfl
set_option maxHeartbeats 4000000 in
set_option maxRecDepth 100000 in
theorem regletref13_Follow.calls (k:Nat) (bM:Option Addr) (bO:Nat) (aU:List ByteArray) (bQ:Option Addr) (bR:Nat) (aX:List (S72)) (bA:Int) (bB:Int) (bV:Option Addr) (bS:Nat) (aQ:List (S35)) (r:List (List Int)) (w:World) (dX:Kd.C Kd.string w bM aU.length aU) (eE:aU.length≤bO) (eF:Kd.C k72 w bQ aX.length aX) (eG:aX.length≤bR) (dZ:Kd.C k35 w bV aQ.length aQ) (eM:aQ.length≤bS) (h:regletref13_Follow.f k aU aX bA bB aQ=some r):
 Calls Try.prog 31 #[.agg #[.slice bM aU.length bO,.slice bQ aX.length bR,.int .i64 bA,.int .i64 bB,.slice bV aQ.length bS]] w fun e w'=>∃v0_:Value,e= .returned (v0_)∧Kd.S (Kd.slice 3 (Kd.int .i64)) 32 w' w.heap.size (fun _=>True) v0_ r∧Below w.heap.size w w':=by
 unfold regletref13_Follow.f at h
 split at h
 case isFalse=>simp at h
 rename_i hsz
 have HSZ:=aM hsz;clear hsz;obtain⟨rt,hrt,h2⟩:=Option.bind_eq_some_iff.1 h;have HRT:=aM hrt;clear h hrt;have HA1:Aside0 (Below w.heap.size w (w.alloc (.cells #[.slice bM aU.length bO,.slice bQ aX.length bR,.int .i64 bA,.int .i64 bB,.slice bV aQ.length bS] 26))):=⟨(Below.refl _ w).alloc (Nat.le_refl _) _⟩;have HC:Aside0 (∀W,Below (w.heap.size+1) (w.alloc (.cells #[.slice bM aU.length bO,.slice bQ aX.length bR,.int .i64 bA,.int .i64 bB,.slice bV aQ.length bS] 26)) W→W.cell? ⟨w.heap.size,0,none⟩=some (.slice bM aU.length bO)∧W.cell? ⟨w.heap.size,1,none⟩=some (.slice bQ aX.length bR)∧W.cell? ⟨w.heap.size,2,none⟩=some (.int .i64 bA)∧W.cell? ⟨w.heap.size,3,none⟩=some (.int .i64 bB)∧W.cell? ⟨w.heap.size,4,none⟩=some (.slice bV aQ.length bS)):=⟨fun W hW=>⟨(hW.cell (p:=⟨w.heap.size,0,none⟩) (by simp)).trans (by simp),(hW.cell (p:=⟨w.heap.size,1,none⟩) (by simp)).trans (by simp),(hW.cell (p:=⟨w.heap.size,2,none⟩) (by simp)).trans (by simp),(hW.cell (p:=⟨w.heap.size,3,none⟩) (by simp)).trans (by simp),(hW.cell (p:=⟨w.heap.size,4,none⟩) (by simp)).trans (by simp)⟩⟩
 cases rt with
 |false=>
  rw [if_neg (by simp)] at h2;obtain rfl:=Option.some.inj h2;clear h2;go_enter Try.func31,Try.ntmps31
  go_wp2_with (go_at_call 30;(with_reducible refine(regletref13_Right.calls k bM bO aU bQ bR aX bA bB bV bS aQ false _ (bD dX HA1.out) eE (bD eF HA1.out) eG (bD dZ HA1.out) eM HRT.out).mono ?_);rintro e w1 ⟨rfl,hb1⟩)
  go_ret
  exact⟨_,rfl,Kd.S_nil _ _ _ _ _,HA1.out.trans (hb1.mono (by simp))⟩
 |true=>
  rw [if_pos rfl] at h2;obtain⟨m0,hm0,h3⟩:=Option.bind_eq_some_iff.1 h2;obtain⟨f,hf,h4⟩:=Option.bind_eq_some_iff.1 h3;obtain⟨em,he,h5⟩:=Option.bind_eq_some_iff.1 h4;obtain⟨out0,ho0,h6⟩:=Option.bind_eq_some_iff.1 h5;obtain⟨out,hout,hlists⟩:=Option.bind_eq_some_iff.1 h6;have HM0:=aM hm0;have HF:=aM hf;have HE:=aM he;have CH:=aM ho0;have HOUT:=aM hout;have HL:=aM hlists;clear h2 h3 h4 h5 h6 hm0 hf he ho0 hout hlists;have HFC:Aside0 (∀W:World,Below w.heap.size w W→Calls Try.prog 44 #[.agg #[.slice bM aU.length bO,.slice bQ aX.length bR,.int .i64 bA,.int .i64 bB,.slice bV aQ.length bS]] W fun e w'=>∃v0_:Value,e= .returned (v0_)∧Kd.S (Kd.slice 4 Kd.bool) 90 w' W.heap.size (fun _=>True) v0_ f∧Below W.heap.size W w'):=⟨fun W hb=>regletref13_first.calls k bM bO aU bQ bR aX bA bB bV bS aQ f W (bD dX hb) eE (bD eF hb) eG (bD dZ hb) eM HF.out⟩;have HEC:Aside0 (∀W:World,Below w.heap.size w W→Calls Try.prog 45 #[.agg #[.slice bM aU.length bO,.slice bQ aX.length bR,.int .i64 bA,.int .i64 bB,.slice bV aQ.length bS]] W fun e w'=>∃v0_:Value,e= .returned (v0_)∧Kd.R Kd.bool 4 w' W.heap.size (fun _=>True) v0_ em∧Below W.heap.size W w'):=⟨fun W hb=>regletref13_Empty.calls k bM bO aU bQ bR aX bA bB bV bS aQ em W (bD dX hb) eE (bD eF hb) eG (bD dZ hb) eM HE.out⟩;go_enter Try.func31,Try.ntmps31
  go_upto_region 4 with(first
   |(go_at_call 30;(with_reducible refine(regletref13_Right.calls k bM bO aU bQ bR aX bA bB bV bS aQ true _ (bD dX HA1.out) eE (bD eF HA1.out) eG (bD dZ HA1.out) eM HRT.out).mono ?_);rintro e w1 ⟨rfl,hb1⟩;have HB1:Aside0 (Below (w.heap.size+1) (w.alloc (.cells #[.slice bM aU.length bO,.slice bQ aX.length bR,.int .i64 bA,.int .i64 bB,.slice bV aQ.length bS] 26)) w1):=⟨hb1.mono (by simp)⟩;have HB01:Aside0 (Below w.heap.size w w1):=⟨HA1.out.trans (hb1.mono (by simp))⟩;clear hb1;obtain⟨q0,q1,q2,q3,q4⟩:=HC.out w1 HB1.out)
   |(go_at_call 43;(with_reducible refine(regletref13_marks.calls k bM bO aU bQ bR aX bA bB bV bS aQ m0 _ (bD dX HB01.out) eE (bD eF HB01.out) eG (bD dZ HB01.out) eM HM0.out).mono ?_);rintro e w3 ⟨v3,rfl,hS3,hb3⟩;obtain⟨Ao,co,rfl⟩:=Kd.S_slice hS3;have HB3:Aside0 (Below (w.heap.size+1) (w.alloc (.cells #[.slice bM aU.length bO,.slice bQ aX.length bR,.int .i64 bA,.int .i64 bB,.slice bV aQ.length bS] 26)) w3):=⟨HB1.out.trans (hb3.mono (by have:=HB1.out.size;simpa using this))⟩;have HB03:Aside0 (Below w.heap.size w w3):=⟨HB01.out.trans (hb3.mono HB01.out.size)⟩;have HS3:Aside0 (Kd.S (Kd.slice 4 Kd.bool) 90 w3 w.heap.size (fun k=>w1.heap.size≤k∧k<w3.heap.size) (.slice Ao m0.length co) m0):=⟨Kd.S_lower (Kd.S_mono (Kd.S_bound hS3) (fun k hk=>⟨hk.2.1,hk.2.2.1⟩)) HB01.out.size⟩;have SZ3:Aside0 (w.heap.size<w1.heap.size∧w1.heap.size≤w3.heap.size):=⟨by have:=HB1.out.size;simp at this;omega,hb3.size⟩;clear hS3 hb3 q0 q1 q2 q3 q4;obtain⟨q0,q1,q2,q3,q4⟩:=HC.out w3 HB3.out))
  go_cut [4,5] from 12 (fun s4 s5 wc=>∃Af cf Ae ce,s4= .slice Af f.length cf∧s5= .slice Ae em.length ce∧Aside0 (Below w3.heap.size w3 wc)∧Aside0 (Kd.S (Kd.slice 4 Kd.bool) 90 wc w.heap.size (fun k=>w3.heap.size≤k) (.slice Af f.length cf) f)∧Aside0 (Kd.R Kd.bool 4 wc w.heap.size (fun k=>w3.heap.size≤k) (.slice Ae em.length ce) em))
  case first=>
   have HC3:Aside0 (∀W,Below w3.heap.size w3 W→W.cell? ⟨w.heap.size,0,none⟩=some (.slice bM aU.length bO)∧W.cell? ⟨w.heap.size,1,none⟩=some (.slice bQ aX.length bR)∧W.cell? ⟨w.heap.size,2,none⟩=some (.int .i64 bA)∧W.cell? ⟨w.heap.size,3,none⟩=some (.int .i64 bB)∧W.cell? ⟨w.heap.size,4,none⟩=some (.slice bV aQ.length bS)):=⟨fun W hW=>HC.out W (HB3.out.trans (hW.mono (by have:=HB3.out.size;simpa using this)))⟩
   go_region_held3 (fun W=>W.cell? ⟨w.heap.size,0,none⟩=some (.slice bM aU.length bO)∧W.cell? ⟨w.heap.size,1,none⟩=some (.slice bQ aX.length bR)∧W.cell? ⟨w.heap.size,2,none⟩=some (.int .i64 bA)∧W.cell? ⟨w.heap.size,3,none⟩=some (.int .i64 bB)∧W.cell? ⟨w.heap.size,4,none⟩=some (.slice bV aQ.length bS))
    (first|exact HC3.out _ H3L.out|exact HC3.out _ KB1.out|exact HC3.out _ (show Below w3.heap.size w3 w3.drew from aO (Below.refl _ w3))|go_keep)
    (first
     |(go_at_call 44;(with_reducible refine(HFC.out w3.drew (aO HB03.out)).mono ?_);rintro e wf ⟨vf,rfl,hSf,hbf⟩;obtain⟨Af,cf,rfl⟩:=Kd.S_slice hSf;have HSF:=aM (Kd.S_bound hSf);have H3F:Aside0 (Below w3.heap.size w3 wf):=⟨((show Below w3.heap.size w3 w3.drew from aO (Below.refl _ w3))).trans (hbf.mono ((show Below w3.heap.size w3 w3.drew from aO (Below.refl _ w3))).size)⟩;have KB1:=H3F;clear hSf hbf q0 q1 q2 q3 q4)
     |(go_at_call 44;(with_reducible refine(HFC.out we (HB03.out.trans (H3E.out.mono HB03.out.size))).mono ?_);rintro e wf ⟨vf,rfl,hSf,hbf⟩;obtain⟨Af,cf,rfl⟩:=Kd.S_slice hSf;have HSF:=aM (Kd.S_bound hSf);have H3L:Aside0 (Below w3.heap.size w3 wf):=⟨(H3E.out).trans (hbf.mono (H3E.out).size)⟩;have CF:Aside0 (Kd.S (Kd.slice 4 Kd.bool) 90 wf w.heap.size (fun k=>w3.heap.size≤k) (.slice Af f.length cf) f):=⟨Kd.S_lower (Kd.S_mono HSF.out (fun k hk=>Nat.le_trans (H3E.out).size hk.2.1)) (Nat.le_trans HB03.out.size (H3E.out).size)⟩;have CE:Aside0 (Kd.R Kd.bool 4 wf w.heap.size (fun k=>w3.heap.size≤k) (.slice Ae em.length ce) em):=⟨bL (Kd.R_mono (aD HRE.out hbf) (fun k hk=>hk.2.1)) HB03.out.size⟩;clear hSf hbf)
     |(go_at_call 45;(with_reducible refine(HEC.out w3.drew (aO HB03.out)).mono ?_);rintro e we ⟨ve,rfl,hRe,hbe⟩;obtain⟨Ae,ce,rfl⟩:=Kd.R_slice hRe;have HRE:=aM (Kd.R_bound hRe);have H3E:Aside0 (Below w3.heap.size w3 we):=⟨((show Below w3.heap.size w3 w3.drew from aO (Below.refl _ w3))).trans (hbe.mono ((show Below w3.heap.size w3 w3.drew from aO (Below.refl _ w3))).size)⟩;have KB1:=H3E;clear hRe hbe q0 q1 q2 q3 q4)
     |(go_at_call 45;(with_reducible refine(HEC.out wf (HB03.out.trans (H3F.out.mono HB03.out.size))).mono ?_);rintro e we ⟨ve,rfl,hRe,hbe⟩;obtain⟨Ae,ce,rfl⟩:=Kd.R_slice hRe;have HRE:=aM (Kd.R_bound hRe);have H3L:Aside0 (Below w3.heap.size w3 we):=⟨(H3F.out).trans (hbe.mono (H3F.out).size)⟩;have CE:Aside0 (Kd.R Kd.bool 4 we w.heap.size (fun k=>w3.heap.size≤k) (.slice Ae em.length ce) em):=⟨bL (Kd.R_mono HRE.out (fun k hk=>Nat.le_trans (H3F.out).size hk.2.1)) (Nat.le_trans HB03.out.size (H3F.out).size)⟩;have CF:Aside0 (Kd.S (Kd.slice 4 Kd.bool) 90 we w.heap.size (fun k=>w3.heap.size≤k) (.slice Af f.length cf) f):=⟨Kd.S_lower (Kd.S_mono (Kd.S_below HSF.out hbe) (fun k hk=>hk.2.1)) HB03.out.size⟩;clear hRe hbe))
   all_goals
    go_wp2_with fail
    go_meet
    case rel=>exact⟨Af,cf,Ae,ce,rfl,rfl,H3L,CF,CE⟩
  case rest=>
   obtain⟨Af,cf,Ae,ce,rfl,rfl,H35,CF,CE⟩:=hcut;obtain⟨w5,ew5⟩:∃w5:World,w5=wc:=⟨_,rfl⟩;subst ew5;have HI0:Aside0 (RFollowI w w5 w1.heap.size w3.heap.size Ao co m0.length m0 w5):=⟨⟨HB03.out.trans (H35.out.mono HB03.out.size),Kd.S_below HS3.out H35.out,Kept.refl _ _,H35.out.size⟩⟩
   have HC5:Aside0 (∀W,Kept w5 W (fun k=>w1.heap.size≤k∧k<w3.heap.size)→W.cell? ⟨w.heap.size,0,none⟩=some (.slice bM aU.length bO)∧W.cell? ⟨w.heap.size,1,none⟩=some (.slice bQ aX.length bR)∧W.cell? ⟨w.heap.size,2,none⟩=some (.int .i64 bA)∧W.cell? ⟨w.heap.size,3,none⟩=some (.int .i64 bB)∧W.cell? ⟨w.heap.size,4,none⟩=some (.slice bV aQ.length bS)):=⟨fun W hk=>by
    obtain⟨a0,a1,a2,a3,a4⟩:=HC.out w5 (HB3.out.trans (H35.out.mono (by have:=HB3.out.size;simpa using this)));have hn:¬(w1.heap.size≤w.heap.size∧w.heap.size<w3.heap.size):=by have:=SZ3.out;omega
    exact⟨Go.Proofs.YtapjfnfengefpaaW.PrintWords.cell_kept a0 hk hn,Go.Proofs.YtapjfnfengefpaaW.PrintWords.cell_kept a1 hk hn,Go.Proofs.YtapjfnfengefpaaW.PrintWords.cell_kept a2 hk hn,Go.Proofs.YtapjfnfengefpaaW.PrintWords.cell_kept a3 hk hn,Go.Proofs.YtapjfnfengefpaaW.PrintWords.cell_kept a4 hk hn⟩⟩
   have H35S:Aside0 (w3.heap.size≤w5.heap.size):=⟨H35.out.size⟩;clear HA1 HM0 HF HE HFC HEC q0 q1 q2 q3 q4
   go_upto_if 23 with fail
   go_cut [] from 12 (fun w6=>Aside0 (RFollowI w w5 w1.heap.size w3.heap.size Ao co m0.length out0 w6))
   case first=>
    by_cases hpos:0<m0.length
    ·have hg:decide (0<m0.length)=true:=decide_eq_true hpos
     rw [hg];have H0:=CH.out
     unfold rFollow0 at H0
     rw [if_pos hpos] at H0
     split at H0
     case isFalse=>simp at H0
     rename_i hnt
     obtain rfl:=Option.some.inj H0;obtain⟨go,vr,P,eA,hcell,hRow,hP,hback⟩:=S_row rfl HI0.out.r 0 (by omega) (by omega)
     cases eA;rw [show(0:Int).toNat=0 from rfl] at hRow hcell hback;obtain⟨gr,c7,hv,_,_,_⟩:=Kd.R_form hRow (by omega);subst hv;obtain⟨hx,hf⟩:=Kd.R_celln false hRow (aX.length:Int) (by omega) (by omega);have hput:=Kd.R_putg hRow (aX.length:Int) true;rw [Int.toNat_natCast] at hx hf hput;have hPgr:P gr:=hRow.1 gr (by simp [Value.ownBlock]);have HGR:=aM (hP gr hPgr);have hKs:Kept w5 (w5.setCell ⟨gr,aX.length,none⟩ (.bool true)) P:=Kept.setCell (Kept.refl _ _) (.inl hPgr) _;have hS6:=hback _ P _ hKs hput.1;have HFS:Aside0 (RFollowI w w5 w1.heap.size w3.heap.size (some ⟨go,0,none⟩) co m0.length (m0.set 0 ((m0.getD 0 []).set aX.length true)) (w5.setCell ⟨gr,aX.length,none⟩ (.bool true))):=⟨⟨aL HI0.out.bel (show w.heap.size≤gr from by have:=HGR.out.1.1;have:=SZ3.out;omega),hS6,Kept.mono hKs (fun k hk=>(hP k hk).1),by simpa using HI0.out.h⟩⟩;have hne1:go≠gr:=fun e=>HGR.out.2 e.symm
     have hne3:w.heap.size≠gr:=by have:=HGR.out.1.1;have:=SZ3.out;omega
     obtain⟨q0,q1,q2,q3,q4⟩:=HC5.out w5 (Kept.refl _ _);have KEND:=aM (show _∧_ from⟨Go.Proofs.YtapjfnfengefpaaW.PrintWords.cell_kept q1 (Kept.drew (Kept.setCell (Kept.refl w5 (fun k=>k=gr)) (p:=⟨gr,aX.length,none⟩) (.inl rfl) (.bool true))) hne3,Go.Proofs.YtapjfnfengefpaaW.PrintWords.cell_kept hcell (Kept.drew (Kept.setCell (Kept.refl w5 (fun k=>k=gr)) (p:=⟨gr,aX.length,none⟩) (.inl rfl) (.bool true))) hne1⟩);generalize hlr:(m0.getD 0 []).length=lr at hcell hnt KEND;have p1:((aX.length:Int)<(lr:Int))=True:=eq_true (by omega);have p2:(0≤(aX.length:Int))=True:=eq_true (by omega);have p3:((0:Int)<(m0.length:Int))=True:=eq_true (by omega);have p4:(0<m0.length)=True:=eq_true hpos;have p5:(aX.length<lr)=True:=eq_true hnt;clear hRow hback hput hPgr hKs hS6 hP hpos H0 hnt hlr
     go_upto_region 6 with fail
     go_region_held3 (fun W=>W.cell? ⟨w.heap.size,1,none⟩=some (.slice bQ aX.length bR)∧W.cell? ⟨go,0,none⟩=some (.slice (some ⟨gr,0,none⟩) lr c7))
      (first|exact KEND.out|go_keep)
      (fail)
     go_wp2_with fail
     go_meet
     case rel=>exact⟨HFS.out.below (aO (Below.refl _ _))⟩
    ·have hg:decide (0<m0.length)=false:=decide_eq_false hpos
     rw [hg];have H0:=CH.out
     unfold rFollow0 at H0
     rw [if_neg hpos] at H0;obtain rfl:=Option.some.inj H0;clear H0
     go_wp2_with fail
     go_meet
     case rel=>exact HI0
   case rest=>
    obtain⟨w6,ew6⟩:∃w6:World,w6=wc:=⟨_,rfl⟩;subst ew6;have HI6:=hcut;have HOUT:=HOUT;clear hcut HI0 HS3 CH HRT H35;go_wp2
    go_loopg [6] k (fun kq v6 wr=>∃(more:Bool) (out':List (List Bool)),v6= .bool more∧Aside0 (rFollowOut k aU aX bA bB aQ f em kq out' more=some out)∧Aside0 (RFollowI w w5 w1.heap.size w3.heap.size Ao co m0.length out' wr))
    case atStart=>exact⟨true,out0,rfl,HOUT,HI6⟩
    case round=>
     clear HOUT HI6;obtain⟨more,out',rfl,HA,HI⟩:=hrel
     cases gk with
     |zero=>exact absurd HA.out (by simp [rFollowOut])
     |succ k1=>
      have H:=HA.out;clear HA;simp only [rFollowOut] at H
      cases more with
      |false=>
       obtain rfl:=Option.some.inj (by simpa using H);clear H;have hN:=(Kd.S_reads' HI.out.r).1;rw [hN]
       go_wp2_with (go_at_call 48;(with_reducible refine(regletref13_lists.calls k Ao co out' r _ (by have:=(Kd.S_reads' HI.out.r).2.2;exact this) (by have:=(Kd.S_reads' HI.out.r).2.1;omega) HL.out).mono ?_);rintro e w8 ⟨v8,rfl,hS8,hb8⟩;have HS8:=aM hS8;have HB8:=aM hb8;clear hS8 hb8)
       go_ret
       exact⟨_,rfl,Kd.S_lower HS8.out HI.out.bel.size,HI.out.bel.trans (HB8.out.mono HI.out.bel.size)⟩
      |true=>
       rw [if_pos rfl] at H;obtain⟨⟨mr,outr⟩,h1,h2⟩:=Option.bind_eq_some_iff.1 H;clear H;have H1:=aM h1;have H2:=aM h2;clear h1 h2;go_wp2
       obtain⟨wo,ewo⟩:∃wo:World,wo=wr:=⟨_,rfl⟩;subst ewo
       go_loopg [6,7] aQ.length (fun kq v6 v7 wr=>∃(more:Bool) (i:Nat) (out':List (List Bool)),v6= .bool more∧v7= .int .i64 i∧i≤aQ.length∧aQ.length - i≤kq∧Aside0 (rFollowPs k aU aX bA bB aQ f em (aQ.drop i) more out'=some (mr,outr))∧Aside0 (RFollowI w w5 w1.heap.size w3.heap.size Ao co m0.length out' wr))
       case atStart=>exact⟨false,0,out',rfl,rfl,by omega,by omega,⟨by simpa using H1.out⟩,HI⟩
       case round=>
        clear H1 HI;obtain⟨more,i,out',rfl,rfl,hi,hm,HA,HI⟩:=hrel;obtain⟨q0,q1,q2,q3,q4⟩:=HC5.out wr HI.out.k
        by_cases hlt:i<aQ.length
        ·have hltz:(i:Int)<(aQ.length:Int):=by omega
         have d0:decide ((i:Int)<(aQ.length:Int))=true:=decide_eq_true hltz;have H:=HA.out;rw [List.drop_eq_getElem_cons hlt] at H;simp only [rFollowPs] at H;obtain⟨⟨mi,outi⟩,h1,h3⟩:=Option.bind_eq_some_iff.1 H;clear H HA;obtain⟨ad,A5,c5,ead,e0,e1,hle5,hC5⟩:=at_T35 dZ (i:Int) (by omega) hltz;have hlen:=of_decide_eq_true (List.all_eq_true.1 HSZ.out.2 (aQ[i]) (List.getElem_mem hlt));have hrd:rd_T35 aQ (i:Int)=aQ[i]:=by simp [rd_T35,hlt]
         rw [hrd] at e0 e1 hle5 hC5;rw [Int.toNat_natCast] at e0 e1;have B0:=World.block_lt_of_cell? w _ e0;have B1:=World.block_lt_of_cell? w _ e1;have hp:∃p,p=aQ[i]:=⟨_,rfl⟩;obtain⟨p,hp⟩:=hp;rw [←hp] at h1 e0 e1 hle5 hC5 hlen;obtain⟨left,right⟩:=p;clear hp hrd;simp only at h1 e0 e1 hle5 hC5 hlen;have AT:Aside0 (∀W:World,Below w.heap.size w W→W.cell? (ad.add (i * 2))=some (.int .i64 left)∧W.cell? ⟨(ad.add (i * 2)).block,(ad.add (i * 2)).off+1,none⟩=some (.slice A5 right.length c5)):=⟨fun W hb=>⟨(hb.cell B0).trans e0,(hb.cell B1).trans e1⟩⟩;have HCR:=aM hC5;have HH1:=aM h1;have HH3:=aM h3;have HLT:=aM hlt;have HM:=aM hm;have HLEN:=aM hlen;have HCAP:=aM hle5;have p0:(0≤(i:Int))=True:=eq_true (by omega);have p1:=eq_true hltz;clear h1 h3 hC5 e0 e1 B0 B1 hlt hm hi hltz hlen hle5;obtain⟨f0,f1⟩:=AT.out wr HI.out.bel
         cases ead;go_wp2
         go_loopg [6,9] right.length (fun kq v6 v9 wr=>∃(more:Bool) (j:Nat) (out':List (List Bool)),v6= .bool more∧v9= .int .i64 j∧j≤right.length∧right.length - j≤kq∧Aside0 (rFollowIn k aU aX bA bB aQ f em left (right.drop j) more out'=some (mi,outi))∧Aside0 (RFollowI w w5 w1.heap.size w3.heap.size Ao co m0.length out' wr))
         case atStart=>exact⟨more,0,out',rfl,rfl,by omega,by omega,⟨by simpa using HH1.out⟩,HI⟩
         case round=>
          clear HH1 HI f0 f1 q0 q1 q2 q3 q4;obtain⟨more,j,out',rfl,rfl,hj,hm,HA,HI⟩:=hrel;obtain⟨q0,q1,q2,q3,q4⟩:=HC5.out wr HI.out.k
          by_cases hlt:j<right.length
          ·have hltz:(j:Int)<(right.length:Int):=by omega
           have d1:decide ((j:Int)<(right.length:Int))=true:=decide_eq_true hltz;have H:=HA.out;rw [List.drop_eq_getElem_cons hlt] at H;simp only [rFollowIn] at H;obtain⟨Rp,ea5,e0,e1⟩:=at_T43 HCR.out (j:Int) (by omega) hltz
           cases ea5;have hrd:rd_T43 right (j:Int)=right[j]:=by simp [rd_T43,hlt]
           rw [hrd] at e0 e1;rw [Int.toNat_natCast] at e0 e1;generalize right[j]=y at H e0 e1;obtain⟨tk,n⟩:=y;simp only at H e0 e1;have B0:=World.block_lt_of_cell? w _ e0;have B1:=World.block_lt_of_cell? w _ e1;have AT5:Aside0 (∀W:World,Below w.heap.size w W→W.cell? (Rp.add (j * 2))=some (.bool tk)∧W.cell? ⟨(Rp.add (j * 2)).block,(Rp.add (j * 2)).off+1,none⟩=some (.int .i64 n)):=⟨fun W hb=>⟨(hb.cell B0).trans e0,(hb.cell B1).trans e1⟩⟩;have p2:(0≤(j:Int))=True:=eq_true (by omega);have p3:=eq_true hltz;have HLT5:=aM hlt;have HM5:=aM hm;clear hlt hltz hj hm hrd HA e0 e1 B0 B1;obtain⟨f0,f1⟩:=AT5.out wr HI.out.bel
           cases tk with
           |true=>
            rw [if_pos rfl] at H;have HN:=aM H;clear H;go_wp2
            go_roundg (right.length - (j+1))
            case measure=>have:=HM5.out;have:=HLT5.out;omega
            case rel=>exact⟨more,j+1,out',rfl,congrArg (Value.int .i64) (by unfold wrap64;have:=HLT5.out;have:=HLEN.out;omega),by have:=HLT5.out;omega,Nat.le_refl _,HN,HI⟩
           |false=>
            rw [if_neg (by simp)] at H;obtain⟨⟨m1,me⟩,hbg,H2⟩:=Option.bind_eq_some_iff.1 H;obtain⟨m2,hjf,H3⟩:=Option.bind_eq_some_iff.1 H2;obtain⟨⟨mb,out1⟩,hjr,HN⟩:=Option.bind_eq_some_iff.1 H3;clear H H2 H3;simp only at hbg hjf hjr HN;have HNX:=aM HN;have HJR:=aM hjr;clear HN hjr;have hwr:IntKind.i64.wrap ((j:Int)+1)=(j:Int)+1:=by rw [IntKind.wrap_i64];have:=HLT5.out;have:=HLEN.out;omega
            obtain⟨i0,hi0,_,hsz,_⟩:=info_parts infoSymR;have hcut:=cut_from (P:=Try.prog) 29 43 .i64 Try.underlying29 hi0 2 hsz (some Rp) right.length c5 ((j:Int)+1) (by omega) (by have:=HLT5.out;omega);rw [show((j:Int)+1).toNat=j+1 by omega,←List.length_drop] at hcut;have HCY:Aside0 (∀W',Below w.heap.size w W'→Kd.C k43 W' (if c5=j+1 then some Rp else(some Rp).map (·.add ((j+1) * 2))) (right.drop (j+1)).length (right.drop (j+1))):=⟨fun W' hk=>Kd.C_drop (bD HCR.out hk) HLT5.out HCAP.out⟩;generalize (if c5=j+1 then some Rp else(some Rp).map (·.add ((j+1) * 2)))=A' at hcut HCY;have hbw:Below w.heap.size w wr.drew:=aO HI.out.bel;have hcon:=regletref13_begins.calls k bM bO aU bQ bR aX bA bB (some ad) bS aQ A' (c5 - (j+1)) (right.drop (j+1)) Af cf f Ae ce em m1 me wr.drew (bD dX hbw) eE (bD eF hbw) eG (bD dZ hbw) eM (HCY.out _ hbw) (by rw [List.length_drop];have:=HCAP.out;omega) (Kd.C_kept_own (S:=fun k=>w1.heap.size≤k∧k<w3.heap.size) (Kd.S_R CF.out) (fun k hk h2=>by have:=hk;omega) _ (Kept.drew HI.out.k)) (Kd.S_reads' CF.out).2.1 (Kd.C_kept_own (S:=fun k=>w1.heap.size≤k∧k<w3.heap.size) CE.out (fun k hk h2=>by have:=hk;omega) _ (Kept.drew HI.out.k)) (aF CE.out).2.1 hbg;rw [List.length_drop] at hcon;have HCON:=aM hcon;clear hcon hbg hi0 hsz hbw;have KEEP:Aside0 (∀W:World,Below wr.heap.size wr W→W.cell? ⟨w.heap.size,0,none⟩=some (.slice bM aU.length bO)∧W.cell? ⟨w.heap.size,1,none⟩=some (.slice bQ aX.length bR)∧W.cell? ⟨w.heap.size,2,none⟩=some (.int .i64 bA)∧W.cell? ⟨w.heap.size,3,none⟩=some (.int .i64 bB)∧W.cell? ⟨w.heap.size,4,none⟩=some (.slice (some ad) aQ.length bS)):=⟨fun W hb=>HC5.out W (HI.out.k.below hb)⟩;have HJF:=aM hjf;clear hjf;go_wp2
            go_region_held3 (fun W=>W.cell? ⟨w.heap.size,0,none⟩=some (.slice bM aU.length bO)∧W.cell? ⟨w.heap.size,1,none⟩=some (.slice bQ aX.length bR)∧W.cell? ⟨w.heap.size,2,none⟩=some (.int .i64 bA)∧W.cell? ⟨w.heap.size,3,none⟩=some (.int .i64 bB)∧W.cell? ⟨w.heap.size,4,none⟩=some (.slice (some ad) aQ.length bS))
             (first|go_keep|exact KEEP.out _ KB.out)
             (first|(go_at_call 46;(with_reducible refine HCON.out.mono ?_);rintro e w2 ⟨v2,rfl,hR2,hb2⟩;obtain⟨A2,c2,rfl⟩:=Kd.R_slice hR2;have HR2:=aM hR2;have KB:Aside0 (Below wr.heap.size wr w2):=⟨(aO (Below.refl _ _)).trans hb2⟩;clear hR2 hb2 q0 q1 q2 q3 q4))
            have HI2:=aM (HI.out.below KB.out);have HR3:Aside0 (Kd.R Kd.bool 4 w2 w.heap.size (fun k=>wr.heap.size≤k) (.slice A2 m1.length c2) m1):=⟨bL (Kd.R_mono (Kd.R_bound HR2.out) (fun k hk=>hk.2.1)) (show w.heap.size≤wr.heap.size from HI.out.bel.size)⟩;have HHI:Aside0 (w3.heap.size≤wr.heap.size):=⟨HI.out.h⟩;have HBW:Aside0 (wr.heap.size≤w2.heap.size):=⟨KB.out.size⟩;have HKS:Aside0 (w5.heap.size≤wr.heap.size):=⟨HI.out.k.1⟩;have HJF0:=HJF.out;have LEN:Aside0 ((m0.length:Int)=(out'.length:Int)):=⟨by have:=(Kd.S_reads' HI.out.r).1;omega⟩;clear HCON HR2 hcut HCY f0 f1
            cases me with
            |false=>
             unfold rJoinFrom at HJF0
             rw [if_neg (by simp)] at HJF0;obtain rfl:=Option.some.inj HJF0;clear HJF0 HJF;obtain⟨go,A4,c4,m4,hn0,hn1,eAo,hcell,hlen1,hcon⟩:=rjoin_row k w w5 w2 w1.heap.size w3.heap.size Ao co m0.length out' out1 HI2.out n m1 m1.length mb wr.heap.size HHI.out A2 c2 HR3.out HJR.out
             cases eAo;have HCON2:=aM hcon;have p6:=eq_true hn0;have p7:(n<(m0.length:Int))=True:=eq_true (by rw [LEN.out];exact hn1);have y2:=(AT5.out w2 HI2.out.bel).2;clear hcon hn0 hn1
             cases mb
             all_goals
              go_wp2_with (go_at_call 47;(with_reducible refine HCON2.out.mono ?_);rintro e w4 ⟨rfl,hI4,hK4⟩)
              go_roundg (right.length - (j+1))
              case measure=>have:=HM5.out;have:=HLT5.out;omega
              case rel=>exact⟨_,j+1,out1,rfl,congrArg (Value.int .i64) (by first|rfl|(unfold wrap64;have:=HLT5.out;have:=HLEN.out;omega)),by have:=HLT5.out;omega,Nat.le_refl _,HNX,hI4⟩
            |true=>
             unfold rJoinFrom at HJF0
             rw [if_pos rfl] at HJF0
             split at HJF0
             case isFalse=>simp at HJF0
             rename_i hl0
             split at HJF0
             case isFalse=>simp at HJF0
             rename_i hl1
             obtain⟨⟨jb,jm⟩,hjj,HJ2⟩:=Option.bind_eq_some_iff.1 HJF0;obtain rfl:=Option.some.inj HJ2;simp only at HJR HNX hjj;obtain⟨go,A4,c4,m4,eAo,hcell,hcon⟩:=rjoin_from k w w5 w2 w1.heap.size w3.heap.size Ao co m0.length out' HI2.out left hl0 hl1 m1 jm jb wr.heap.size HKS.out H35S.out HBW.out A2 c2 HR3.out hjj
             cases eAo;have HCON:=aM hcon;have p8:=eq_true hl0;have p9:(left<(m0.length:Int))=True:=eq_true (by rw [LEN.out];exact hl1);obtain⟨x0,_⟩:=AT.out w2 HI2.out.bel;obtain⟨q0,q1,q2,q3,q4⟩:=HC5.out w2 HI2.out.k;clear hcon hl0 hl1 HJF0 HJ2 hjj HJF q0 q1 q2 q3
             go_upto_region 21 with(go_at_call 47;(with_reducible refine HCON.out.mono ?_);rintro e w6 ⟨rfl,HI6,HR6,HK6⟩)
             clear hcell x0 q4;obtain⟨go2,A7,c7,m7,hn0,hn1,eAo,hcell,hlen1,hcon⟩:=rjoin_row k w w5 w6 w1.heap.size w3.heap.size (some ⟨go,0,none⟩) co m0.length out' out1 HI6.out n jm m1.length mb wr.heap.size HHI.out A2 c2 HR6.out HJR.out;obtain rfl:go=go2:=by injection eAo with eAo;injection eAo
             have HCON2:=aM hcon;have p6:=eq_true hn0;have p7:(n<(m0.length:Int))=True:=eq_true (by rw [LEN.out];exact hn1);have y2:=(AT5.out w6 HI6.out.bel).2;clear hcon hn0 hn1
             cases mb
             all_goals
              go_wp2_with (go_at_call 47;(with_reducible refine HCON2.out.mono ?_);rintro e w4 ⟨rfl,hI4,hK4⟩)
              go_roundg (right.length - (j+1))
              case measure=>have:=HM5.out;have:=HLT5.out;omega
              case rel=>exact⟨_,j+1,out1,rfl,congrArg (Value.int .i64) (by first|rfl|(unfold wrap64;have:=HLT5.out;have:=HLEN.out;omega)),by have:=HLT5.out;omega,Nat.le_refl _,HNX,hI4⟩
          ·have hir:j=right.length:=by omega
           subst hir;have d1:decide ((right.length:Int)<(right.length:Int))=false:=decide_eq_false (by omega);have H:=HA.out;rw [List.drop_length] at H;simp only [rFollowIn] at H;obtain⟨rfl,rfl⟩:=Prod.mk.inj (Option.some.inj H);clear H HA;go_wp2
           go_roundg (aQ.length - (i+1))
           case measure=>have:=HM.out;have:=HLT.out;omega
           case rel=>exact⟨_,i+1,_,rfl,congrArg (Value.int .i64) (by unfold wrap64;have:=HLT.out;have:=HSZ.out.1;omega),by have:=HLT.out;omega,Nat.le_refl _,HH3,HI⟩
        ·have hir:i=aQ.length:=by omega
         subst hir;have d0:decide ((aQ.length:Int)<(aQ.length:Int))=false:=decide_eq_false (by omega);have H:=HA.out;rw [List.drop_length] at H;simp only [rFollowPs] at H;obtain⟨rfl,rfl⟩:=Prod.mk.inj (Option.some.inj H);clear H HA;go_wp2
         go_roundg k1
         case measure=>omega
         case rel=>exact⟨_,_,rfl,H2,HI⟩
end Go.Proofs.Ytapjfnfengefpaa.P
end

section
namespace Go.Proofs.Ytapjfnfengefpaa.P
open Go.RowKit Go.Proofs.YtapjfnfengefpaaW.PrintWords Go.Proofs.YtapjfnfengefpaaW.PrintLast Go.Proofs.YtapjfnfengefpaaW.PrintMore
attribute [local go_sem] max2_int min2_int max_two min_two max_three min_three max_four min_four   -- for this text's walks alone
set_option linter.unusedVariables false
set_option linter.unusedSimpArgs false
theorem eqA43 (d:Nat) (w:World) (x0 y0:Bool) (x1 y1:Int):
 (Op.equalIn (d+2) 43 (.agg #[.bool x0,.int .i64 x1]) (.agg #[.bool y0,.int .i64 y1])).run Try.prog w= .ok (x0==y0 && (x1==y1)) w:=by
 refine eqA_of Try.underlying43 (by kernel_rfl) ?_
 refine eqf_cons (by rfl) (by go_simp;rfl) (by go_simp;rfl) (by go_simp) ?_
 exact eqf_last (by rfl) (by go_simp;rfl) (by go_simp;rfl) (by go_simp)
attribute [local go_sem] max2_int min2_int max_two min_two max_three min_three max_four min_four   -- for this text's walks alone
set_option linter.unusedVariables false
set_option linter.unusedSimpArgs false
attribute [local go_sem high] eqA43
mutual
def regletref16_Same.j0:Nat→Bool→List (S43)→Bool→List (S43)→Bool→Option (Bool)
 |0,_,_,_,_,_=>none
 |k+1,x19,x102000,x102001,x103000,x103001=>if x19=true then(some false) else(regletref16_Same.l0 k 0 x102000 x102001 x103000 x103001)
def regletref16_Same.l0:Nat→Int→List (S43)→Bool→List (S43)→Bool→Option (Bool)
 |0,_,_,_,_,_=>none
 |k+1,x5,x102000,x102001,x103000,x103001=>if x5<(x102000.length:Int) then(if 0≤x5 then(if x5<(x103000.length:Int) then(if(!(((rd_T43 x102000 x5).f0)==((rd_T43 x103000 x5).f0))||(!(((rd_T43 x102000 x5).f1)==((rd_T43 x103000 x5).f1))))=true then(some false) else(regletref16_Same.l0 k (wrap64 (x5+1)) x102000 x102001 x103000 x103001)) else(none)) else(none)) else(some true)
end
def regletref16_Same.f (k:Nat) (aU:List (S43)) (kF:Bool) (kG:List (S43)) (lW:Bool):Option (Bool):=if(kF !=lW)=true then(regletref16_Same.j0 k true aU kF kG lW) else(regletref16_Same.j0 k ((aU.length:Int) !=(kG.length:Int)) aU kF kG lW)
theorem regletref16_Same.mono_l:∀k,(∀y0 y1 y2 y3 y4,LeO (regletref16_Same.j0 k y0 y1 y2 y3 y4) (regletref16_Same.j0 (k+1) y0 y1 y2 y3 y4))∧(∀y0 y1 y2 y3 y4,LeO (regletref16_Same.l0 k y0 y1 y2 y3 y4) (regletref16_Same.l0 (k+1) y0 y1 y2 y3 y4))
 |0=>⟨fun _ _ _ _ _ r h=>by simp [regletref16_Same.j0] at h,fun _ _ _ _ _ r h=>by simp [regletref16_Same.l0] at h⟩
 |k+1=>by
  obtain⟨ih0,ih1⟩:=regletref16_Same.mono_l k;refine⟨?_,?_⟩
  ·intro y0 y1 y2 y3 y4
   unfold regletref16_Same.j0
   repeat' first
   |(with_reducible exact ih0 _ _ _ _ _)
   |(with_reducible exact ih1 _ _ _ _ _)
   |(with_reducible exact LeO.refl _)
   |(with_reducible exact LeO.none _)
   |(with_reducible refine LeO.ite ?_ ?_)
   |(with_reducible refine LeO.bind ?_ (fun _=>?_))
   |exact ih0 _ _ _ _ _
   |exact ih1 _ _ _ _ _
   |exact LeO.none _
   |refine LeO.ite ?_ ?_
   |refine LeO.bind ?_ (fun _=>?_)
  ·intro y0 y1 y2 y3 y4
   unfold regletref16_Same.l0
   repeat' first
   |(with_reducible exact ih0 _ _ _ _ _)
   |(with_reducible exact ih1 _ _ _ _ _)
   |(with_reducible exact LeO.refl _)
   |(with_reducible exact LeO.none _)
   |(with_reducible refine LeO.ite ?_ ?_)
   |(with_reducible refine LeO.bind ?_ (fun _=>?_))
   |exact ih0 _ _ _ _ _
   |exact ih1 _ _ _ _ _
   |exact LeO.none _
   |refine LeO.ite ?_ ?_
   |refine LeO.bind ?_ (fun _=>?_)
theorem regletref16_Same.mono:∀a0 a1 a2 a3 k,LeO (regletref16_Same.f k a0 a1 a2 a3) (regletref16_Same.f (k+1) a0 a1 a2 a3):=by
 intro a0 a1 a2 a3 k;obtain⟨ih0,ih1⟩:=regletref16_Same.mono_l k
 unfold regletref16_Same.f
 repeat' first
  |(with_reducible exact ih0 _ _ _ _ _)
  |(with_reducible exact ih1 _ _ _ _ _)
  |(with_reducible exact LeO.refl _)
  |(with_reducible exact LeO.none _)
  |(with_reducible refine LeO.ite ?_ ?_)
  |(with_reducible refine LeO.bind ?_ (fun _=>?_))
  |exact ih0 _ _ _ _ _
  |exact ih1 _ _ _ _ _
  |exact LeO.none _
  |refine LeO.ite ?_ ?_
  |refine LeO.bind ?_ (fun _=>?_)
set_option maxHeartbeats 8000000 in
set_option maxRecDepth 100000 in
theorem regletref16_Same.calls (k:Nat) (bM:Option Addr) (bO:Nat) (aU:List (S43)) (kF:Bool) (Ch:Option Addr) (Ci:Nat) (kG:List (S43)) (lW:Bool) (r:Bool) (w:World) (dX:Kd.C k43 w bM aU.length aU) (eE:aU.length≤bO) (Xq:Kd.C k43 w Ch kG.length kG) (Xr:kG.length≤Ci) (h:regletref16_Same.f k aU kF kG lW=some r):
 Calls Try.prog 16 #[.agg #[.slice bM aU.length bO,.bool kF],.agg #[.slice Ch kG.length Ci,.bool lW]] w fun e w'=>e= .returned (.bool r)∧Below w.heap.size w w':=by
 have hu31:=Try.underlying31;have hu43:=Try.underlying43;have fN:=aM dX;have fS:=aM eE;clear dX eE;have Xs:=aM Xq;have TX:=aM Xr;clear Xq Xr;have HB:=aM (Below.refl w.heap.size w);have H:(if(kF !=lW)=true then(regletref16_Same.j0 k true aU kF kG lW) else(regletref16_Same.j0 k ((aU.length:Int) !=(kG.length:Int)) aU kF kG lW))=some r:=h;clear h;have HC3:=aM H;clear H;go_enter Try.func16,Try.ntmps16
 go_upto_region 1 with(first|((with_reducible refine bJ (N:=2) rfl ?_);(try(refine gate_guard (by rfl) ?_;dsimp only));refine box_event ?hg (N:=2) ?hd (cs:=#[.slice bM aU.length bO,.bool kF]) (t:=31) ?hr ?_;(case hd=>rfl);(case hg=>rfl);(case hr=>first|(go_simp;done)|(go_simp;rfl));intro hZ hg w4 hbox hb;have cE:=aM (bG (gW HB.out) hb);have cF:=aM (hbox);have cH:=aM ((by rw [hg];exact(bH (gW HB.out)):w.heap.size≤hZ));have cM:=aM ((by rw [hg];exact(bH (gW HB.out)):w.heap.size≤hZ));clear HB;have HB:=cE;have fO:=cF;have GW101:=cH;have Xt:=cM;clear cE cF cH cM;clear hb hbox hg)|((with_reducible refine bJ (N:=3) rfl ?_);(try(refine gate_guard (by rfl) ?_;dsimp only));refine box_event ?hg (N:=3) ?hd (cs:=#[.slice Ch kG.length Ci,.bool lW]) (t:=31) ?hr ?_;(case hd=>rfl);(case hg=>rfl);(case hr=>first|(go_simp;done)|(go_simp;rfl));intro jX hg w5 hbox hb;have cE:=aM (bF (gB fO.out) hb);have cF:=aM (bG (gW HB.out) hb);have cH:=aM (hbox);have cM:=aM ((by rw [hg];exact(bH (gW HB.out)):w.heap.size≤jX));have dH:=aM ((by rw [hg];exact(bH (gW HB.out)):w.heap.size≤jX));have dN:=aM ((by rw [hg];exact Nat.ne_of_lt (bN (g:=hZ) (o:= .cells #[.slice bM aU.length bO,.bool kF] 31 (0,0)) (gB fO.out)):hZ≠jX));have dY:=aM ((by rw [hg];exact Nat.ne_of_gt (bN (g:=hZ) (o:= .cells #[.slice bM aU.length bO,.bool kF] 31 (0,0)) (gB fO.out)):jX≠hZ));clear fO;clear HB;have fO:=cE;have HB:=cF;have jY:=cH;have GW102:=cM;have Xu:=dH;have mF:=dN;have mG:=dY;clear cE cF cH cM dH dN dY;clear hb hbox hg))
 repeat(go_quiet (first|((with_reducible refine bJ (N:=2) rfl ?_);(try(refine gate_guard (by rfl) ?_;dsimp only));refine box_event ?hg (N:=2) ?hd (cs:=#[.slice bM aU.length bO,.bool kF]) (t:=31) ?hr ?_;(case hd=>rfl);(case hg=>rfl);(case hr=>first|(go_simp;done)|(go_simp;rfl));intro hZ hg w4 hbox hb;have cE:=aM (bG (gW HB.out) hb);have cF:=aM (hbox);have cH:=aM ((by rw [hg];exact(bH (gW HB.out)):w.heap.size≤hZ));have cM:=aM ((by rw [hg];exact(bH (gW HB.out)):w.heap.size≤hZ));clear HB;have HB:=cE;have fO:=cF;have GW101:=cH;have Xt:=cM;clear cE cF cH cM;clear hb hbox hg)|((with_reducible refine bJ (N:=3) rfl ?_);(try(refine gate_guard (by rfl) ?_;dsimp only));refine box_event ?hg (N:=3) ?hd (cs:=#[.slice Ch kG.length Ci,.bool lW]) (t:=31) ?hr ?_;(case hd=>rfl);(case hg=>rfl);(case hr=>first|(go_simp;done)|(go_simp;rfl));intro jX hg w5 hbox hb;have cE:=aM (bF (gB fO.out) hb);have cF:=aM (bG (gW HB.out) hb);have cH:=aM (hbox);have cM:=aM ((by rw [hg];exact(bH (gW HB.out)):w.heap.size≤jX));have dH:=aM ((by rw [hg];exact(bH (gW HB.out)):w.heap.size≤jX));have dN:=aM ((by rw [hg];exact Nat.ne_of_lt (bN (g:=hZ) (o:= .cells #[.slice bM aU.length bO,.bool kF] 31 (0,0)) (gB fO.out)):hZ≠jX));have dY:=aM ((by rw [hg];exact Nat.ne_of_gt (bN (g:=hZ) (o:= .cells #[.slice bM aU.length bO,.bool kF] 31 (0,0)) (gB fO.out)):jX≠hZ));clear fO;clear HB;have fO:=cE;have HB:=cF;have jY:=cH;have GW102:=cM;have Xu:=dH;have mF:=dN;have mG:=dY;clear cE cF cH cM dH dN dY;clear hb hbox hg));go_upto_region 1 with(first|((with_reducible refine bJ (N:=2) rfl ?_);(try(refine gate_guard (by rfl) ?_;dsimp only));refine box_event ?hg (N:=2) ?hd (cs:=#[.slice bM aU.length bO,.bool kF]) (t:=31) ?hr ?_;(case hd=>rfl);(case hg=>rfl);(case hr=>first|(go_simp;done)|(go_simp;rfl));intro hZ hg w4 hbox hb;have cE:=aM (bG (gW HB.out) hb);have cF:=aM (hbox);have cH:=aM ((by rw [hg];exact(bH (gW HB.out)):w.heap.size≤hZ));have cM:=aM ((by rw [hg];exact(bH (gW HB.out)):w.heap.size≤hZ));clear HB;have HB:=cE;have fO:=cF;have GW101:=cH;have Xt:=cM;clear cE cF cH cM;clear hb hbox hg)|((with_reducible refine bJ (N:=3) rfl ?_);(try(refine gate_guard (by rfl) ?_;dsimp only));refine box_event ?hg (N:=3) ?hd (cs:=#[.slice Ch kG.length Ci,.bool lW]) (t:=31) ?hr ?_;(case hd=>rfl);(case hg=>rfl);(case hr=>first|(go_simp;done)|(go_simp;rfl));intro jX hg w5 hbox hb;have cE:=aM (bF (gB fO.out) hb);have cF:=aM (bG (gW HB.out) hb);have cH:=aM (hbox);have cM:=aM ((by rw [hg];exact(bH (gW HB.out)):w.heap.size≤jX));have dH:=aM ((by rw [hg];exact(bH (gW HB.out)):w.heap.size≤jX));have dN:=aM ((by rw [hg];exact Nat.ne_of_lt (bN (g:=hZ) (o:= .cells #[.slice bM aU.length bO,.bool kF] 31 (0,0)) (gB fO.out)):hZ≠jX));have dY:=aM ((by rw [hg];exact Nat.ne_of_gt (bN (g:=hZ) (o:= .cells #[.slice bM aU.length bO,.bool kF] 31 (0,0)) (gB fO.out)):jX≠hZ));clear fO;clear HB;have fO:=cE;have HB:=cF;have jY:=cH;have GW102:=cM;have Xu:=dH;have mF:=dN;have mG:=dY;clear cE cF cH cM dH dN dY;clear hb hbox hg)))
 (try simp only [Act.put,List.setIfInBounds_toArray,List.set_cons_zero,List.set_cons_succ])
 go_cut [19] (fun v19 wc=>∃(kq:Nat) (Lq:Bool),v19= .bool Lq∧Aside0 (regletref16_Same.j0 kq Lq aU kF kG lW=some r)∧Aside0 (kq≤k)∧Aside0 (wc.heap[hZ]?=some (.cells #[(.slice bM aU.length bO),.bool kF] 31 (0,0)))∧Aside0 (wc.heap[jX]?=some (.cells #[(.slice Ch kG.length Ci),.bool lW] 31 (0,0)))∧Aside0 (Below w.heap.size w wc))
 case first=>
  have H:=HC3.out;clear HC3
  by_cases c6:(kF !=lW)=true
  ·rw [if_pos c6] at H
   have yT:(kF !=lW)=true:=c6
   (try(have Jk:decide (kF=lW)=false:=by simpa using c6))
   (try(have AA:(kF==lW)=false:=by simpa using c6))
   (try(have VT:¬(kF=lW):=by simpa using c6))
   clear c6
   (first|rw [yT]|(simp only [i64_w,i32_w];rw [yT])|skip)
   have H':=aM H;clear H;have hnb7:=mF.out;have hnc7:=mG.out;have jP:w5.cell? ⟨hZ,0,none⟩=some (.slice bM aU.length bO):=(aG fO.out 0).trans rfl;have jQ:w5.cell? ⟨hZ,1,none⟩=some (.bool kF):=(aG fO.out 1).trans rfl;have jR:=aH fO.out 0;have jS:=aH fO.out 1;have nW:w5.cell? ⟨jX,0,none⟩=some (.slice Ch kG.length Ci):=(aG jY.out 0).trans rfl;have nX:w5.cell? ⟨jX,1,none⟩=some (.bool lW):=(aG jY.out 1).trans rfl;have nY:=aH jY.out 0;have nZ:=aH jY.out 1;go_wp2
   repeat(go_quiet (fail);try go_wp2)
   go_meet
   case rel=>exact⟨_,(true),(by first|rfl|(simp;done)|(simp [*];done)),H',⟨by first|omega|exact Nat.le_refl _⟩,⟨gB fO.out⟩,⟨gB jY.out⟩,⟨gW HB.out⟩⟩
  ·rw [if_neg c6] at H
   have yT:(kF !=lW)=false:=by simpa using c6
   (try(have Jk:decide (kF=lW)=true:=by simpa using c6))
   (try(have AA:(kF==lW)=true:=by simpa using c6))
   clear c6
   (first|rw [yT]|(simp only [i64_w,i32_w];rw [yT])|skip)
   have H':=aM H;clear H;have hnb10:=mF.out;have hnc10:=mG.out;have tS:w5.cell? ⟨hZ,0,none⟩=some (.slice bM aU.length bO):=(aG fO.out 0).trans rfl;have tT:w5.cell? ⟨hZ,1,none⟩=some (.bool kF):=(aG fO.out 1).trans rfl;have tU:=aH fO.out 0;have tV:=aH fO.out 1;have mU:w5.cell? ⟨jX,0,none⟩=some (.slice Ch kG.length Ci):=(aG jY.out 0).trans rfl;have mV:w5.cell? ⟨jX,1,none⟩=some (.bool lW):=(aG jY.out 1).trans rfl;have mW:=aH jY.out 0;have mX:=aH jY.out 1;go_wp2
   repeat(go_quiet (fail);try go_wp2)
   go_meet
   case rel=>exact⟨_,(((aU.length:Int) !=(kG.length:Int))),(by first|rfl|(simp;done)|(simp [*];done)),H',⟨by first|omega|exact Nat.le_refl _⟩,⟨gB fO.out⟩,⟨gB jY.out⟩,⟨gW HB.out⟩⟩
 case rest=>
  clear HC3
  (try clear c1);(try clear p2);(try clear c6);(try clear yT);(try clear Jk);(try clear AA);(try clear c7);(try clear c10);(try clear tS);(try clear tT);(try clear mU);(try clear mV);(try clear jP);(try clear jQ);(try clear nW);(try clear nX);(try clear tU);(try clear tV);(try clear mW);(try clear mX);(try clear jR);(try clear jS)
  (try clear nY);(try clear nZ)
  obtain⟨kq,Lq,rfl,HA,HJ2,fO,jY,HB⟩:=hcut
  cases kq with
  |zero=>exact absurd HA.out (by simp [regletref16_Same.j0])
  |succ AC=>
   have H:=HA.out;clear HA;simp only [regletref16_Same.j0] at H
   by_cases c13:Lq=true
   ·subst c13
    have H1:(some false)=some r:=by rw [if_pos rfl] at H;exact H
    clear H;have H:=H1;clear H1;obtain rfl:=Option.some.inj H;go_wp2
    repeat(go_quiet (fail);try go_wp2)
    go_ret
    exact⟨by first|rfl|(simp [errW_none,errW_some]<;>rfl)|(simp [*,errW_none,errW_some]<;>rfl),gW HB.out⟩
   ·replace c13:=Bool.eq_false_iff.mpr c13
    subst c13;have H1:(regletref16_Same.l0 AC 0 aU kF kG lW)=some r:=by rw [if_neg (show ¬(false=true) by decide)] at H;exact H
    clear H;have H:=H1;clear H1;have H':=aM H;clear H;go_wp2
    repeat(go_quiet (fail);try go_wp2)
    go_loopg [5] AC (fun kq v5 w'=>∃(bU:Int),v5= .int .i64 bU∧Aside0 (regletref16_Same.l0 kq bU aU kF kG lW=some r)∧Aside0 (kq≤AC)∧Aside0 (w'.heap[hZ]?=some (.cells #[(.slice bM aU.length bO),.bool kF] 31 (0,0)))∧Aside0 (w'.heap[jX]?=some (.cells #[(.slice Ch kG.length Ci),.bool lW] 31 (0,0)))∧Aside0 (Below w.heap.size w w'))
    case atStart=>exact⟨(0),(by first|rfl|(simp;done)|(simp [*];done)),H',⟨Nat.le_refl _⟩,⟨gB fO.out⟩,⟨gB jY.out⟩,⟨gW HB.out⟩⟩
    case round=>
     clear H'
     (try clear c1);(try clear p2);(try clear c6);(try clear yT);(try clear Jk);(try clear AA);(try clear c7);(try clear c10);(try clear c13);(try clear tS);(try clear tT);(try clear mU);(try clear mV);(try clear jP);(try clear jQ);(try clear nW);(try clear nX);(try clear tU);(try clear tV);(try clear mW);(try clear mX);(try clear jR);(try clear jS)
     (try clear nY);(try clear nZ);(try clear p2)
     obtain⟨bU,rfl,HA,HK2,fO,jY,HB⟩:=hrel
     cases gk with
     |zero=>exact absurd HA.out (by simp [regletref16_Same.l0])
     |succ k2=>
      have H:=HA.out;clear HA;simp only [regletref16_Same.l0] at H
      by_cases c14:bU<(aU.length:Int)
      ·rw [if_pos c14] at H
       have Cz:decide (bU<(aU.length:Int))=true:=decide_eq_true c14;clear c14
       by_cases c15:0≤bU
       rotate_left
       ·rw [if_neg c15] at H
        exact absurd H (by simp)
       rw [if_pos c15] at H;have Ce:decide (0≤bU)=true:=decide_eq_true c15;clear c15
       by_cases c16:bU<(kG.length:Int)
       rotate_left
       ·rw [if_neg c16] at H
        exact absurd H (by simp)
       rw [if_pos c16] at H;have Ou:decide (bU<(kG.length:Int))=true:=decide_eq_true c16;clear c16
       by_cases c17:(!(((rd_T43 aU bU).f0)==((rd_T43 kG bU).f0))||(!(((rd_T43 aU bU).f1)==((rd_T43 kG bU).f1))))=true
       ·rw [if_pos c17] at H
        have mN:(!(((rd_T43 aU bU).f0)==((rd_T43 kG bU).f0))||(!(((rd_T43 aU bU).f1)==((rd_T43 kG bU).f1))))=true:=c17;clear c17;obtain rfl:=Option.some.inj H;have hnb18:=mF.out;have hnc18:=mG.out;have Lr:wr.cell? ⟨hZ,0,none⟩=some (.slice bM aU.length bO):=(aG fO.out 0).trans rfl;have Ls:wr.cell? ⟨hZ,1,none⟩=some (.bool kF):=(aG fO.out 1).trans rfl;have Lt:=aH fO.out 0;have Lu:=aH fO.out 1;have p103:0≤(bU:Int):=of_decide_eq_true (by first|(with_reducible assumption)|assumption);have q103:bU<(aU.length:Int):=of_decide_eq_true (by first|(with_reducible assumption)|assumption);obtain⟨DY,e103,rJ,rK⟩:=at_T43 fN.out bU p103 q103
        cases e103;replace rJ:=(HB.out.cell (World.block_lt_of_cell? w _ rJ)).trans rJ;replace rK:=(HB.out.cell (World.block_lt_of_cell? w _ rK)).trans rK;replace p103:=eq_true p103;replace q103:=eq_true q103;have tW:wr.cell? ⟨jX,0,none⟩=some (.slice Ch kG.length Ci):=(aG jY.out 0).trans rfl;have tX:wr.cell? ⟨jX,1,none⟩=some (.bool lW):=(aG jY.out 1).trans rfl;have tY:=aH jY.out 0;have tZ:=aH jY.out 1;have p104:0≤(bU:Int):=of_decide_eq_true (by first|(with_reducible assumption)|assumption);have q104:bU<(kG.length:Int):=of_decide_eq_true (by first|(with_reducible assumption)|assumption);obtain⟨DZ,e104,rL,rM⟩:=at_T43 Xs.out bU p104 q104
        cases e104;replace rL:=(HB.out.cell (World.block_lt_of_cell? w _ rL)).trans rL;replace rM:=(HB.out.cell (World.block_lt_of_cell? w _ rM)).trans rM;replace p104:=eq_true p104;replace q104:=eq_true q104;go_wp2
        repeat(go_quiet (fail);try go_wp2)
        go_ret
        exact⟨by first|rfl|(simp [errW_none,errW_some]<;>rfl)|(simp [*,errW_none,errW_some]<;>rfl),gW HB.out⟩
       ·rw [if_neg c17] at H
        have mN:(!(((rd_T43 aU bU).f0)==((rd_T43 kG bU).f0))||(!(((rd_T43 aU bU).f1)==((rd_T43 kG bU).f1))))=false:=by simpa using c17
        clear c17;have H':=aM H;clear H;have hnb21:=mF.out;have hnc21:=mG.out;have St:wr.cell? ⟨hZ,0,none⟩=some (.slice bM aU.length bO):=(aG fO.out 0).trans rfl;have Su:wr.cell? ⟨hZ,1,none⟩=some (.bool kF):=(aG fO.out 1).trans rfl;have Sv:=aH fO.out 0;have Sw:=aH fO.out 1;have p103:0≤(bU:Int):=of_decide_eq_true (by first|(with_reducible assumption)|assumption);have q103:bU<(aU.length:Int):=of_decide_eq_true (by first|(with_reducible assumption)|assumption);obtain⟨DY,e103,rJ,rK⟩:=at_T43 fN.out bU p103 q103
        cases e103;replace rJ:=(HB.out.cell (World.block_lt_of_cell? w _ rJ)).trans rJ;replace rK:=(HB.out.cell (World.block_lt_of_cell? w _ rK)).trans rK;replace p103:=eq_true p103;replace q103:=eq_true q103;have Ru:wr.cell? ⟨jX,0,none⟩=some (.slice Ch kG.length Ci):=(aG jY.out 0).trans rfl;have Rv:wr.cell? ⟨jX,1,none⟩=some (.bool lW):=(aG jY.out 1).trans rfl;have Rw:=aH jY.out 0;have Rx:=aH jY.out 1;have p104:0≤(bU:Int):=of_decide_eq_true (by first|(with_reducible assumption)|assumption);have q104:bU<(kG.length:Int):=of_decide_eq_true (by first|(with_reducible assumption)|assumption);obtain⟨DZ,e104,rL,rM⟩:=at_T43 Xs.out bU p104 q104
        cases e104;replace rL:=(HB.out.cell (World.block_lt_of_cell? w _ rL)).trans rL;replace rM:=(HB.out.cell (World.block_lt_of_cell? w _ rM)).trans rM;replace p104:=eq_true p104;replace q104:=eq_true q104;go_wp2
        repeat(go_quiet (fail);try go_wp2)
        go_roundg k2
        case measure=>have:=HJ2.out;have:=HK2.out;omega
        case rel=>exact⟨(wrap64 (bU+1)),(by first|rfl|(simp;done)|(simp [*];done)),H',⟨by have:=HJ2.out;have:=HK2.out;omega⟩,⟨gB fO.out⟩,⟨gB jY.out⟩,⟨gW HB.out⟩⟩
      ·rw [if_neg c14] at H
       have Cz:decide (bU<(aU.length:Int))=false:=decide_eq_false c14;clear c14;obtain rfl:=Option.some.inj H;have hnb24:=mF.out;have hnc24:=mG.out;have Lh:wr.cell? ⟨hZ,0,none⟩=some (.slice bM aU.length bO):=(aG fO.out 0).trans rfl;have Li:wr.cell? ⟨hZ,1,none⟩=some (.bool kF):=(aG fO.out 1).trans rfl;have Lj:=aH fO.out 0;have Lk:=aH fO.out 1;go_wp2
       repeat(go_quiet (fail);try go_wp2)
       go_ret
       exact⟨by first|rfl|(simp [errW_none,errW_some]<;>rfl)|(simp [*,errW_none,errW_some]<;>rfl),gW HB.out⟩
def machine_Start.f  :Option ((List (S43))×Bool):=some ((([(⟨false,0⟩:S43)]:List (S43))),false)
set_option maxHeartbeats 8000000 in
set_option maxRecDepth 100000 in
theorem machine_Start.calls  (r1:List (S43)) (r2:Bool) (w:World) (h:machine_Start.f  =some (r1,r2)):
 Calls Try.prog 17 #[] w fun e w'=>∃v0_:Value,e= .returned (.agg #[v0_,.bool r2])∧Kd.R k43 43 w' w.heap.size (fun _=>True) v0_ r1∧Below w.heap.size w w':=by
 have hu31:=Try.underlying31;have hu43:=Try.underlying43;have HB:=aM (Below.refl w.heap.size w);have H:(some ((([(⟨false,0⟩:S43)]:List (S43))),false))=some (r1,r2):=h;clear h;obtain⟨y106,Hp⟩:∃y_:List (S43),y_=(([(⟨false,0⟩:S43)]:List (S43))):=⟨_,rfl⟩;replace H:(some (y106,false))=some (r1,r2):=by first|(rw [Hp];with_reducible exact H)|(have H2_:=(Option.bind_some _ _).symm.trans H;rw [Hp];with_reducible exact H2_)|(have H2_:=(Option.bind_some _ _).symm.trans H;with_reducible exact H2_)|with_reducible exact H|(rw [Hp];exact H)|exact H
 have Xv:=aM Hp;clear Hp;simp only [Option.some.injEq,Prod.mk.injEq] at H;obtain⟨rfl,rfl⟩:=H;go_enter Try.func17,Try.ntmps17
 go_wp2_with (first|((with_reducible refine bJ (N:=0) rfl ?_);refine box_event ?hg (N:=0) ?hd (cs:=#[.slice none 0 0,.bool false]) (t:=31) ?hr ?_;(case hd=>rfl);(case hg=>rfl);(case hr=>first|(go_simp;done)|(go_simp;rfl));intro Cj hg w1 hbox hb;have cE:=aM (bG (gW HB.out) hb);have cF:=aM (hbox);have cH:=aM ((by rw [hg];exact(bH (gW HB.out)):w.heap.size≤Cj));have cM:=aM ((by rw [hg];exact(bH (gW HB.out)):w.heap.size≤Cj));clear HB;have HB:=cE;have vN:=cF;have GW105:=cH;have EA:=cM;clear cE cF cH cM;clear hb hbox hg)|((with_reducible refine bJ (N:=2) rfl ?_);refine Kd.R_lit k43 _ 43 ?hg (N:=2) ?hd (xs:=([(⟨false,0⟩:S43)]:List (S43))) (inner:= [.bool false,.int .i64 0]) (ok:=fun _=>True) (okp:=fun _=>True) ?hr ?hp (fun _ hk=>hk) trivial (Below.refl _ _) (Nat.le_refl _) (by simp) ?_;(case hd=>rfl);(case hg=>rfl);(case hr=>first|(go_simp;done)|(go_simp;rfl));(case hp=>exact(Reps.c2 (show Kd.M k43 _ _ _ (⟨false,0⟩:S43) [.bool false,.int .i64 0] from(k43_mkM _ _ _ (⟨false,0⟩:S43))) (Reps.none _ _)));intro v107 w2 ho3 hb hg_ hnew_;clear hg_ hnew_;(first|rw [←Xv.out] at ho3|(simp only [Int.reduceToNat] at ho3;rw [←Xv.out] at ho3));have cE:=aM (bL ho3 (bH (gW HB.out)));have cF:=aM (bF (gB vN.out) hb);have cH:=aM (bG (gW HB.out) hb);clear vN;clear HB;have Xw:=cE;have vN:=cF;have HB:=cH;clear cE cF cH;clear hb ho3;obtain⟨Ze,Zf,QF⟩:=Kd.R_slice Xw.out;subst QF;have Zg:w2.cell? ⟨Cj,0,none⟩=some (.slice none 0 0):=(aG vN.out 0).trans rfl;have Zh:w2.cell? ⟨Cj,1,none⟩=some (.bool false):=(aG vN.out 1).trans rfl;have Zi:=aH vN.out 0;have Zj:=aH vN.out 1))
 refine bodyPost_ret (results_cell_row rfl _ _ Cj 31 #[.slice Ze y106.length Zf,.bool false] (0,0) _ rfl (by(with_reducible repeat(first|refine aJ ?_ _|refine aK ?_|refine aI ?_ _));refine blk_put (cs:=#[.slice Ze y106.length Zf,.bool false]) ?_ 1 _ rfl;(with_reducible repeat(first|refine aJ ?_ _|refine aK ?_|refine aI ?_ _));refine blk_put (cs:=#[.slice none 0 0,.bool false]) ?_ 0 _ rfl;(with_reducible repeat(first|refine aJ ?_ _|refine aK ?_|refine aI ?_ _));exact vN.out) Try.underlying31 rfl (by kernel_rfl)) rfl ?_
 exact⟨_,by first|rfl|(simp [errW_none,errW_some]<;>rfl)|(simp [*,errW_none,errW_some]<;>rfl),by(with_reducible repeat(first|apply aA|apply aB|apply aC));exact Kd.R_mono (aE (p:=⟨Cj,1,none⟩) (aE (p:=⟨Cj,0,none⟩) (Kd.R_types Xw.out vN.out (by decide)) (fun _ hk=>hk.2) (.slice Ze y106.length Zf)) (fun _ hk=>hk.2) (.bool false)) (fun _ hk=>trivial),by repeat(first|(with_reducible first|exact HB.out|apply aN|apply aP|apply aO|refine aL ?_ EA.out)|exact HB.out)⟩
def machine_dead.f  :Option ((List (S43))×Bool):=some (([]:List (S43)),true)
set_option maxHeartbeats 8000000 in
set_option maxRecDepth 100000 in
theorem machine_dead.calls  (r1:List (S43)) (r2:Bool) (w:World) (h:machine_dead.f  =some (r1,r2)):
 Calls Try.prog 36 #[] w fun e w'=>∃v0_:Value,e= .returned (.agg #[v0_,.bool r2])∧Kd.R k43 43 w' w.heap.size (fun _=>True) v0_ r1∧Below w.heap.size w w':=by
 have hu31:=Try.underlying31;have HB:=aM (Below.refl w.heap.size w);have H:(some (([]:List (S43)),true))=some (r1,r2):=h;clear h;simp only [Option.some.injEq,Prod.mk.injEq] at H;obtain⟨rfl,rfl⟩:=H;go_enter Try.func36,Try.ntmps36
 go_wp2_with (first|((with_reducible refine bJ (N:=0) rfl ?_);refine box_event ?hg (N:=0) ?hd (cs:=#[.slice none 0 0,.bool false]) (t:=31) ?hr ?_;(case hd=>rfl);(case hg=>rfl);(case hr=>first|(go_simp;done)|(go_simp;rfl));intro Hq hg w1 hbox hb;have cE:=aM (bG (gW HB.out) hb);have cF:=aM (hbox);have cH:=aM ((by rw [hg];exact(bH (gW HB.out)):w.heap.size≤Hq));have cM:=aM ((by rw [hg];exact(bH (gW HB.out)):w.heap.size≤Hq));clear HB;have HB:=cE;have Hr:=cF;have GW110:=cH;have EB:=cM;clear cE cF cH cM;clear hb hbox hg;have RF:w1.cell? ⟨Hq,0,none⟩=some (.slice none 0 0):=(aG Hr.out 0).trans rfl;have RG:w1.cell? ⟨Hq,1,none⟩=some (.bool false):=(aG Hr.out 1).trans rfl;have RH:=aH Hr.out 0;have RI:=aH Hr.out 1))
 refine bodyPost_ret (results_cell_row rfl _ _ Hq 31 #[.slice none 0 0,.bool true] (0,0) _ rfl (by(with_reducible repeat(first|refine aJ ?_ _|refine aK ?_|refine aI ?_ _));refine blk_put (cs:=#[.slice none 0 0,.bool false]) ?_ 1 _ rfl;(with_reducible repeat(first|refine aJ ?_ _|refine aK ?_|refine aI ?_ _));refine blk_put (cs:=#[.slice none 0 0,.bool false]) ?_ 0 _ rfl;(with_reducible repeat(first|refine aJ ?_ _|refine aK ?_|refine aI ?_ _));exact Hr.out) Try.underlying31 rfl (by kernel_rfl)) rfl ?_
 exact⟨_,by first|rfl|(simp [errW_none,errW_some]<;>rfl)|(simp [*,errW_none,errW_some]<;>rfl),by first|exact Kd.R_nil _ _ _ _ _|exact Kd.N_nil _ _ _ _ _|exact Kd.V_nil _ _ _ _ _|exact Kd.Q_nil _ _ _ _ _|exact Kd.S_nil _ _ _ _ _,by repeat(first|(with_reducible first|exact HB.out|apply aN|apply aP|apply aO|refine aL ?_ EB.out)|exact HB.out)⟩
def regletref13_SameInts.l0:Nat→List Int→List Int→Int→Option (Bool)
 |0,_,_,_=>none
 |k+1,x0,x1,x5=>if x5<(x0.length:Int) then(if 0≤x5 then(if x5<(x1.length:Int) then(if(rd x0 x5)=(rd x1 x5) then(regletref13_SameInts.l0 k x0 x1 (wrap64 (x5+1))) else(some false)) else(none)) else(none)) else(some true)
def regletref13_SameInts.f (k:Nat) (l0:List Int) (l1:List Int):Option (Bool):=if(l0.length:Int)=(l1.length:Int) then(regletref13_SameInts.l0 k l0 l1 0) else(some false)
theorem regletref13_SameInts.mono_l:∀k,(∀y0 y1 y2,LeO (regletref13_SameInts.l0 k y0 y1 y2) (regletref13_SameInts.l0 (k+1) y0 y1 y2))
 |0=>fun _ _ _ r h=>by simp [regletref13_SameInts.l0] at h
 |k+1=>by
  have ih0:=regletref13_SameInts.mono_l k
  ·intro y0 y1 y2
   unfold regletref13_SameInts.l0
   repeat' first
   |(with_reducible exact ih0 _ _ _)
   |(with_reducible exact LeO.refl _)
   |(with_reducible exact LeO.none _)
   |(with_reducible refine LeO.ite ?_ ?_)
   |(with_reducible refine LeO.bind ?_ (fun _=>?_))
   |exact ih0 _ _ _
   |exact LeO.none _
   |refine LeO.ite ?_ ?_
   |refine LeO.bind ?_ (fun _=>?_)
theorem regletref13_SameInts.mono:∀a0 a1 k,LeO (regletref13_SameInts.f k a0 a1) (regletref13_SameInts.f (k+1) a0 a1):=by
 intro a0 a1 k;have ih0:=regletref13_SameInts.mono_l k
 unfold regletref13_SameInts.f
 repeat' first
  |(with_reducible exact ih0 _ _ _)
  |(with_reducible exact LeO.refl _)
  |(with_reducible exact LeO.none _)
  |(with_reducible refine LeO.ite ?_ ?_)
  |(with_reducible refine LeO.bind ?_ (fun _=>?_))
  |exact ih0 _ _ _
  |exact LeO.none _
  |refine LeO.ite ?_ ?_
  |refine LeO.bind ?_ (fun _=>?_)
set_option maxHeartbeats 8000000 in
set_option maxRecDepth 100000 in
theorem regletref13_SameInts.calls (k:Nat) (A0:Option Addr) (c0:Nat) (l0:List Int) (A1:Option Addr) (c1:Nat) (l1:List Int) (r:Bool) (w:World) (hr0:Kd.C (Kd.int .i64) w A0 l0.length l0) (hc0:l0.length≤c0) (hr1:Kd.C (Kd.int .i64) w A1 l1.length l1) (hc1:l1.length≤c1) (h:regletref13_SameInts.f k l0 l1=some r):
 Calls Try.prog 24 #[.slice A0 l0.length c0,.slice A1 l1.length c1] w fun e w'=>e= .returned (.bool r)∧Drawn0 w w':=by
 have HR0:=aM hr0;have HC0:=aM hc0;clear hr0 hc0;have HR1:=aM hr1;have HC1:=aM hc1;clear hr1 hc1;have H:(if(l0.length:Int)=(l1.length:Int) then(regletref13_SameInts.l0 k l0 l1 0) else(some false))=some r:=h;clear h
 by_cases c3:(l0.length:Int)=(l1.length:Int)
 ·rw [if_pos c3] at H
  have uM:((l0.length:Int)==(l1.length:Int))=true:=beq_iff_eq.mpr c3;have ED:((l0.length:Int) !=(l1.length:Int))=false:=bne_eq_false_iff_eq.mpr c3;have EE:(l0.length==l1.length)=true:=by first|simpa using c3|(simp at c3 ⊢;omega)
  clear c3;have H':=aM H;clear H;go_enter Try.func24,Try.ntmps24
  go_wp2
  repeat(go_quiet (fail);try go_wp2)
  go_loopg [5] k (fun kq v5 w'=>∃(gH:Int),v5= .int .i64 gH∧Aside0 (regletref13_SameInts.l0 kq l0 l1 gH=some r)∧Aside0 (kq≤k)∧Drawn0 w w')
  case atStart=>exact⟨(0),(by first|rfl|(simp;done)|(simp [*];done)),H',⟨Nat.le_refl _⟩,by repeat(first|exact Drawn0.refl _|apply Drawn0.step)⟩
  case round=>
   clear H'
   (try clear c1);(try clear c2);(try clear p2);(try clear c3);(try clear uM);(try clear ED);(try clear EE)
   obtain⟨gH,rfl,HA,HK1,⟨m1,rfl⟩⟩:=hrel
   cases gk with
   |zero=>exact absurd HA.out (by simp [regletref13_SameInts.l0])
   |succ k1=>
    have H:=HA.out;clear HA;simp only [regletref13_SameInts.l0] at H
    by_cases c4:gH<(l0.length:Int)
    ·rw [if_pos c4] at H
     have Di:decide (gH<(l0.length:Int))=true:=decide_eq_true c4;clear c4
     by_cases c5:0≤gH
     rotate_left
     ·rw [if_neg c5] at H
      exact absurd H (by simp)
     rw [if_pos c5] at H;have Gt:decide (0≤gH)=true:=decide_eq_true c5;clear c5
     by_cases c6:gH<(l1.length:Int)
     rotate_left
     ·rw [if_neg c6] at H
      exact absurd H (by simp)
     rw [if_pos c6] at H;have yT:decide (gH<(l1.length:Int))=true:=decide_eq_true c6;clear c6
     by_cases c7:(rd l0 gH)=(rd l1 gH)
     ·rw [if_pos c7] at H
      have yU:((rd l0 gH)==(rd l1 gH))=true:=beq_iff_eq.mpr c7;have He:((rd l0 gH) !=(rd l1 gH))=false:=bne_eq_false_iff_eq.mpr c7;clear c7;have H':=aM H;clear H;have p143:0≤(gH:Int):=of_decide_eq_true (by first|(with_reducible assumption)|assumption);have q143:gH<(l0.length:Int):=of_decide_eq_true (by first|(with_reducible assumption)|assumption);obtain⟨EF,e143,Tq⟩:=Kd.at_int HR0.out gH p143 q143
      cases e143;replace p143:=eq_true p143;replace q143:=eq_true q143;have p144:0≤(gH:Int):=of_decide_eq_true (by first|(with_reducible assumption)|assumption);have q144:gH<(l1.length:Int):=of_decide_eq_true (by first|(with_reducible assumption)|assumption);obtain⟨EG,e144,Tr⟩:=Kd.at_int HR1.out gH p144 q144
      cases e144;replace p144:=eq_true p144;replace q144:=eq_true q144;go_wp2
      repeat(go_quiet (fail);try go_wp2)
      go_roundg k1
      case measure=>have:=HK1.out;omega
      case rel=>exact⟨(wrap64 (gH+1)),(by first|rfl|(simp;done)|(simp [*];done)),H',⟨by have:=HK1.out;omega⟩,by repeat(first|exact Drawn0.refl _|apply Drawn0.step)⟩
     ·rw [if_neg c7] at H
      have yU:((rd l0 gH)==(rd l1 gH))=false:=beq_eq_false_iff_ne.mpr c7;have He:((rd l0 gH) !=(rd l1 gH))=true:=bne_iff_ne.mpr c7;obtain rfl:=Option.some.inj H;have p143:0≤(gH:Int):=of_decide_eq_true (by first|(with_reducible assumption)|assumption);have q143:gH<(l0.length:Int):=of_decide_eq_true (by first|(with_reducible assumption)|assumption);obtain⟨EF,e143,Tq⟩:=Kd.at_int HR0.out gH p143 q143
      cases e143;replace p143:=eq_true p143;replace q143:=eq_true q143;have p144:0≤(gH:Int):=of_decide_eq_true (by first|(with_reducible assumption)|assumption);have q144:gH<(l1.length:Int):=of_decide_eq_true (by first|(with_reducible assumption)|assumption);obtain⟨EG,e144,Tr⟩:=Kd.at_int HR1.out gH p144 q144
      cases e144;replace p144:=eq_true p144;replace q144:=eq_true q144;go_wp2
      repeat(go_quiet (fail);try go_wp2)
      go_ret
      exact⟨by first|rfl|(simp;done)|(simp [*];done),by repeat(first|exact Drawn0.refl _|apply Drawn0.step)⟩
    ·rw [if_neg c4] at H
     have Di:decide (gH<(l0.length:Int))=false:=decide_eq_false c4;clear c4;obtain rfl:=Option.some.inj H;go_wp2
     repeat(go_quiet (fail);try go_wp2)
     go_ret
     exact⟨by first|rfl|(simp;done)|(simp [*];done),by repeat(first|exact Drawn0.refl _|apply Drawn0.step)⟩
 ·rw [if_neg c3] at H
  have uM:((l0.length:Int)==(l1.length:Int))=false:=beq_eq_false_iff_ne.mpr c3;have ED:((l0.length:Int) !=(l1.length:Int))=true:=bne_iff_ne.mpr c3;have EE:(l0.length==l1.length)=false:=by first|simpa using c3|(simp at c3 ⊢;omega)
  obtain rfl:=Option.some.inj H;go_enter Try.func24,Try.ntmps24
  go_wp2
  repeat(go_quiet (fail);try go_wp2)
  go_ret
  exact⟨by first|rfl|(simp;done)|(simp [*];done),by repeat(first|exact Drawn0.refl _|apply Drawn0.step)⟩
end Go.Proofs.Ytapjfnfengefpaa.P
end

section
namespace Go.Proofs.Ytapjfnfengefpaa.M
open Go.RowKit Go.Proofs.YtapjfnfengefpaaW.PrintWords Go.Proofs.YtapjfnfengefpaaW.PrintLast Go.Proofs.YtapjfnfengefpaaW.PrintMore Go.Proofs.Ytapjfnfengefpaa.P Go.Proofs.Ytapjfnfengefpaa.H
set_option linter.unusedVariables false
set_option linter.unusedSimpArgs false
abbrev Sym:=S43
abbrev Prod:=S35
abbrev Tok:=S72
theorem rdOf_mid {α:Type}(d:α) (p:List α) (x:α) (a:List α) (n:Int) (h:n=p.length):rdOf d (p++x::a) n=x:=by
 subst h;simp [rdOf]
theorem getD_mid {α:Type}(d:α) (p:List α) (x:α) (a:List α) (n:Int) (h:n=p.length):(p++x::a).getD n.toNat d=x:=by
 subst h;simp
theorem set_mid {α:Type}(p:List α) (x v:α) (a:List α) (n:Int) (h:n=p.length):(p++x::a).set n.toNat v=p++v::a:=by
 subst h;simp
theorem wrap_next {α:Type}(p:List α) (v:α) (h:p.length≤1000000):wrap64 ((p.length:Int)+1)=((p++ [v]).length:Int):=by
 rw [wrap64_id (by omega) (by omega)];simp
def orL (a b:List Bool):List Bool:=List.zipWith (· || ·) a b
def moreL:List Bool→List Bool→Bool
 |x::a,y::b=>(y && !x)||moreL a b
 |_,_=>false
theorem orL_length {a b:List Bool}(h:a.length=b.length):(orL a b).length=a.length:=by simp [orL,h]
theorem join_l0_ev:∀(a b pre preb:List Bool) (g:Bool),a.length=b.length→pre.length=preb.length→pre.length+a.length≤1000000→Ev (fun k=>regletref13_join.l0 k (pre++a) (preb++b) g (pre.length:Int)) (g||moreL a b,pre++orL a b)
 | [],[],pre,preb,g,_,h2,_=>by
  refine Ev.step (fun k=>by rw [regletref13_join.l0]) (Ev.neg (by simp) (Ev.some (by simp [moreL,orL])))
 |x::a,y::b,pre,preb,g,h1,h2,h3=>by
  have h1':a.length=b.length:=by simpa using h1
  simp only [List.length_cons] at h3;have ih:=fun g v=>join_l0_ev a b (pre++ [v]) (preb++ [y]) g h1' (by simp [h2]) (by simp;omega)
  simp only [←wrap_next pre _ (show pre.length≤1000000 by omega),List.append_assoc,List.singleton_append] at ih;refine Ev.step (fun k=>by rw [regletref13_join.l0]) ?_
  refine Ev.pos (by simp;omega) ?_
  rw [rdOf_mid _ preb y b _ (by rw [h2]),rdOf_mid _ pre x a _ rfl];simp only [set_mid _ _ _ _ _ rfl]
  cases g
  ·refine Ev.neg (by simp) (Ev.pos (by omega) (Ev.pos (by simp;omega) ?_))
   cases y<;>cases x
   ·exact Ev.neg (by simp) (Ev.neg (by simp) (Ev.val (ih _ _) (by simp [moreL,orL])))
   ·exact Ev.neg (by simp) (Ev.pos rfl (Ev.val (ih _ _) (by simp [moreL,orL])))
   ·exact Ev.pos rfl (Ev.neg (by simp) (Ev.val (ih _ _) (by simp [moreL,orL])))
   ·exact Ev.pos rfl (Ev.pos rfl (Ev.val (ih _ _) (by simp [moreL,orL])))
  ·refine Ev.pos rfl (Ev.pos (by omega) ?_)
   cases x
   ·exact Ev.neg (by simp) (Ev.pos (by simp;omega) (Ev.val (ih _ _) (by simp [moreL,orL])))
   ·exact Ev.pos rfl (Ev.val (ih _ _) (by simp [moreL,orL]))
theorem join_ev (a b:List Bool) (h1:a.length=b.length) (h2:a.length≤1000000):Ev (fun k=>regletref13_join.f k a b) (moreL a b,orL a b):=by
 exact Ev.congr (fun k=>by rw [regletref13_join.f]) (by simpa using join_l0_ev a b [] [] false h1 rfl (by simpa using h2):Ev (fun k=>regletref13_join.l0 k a b false 0) _)
def idx:Nat→List Bool→List Int
 |_,[]=> []
 |n,x::a=>if x=true then(n:Int)::idx (n+1) a else idx (n+1) a
theorem idx_length:∀(n:Nat) (a:List Bool),(idx n a).length≤a.length
 |_,[]=>by simp [idx]
 |n,x::a=>by have:=idx_length (n+1) a;unfold idx;split<;>simp<;>omega
theorem list_l0_ev:∀(a pre:List Bool) (out:List Int),out.length≤pre.length→pre.length+a.length≤1000000→Ev (fun k=>regletref13_list.l0 k (pre++a) out (pre.length:Int)) (out++idx pre.length a)
 | [],pre,out,_,_=>by
  refine Ev.step (fun k=>by rw [regletref13_list.l0]) (Ev.neg (by simp) (Ev.some (by simp [idx])))
 |x::a,pre,out,h2,h3=>by
  simp only [List.length_cons] at h3;have ih:=fun out h=>list_l0_ev a (pre++ [x]) out h (by simp;omega)
  simp only [←wrap_next pre _ (show pre.length≤1000000 by omega),List.append_assoc,List.singleton_append] at ih;refine Ev.step (fun k=>by rw [regletref13_list.l0]) ?_
  refine Ev.pos (by simp;omega) (Ev.pos (by omega) ?_)
  rw [rdOf_mid _ pre x a _ rfl]
  cases x
  ·exact Ev.neg (by simp) (Ev.val (ih out (by simp;omega)) (by simp [idx]))
  ·exact Ev.pos rfl (Ev.pos (by omega) (Ev.val (ih _ (by simp;omega)) (by simp [idx])))
theorem list_ev (a:List Bool) (h2:a.length≤1000000):Ev (fun k=>regletref13_list.f k a) (idx 0 a):=by
 exact Ev.congr (fun k=>by rw [regletref13_list.f]) (by simpa using list_l0_ev a [] [] (by simp) (by simpa using h2):Ev (fun k=>regletref13_list.l0 k a [] 0) _)
def idxs (m:List (List Bool)):List (List Int):=m.map (idx 0)
theorem lists_l0_ev:∀(m pre:List (List Bool)) (out:List (List Int)),out.length=pre.length→pre.length+m.length≤1000000→(∀r∈m,r.length≤1000000)→Ev (fun k=>regletref13_lists.l0 k (pre++m) out (pre.length:Int)) (out++idxs m)
 | [],pre,out,_,_,_=>by
  refine Ev.step (fun k=>by rw [regletref13_lists.l0]) (Ev.neg (by simp) (Ev.some (by simp [idxs])))
 |r::m,pre,out,h2,h3,h4=>by
  simp only [List.length_cons] at h3;have ih:=lists_l0_ev m (pre++ [r]) (out++ [idx 0 r]) (by simp [h2]) (by simp;omega) (fun r hr=>h4 r (List.mem_cons_of_mem _ hr));simp only [←wrap_next pre _ (show pre.length≤1000000 by omega),List.append_assoc,List.singleton_append] at ih;refine Ev.step (fun k=>by rw [regletref13_lists.l0]) ?_
  refine Ev.pos (by simp;omega) (Ev.pos (by omega) ?_)
  refine Ev.bind (a:=idx 0 r) (Ev.congr (fun k=>congrArg (regletref13_list.f k) (getD_mid _ pre r m _ rfl)) (list_ev r (h4 r List.mem_cons_self))) (Ev.pos (by omega) ?_)
  exact Ev.val ih (by simp [idxs])
theorem lists_ev (m:List (List Bool)) (h2:m.length≤1000000) (h4:∀r∈m,r.length≤1000000):Ev (fun k=>regletref13_lists.f k m) (idxs m):=by
 exact Ev.congr (fun k=>by rw [regletref13_lists.f]) (by simpa using lists_l0_ev m [] [] rfl (by simpa using h2) h4:Ev (fun k=>regletref13_lists.l0 k m [] 0) _)
theorem sameInts_l0_ev:∀(a pre:List Int),pre.length+a.length≤1000000→Ev (fun k=>regletref13_SameInts.l0 k (pre++a) (pre++a) (pre.length:Int)) true
 | [],pre,_=>Ev.step (fun k=>by rw [regletref13_SameInts.l0]) (Ev.neg (by simp) (Ev.some rfl))
 |x::a,pre,h3=>by
  simp only [List.length_cons] at h3;have ih:=sameInts_l0_ev a (pre++ [x]) (by simp;omega);simp only [←wrap_next pre _ (show pre.length≤1000000 by omega),List.append_assoc,List.singleton_append] at ih;exact Ev.step (fun k=>by rw [regletref13_SameInts.l0]) (Ev.pos (by simp;omega) (Ev.pos (by omega) (Ev.pos (by simp;omega) (Ev.pos rfl ih))))
theorem sameInts_ev (a:List Int) (h:a.length≤1000000):Ev (fun k=>regletref13_SameInts.f k a a) true:=
 Ev.congr (fun k=>by rw [regletref13_SameInts.f,if_pos rfl]) (by simpa using sameInts_l0_ev a [] (by simpa using h):Ev (fun k=>regletref13_SameInts.l0 k a a 0) _)
def Sh (nn nt:Nat) (m:List (List Bool)):Prop:=m.length=nn∧∀r∈m,r.length=nt+1
theorem Sh.get {nn nt:Nat}{m:List (List Bool)}(h:Sh nn nt m) {i:Nat}(hi:i<nn):(m.getD i []).length=nt+1:=by
 have hi':i<m.length:=by rw [h.1];exact hi
 rw [List.getD_eq_getElem?_getD,List.getElem?_eq_getElem hi'];exact h.2 _ (List.getElem_mem hi')
theorem Sh.set {nn nt:Nat}{m:List (List Bool)}(h:Sh nn nt m) (i:Nat) {r:List Bool}(hr:r.length=nt+1):Sh nn nt (m.set i r):=
 ⟨by rw [List.length_set];exact h.1,fun r' hr'=>by
  rcases List.mem_or_eq_of_mem_set hr' with h1|rfl
  ·exact h.2 _ h1
  ·exact hr⟩
def bg (em:List Bool) (first:List (List Bool)):List Sym→List Bool→List Bool×Bool
 | [],out=>(out,true)
 |x::l,out=>if x.f0=true then(out.set x.f1.toNat true,false) else
  if em.getD x.f1.toNat false=true then bg em first l (orL out (first.getD x.f1.toNat [])) else(orL out (first.getD x.f1.toNat []),false)
theorem bg_length (em:List Bool) {first:List (List Bool)}{nn nt:Nat}(hs:Sh nn nt first):∀(l:List Sym) (out:List Bool),l.all (okSym nn nt)=true→out.length=nt+1→(bg em first l out).1.length=nt+1
 | [],out,_,h=>h
 |x::l,out,hl,h=>by
  simp only [List.all_cons,Bool.and_eq_true] at hl
  unfold bg
  split
  ·simpa using h
  ·rename_i hx
   have hn:x.f1.toNat<nn:=by
    have:=hl.1;simp only [okSym,hx,if_neg,Bool.and_eq_true,decide_eq_true_eq] at this;simp at this
    omega
   have ho:(orL out (first.getD x.f1.toNat [])).length=nt+1:=by rw [orL_length (by rw [h,hs.get hn]),h]
   split
   ·exact bg_length em hs l _ hl.2 ho
   ·exact ho
theorem okSym_tok {nn nt:Nat}{x:Sym}(h:okSym nn nt x=true) (hx:x.f0=true):0≤x.f1∧x.f1<(nt:Int):=by
 simp only [okSym,hx,if_pos,Bool.and_eq_true,decide_eq_true_eq] at h;exact h
theorem okSym_rule {nn nt:Nat}{x:Sym}(h:okSym nn nt x=true) (hx:x.f0=false):0≤x.f1∧x.f1<(nn:Int):=by
 simp [okSym,hx] at h;exact h
def none0 (nt:Nat):List Bool:=List.replicate (nt+1) false
theorem refBegins_l0_ev {nn nt:Nat}{em:List Bool}{first:List (List Bool)}(hs:Sh nn nt first) (he:em.length=nn) (hnt:nt≤1000):∀(l pre:List Sym) (out:List Bool),l.all (okSym nn nt)=true→out.length=nt+1→pre.length+l.length≤1000000→Ev (fun k=>regletref13_begins.l0 k (pre++l) first em out (pre.length:Int)) (bg em first l out)
 | [],pre,out,_,_,_=>Ev.step (fun k=>by rw [regletref13_begins.l0]) (Ev.neg (by simp) (Ev.some (by simp [bg])))
 |x::l,pre,out,hl,ho,h3=>by
  simp only [List.all_cons,Bool.and_eq_true] at hl;simp only [List.length_cons] at h3;have ih:=fun out ho=>refBegins_l0_ev hs he hnt l (pre++ [x]) out hl.2 ho (by simp;omega)
  simp only [←wrap_next pre _ (show pre.length≤1000000 by omega),List.append_assoc,List.singleton_append] at ih;have e:rd_T43 (pre++x::l) (pre.length:Int)=x:=getD_mid _ pre x l _ rfl;refine Ev.step (fun k=>by rw [regletref13_begins.l0]) ?_
  rw [e];refine Ev.pos (by simp;omega) (Ev.pos (by omega) ?_)
  cases hx:x.f0 with
  |true=>
   have hb:=okSym_tok hl.1 hx;exact Ev.pos rfl (Ev.pos hb.1 (Ev.pos (by omega) (Ev.some (by simp [bg,hx]))))
  |false=>
   have hb:=okSym_rule hl.1 hx;have hr:=hs.get (i:=x.f1.toNat) (by omega);have hs1:=hs.1;refine Ev.neg (by simp) (Ev.pos hb.1 (Ev.pos (by omega) (Ev.bind (join_ev out (first.getD x.f1.toNat []) (by rw [ho,hr]) (by omega)) (Ev.pos (by omega) ?_))))
   have e2:rdOf false em x.f1=em.getD x.f1.toNat false:=rfl;rw [e2]
   cases hem:em.getD x.f1.toNat false with
   |true=>exact Ev.pos rfl (Ev.val (ih _ (by rw [orL_length (by rw [ho,hr]),ho])) (by rw [bg,hx,if_neg (by simp),hem,if_pos rfl]))
   |false=>exact Ev.neg (by simp) (Ev.some (by rw [bg,hx,if_neg (by simp),hem,if_neg (by simp)]))
theorem refBegins_ev {nn:Nat}(l0:List ByteArray) (l1:List Tok) (a2 a3:Int) (l4:List Prod) {em:List Bool}{first:List (List Bool)}(hs:Sh nn l1.length first) (he:em.length=nn) (hnt:l1.length≤1000) (l:List Sym) (hl:l.all (okSym nn l1.length)=true) (h3:l.length≤1000000):Ev (fun k=>regletref13_begins.f k l0 l1 a2 a3 l4 l first em) (bg em first l (none0 l1.length)):=by
 have h:=refBegins_l0_ev hs he hnt l [] (List.replicate (l1.length+1) false) hl (by simp) (by simpa using h3);have e:wrap64 ((l1.length:Int)+1)=((l1.length+1:Nat):Int):=by rw [wrap64_id (by omega) (by omega)];simp
 refine Ev.congr (fun k=>by rw [regletref13_begins.f,e,if_pos (by omega),if_pos (by omega),Int.toNat_natCast]) (by simpa [none0] using h)
def gIn {σ:Type}(stp:σ→Prod→Bool×σ):List Prod→Bool→σ→Bool×σ
 | [],ag,st=>(ag,st)
 |p::ps,ag,st=>gIn stp ps ((stp st p).1||ag) (stp st p).2
def gOut {σ:Type}(stp:σ→Prod→Bool×σ) (ps:List Prod):Nat→σ→σ
 |0,st=>(gIn stp ps false st).2
 |n+1,st=>if(gIn stp ps false st).1=true then gOut stp ps n (gIn stp ps false st).2 else(gIn stp ps false st).2
def Good {σ:Type}(I:σ→Prop) (μ:σ→Nat) (stp:σ→Prod→Bool×σ) (ps:List Prod):Prop:=
 ∀st p,I st→p∈ps→I (stp st p).2∧μ (stp st p).2≤μ st∧((stp st p).1=true→μ (stp st p).2<μ st)
theorem gIn_good {σ:Type}{I:σ→Prop}{μ:σ→Nat}{stp:σ→Prod→Bool×σ}:∀{ps:List Prod},Good I μ stp ps→∀(ag:Bool) (st:σ),I st→I (gIn stp ps ag st).2∧μ (gIn stp ps ag st).2≤μ st∧((gIn stp ps ag st).1=true→ag=true∨μ (gIn stp ps ag st).2<μ st)
 | [],_,ag,st,h=>⟨h,Nat.le_refl _,fun h=> .inl h⟩
 |p::ps,hg,ag,st,h=>by
  obtain⟨h1,h2,h3⟩:=hg st p h List.mem_cons_self;obtain⟨h4,h5,h6⟩:=gIn_good (fun st p hI hp=>hg st p hI (List.mem_cons_of_mem _ hp)) ((stp st p).1||ag) _ h1;refine⟨h4,Nat.le_trans h5 h2,fun h=>?_⟩
  rcases h6 h with h7|h7
  ·rcases(Bool.or_eq_true _ _).mp h7 with h8|h8
   ·exact .inr (Nat.lt_of_le_of_lt h5 (h3 h8))
   ·exact .inl h8
  ·exact .inr (Nat.lt_of_lt_of_le h7 h2)
theorem gOut_I {σ:Type}{I:σ→Prop}{μ:σ→Nat}{stp:σ→Prod→Bool×σ}{ps:List Prod}(hg:Good I μ stp ps):∀(n:Nat) (st:σ),I st→I (gOut stp ps n st)
 |0,st,h=>(gIn_good hg false st h).1
 |n+1,st,h=>by
  unfold gOut
  split
  ·exact gOut_I hg n _ (gIn_good hg false st h).1
  ·exact(gIn_good hg false st h).1
def cf:List Bool→Nat
 | []=>0
 |x::a=>(if x=true then 0 else 1)+cf a
theorem cf_orL:∀(a b:List Bool),a.length=b.length→cf (orL a b)≤cf a∧(moreL a b=true→cf (orL a b)<cf a)
 | [],[],_=>by simp [orL,cf,moreL]
 |x::a,y::b,h=>by
  obtain⟨h1,h2⟩:=cf_orL a b (by simpa using h);have e:orL (x::a) (y::b)=(x||y)::orL a b:=rfl;rw [e]
  cases x<;>cases y<;>simp [cf,moreL]<;>first|exact⟨h1,h2⟩|(refine⟨by omega,fun h=>?_⟩;have:=h2 h;omega)|omega
theorem cf_set:∀(a:List Bool) (i:Nat),i<a.length→a.getD i false=false→cf (a.set i true)<cf a
 |x::a,0,_,h=>by
  have:x=false:=by simpa using h
  subst this;simp [cf]
 |x::a,i+1,hi,h=>by
  have:=cf_set a i (by simpa using hi) (by simpa using h);simp only [List.set_cons_succ,cf];omega
def cfs:List (List Bool)→Nat
 | []=>0
 |r::m=>cf r+cfs m
theorem cfs_set:∀(m:List (List Bool)) (i:Nat) (r:List Bool),i<m.length→cf r≤cf (m.getD i [])→cfs (m.set i r)≤cfs m∧(cf r<cf (m.getD i [])→cfs (m.set i r)<cfs m)
 |x::m,0,r,_,h=>by
  simp only [List.getD_cons_zero,List.set_cons_zero,cfs] at h ⊢;omega
 |x::m,i+1,r,hi,h=>by
  have:=cfs_set m i r (by simpa using hi) (by simpa using h);simp only [List.getD_cons_succ,List.set_cons_succ,cfs] at h ⊢;omega
def Small (ps:List Prod):Prop:=ps.length≤1000000∧∀p∈ps,p.f1.length≤1000000
theorem refRight_l1_ev (l0:List ByteArray) (l1:List Tok) (a2 a3:Int) (l4:List Prod) (x3 left:Int) (r:Bool):∀(l pre:List Sym),pre.length+l.length≤1000000→(l.all (okSym l0.length l1.length)=true→Ev (fun k=>regletref13_Right.l0 k (wrap64 (x3+1)) l0 l1 a2 a3 l4) r)→(l.all (okSym l0.length l1.length)=false→r=false)→Ev (fun k=>regletref13_Right.l1 k x3 (pre.length:Int) l0 l1 a2 a3 l4 left (pre++l)) r
 | [],pre,_,h1,_=>Ev.step (fun k=>by rw [regletref13_Right.l1]) (Ev.neg (by simp) (h1 rfl))
 |x::l,pre,h3,h1,h2=>by
  simp only [List.length_cons] at h3;have ih:=refRight_l1_ev l0 l1 a2 a3 l4 x3 left r l (pre++ [x]) (by simp;omega);simp only [←wrap_next pre _ (show pre.length≤1000000 by omega),List.append_assoc,List.singleton_append] at ih;have e:rd_T43 (pre++x::l) (pre.length:Int)=x:=getD_mid _ pre x l _ rfl;refine Ev.step (fun k=>by rw [regletref13_Right.l1]) ?_
  rw [e];refine Ev.pos (by simp;omega) (Ev.pos (by omega) ?_)
  cases hx:x.f0 with
  |true=>
   refine Ev.pos rfl ?_
   by_cases h0:x.f1<0
   ·exact Ev.pos h0 (Ev.some (h2 (by simp [okSym,hx];omega)).symm)
   ·refine Ev.neg h0 ?_
    by_cases h5:x.f1≥(l1.length:Int)
    ·exact Ev.pos h5 (Ev.some (h2 (by simp [okSym,hx];omega)).symm)
    ·refine Ev.neg h5 (ih (fun h=>h1 ?_) (fun h=>h2 ?_))
     ·simp [okSym,hx, -List.all_eq_true];exact⟨by omega,h⟩
     ·rw [List.all_cons,h,Bool.and_false]
  |false=>
   refine Ev.neg (by simp) ?_
   by_cases h0:x.f1<0
   ·exact Ev.pos h0 (Ev.some (h2 (by simp [okSym,hx];omega)).symm)
   ·refine Ev.neg h0 ?_
    by_cases h5:x.f1≥(l0.length:Int)
    ·exact Ev.pos h5 (Ev.some (h2 (by simp [okSym,hx];omega)).symm)
    ·refine Ev.neg h5 (ih (fun h=>h1 ?_) (fun h=>h2 ?_))
     ·simp [okSym,hx, -List.all_eq_true];exact⟨by omega,h⟩
     ·rw [List.all_cons,h,Bool.and_false]
theorem refRight_l0_ev (l0:List ByteArray) (l1:List Tok) (a2 a3:Int):∀(qs pre:List Prod),pre.length+qs.length≤1000000→(∀p∈qs,p.f1.length≤1000000)→Ev (fun k=>regletref13_Right.l0 k (pre.length:Int) l0 l1 a2 a3 (pre++qs)) (qs.all (okProd l0.length l1.length))
 | [],pre,_,_=>Ev.step (fun k=>by rw [regletref13_Right.l0]) (Ev.neg (by simp) (Ev.some (by simp)))
 |p::qs,pre,h3,h4=>by
  simp only [List.length_cons] at h3;have ih:=refRight_l0_ev l0 l1 a2 a3 qs (pre++ [p]) (by simp;omega) (fun p hp=>h4 p (List.mem_cons_of_mem _ hp));simp only [←wrap_next pre _ (show pre.length≤1000000 by omega),List.append_assoc,List.singleton_append] at ih;have e:rd_T35 (pre++p::qs) (pre.length:Int)=p:=getD_mid _ pre p qs _ rfl;refine Ev.step (fun k=>by rw [regletref13_Right.l0]) ?_
  rw [e];refine Ev.pos (by simp;omega) (Ev.pos (by omega) ?_)
  by_cases h0:p.f0<0
  ·refine Ev.pos h0 (Ev.step (fun k=>by rw [regletref13_Right.j1]) (Ev.pos rfl (Ev.some ?_)))
   simp [okProd];omega
  ·refine Ev.neg h0 (Ev.step (fun k=>by rw [regletref13_Right.j1]) ?_)
   by_cases h5:p.f0≥(l0.length:Int)
   ·refine Ev.pos (decide_eq_true h5) (Ev.some ?_)
    simp [okProd];omega
   ·refine Ev.neg (by simpa using h5) ?_
    have h:=refRight_l1_ev l0 l1 a2 a3 (pre++p::qs) (pre.length:Int) p.f0 ((p::qs).all (okProd l0.length l1.length)) p.f1 [] (by have:=h4 p List.mem_cons_self;simpa using this) (fun h=>Ev.val ih (by
     have:okProd l0.length l1.length p=true:=by simp only [okProd,h,Bool.and_true,Bool.and_eq_true,decide_eq_true_eq];omega
     rw [List.all_cons,this,Bool.true_and])) (fun h=>by
     have:okProd l0.length l1.length p=false:=by simp only [okProd,h,Bool.and_false]
     rw [List.all_cons,this,Bool.false_and])
    simpa only [List.nil_append,List.length_nil,Int.natCast_zero] using h
theorem refRight_ev (l0:List ByteArray) (l1:List Tok) (a2 a3:Int) (l4:List Prod) (h:Small l4):Ev (fun k=>regletref13_Right.f k l0 l1 a2 a3 l4) (l4.all (okProd l0.length l1.length)):=
 Ev.congr (fun k=>by rw [regletref13_Right.f]) (by simpa only [List.nil_append,List.length_nil,Int.natCast_zero] using refRight_l0_ev l0 l1 a2 a3 l4 [] (by have:=h.1;simpa using this) h.2)
def cNew (token:Bool) (out:List Bool) (p:Prod):Bool:=!(p.f1.any (oddP token out)) && !(out.getD p.f0.toNat false)
def cStep (token:Bool) (out:List Bool) (p:Prod):Bool×List Bool:=(cNew token out p,if cNew token out p=true then out.set p.f0.toNat true else out)
theorem okProd_left {nn nt:Nat}{p:Prod}(h:okProd nn nt p=true):0≤p.f0∧p.f0<(nn:Int):=by
 simp only [okProd,Bool.and_eq_true,decide_eq_true_eq] at h;exact h.1
theorem okProd_right {nn nt:Nat}{p:Prod}(h:okProd nn nt p=true):p.f1.all (okSym nn nt)=true:=by
 simp only [okProd,Bool.and_eq_true,decide_eq_true_eq] at h;exact h.2
theorem cStep_good (nn nt:Nat) (token:Bool) {ps:List Prod}(hps:ps.all (okProd nn nt)=true):Good (fun out:List Bool=>out.length=nn) cf (cStep token) ps:=by
 intro st p hI hp;have hl:=okProd_left (List.all_eq_true.1 hps p hp)
 unfold cStep
 simp only
 cases hc:cNew token st p with
 |false=>simp [hI]
 |true=>
  have h0:st.getD p.f0.toNat false=false:=by
   simp only [cNew,Bool.and_eq_true,Bool.not_eq_true'] at hc;exact hc.2
  have h:=cf_set st p.f0.toNat (by omega) h0;simp only [if_true];exact⟨by simpa using hI,Nat.le_of_lt h,fun _=>h⟩
def clo (token:Bool) (nn:Nat) (ps:List Prod):List Bool:=gOut (cStep token) ps (cf (List.replicate nn false)) (List.replicate nn false)
theorem clo_length (nn nt:Nat) (token:Bool) {ps:List Prod}(hps:ps.all (okProd nn nt)=true):(clo token nn ps).length=nn:=
 gOut_I (cStep_good nn nt token hps) _ _ (by simp)
theorem any_step (token:Bool) (out:List Bool) (x:Sym) (l:List Sym) (is:Bool):(is && !((x::l).any (oddP token out)))=((is && !(oddP token out x)) && !(l.any (oddP token out))):=by
 cases is<;>simp
theorem refEmpty_l2_ev (l0:List ByteArray) (l1:List Tok) (a2 a3:Int) (l4:List Prod) (out:List Bool) (more:Bool) (x5 left:Int) (hl0:0≤left) (hl1:left<(out.length:Int)) (h50:0≤x5) (h51:x5<(l4.length:Int)) (r:List Bool):∀(l pre:List Sym) (is:Bool),rd_T35 l4 x5=⟨left,pre++l⟩→l.all (okSym out.length l1.length)=true→pre.length+l.length≤1000000→
 Ev (fun k=>regletref13_Empty.l1 k (if((is && !(l.any (oddP false out))) && !(out.getD left.toNat false))=true then out.set left.toNat true else out) (((is && !(l.any (oddP false out))) && !(out.getD left.toNat false))||more) (wrap64 (x5+1)) l0 l1 a2 a3 l4) r→Ev (fun k=>regletref13_Empty.l2 k out more x5 is (pre.length:Int) l0 l1 a2 a3 l4) r
 | [],pre,is,e,_,_,hk=>by
  refine Ev.step (fun k=>by rw [regletref13_Empty.l2]) ?_
  rw [e];have e2:rdOf false out left=out.getD left.toNat false:=rfl;refine Ev.pos h50 (Ev.pos h51 (Ev.neg (by simp) ?_))
  rw [e2]
  cases is with
  |false=>exact Ev.neg (by simp) (by simpa using hk)
  |true=>
   refine Ev.pos rfl (Ev.pos hl0 (Ev.pos hl1 ?_))
   cases ho:out.getD left.toNat false with
   |true=>exact Ev.pos rfl (by rw [ho] at hk;simpa using hk)
   |false=>exact Ev.neg (by simp) (by rw [ho] at hk;simpa using hk)
 |x::l,pre,is,e,hok,h3,hk=>by
  simp only [List.length_cons] at h3;simp only [List.all_cons,Bool.and_eq_true] at hok;have ih:=fun is=>refEmpty_l2_ev l0 l1 a2 a3 l4 out more x5 left hl0 hl1 h50 h51 r l (pre++ [x]) is (by rw [List.append_assoc];exact e) hok.2 (by simp;omega)
  simp only [←wrap_next pre _ (show pre.length≤1000000 by omega)] at ih;rw [any_step] at hk;have e1:rd_T43 (pre++x::l) (pre.length:Int)=x:=getD_mid _ pre x l _ rfl;refine Ev.step (fun k=>by rw [regletref13_Empty.l2]) ?_
  rw [e];simp only [e1];refine Ev.pos h50 (Ev.pos h51 (Ev.pos (by simp;omega) (Ev.pos (by omega) ?_)))
  cases is with
  |false=>exact Ev.neg (by simp) (ih false (by rw [Bool.false_and] at hk;exact hk))
  |true=>
   refine Ev.pos rfl ?_
   have hb:=hok.1
   cases hx:x.f0 with
   |true=>
    have ho:oddP false out x=true:=by simp [oddP,hx]
    rw [ho] at hk;exact Ev.pos rfl (ih false hk)
   |false=>
    have hb:=okSym_rule hok.1 hx;have ho:(true && !oddP false out x)=rdOf false out x.f1:=by simp [oddP,hx]
    rw [ho] at hk;exact Ev.neg (by simp) (Ev.pos hb.1 (Ev.pos hb.2 (ih _ hk)))
theorem refEmpty_l1_ev (l0:List ByteArray) (l1:List Tok) (a2 a3:Int) (r:List Bool):∀(qs pre:List Prod) (out:List Bool) (more:Bool),out.length=l0.length→qs.all (okProd l0.length l1.length)=true→pre.length+qs.length≤1000000→(∀p∈qs,p.f1.length≤1000000)→Ev (fun k=>regletref13_Empty.l0 k (gIn (cStep false) qs more out).2 (gIn (cStep false) qs more out).1 l0 l1 a2 a3 (pre++qs)) r→Ev (fun k=>regletref13_Empty.l1 k out more (pre.length:Int) l0 l1 a2 a3 (pre++qs)) r
 | [],pre,out,more,_,_,_,_,hk=>Ev.step (fun k=>by rw [regletref13_Empty.l1]) (Ev.neg (by simp) (by simpa [gIn] using hk))
 |p::qs,pre,out,more,ho,hok,h3,h4,hk=>by
  simp only [List.length_cons] at h3;simp only [List.all_cons,Bool.and_eq_true] at hok;have ih:=fun out more ho=>refEmpty_l1_ev l0 l1 a2 a3 r qs (pre++ [p]) out more ho hok.2 (by simp;omega) (fun p hp=>h4 p (List.mem_cons_of_mem _ hp))
  simp only [←wrap_next pre _ (show pre.length≤1000000 by omega),List.append_assoc,List.singleton_append] at ih;refine Ev.step (fun k=>by rw [regletref13_Empty.l1]) (Ev.pos (by simp;omega) ?_)
  have hl:=okProd_left hok.1;have e:rd_T35 (pre++p::qs) (pre.length:Int)=⟨p.f0,[]++p.f1⟩:=getD_mid _ pre p qs _ rfl;have h:=refEmpty_l2_ev l0 l1 a2 a3 (pre++p::qs) out more (pre.length:Int) p.f0 hl.1 (by omega) (by omega) (by simp;omega) r p.f1 [] true e (by rw [ho];exact okProd_right hok.1) (by have:=h4 p List.mem_cons_self;simpa using this);refine h ?_
  rw [gIn] at hk;have hlen:(cStep false out p).2.length=l0.length:=by unfold cStep;simp only;split<;>simp [ho]
  have h2:=ih _ _ hlen hk;have e2:((true && !(p.f1.any (oddP false out))) && !(out.getD p.f0.toNat false))=cNew false out p:=by simp [cNew]
  rw [e2];exact h2
theorem refEmpty_l0_ev (l0:List ByteArray) (l1:List Tok) (a2 a3:Int) (l4:List Prod) (hs:Small l4) (hok:l4.all (okProd l0.length l1.length)=true):∀(n:Nat) (out:List Bool),out.length=l0.length→cf out≤n→Ev (fun k=>regletref13_Empty.l0 k out true l0 l1 a2 a3 l4) (gOut (cStep false) l4 n out)
 |n,out,ho,hn=>by
  obtain⟨h1,h2,h3⟩:=gIn_good (cStep_good l0.length l1.length false hok) false out ho;refine Ev.step (fun k=>by rw [regletref13_Empty.l0]) (Ev.pos rfl ?_)
  have h:=refEmpty_l1_ev l0 l1 a2 a3 (gOut (cStep false) l4 n out) l4 [] out false ho hok (by have:=hs.1;simpa using this) hs.2;simp only [List.nil_append,List.length_nil,Int.natCast_zero] at h;refine h ?_
  cases hr:(gIn (cStep false) l4 false out).1 with
  |false=>
   refine Ev.step (fun k=>by rw [regletref13_Empty.l0]) (Ev.neg (by simp) (Ev.some ?_))
   cases n<;>simp [gOut,hr]
  |true=>
   have hlt:=(h3 hr).resolve_left (by simp)
   cases n with
   |zero=>omega
   |succ n=>
    refine Ev.val (refEmpty_l0_ev l0 l1 a2 a3 l4 hs hok n _ h1 (by omega)) ?_
    rw [gOut,if_pos hr]
theorem refEmpty_ev (l0:List ByteArray) (l1:List Tok) (a2 a3:Int) (l4:List Prod) (h:Small l4) (hn:l0.length≤1000000):Ev (fun k=>regletref13_Empty.f k l0 l1 a2 a3 l4) (if l4.all (okProd l0.length l1.length)=true then clo false l0.length l4 else []):=by
 refine Ev.congr (fun k=>by rw [regletref13_Empty.f]) (Ev.bind (refRight_ev l0 l1 a2 a3 l4 h) ?_)
 cases hr:l4.all (okProd l0.length l1.length) with
 |false=>exact Ev.neg (by simp) (Ev.some (by simp))
 |true=>
  rw [if_pos rfl];refine Ev.pos rfl (Ev.pos (by omega) (Ev.pos (by omega) ?_))
  rw [Int.toNat_natCast];exact refEmpty_l0_ev l0 l1 a2 a3 l4 h hr _ _ (by simp) (Nat.le_refl _)
end Go.Proofs.Ytapjfnfengefpaa.M
end
