/- Packed texts of this claim: the walks of the functions, and their plain laws; see the claim's last text. -/
import Derived.Deep.RegionHeld3
import Derived.WalkSpells
import Derived.Outline
import Derived.BigQuiet
import Derived.Deep.Cut
import Derived.Test.YtapjfnfengefpaaKMachineDerives2
section
namespace Go.Proofs.Ytapjfnfengefpaa.P
open Go.RowKit Go.Proofs.YtapjfnfengefpaaW.PrintWords Go.Proofs.YtapjfnfengefpaaW.PrintLast Go.Proofs.YtapjfnfengefpaaW.PrintMore
attribute [local go_sem] max2_int min2_int max_two min_two max_three min_three max_four min_four   -- for this text's walks alone
set_option linter.unusedVariables false
set_option linter.unusedSimpArgs false
mutual
def regletref13_Right.l0:Nat→Int→List ByteArray→List (S72)→Int→Int→List (S35)→Option (Bool)
 |0,_,_,_,_,_,_=>none
 |k+1,x3,x209000,x209001,x209002,x209003,x209004=>if x3<(x209004.length:Int) then(if 0≤x3 then(if((rd_T35 x209004 x3).f0)<0 then(regletref13_Right.j1 k x3 true x209000 x209001 x209002 x209003 x209004 ((rd_T35 x209004 x3).f0) ((rd_T35 x209004 x3).f1)) else(regletref13_Right.j1 k x3 (decide (((rd_T35 x209004 x3).f0)≥(x209000.length:Int))) x209000 x209001 x209002 x209003 x209004 ((rd_T35 x209004 x3).f0) ((rd_T35 x209004 x3).f1))) else(none)) else(some true)
def regletref13_Right.j1:Nat→Int→Bool→List ByteArray→List (S72)→Int→Int→List (S35)→Int→List (S43)→Option (Bool)
 |0,_,_,_,_,_,_,_,_,_=>none
 |k+1,x3,x29,x209000,x209001,x209002,x209003,x209004,x211000,x211001=>if x29=true then(some false) else(regletref13_Right.l1 k x3 0 x209000 x209001 x209002 x209003 x209004 x211000 x211001)
def regletref13_Right.l1:Nat→Int→Int→List ByteArray→List (S72)→Int→Int→List (S35)→Int→List (S43)→Option (Bool)
 |0,_,_,_,_,_,_,_,_,_=>none
 |k+1,x3,x5,x209000,x209001,x209002,x209003,x209004,x211000,x211001=>if x5<(x211001.length:Int) then(if 0≤x5 then(if(rd_T43 x211001 x5).f0=true then(if((rd_T43 x211001 x5).f1)<0 then(some false) else(if((rd_T43 x211001 x5).f1)≥(x209001.length:Int) then(some false) else(regletref13_Right.l1 k x3 (wrap64 (x5+1)) x209000 x209001 x209002 x209003 x209004 x211000 x211001))) else(if((rd_T43 x211001 x5).f1)<0 then(some false) else(if((rd_T43 x211001 x5).f1)≥(x209000.length:Int) then(some false) else(regletref13_Right.l1 k x3 (wrap64 (x5+1)) x209000 x209001 x209002 x209003 x209004 x211000 x211001)))) else(none)) else(regletref13_Right.l0 k (wrap64 (x3+1)) x209000 x209001 x209002 x209003 x209004)
end
def regletref13_Right.f (k:Nat) (aU:List ByteArray) (aX:List (S72)) (bB:Int) (bK:Int) (aQ:List (S35)):Option (Bool):=regletref13_Right.l0 k 0 aU aX bB bK aQ
set_option maxHeartbeats 8000000 in
set_option maxRecDepth 100000 in
theorem regletref13_Right.calls (k:Nat) (bR:Option Addr) (bS:Nat) (aU:List ByteArray) (bU:Option Addr) (bV:Nat) (aX:List (S72)) (bB:Int) (bK:Int) (cC:Option Addr) (bX:Nat) (aQ:List (S35)) (r:Bool) (w:World) (dX:Kd.C Kd.string w bR aU.length aU) (dZ:aU.length≤bS) (eB:Kd.C k72 w bU aX.length aX) (eH:aX.length≤bV) (dY:Kd.C k35 w cC aQ.length aQ) (eJ:aQ.length≤bX) (h:regletref13_Right.f k aU aX bB bK aQ=some r):
 Calls Try.prog 30 #[.agg #[.slice bR aU.length bS,.slice bU aX.length bV,.int .i64 bB,.int .i64 bK,.slice cC aQ.length bX]] w fun e w'=>e= .returned (.bool r)∧Below w.heap.size w w':=by
 have hu26:=Try.underlying26;have hu35:=Try.underlying35;have jA:=aM dX;have jV:=aM dZ;clear dX dZ;have kL:=aM eB;have kM:=aM eH;clear eB eH;have fP:=aM dY;have kN:=aM eJ;clear dY eJ;have HB:=aM (Below.refl w.heap.size w);have H:(regletref13_Right.l0 k 0 aU aX bB bK aQ)=some r:=h;clear h;have H':=aM H;clear H;go_enter Try.func30,Try.ntmps30
 go_wp2_with (first|((with_reducible refine bJ (N:=1) rfl ?_);(try(refine gate_guard (by rfl) ?_;dsimp only));refine box_event ?hg (N:=1) ?hd (cs:=#[.slice bR aU.length bS,.slice bU aX.length bV,.int .i64 bB,.int .i64 bK,.slice cC aQ.length bX]) (t:=26) ?hr ?_;(case hd=>rfl);(case hg=>rfl);(case hr=>first|(go_simp;done)|(go_simp;rfl));intro eF hg w2 hbox hb;have cH:=aM (bG (gW HB.out) hb);have cI:=aM (hbox);have cK:=aM ((by rw [hg];exact(bH (gW HB.out)):w.heap.size≤eF));have cQ:=aM ((by rw [hg];exact(bH (gW HB.out)):w.heap.size≤eF));clear HB;have HB:=cH;have cT:=cI;have GW208:=cK;have Pr:=cQ;clear cH cI cK cQ;clear hb hbox hg))
 go_loopg [3] k (fun kq v3 w'=>∃(dD:Int),v3= .int .i64 dD∧Aside0 (regletref13_Right.l0 kq dD aU aX bB bK aQ=some r)∧Aside0 (kq≤k)∧Aside0 (w'.heap[eF]?=some (.cells #[(.slice bR aU.length bS),(.slice bU aX.length bV),.int .i64 bB,.int .i64 bK,(.slice cC aQ.length bX)] 26 (0,0)))∧Aside0 (Below w.heap.size w w'))
 case atStart=>exact⟨(0),(by first|rfl|(simp;done)|(simp [*];done)),H',⟨Nat.le_refl _⟩,⟨gB cT.out⟩,⟨gW HB.out⟩⟩
 case round=>
  clear H'
  (try clear p2)
  obtain⟨dD,rfl,HA,HK1,cT,HB⟩:=hrel
  cases gk with
  |zero=>exact absurd HA.out (by simp [regletref13_Right.l0])
  |succ k1=>
   have H:=HA.out;clear HA;simp only [regletref13_Right.l0] at H
   by_cases c3:dD<(aQ.length:Int)
   ·rw [if_pos c3] at H
    have pM:decide (dD<(aQ.length:Int))=true:=decide_eq_true c3;clear c3
    by_cases c4:0≤dD
    rotate_left
    ·rw [if_neg c4] at H
     exact absurd H (by simp)
    rw [if_pos c4] at H;have vC:decide (0≤dD)=true:=decide_eq_true c4;clear c4;have HC5:=aM H;clear H;have oN:wr.cell? ⟨eF,0,none⟩=some (.slice bR aU.length bS):=(aG cT.out 0).trans rfl;have oO:wr.cell? ⟨eF,1,none⟩=some (.slice bU aX.length bV):=(aG cT.out 1).trans rfl;have oP:wr.cell? ⟨eF,2,none⟩=some (.int .i64 bB):=(aG cT.out 2).trans rfl;have oQ:wr.cell? ⟨eF,3,none⟩=some (.int .i64 bK):=(aG cT.out 3).trans rfl;have oR:wr.cell? ⟨eF,4,none⟩=some (.slice cC aQ.length bX):=(aG cT.out 4).trans rfl;have oS:=aH cT.out 0;have oT:=aH cT.out 1;have oU:=aH cT.out 2;have oV:=aH cT.out 3;have oW:=aH cT.out 4;have p209:0≤(dD:Int):=of_decide_eq_true (by first|(with_reducible assumption)|assumption);have q209:dD<(aQ.length:Int):=of_decide_eq_true (by first|(with_reducible assumption)|assumption);obtain⟨oX,nM,nN,e209,qQ,qR,Ey,Ez⟩:=at_T35 fP.out dD p209 q209
    cases e209;replace qQ:=(HB.out.cell (World.block_lt_of_cell? w _ qQ)).trans qQ;replace qR:=(HB.out.cell (World.block_lt_of_cell? w _ qR)).trans qR;have gX:=aM Ez;have AA:=aM Ey;clear Ez Ey;replace p209:=eq_true p209;replace q209:=eq_true q209
    go_upto_region 5 with(first|((with_reducible refine bJ (N:=4) rfl ?_);(try(refine gate_guard (by rfl) ?_;dsimp only));refine box_event ?hg (N:=4) ?hd (cs:=#[.int .i64 0,.slice none 0 0]) (t:=35) ?hr ?_;(case hd=>rfl);(case hg=>rfl);(case hr=>first|(go_simp;done)|(go_simp;rfl));intro hZ hg w7 hbox hb;have cH:=aM (bF (gB cT.out) hb);have cI:=aM (bG (gW HB.out) hb);have cK:=aM (hbox);have cQ:=aM ((by rw [hg];exact(bH (gW HB.out)):w.heap.size≤hZ));have dI:=aM ((by rw [hg];exact(bH (gW HB.out)):w.heap.size≤hZ));have dR:=aM ((by rw [hg];exact Nat.ne_of_lt (bN (g:=eF) (o:= .cells #[.slice bR aU.length bS,.slice bU aX.length bV,.int .i64 bB,.int .i64 bK,.slice (some oX) aQ.length bX] 26 (0,0)) (gB cT.out)):eF≠hZ));have dV:=aM ((by rw [hg];exact Nat.ne_of_gt (bN (g:=eF) (o:= .cells #[.slice bR aU.length bS,.slice bU aX.length bV,.int .i64 bB,.int .i64 bK,.slice (some oX) aQ.length bX] 26 (0,0)) (gB cT.out)):hZ≠eF));clear cT;clear HB;have cT:=cH;have HB:=cI;have eT:=cK;have GW210:=cQ;have Ps:=dI;have fT:=dR;have iD:=dV;clear cH cI cK cQ dI dR dV;clear hb hbox hg;have hnb8:=iD.out;have hnc8:=fT.out;have lX:w7.cell? ⟨hZ,0,none⟩=some (.int .i64 0):=(aG eT.out 0).trans rfl;have lY:w7.cell? ⟨hZ,1,none⟩=some (.slice none 0 0):=(aG eT.out 1).trans rfl;have lZ:=aH eT.out 0;have mA:=aH eT.out 1))
    (try simp only [Act.put,List.setIfInBounds_toArray,List.set_cons_zero,List.set_cons_succ])
    go_cut [29] (fun v29 wc=>∃(kq:Nat) (Fa:Bool),v29= .bool Fa∧Aside0 (regletref13_Right.j1 kq dD Fa aU aX bB bK aQ ((rd_T35 aQ dD).f0) ((rd_T35 aQ dD).f1)=some r)∧Aside0 (kq≤k1)∧Aside0 (wc.heap[eF]?=some (.cells #[(.slice bR aU.length bS),(.slice bU aX.length bV),.int .i64 bB,.int .i64 bK,(.slice (some oX) aQ.length bX)] 26 (0,0)))∧Aside0 (wc.heap[hZ]?=some (.cells #[.int .i64 ((rd_T35 aQ dD).f0),(.slice nM ((rd_T35 aQ dD).f1).length nN)] 35 (0,0)))∧Aside0 (Below w.heap.size w wc))
    case first=>
     have H:=HC5.out;clear HC5
     by_cases c10:((rd_T35 aQ dD).f0)<0
     ·rw [if_pos c10] at H
      have mL:decide (((rd_T35 aQ dD).f0)<0)=true:=decide_eq_true c10;clear c10
      (first|rw [mL]|(simp only [i64_w,i32_w];rw [mL])|skip)
      have H':=aM H;clear H;have hnb11:=iD.out;have hnc11:=fT.out;have jD:w7.cell? ⟨hZ,0,none⟩=some (.int .i64 0):=(aG eT.out 0).trans rfl;have jE:w7.cell? ⟨hZ,1,none⟩=some (.slice none 0 0):=(aG eT.out 1).trans rfl;have jF:=aH eT.out 0;have jG:=aH eT.out 1;go_wp2
      go_meet
      case rel=>exact⟨_,(true),(by first|rfl|(simp;done)|(simp [*];done)),H',⟨by have:=HK1.out;first|omega|exact Nat.le_refl _⟩,⟨by(with_reducible repeat(first|refine aJ ?_ _|refine aK ?_|refine aI ?_ _));refine blk_far ?_ fT.out _;(with_reducible repeat(first|refine aJ ?_ _|refine aK ?_|refine aI ?_ _));refine blk_far ?_ fT.out _;(with_reducible repeat(first|refine aJ ?_ _|refine aK ?_|refine aI ?_ _));exact cT.out⟩,⟨by(with_reducible repeat(first|refine aJ ?_ _|refine aK ?_|refine aI ?_ _));refine blk_put (cs:=#[.int .i64 ((rd_T35 aQ dD).f0),.slice none 0 0]) ?_ 1 _ rfl;(with_reducible repeat(first|refine aJ ?_ _|refine aK ?_|refine aI ?_ _));refine blk_put (cs:=#[.int .i64 0,.slice none 0 0]) ?_ 0 _ rfl;(with_reducible repeat(first|refine aJ ?_ _|refine aK ?_|refine aI ?_ _));exact eT.out⟩,⟨by repeat(first|(with_reducible first|exact HB.out|apply aN|apply aP|apply aO|refine aL ?_ Pr.out|refine aL ?_ Ps.out)|exact HB.out)⟩⟩
     ·rw [if_neg c10] at H
      have mL:decide (((rd_T35 aQ dD).f0)<0)=false:=decide_eq_false c10;clear c10
      (first|rw [mL]|(simp only [i64_w,i32_w];rw [mL])|skip)
      have H':=aM H;clear H;have hnb13:=iD.out;have hnc13:=fT.out;have mF:w7.cell? ⟨hZ,0,none⟩=some (.int .i64 0):=(aG eT.out 0).trans rfl;have mG:w7.cell? ⟨hZ,1,none⟩=some (.slice none 0 0):=(aG eT.out 1).trans rfl;have mH:=aH eT.out 0;have mI:=aH eT.out 1;have Fb:w7.cell? ⟨eF,0,none⟩=some (.slice bR aU.length bS):=(aG cT.out 0).trans rfl;have Fc:w7.cell? ⟨eF,1,none⟩=some (.slice bU aX.length bV):=(aG cT.out 1).trans rfl;have Fd:w7.cell? ⟨eF,2,none⟩=some (.int .i64 bB):=(aG cT.out 2).trans rfl;have Fe:w7.cell? ⟨eF,3,none⟩=some (.int .i64 bK):=(aG cT.out 3).trans rfl;have Ff:w7.cell? ⟨eF,4,none⟩=some (.slice (some oX) aQ.length bX):=(aG cT.out 4).trans rfl;have Fg:=aH cT.out 0;have Fh:=aH cT.out 1;have Fi:=aH cT.out 2;have Fj:=aH cT.out 3;have Fk:=aH cT.out 4;go_wp2
      go_meet
      case rel=>exact⟨_,(decide (((rd_T35 aQ dD).f0)≥(aU.length:Int))),(by first|rfl|(simp;done)|(simp [*];done)),H',⟨by have:=HK1.out;first|omega|exact Nat.le_refl _⟩,⟨by(with_reducible repeat(first|refine aJ ?_ _|refine aK ?_|refine aI ?_ _));refine blk_far ?_ fT.out _;(with_reducible repeat(first|refine aJ ?_ _|refine aK ?_|refine aI ?_ _));refine blk_far ?_ fT.out _;(with_reducible repeat(first|refine aJ ?_ _|refine aK ?_|refine aI ?_ _));exact cT.out⟩,⟨by(with_reducible repeat(first|refine aJ ?_ _|refine aK ?_|refine aI ?_ _));refine blk_put (cs:=#[.int .i64 ((rd_T35 aQ dD).f0),.slice none 0 0]) ?_ 1 _ rfl;(with_reducible repeat(first|refine aJ ?_ _|refine aK ?_|refine aI ?_ _));refine blk_put (cs:=#[.int .i64 0,.slice none 0 0]) ?_ 0 _ rfl;(with_reducible repeat(first|refine aJ ?_ _|refine aK ?_|refine aI ?_ _));exact eT.out⟩,⟨by repeat(first|(with_reducible first|exact HB.out|apply aN|apply aP|apply aO|refine aL ?_ Pr.out|refine aL ?_ Ps.out)|exact HB.out)⟩⟩
    case rest=>
     clear HC5
     (try clear c1);(try clear c2);(try clear p2);(try clear q2);(try clear hx2);(try clear c3);(try clear pM);(try clear c4);(try clear vC);(try clear c8);(try clear c10);(try clear mL);(try clear c11);(try clear c13);(try clear jD);(try clear jE);(try clear mF);(try clear mG);(try clear Fb);(try clear Fc);(try clear Fd);(try clear Fe);(try clear Ff)
     (try clear oN);(try clear oO);(try clear oP);(try clear oQ);(try clear oR);(try clear lX);(try clear lY);(try clear jF);(try clear jG);(try clear mH);(try clear mI);(try clear Fg);(try clear Fh);(try clear Fi);(try clear Fj);(try clear Fk);(try clear oS);(try clear oT);(try clear oU);(try clear oV);(try clear oW)
     (try clear lZ);(try clear mA);(try clear qQ);(try clear qR);(try clear p2);(try clear p209);(try clear q209)
     obtain⟨kq,Fa,rfl,HA,HJ4,cT,eT,HB⟩:=hcut
     cases kq with
     |zero=>exact absurd HA.out (by simp [regletref13_Right.j1])
     |succ FB=>
      have H:=HA.out;clear HA;simp only [regletref13_Right.j1] at H
      by_cases c16:Fa=true
      ·subst c16
       have H1:(some false)=some r:=by rw [if_pos rfl] at H;exact H
       clear H;have H:=H1;clear H1;obtain rfl:=Option.some.inj H;go_wp2
       go_ret
       exact⟨by first|rfl|(simp [errW_none,errW_some]<;>rfl)|(simp [*,errW_none,errW_some]<;>rfl),gW HB.out⟩
      ·replace c16:=Bool.eq_false_iff.mpr c16
       subst c16;have H1:(regletref13_Right.l1 FB dD 0 aU aX bB bK aQ ((rd_T35 aQ dD).f0) ((rd_T35 aQ dD).f1))=some r:=by rw [if_neg (show ¬(false=true) by decide)] at H;exact H
       clear H;have H:=H1;clear H1;have H':=aM H;clear H;go_wp2
       go_loopg [5] FB (fun kq v5 w'=>∃(eC:Int),v5= .int .i64 eC∧Aside0 (regletref13_Right.l1 kq dD eC aU aX bB bK aQ ((rd_T35 aQ dD).f0) ((rd_T35 aQ dD).f1)=some r)∧Aside0 (kq≤FB)∧Aside0 (w'.heap[eF]?=some (.cells #[(.slice bR aU.length bS),(.slice bU aX.length bV),.int .i64 bB,.int .i64 bK,(.slice (some oX) aQ.length bX)] 26 (0,0)))∧Aside0 (w'.heap[hZ]?=some (.cells #[.int .i64 ((rd_T35 aQ dD).f0),(.slice nM ((rd_T35 aQ dD).f1).length nN)] 35 (0,0)))∧Aside0 (Below w.heap.size w w'))
       case atStart=>exact⟨(0),(by first|rfl|(simp;done)|(simp [*];done)),H',⟨Nat.le_refl _⟩,⟨gB cT.out⟩,⟨gB eT.out⟩,⟨gW HB.out⟩⟩
       case round=>
        clear H'
        (try clear c1);(try clear c2);(try clear p2);(try clear q2);(try clear hx2);(try clear c3);(try clear pM);(try clear c4);(try clear vC);(try clear c8);(try clear c10);(try clear mL);(try clear c11);(try clear c13);(try clear c16);(try clear jD);(try clear jE);(try clear mF);(try clear mG);(try clear Fb);(try clear Fc);(try clear Fd);(try clear Fe);(try clear Ff)
        (try clear oN);(try clear oO);(try clear oP);(try clear oQ);(try clear oR);(try clear lX);(try clear lY);(try clear jF);(try clear jG);(try clear mH);(try clear mI);(try clear Fg);(try clear Fh);(try clear Fi);(try clear Fj);(try clear Fk);(try clear oS);(try clear oT);(try clear oU);(try clear oV);(try clear oW)
        (try clear lZ);(try clear mA);(try clear qQ);(try clear qR);(try clear p2);(try clear p209);(try clear q2);(try clear q209)
        obtain⟨eC,rfl,HA,HK3,cT,eT,HB⟩:=hrel
        cases gk with
        |zero=>exact absurd HA.out (by simp [regletref13_Right.l1])
        |succ k3=>
         have H:=HA.out;clear HA;simp only [regletref13_Right.l1] at H
         by_cases c17:eC<(((rd_T35 aQ dD).f1).length:Int)
         ·rw [if_pos c17] at H
          have vG:decide (eC<(((rd_T35 aQ dD).f1).length:Int))=true:=decide_eq_true c17;clear c17
          by_cases c18:0≤eC
          rotate_left
          ·rw [if_neg c18] at H
           exact absurd H (by simp)
          rw [if_pos c18] at H;have Pt:decide (0≤eC)=true:=decide_eq_true c18;clear c18;obtain⟨bq19,hbq19⟩:∃b_:Bool,b_=((rd_T43 ((rd_T35 aQ dD).f1) eC).f0):=⟨_,rfl⟩;replace H:(if bq19=true then(if((rd_T43 ((rd_T35 aQ dD).f1) eC).f1)<0 then(some false) else(if((rd_T43 ((rd_T35 aQ dD).f1) eC).f1)≥(aX.length:Int) then(some false) else(regletref13_Right.l1 k3 dD (wrap64 (eC+1)) aU aX bB bK aQ ((rd_T35 aQ dD).f0) ((rd_T35 aQ dD).f1)))) else(if((rd_T43 ((rd_T35 aQ dD).f1) eC).f1)<0 then(some false) else(if((rd_T43 ((rd_T35 aQ dD).f1) eC).f1)≥(aU.length:Int) then(some false) else(regletref13_Right.l1 k3 dD (wrap64 (eC+1)) aU aX bB bK aQ ((rd_T35 aQ dD).f0) ((rd_T35 aQ dD).f1)))))=some r:=by rw [←hbq19] at H;exact H
          have Nbq19:=aM hbq19;clear hbq19
          by_cases c20:bq19=true
          ·subst c20
           have H1:(if((rd_T43 ((rd_T35 aQ dD).f1) eC).f1)<0 then(some false) else(if((rd_T43 ((rd_T35 aQ dD).f1) eC).f1)≥(aX.length:Int) then(some false) else(regletref13_Right.l1 k3 dD (wrap64 (eC+1)) aU aX bB bK aQ ((rd_T35 aQ dD).f0) ((rd_T35 aQ dD).f1))))=some r:=by rw [if_pos rfl] at H;exact H
           clear H;have H:=H1;clear H1
           by_cases c21:((rd_T43 ((rd_T35 aQ dD).f1) eC).f1)<0
           ·rw [if_pos c21] at H
            have Pu:decide (((rd_T43 ((rd_T35 aQ dD).f1) eC).f1)<0)=true:=decide_eq_true c21;clear c21;obtain rfl:=Option.some.inj H;have hnb22:=iD.out;have hnc22:=fT.out;have Lp:wr.cell? ⟨hZ,0,none⟩=some (.int .i64 ((rd_T35 aQ dD).f0)):=(aG eT.out 0).trans rfl;have Lq:wr.cell? ⟨hZ,1,none⟩=some (.slice nM ((rd_T35 aQ dD).f1).length nN):=(aG eT.out 1).trans rfl;have Lr:=aH eT.out 0;have Ls:=aH eT.out 1;have AC:wr.cell? ⟨eF,0,none⟩=some (.slice bR aU.length bS):=(aG cT.out 0).trans rfl;have AD:wr.cell? ⟨eF,1,none⟩=some (.slice bU aX.length bV):=(aG cT.out 1).trans rfl;have AE:wr.cell? ⟨eF,2,none⟩=some (.int .i64 bB):=(aG cT.out 2).trans rfl;have AF:wr.cell? ⟨eF,3,none⟩=some (.int .i64 bK):=(aG cT.out 3).trans rfl;have AG:wr.cell? ⟨eF,4,none⟩=some (.slice (some oX) aQ.length bX):=(aG cT.out 4).trans rfl;have AH:=aH cT.out 0;have AI:=aH cT.out 1;have AJ:=aH cT.out 2;have AK:=aH cT.out 3;have AL:=aH cT.out 4;have p211:0≤(eC:Int):=of_decide_eq_true (by first|(with_reducible assumption)|assumption);have q211:eC<(((rd_T35 aQ dD).f1).length:Int):=of_decide_eq_true (by first|(with_reducible assumption)|assumption);obtain⟨mB,e211,eM,fJ⟩:=at_T43 gX.out eC p211 q211
            (try rw [←Nbq19.out] at eM)
            cases e211;replace eM:=(HB.out.cell (World.block_lt_of_cell? w _ eM)).trans eM;replace fJ:=(HB.out.cell (World.block_lt_of_cell? w _ fJ)).trans fJ;replace p211:=eq_true p211;replace q211:=eq_true q211;have p212:0≤(eC:Int):=of_decide_eq_true (by first|(with_reducible assumption)|assumption);have q212:eC<(((rd_T35 aQ dD).f1).length:Int):=of_decide_eq_true (by first|(with_reducible assumption)|assumption);obtain⟨Ad,e212,iF,jW⟩:=at_T43 gX.out eC p212 q212
            (try rw [←Nbq19.out] at iF)
            obtain rfl:mB=Ad:=(by injection e212);replace iF:=(HB.out.cell (World.block_lt_of_cell? w _ iF)).trans iF;replace jW:=(HB.out.cell (World.block_lt_of_cell? w _ jW)).trans jW;replace p212:=eq_true p212;replace q212:=eq_true q212;go_wp2
            go_ret
            exact⟨by first|rfl|(simp [errW_none,errW_some]<;>rfl)|(simp [*,errW_none,errW_some]<;>rfl),gW HB.out⟩
           ·rw [if_neg c21] at H
            have Pu:decide (((rd_T43 ((rd_T35 aQ dD).f1) eC).f1)<0)=false:=decide_eq_false c21;clear c21
            by_cases c25:((rd_T43 ((rd_T35 aQ dD).f1) eC).f1)≥(aX.length:Int)
            ·rw [if_pos c25] at H
             have sP:decide ((aX.length:Int)≤((rd_T43 ((rd_T35 aQ dD).f1) eC).f1))=true:=decide_eq_true c25;clear c25;obtain rfl:=Option.some.inj H;have hnb26:=iD.out;have hnc26:=fT.out;have qS:wr.cell? ⟨hZ,0,none⟩=some (.int .i64 ((rd_T35 aQ dD).f0)):=(aG eT.out 0).trans rfl;have qT:wr.cell? ⟨hZ,1,none⟩=some (.slice nM ((rd_T35 aQ dD).f1).length nN):=(aG eT.out 1).trans rfl;have qU:=aH eT.out 0;have qV:=aH eT.out 1;have xM:wr.cell? ⟨eF,0,none⟩=some (.slice bR aU.length bS):=(aG cT.out 0).trans rfl;have xN:wr.cell? ⟨eF,1,none⟩=some (.slice bU aX.length bV):=(aG cT.out 1).trans rfl;have xO:wr.cell? ⟨eF,2,none⟩=some (.int .i64 bB):=(aG cT.out 2).trans rfl;have xP:wr.cell? ⟨eF,3,none⟩=some (.int .i64 bK):=(aG cT.out 3).trans rfl;have xQ:wr.cell? ⟨eF,4,none⟩=some (.slice (some oX) aQ.length bX):=(aG cT.out 4).trans rfl;have xR:=aH cT.out 0;have xS:=aH cT.out 1;have xT:=aH cT.out 2;have xU:=aH cT.out 3;have xV:=aH cT.out 4;have p211:0≤(eC:Int):=of_decide_eq_true (by first|(with_reducible assumption)|assumption);have q211:eC<(((rd_T35 aQ dD).f1).length:Int):=of_decide_eq_true (by first|(with_reducible assumption)|assumption);obtain⟨mB,e211,eM,fJ⟩:=at_T43 gX.out eC p211 q211
             (try rw [←Nbq19.out] at eM)
             cases e211;replace eM:=(HB.out.cell (World.block_lt_of_cell? w _ eM)).trans eM;replace fJ:=(HB.out.cell (World.block_lt_of_cell? w _ fJ)).trans fJ;replace p211:=eq_true p211;replace q211:=eq_true q211;have p212:0≤(eC:Int):=of_decide_eq_true (by first|(with_reducible assumption)|assumption);have q212:eC<(((rd_T35 aQ dD).f1).length:Int):=of_decide_eq_true (by first|(with_reducible assumption)|assumption);obtain⟨Ad,e212,iF,jW⟩:=at_T43 gX.out eC p212 q212
             (try rw [←Nbq19.out] at iF)
             obtain rfl:mB=Ad:=(by injection e212);replace iF:=(HB.out.cell (World.block_lt_of_cell? w _ iF)).trans iF;replace jW:=(HB.out.cell (World.block_lt_of_cell? w _ jW)).trans jW;replace p212:=eq_true p212;replace q212:=eq_true q212;have p213:0≤(eC:Int):=of_decide_eq_true (by first|(with_reducible assumption)|assumption);have q213:eC<(((rd_T35 aQ dD).f1).length:Int):=of_decide_eq_true (by first|(with_reducible assumption)|assumption);obtain⟨Ix,e213,lL,nO⟩:=at_T43 gX.out eC p213 q213
             (try rw [←Nbq19.out] at lL)
             obtain rfl:mB=Ix:=(by injection e213);replace lL:=(HB.out.cell (World.block_lt_of_cell? w _ lL)).trans lL;replace nO:=(HB.out.cell (World.block_lt_of_cell? w _ nO)).trans nO;replace p213:=eq_true p213;replace q213:=eq_true q213;go_wp2
             go_ret
             exact⟨by first|rfl|(simp [errW_none,errW_some]<;>rfl)|(simp [*,errW_none,errW_some]<;>rfl),gW HB.out⟩
            ·rw [if_neg c25] at H
             have sP:decide ((aX.length:Int)≤((rd_T43 ((rd_T35 aQ dD).f1) eC).f1))=false:=decide_eq_false c25;clear c25;have H':=aM H;clear H;have hnb29:=iD.out;have hnc29:=fT.out;have AM:wr.cell? ⟨hZ,0,none⟩=some (.int .i64 ((rd_T35 aQ dD).f0)):=(aG eT.out 0).trans rfl;have AN:wr.cell? ⟨hZ,1,none⟩=some (.slice nM ((rd_T35 aQ dD).f1).length nN):=(aG eT.out 1).trans rfl;have AO:=aH eT.out 0;have AP:=aH eT.out 1;have nG:wr.cell? ⟨eF,0,none⟩=some (.slice bR aU.length bS):=(aG cT.out 0).trans rfl;have nH:wr.cell? ⟨eF,1,none⟩=some (.slice bU aX.length bV):=(aG cT.out 1).trans rfl;have pA:wr.cell? ⟨eF,2,none⟩=some (.int .i64 bB):=(aG cT.out 2).trans rfl;have pB:wr.cell? ⟨eF,3,none⟩=some (.int .i64 bK):=(aG cT.out 3).trans rfl;have pC:wr.cell? ⟨eF,4,none⟩=some (.slice (some oX) aQ.length bX):=(aG cT.out 4).trans rfl;have nI:=aH cT.out 0;have nJ:=aH cT.out 1;have pD:=aH cT.out 2;have pE:=aH cT.out 3;have pF:=aH cT.out 4;have p211:0≤(eC:Int):=of_decide_eq_true (by first|(with_reducible assumption)|assumption);have q211:eC<(((rd_T35 aQ dD).f1).length:Int):=of_decide_eq_true (by first|(with_reducible assumption)|assumption);obtain⟨mB,e211,eM,fJ⟩:=at_T43 gX.out eC p211 q211
             (try rw [←Nbq19.out] at eM)
             cases e211;replace eM:=(HB.out.cell (World.block_lt_of_cell? w _ eM)).trans eM;replace fJ:=(HB.out.cell (World.block_lt_of_cell? w _ fJ)).trans fJ;replace p211:=eq_true p211;replace q211:=eq_true q211;have p212:0≤(eC:Int):=of_decide_eq_true (by first|(with_reducible assumption)|assumption);have q212:eC<(((rd_T35 aQ dD).f1).length:Int):=of_decide_eq_true (by first|(with_reducible assumption)|assumption);obtain⟨Ad,e212,iF,jW⟩:=at_T43 gX.out eC p212 q212
             (try rw [←Nbq19.out] at iF)
             obtain rfl:mB=Ad:=(by injection e212);replace iF:=(HB.out.cell (World.block_lt_of_cell? w _ iF)).trans iF;replace jW:=(HB.out.cell (World.block_lt_of_cell? w _ jW)).trans jW;replace p212:=eq_true p212;replace q212:=eq_true q212;have p213:0≤(eC:Int):=of_decide_eq_true (by first|(with_reducible assumption)|assumption);have q213:eC<(((rd_T35 aQ dD).f1).length:Int):=of_decide_eq_true (by first|(with_reducible assumption)|assumption);obtain⟨Ix,e213,lL,nO⟩:=at_T43 gX.out eC p213 q213
             (try rw [←Nbq19.out] at lL)
             obtain rfl:mB=Ix:=(by injection e213);replace lL:=(HB.out.cell (World.block_lt_of_cell? w _ lL)).trans lL;replace nO:=(HB.out.cell (World.block_lt_of_cell? w _ nO)).trans nO;replace p213:=eq_true p213;replace q213:=eq_true q213;go_wp2
             go_roundg k3
             case measure=>have:=HK1.out;have:=HJ4.out;have:=HK3.out;omega
             case rel=>exact⟨(wrap64 (eC+1)),(by first|rfl|(simp;done)|(simp [*];done)),H',⟨by have:=HK1.out;have:=HJ4.out;have:=HK3.out;omega⟩,⟨gB cT.out⟩,⟨gB eT.out⟩,⟨gW HB.out⟩⟩
          ·replace c20:=Bool.eq_false_iff.mpr c20
           subst c20;have H1:(if((rd_T43 ((rd_T35 aQ dD).f1) eC).f1)<0 then(some false) else(if((rd_T43 ((rd_T35 aQ dD).f1) eC).f1)≥(aU.length:Int) then(some false) else(regletref13_Right.l1 k3 dD (wrap64 (eC+1)) aU aX bB bK aQ ((rd_T35 aQ dD).f0) ((rd_T35 aQ dD).f1))))=some r:=by rw [if_neg (show ¬(false=true) by decide)] at H;exact H
           clear H;have H:=H1;clear H1
           by_cases c32:((rd_T43 ((rd_T35 aQ dD).f1) eC).f1)<0
           ·rw [if_pos c32] at H
            have Uh:decide (((rd_T43 ((rd_T35 aQ dD).f1) eC).f1)<0)=true:=decide_eq_true c32;clear c32;obtain rfl:=Option.some.inj H;have hnb33:=iD.out;have hnc33:=fT.out;have qW:wr.cell? ⟨hZ,0,none⟩=some (.int .i64 ((rd_T35 aQ dD).f0)):=(aG eT.out 0).trans rfl;have qX:wr.cell? ⟨hZ,1,none⟩=some (.slice nM ((rd_T35 aQ dD).f1).length nN):=(aG eT.out 1).trans rfl;have qY:=aH eT.out 0;have qZ:=aH eT.out 1;have tA:wr.cell? ⟨eF,0,none⟩=some (.slice bR aU.length bS):=(aG cT.out 0).trans rfl;have qC:wr.cell? ⟨eF,1,none⟩=some (.slice bU aX.length bV):=(aG cT.out 1).trans rfl;have AQ:wr.cell? ⟨eF,2,none⟩=some (.int .i64 bB):=(aG cT.out 2).trans rfl;have AR:wr.cell? ⟨eF,3,none⟩=some (.int .i64 bK):=(aG cT.out 3).trans rfl;have AS:wr.cell? ⟨eF,4,none⟩=some (.slice (some oX) aQ.length bX):=(aG cT.out 4).trans rfl;have tB:=aH cT.out 0;have tC:=aH cT.out 1;have AU:=aH cT.out 2;have AV:=aH cT.out 3;have AW:=aH cT.out 4;have p211:0≤(eC:Int):=of_decide_eq_true (by first|(with_reducible assumption)|assumption);have q211:eC<(((rd_T35 aQ dD).f1).length:Int):=of_decide_eq_true (by first|(with_reducible assumption)|assumption);obtain⟨mB,e211,eM,fJ⟩:=at_T43 gX.out eC p211 q211
            (try rw [←Nbq19.out] at eM)
            cases e211;replace eM:=(HB.out.cell (World.block_lt_of_cell? w _ eM)).trans eM;replace fJ:=(HB.out.cell (World.block_lt_of_cell? w _ fJ)).trans fJ;replace p211:=eq_true p211;replace q211:=eq_true q211;have p214:0≤(eC:Int):=of_decide_eq_true (by first|(with_reducible assumption)|assumption);have q214:eC<(((rd_T35 aQ dD).f1).length:Int):=of_decide_eq_true (by first|(with_reducible assumption)|assumption);obtain⟨Ag,e214,iG,jX⟩:=at_T43 gX.out eC p214 q214
            (try rw [←Nbq19.out] at iG)
            obtain rfl:mB=Ag:=(by injection e214);replace iG:=(HB.out.cell (World.block_lt_of_cell? w _ iG)).trans iG;replace jX:=(HB.out.cell (World.block_lt_of_cell? w _ jX)).trans jX;replace p214:=eq_true p214;replace q214:=eq_true q214;go_wp2
            go_ret
            exact⟨by first|rfl|(simp [errW_none,errW_some]<;>rfl)|(simp [*,errW_none,errW_some]<;>rfl),gW HB.out⟩
           ·rw [if_neg c32] at H
            have Uh:decide (((rd_T43 ((rd_T35 aQ dD).f1) eC).f1)<0)=false:=decide_eq_false c32;clear c32
            by_cases c36:((rd_T43 ((rd_T35 aQ dD).f1) eC).f1)≥(aU.length:Int)
            ·rw [if_pos c36] at H
             have Ui:decide ((aU.length:Int)≤((rd_T43 ((rd_T35 aQ dD).f1) eC).f1))=true:=decide_eq_true c36;clear c36;obtain rfl:=Option.some.inj H;have hnb37:=iD.out;have hnc37:=fT.out;have AX:wr.cell? ⟨hZ,0,none⟩=some (.int .i64 ((rd_T35 aQ dD).f0)):=(aG eT.out 0).trans rfl;have AY:wr.cell? ⟨hZ,1,none⟩=some (.slice nM ((rd_T35 aQ dD).f1).length nN):=(aG eT.out 1).trans rfl;have AZ:=aH eT.out 0;have BA:=aH eT.out 1;have xW:wr.cell? ⟨eF,0,none⟩=some (.slice bR aU.length bS):=(aG cT.out 0).trans rfl;have xX:wr.cell? ⟨eF,1,none⟩=some (.slice bU aX.length bV):=(aG cT.out 1).trans rfl;have xY:wr.cell? ⟨eF,2,none⟩=some (.int .i64 bB):=(aG cT.out 2).trans rfl;have xZ:wr.cell? ⟨eF,3,none⟩=some (.int .i64 bK):=(aG cT.out 3).trans rfl;have yA:wr.cell? ⟨eF,4,none⟩=some (.slice (some oX) aQ.length bX):=(aG cT.out 4).trans rfl;have yB:=aH cT.out 0;have yC:=aH cT.out 1;have yD:=aH cT.out 2;have yE:=aH cT.out 3;have yF:=aH cT.out 4;have p211:0≤(eC:Int):=of_decide_eq_true (by first|(with_reducible assumption)|assumption);have q211:eC<(((rd_T35 aQ dD).f1).length:Int):=of_decide_eq_true (by first|(with_reducible assumption)|assumption);obtain⟨mB,e211,eM,fJ⟩:=at_T43 gX.out eC p211 q211
             (try rw [←Nbq19.out] at eM)
             cases e211;replace eM:=(HB.out.cell (World.block_lt_of_cell? w _ eM)).trans eM;replace fJ:=(HB.out.cell (World.block_lt_of_cell? w _ fJ)).trans fJ;replace p211:=eq_true p211;replace q211:=eq_true q211;have p214:0≤(eC:Int):=of_decide_eq_true (by first|(with_reducible assumption)|assumption);have q214:eC<(((rd_T35 aQ dD).f1).length:Int):=of_decide_eq_true (by first|(with_reducible assumption)|assumption);obtain⟨Ag,e214,iG,jX⟩:=at_T43 gX.out eC p214 q214
             (try rw [←Nbq19.out] at iG)
             obtain rfl:mB=Ag:=(by injection e214);replace iG:=(HB.out.cell (World.block_lt_of_cell? w _ iG)).trans iG;replace jX:=(HB.out.cell (World.block_lt_of_cell? w _ jX)).trans jX;replace p214:=eq_true p214;replace q214:=eq_true q214;have p215:0≤(eC:Int):=of_decide_eq_true (by first|(with_reducible assumption)|assumption);have q215:eC<(((rd_T35 aQ dD).f1).length:Int):=of_decide_eq_true (by first|(with_reducible assumption)|assumption);obtain⟨Iy,e215,lM,nP⟩:=at_T43 gX.out eC p215 q215
             (try rw [←Nbq19.out] at lM)
             obtain rfl:mB=Iy:=(by injection e215);replace lM:=(HB.out.cell (World.block_lt_of_cell? w _ lM)).trans lM;replace nP:=(HB.out.cell (World.block_lt_of_cell? w _ nP)).trans nP;replace p215:=eq_true p215;replace q215:=eq_true q215;go_wp2
             go_ret
             exact⟨by first|rfl|(simp [errW_none,errW_some]<;>rfl)|(simp [*,errW_none,errW_some]<;>rfl),gW HB.out⟩
            ·rw [if_neg c36] at H
             have Ui:decide ((aU.length:Int)≤((rd_T43 ((rd_T35 aQ dD).f1) eC).f1))=false:=decide_eq_false c36;clear c36;have H':=aM H;clear H;have hnb40:=iD.out;have hnc40:=fT.out;have BC:wr.cell? ⟨hZ,0,none⟩=some (.int .i64 ((rd_T35 aQ dD).f0)):=(aG eT.out 0).trans rfl;have BD:wr.cell? ⟨hZ,1,none⟩=some (.slice nM ((rd_T35 aQ dD).f1).length nN):=(aG eT.out 1).trans rfl;have BE:=aH eT.out 0;have BF:=aH eT.out 1;have Fl:wr.cell? ⟨eF,0,none⟩=some (.slice bR aU.length bS):=(aG cT.out 0).trans rfl;have Fm:wr.cell? ⟨eF,1,none⟩=some (.slice bU aX.length bV):=(aG cT.out 1).trans rfl;have Lt:wr.cell? ⟨eF,2,none⟩=some (.int .i64 bB):=(aG cT.out 2).trans rfl;have Lu:wr.cell? ⟨eF,3,none⟩=some (.int .i64 bK):=(aG cT.out 3).trans rfl;have Lv:wr.cell? ⟨eF,4,none⟩=some (.slice (some oX) aQ.length bX):=(aG cT.out 4).trans rfl;have Fn:=aH cT.out 0;have Fo:=aH cT.out 1;have Lw:=aH cT.out 2;have Lx:=aH cT.out 3;have Ly:=aH cT.out 4;have p211:0≤(eC:Int):=of_decide_eq_true (by first|(with_reducible assumption)|assumption);have q211:eC<(((rd_T35 aQ dD).f1).length:Int):=of_decide_eq_true (by first|(with_reducible assumption)|assumption);obtain⟨mB,e211,eM,fJ⟩:=at_T43 gX.out eC p211 q211
             (try rw [←Nbq19.out] at eM)
             cases e211;replace eM:=(HB.out.cell (World.block_lt_of_cell? w _ eM)).trans eM;replace fJ:=(HB.out.cell (World.block_lt_of_cell? w _ fJ)).trans fJ;replace p211:=eq_true p211;replace q211:=eq_true q211;have p214:0≤(eC:Int):=of_decide_eq_true (by first|(with_reducible assumption)|assumption);have q214:eC<(((rd_T35 aQ dD).f1).length:Int):=of_decide_eq_true (by first|(with_reducible assumption)|assumption);obtain⟨Ag,e214,iG,jX⟩:=at_T43 gX.out eC p214 q214
             (try rw [←Nbq19.out] at iG)
             obtain rfl:mB=Ag:=(by injection e214);replace iG:=(HB.out.cell (World.block_lt_of_cell? w _ iG)).trans iG;replace jX:=(HB.out.cell (World.block_lt_of_cell? w _ jX)).trans jX;replace p214:=eq_true p214;replace q214:=eq_true q214;have p215:0≤(eC:Int):=of_decide_eq_true (by first|(with_reducible assumption)|assumption);have q215:eC<(((rd_T35 aQ dD).f1).length:Int):=of_decide_eq_true (by first|(with_reducible assumption)|assumption);obtain⟨Iy,e215,lM,nP⟩:=at_T43 gX.out eC p215 q215
             (try rw [←Nbq19.out] at lM)
             obtain rfl:mB=Iy:=(by injection e215);replace lM:=(HB.out.cell (World.block_lt_of_cell? w _ lM)).trans lM;replace nP:=(HB.out.cell (World.block_lt_of_cell? w _ nP)).trans nP;replace p215:=eq_true p215;replace q215:=eq_true q215;go_wp2
             go_roundg k3
             case measure=>have:=HK1.out;have:=HJ4.out;have:=HK3.out;omega
             case rel=>exact⟨(wrap64 (eC+1)),(by first|rfl|(simp;done)|(simp [*];done)),H',⟨by have:=HK1.out;have:=HJ4.out;have:=HK3.out;omega⟩,⟨gB cT.out⟩,⟨gB eT.out⟩,⟨gW HB.out⟩⟩
         ·rw [if_neg c17] at H
          have vG:decide (eC<(((rd_T35 aQ dD).f1).length:Int))=false:=decide_eq_false c17;clear c17;have H':=aM H;clear H;have hnb43:=iD.out;have hnc43:=fT.out;have qJ:wr.cell? ⟨hZ,0,none⟩=some (.int .i64 ((rd_T35 aQ dD).f0)):=(aG eT.out 0).trans rfl;have pK:wr.cell? ⟨hZ,1,none⟩=some (.slice nM ((rd_T35 aQ dD).f1).length nN):=(aG eT.out 1).trans rfl;have qK:=aH eT.out 0;have qL:=aH eT.out 1;go_wp2
          go_roundg k3
          case measure=>have:=HK1.out;have:=HJ4.out;have:=HK3.out;omega
          case rel=>exact⟨(wrap64 (dD+1)),(by first|rfl|(simp;done)|(simp [*];done)),H',⟨by have:=HK1.out;have:=HJ4.out;have:=HK3.out;omega⟩,⟨gB cT.out⟩,⟨gW HB.out⟩⟩
   ·rw [if_neg c3] at H
    have pM:decide (dD<(aQ.length:Int))=false:=decide_eq_false c3;clear c3;obtain rfl:=Option.some.inj H;have Lz:wr.cell? ⟨eF,0,none⟩=some (.slice bR aU.length bS):=(aG cT.out 0).trans rfl;have Ma:wr.cell? ⟨eF,1,none⟩=some (.slice bU aX.length bV):=(aG cT.out 1).trans rfl;have Mb:wr.cell? ⟨eF,2,none⟩=some (.int .i64 bB):=(aG cT.out 2).trans rfl;have Mc:wr.cell? ⟨eF,3,none⟩=some (.int .i64 bK):=(aG cT.out 3).trans rfl;have Md:wr.cell? ⟨eF,4,none⟩=some (.slice cC aQ.length bX):=(aG cT.out 4).trans rfl;have Me:=aH cT.out 0;have Mf:=aH cT.out 1;have Mg:=aH cT.out 2;have Mh:=aH cT.out 3;have Mi:=aH cT.out 4;go_wp2
    go_ret
    exact⟨by first|rfl|(simp [errW_none,errW_some]<;>rfl)|(simp [*,errW_none,errW_some]<;>rfl),gW HB.out⟩
end Go.Proofs.Ytapjfnfengefpaa.P
end

section
namespace Go.Proofs.Ytapjfnfengefpaa.R
open Go.RowKit Go.Proofs.YtapjfnfengefpaaW.PrintWords Go.Proofs.YtapjfnfengefpaaW.PrintLast Go.Proofs.YtapjfnfengefpaaW.PrintMore
variable {α:Type}{d:Kd α}{t e:Nat}{w:World}{base n cap:Nat}{ok:Nat→Prop}{A:Option Addr}{v:Value}{m:List (List α)}
theorem S_row (hE:d.E= []) (h:Kd.S (Kd.slice t d) e w base ok (.slice A n cap) m) (i:Int) (h0:0≤i) (h1:i<m.length):
 ∃(g:Nat) (v:Value) (P:Nat→Prop),A=some ⟨g,0,none⟩∧w.cell? ⟨g,i.toNat,none⟩=some v∧d.R t w base P v (m.getD i.toNat [])∧(∀k,P k→ok k∧k≠g)∧
  ∀(w1:World) (P':Nat→Prop) (row':List α),Kept w w1 P→d.R t w1 base P' v row'→Kd.S (Kd.slice t d) e w1 base ok (.slice A n cap) (m.set i.toNat row'):=by
 obtain⟨g,cap',hv,_⟩:=Kd.S_form h (by omega);injection hv with hA hn hc
 subst hA;subst hn;subst hc;obtain⟨oki,c,hcl,hM,hcell,hoki,hH⟩:=Kd.S_lend h ([]:List α) i h0 h1;obtain⟨v,rfl,hR⟩:=hM;refine⟨g,v,oki,rfl,?_,hR,hoki,fun w1 P' row' hk hR'=>?_⟩
 ·have:=hcell 0 v rfl
  rwa [show(Kd.slice t d).sz=1 from rfl,Nat.mul_one,Nat.add_zero] at this
 ·have hH':=Kd.H_step hH (fun k _ hn hlt=>hk.2 k hlt hn)
  exact Kd.H_back hH' (Kd.M_row (Kd.R_tight hE hR')) (fun k hk'=>hR.1 k hk'.symm)
end Go.Proofs.Ytapjfnfengefpaa.R
end

section
namespace Go.Proofs.Ytapjfnfengefpaa.P
open Go.RowKit Go.Proofs.YtapjfnfengefpaaW.PrintWords Go.Proofs.YtapjfnfengefpaaW.PrintLast Go.Proofs.YtapjfnfengefpaaW.PrintMore
attribute [local go_sem] max2_int min2_int max_two min_two max_three min_three max_four min_four   -- for this text's walks alone
set_option linter.unusedVariables false
set_option linter.unusedSimpArgs false
def regletref13_marks.l0:Nat→List (List Bool)→Int→List ByteArray→List (S72)→Int→Int→List (S35)→Option ((List (List Bool)))
 |0,_,_,_,_,_,_,_=>none
 |k+1,x3,x4,x337000,x337001,x337002,x337003,x337004=>if x4<(x337000.length:Int) then(if 0≤(wrap64 ((x337001.length:Int)+1)) then(if(wrap64 ((x337001.length:Int)+1):Int).toNat≤281474976710656 then(if x3.length<5864062014805 then(regletref13_marks.l0 k (x3++ [(List.replicate (wrap64 ((x337001.length:Int)+1):Int).toNat false)]) (wrap64 (x4+1)) x337000 x337001 x337002 x337003 x337004) else(none)) else(none)) else(none)) else(some x3)
def regletref13_marks.f (k:Nat) (aU:List ByteArray) (aX:List (S72)) (bB:Int) (bK:Int) (aQ:List (S35)):Option ((List (List Bool))):=regletref13_marks.l0 k ([]:List (List Bool)) 0 aU aX bB bK aQ
set_option maxHeartbeats 8000000 in
set_option maxRecDepth 100000 in
theorem regletref13_marks.calls (k:Nat) (bR:Option Addr) (bS:Nat) (aU:List ByteArray) (bU:Option Addr) (bV:Nat) (aX:List (S72)) (bB:Int) (bK:Int) (cC:Option Addr) (bX:Nat) (aQ:List (S35)) (r:List (List Bool)) (w:World) (dX:Kd.C Kd.string w bR aU.length aU) (dZ:aU.length≤bS) (eB:Kd.C k72 w bU aX.length aX) (eH:aX.length≤bV) (dY:Kd.C k35 w cC aQ.length aQ) (eJ:aQ.length≤bX) (h:regletref13_marks.f k aU aX bB bK aQ=some r):
 Calls Try.prog 43 #[.agg #[.slice bR aU.length bS,.slice bU aX.length bV,.int .i64 bB,.int .i64 bK,.slice cC aQ.length bX]] w fun e w'=>∃v0_:Value,e= .returned (v0_)∧Kd.S (Kd.slice 4 Kd.bool) 90 w' w.heap.size (fun _=>True) v0_ r∧Below w.heap.size w w':=by
 have hu26:=Try.underlying26;have jA:=aM dX;have jV:=aM dZ;clear dX dZ;have kL:=aM eB;have kM:=aM eH;clear eB eH;have fP:=aM dY;have kN:=aM eJ;clear dY eJ;have HB:=aM (Below.refl w.heap.size w);have H:(regletref13_marks.l0 k ([]:List (List Bool)) 0 aU aX bB bK aQ)=some r:=h;clear h;have H':=aM H;clear H;go_enter Try.func43,Try.ntmps43
 go_wp2_with (first|((with_reducible refine bJ (N:=1) rfl ?_);refine box_event ?hg (N:=1) ?hd (cs:=#[.slice bR aU.length bS,.slice bU aX.length bV,.int .i64 bB,.int .i64 bK,.slice cC aQ.length bX]) (t:=26) ?hr ?_;(case hd=>rfl);(case hg=>rfl);(case hr=>first|(go_simp;done)|(go_simp;rfl));intro mV hg w2 hbox hb;have cH:=aM (bG (gW HB.out) hb);have cI:=aM (hbox);have cK:=aM ((by rw [hg];exact(bH (gW HB.out)):w.heap.size≤mV));have cQ:=aM ((by rw [hg];exact(bH (gW HB.out)):w.heap.size≤mV));clear HB;have HB:=cH;have gE:=cI;have GW336:=cK;have IX:=cQ;clear cH cI cK cQ;clear hb hbox hg))
 go_loopg [3,4] k (fun kq v3 v4 w'=>∃(dD:List (List Bool)) (bY:Int),v4= .int .i64 bY∧Aside0 (regletref13_marks.l0 kq dD bY aU aX bB bK aQ=some r)∧Aside0 (kq≤k)∧Aside0 (Kd.S (Kd.slice 4 Kd.bool) 90 w' w.heap.size (fun _=>True) v3 dD)∧Aside0 (w'.heap[mV]?=some (.cells #[(.slice bR aU.length bS),(.slice bU aX.length bV),.int .i64 bB,.int .i64 bK,(.slice cC aQ.length bX)] 26 (0,0)))∧Aside0 (Below w.heap.size w w'))
 case atStart=>exact⟨(([]:List (List Bool))),(0),(by first|rfl|(simp;done)|(simp [*];done)),H',⟨Nat.le_refl _⟩,⟨by first|exact Kd.S_nil _ _ _ _ _|exact Kd.N_nil _ _ _ _ _|exact Kd.V_nil _ _ _ _ _|exact Kd.Q_nil _ _ _ _ _|exact Kd.R_nil _ _ _ _ _⟩,⟨gB gE.out⟩,⟨gW HB.out⟩⟩
 case round=>
  clear H'
  (try clear p2)
  obtain⟨dD,bY,rfl,HA,HK1,fI,gE,HB⟩:=hrel
  cases gk with
  |zero=>exact absurd HA.out (by simp [regletref13_marks.l0])
  |succ k1=>
   have H:=HA.out;clear HA;simp only [regletref13_marks.l0] at H
   by_cases c3:bY<(aU.length:Int)
   ·rw [if_pos c3] at H
    have pM:decide (bY<(aU.length:Int))=true:=decide_eq_true c3;clear c3;obtain⟨Iz,Sa⟩:∃j_:Int,(wrap64 ((aX.length:Int)+1))=j_:=⟨_,rfl⟩;replace H:(if 0≤(Iz) then(if(Iz:Int).toNat≤281474976710656 then(if dD.length<5864062014805 then(regletref13_marks.l0 k1 (dD++ [(List.replicate (Iz:Int).toNat false)]) (wrap64 (bY+1)) aU aX bB bK aQ) else(none)) else(none)) else(none))=some r:=by first|(rw [Sa] at H;exact H)|(simp only [Sa] at H ⊢;exact H)
    have hji4w:(IntKind.i64.wrap ((aX.length:Int)+1))=Iz:=(i64_w _).trans Sa
    by_cases c5:0≤(Iz)
    rotate_left
    ·rw [if_neg c5] at H
     exact absurd H (by simp)
    rw [if_pos c5] at H;have vD:=eq_true c5;have Ib:decide (0≤(Iz))=true:=decide_eq_true c5;clear c5
    by_cases c6:(Iz:Int).toNat≤281474976710656
    rotate_left
    ·rw [if_neg c6] at H
     exact absurd H (by simp)
    rw [if_pos c6] at H;have pR:=eq_true c6;have wG:decide ((Iz:Int).toNat≤281474976710656)=true:=decide_eq_true c6;clear c6;obtain⟨y337,Ah⟩:∃y_:List Bool,y_=(List.replicate (Iz:Int).toNat false):=⟨_,rfl⟩;replace H:(if dD.length<5864062014805 then(regletref13_marks.l0 k1 (dD++ [y337]) (wrap64 (bY+1)) aU aX bB bK aQ) else(none))=some r:=by first|(rw [Ah];with_reducible exact H)|(have H2_:=(Option.bind_some _ _).symm.trans H;rw [Ah];with_reducible exact H2_)|(have H2_:=(Option.bind_some _ _).symm.trans H;with_reducible exact H2_)|with_reducible exact H|(rw [Ah];exact H)|exact H
    have Pv:=aM Ah;clear Ah
    by_cases c7:dD.length<5864062014805
    rotate_left
    ·rw [if_neg c7] at H
     exact absurd H (by simp)
    rw [if_pos c7] at H;have Rl:=aM c7;clear c7;obtain⟨y340,Ai⟩:∃y_:List (List Bool),y_=(dD++ [y337]):=⟨_,rfl⟩;replace H:(regletref13_marks.l0 k1 y340 (wrap64 (bY+1)) aU aX bB bK aQ)=some r:=by first|(rw [Ai];with_reducible exact H)|(have H2_:=(Option.bind_some _ _).symm.trans H;rw [Ai];with_reducible exact H2_)|(have H2_:=(Option.bind_some _ _).symm.trans H;with_reducible exact H2_)|with_reducible exact H|(rw [Ai];exact H)|exact H
    have Uj:=aM Ai;clear Ai;have H':=aM H;clear H;have jO:wr.cell? ⟨mV,0,none⟩=some (.slice bR aU.length bS):=(aG gE.out 0).trans rfl;have jP:wr.cell? ⟨mV,1,none⟩=some (.slice bU aX.length bV):=(aG gE.out 1).trans rfl;have lR:wr.cell? ⟨mV,2,none⟩=some (.int .i64 bB):=(aG gE.out 2).trans rfl;have lS:wr.cell? ⟨mV,3,none⟩=some (.int .i64 bK):=(aG gE.out 3).trans rfl;have lT:wr.cell? ⟨mV,4,none⟩=some (.slice cC aQ.length bX):=(aG gE.out 4).trans rfl;have jQ:=aH gE.out 0;have jR:=aH gE.out 1;have lU:=aH gE.out 2;have lV:=aH gE.out 3;have lW:=aH gE.out 4
    go_wp2_with (first|((with_reducible refine bJ (N:=17) rfl ?_);refine Kd.R_make Kd.bool _ 4 rfl (N:=17) rfl 90 _ _ rfl Iz rfl rfl Try.underlying90 (.bool false) 1 info4 rfl (by decide) (by omega) false (ok:=fun _=>True) (okp:=fun _=>True) rfl (fun _ hk=>hk) trivial (of_decide_eq_true (by first|(with_reducible assumption)|assumption)) (Nat.le_trans (Nat.mul_le_mul_right _ (of_decide_eq_true (by first|(with_reducible assumption)|assumption):Iz.toNat≤281474976710656)) (by omega)) (Below.refl _ _) (Nat.le_refl _) ?_;intro v338 w9 ho10 hb hg_ hnew_;clear hg_ hnew_;(first|rw [←Pv.out] at ho10|(simp only [Int.reduceToNat] at ho10;rw [←Pv.out] at ho10));have cH:=aM (Kd.S_elder' (gS fI.out) (Kd.R_base ho10) hb);have cI:=aM (bL ho10 (bH (gW HB.out)));have cK:=aM (bF (gB gE.out) hb);have cQ:=aM (bG (gW HB.out) hb);clear fI;clear gE;clear HB;have fI:=cH;have Fp:=cI;have gE:=cK;have HB:=cQ;clear cH cI cK cQ;clear hb ho10;obtain⟨Uk,Ul,FC⟩:=Kd.R_slice Fp.out;subst FC)|((with_reducible refine gate_builtin (b:= .append) (xs:=#[.tmp 12,.tmp 18]) rfl ?_);at_builtin;refine Kd.S_append (Kd.slice 4 Kd.bool) (w0:=w) w.heap.size rfl (.tmp 12) (.tmp 18) 88 90 (.slice none 0 0) 24 rfl Try.underlying88 info90 rfl (by decide) (by omega) u3 dD y337 [.slice Uk y337.length Ul] (fun _=>True) (fun k_=>some k_=(.slice Uk y337.length Ul:Value).ownBlock) rfl rfl ?aP (fun k_ hk_=>((Kd.R_mono (ok':=fun k_=>((fun _=>True)) k_∧some k_≠(u3:Value).ownBlock) (Kd.R_apart' (Fp.out) (Kd.S_typed fI.out) (by decide)) (fun k_ hk=>⟨trivial,hk.2⟩))).1 k_ hk_.symm) ?aF ?aO ?aB ?aS ?aL ?_;(case aP=>exact Kd.M_row (Kd.R_mono (Kd.R_tight rfl (Kd.R_mono (ok':=fun k_=>((fun _=>True)) k_∧some k_≠(u3:Value).ownBlock) (Kd.R_apart' (Fp.out) (Kd.S_typed fI.out) (by decide)) (fun k_ hk=>⟨trivial,hk.2⟩))) (fun _ h_=>h_)));(case aB=>exact(gW HB.out));(case aF=>exact(fun _ _=>trivial));(case aO=>exact(by(with_reducible repeat(first|apply Kd.S_alloc|apply aV|apply aW));exact Kd.S_mono fI.out (fun k_ hk=>⟨trivial,fun e_=>hk.2 e_⟩)));(case aS=>exact(bH (gW HB.out)));(case aL=>have:=Rl.out;omega);intro v341 w11 ho hb hg hat;rw [←Uj.out] at ho;have cH:=aM (blk_grown (gB gE.out) hg (Kd.S_ne fI.out gE.out (by decide)));have cI:=aM (hb);have cK:=aM (ho);clear gE;clear HB;clear fI;clear Fp;have gE:=cH;have HB:=cI;have Um:=cK;clear cH cI cK;clear ho hb hg hat))
    go_roundg k1
    case measure=>have:=HK1.out;omega
    case rel=>exact⟨(y340),(wrap64 (bY+1)),(by first|rfl|(simp;done)|(simp [*];done)),H',⟨by have:=HK1.out;omega⟩,⟨gS Um.out⟩,⟨gB gE.out⟩,⟨gW HB.out⟩⟩
   ·rw [if_neg c3] at H
    have pM:decide (bY<(aU.length:Int))=false:=decide_eq_false c3;clear c3;obtain rfl:=Option.some.inj H;have BG:wr.cell? ⟨mV,0,none⟩=some (.slice bR aU.length bS):=(aG gE.out 0).trans rfl;have BH:wr.cell? ⟨mV,1,none⟩=some (.slice bU aX.length bV):=(aG gE.out 1).trans rfl;have BI:wr.cell? ⟨mV,2,none⟩=some (.int .i64 bB):=(aG gE.out 2).trans rfl;have BJ:wr.cell? ⟨mV,3,none⟩=some (.int .i64 bK):=(aG gE.out 3).trans rfl;have BM:wr.cell? ⟨mV,4,none⟩=some (.slice cC aQ.length bX):=(aG gE.out 4).trans rfl;have BN:=aH gE.out 0;have BO:=aH gE.out 1;have BP:=aH gE.out 2;have BQ:=aH gE.out 3;have BR:=aH gE.out 4;go_wp2
    go_ret
    exact⟨_,by first|rfl|(simp [errW_none,errW_some]<;>rfl)|(simp [*,errW_none,errW_some]<;>rfl),gS fI.out,gW HB.out⟩
attribute [local go_sem] max2_int min2_int max_two min_two max_three min_three max_four min_four   -- for this text's walks alone
set_option linter.unusedVariables false
set_option linter.unusedSimpArgs false
def regletref13_join.l0:Nat→List Bool→List Bool→Bool→Int→Option (Bool×List Bool)
 |0,_,_,_,_=>none
 |k+1,x0,x1,x5,x6=>if x6<(x0.length:Int) then(if x5=true then(if 0≤x6 then(if rdOf false x0 x6=true then(regletref13_join.l0 k (x0.set (x6:Int).toNat true) x1 true (wrap64 (x6+1))) else(if x6<(x1.length:Int) then(regletref13_join.l0 k (x0.set (x6:Int).toNat (rdOf false x1 x6)) x1 true (wrap64 (x6+1))) else(none))) else(none)) else(if 0≤x6 then(if x6<(x1.length:Int) then(if rdOf false x1 x6=true then(if rdOf false x0 x6=true then(regletref13_join.l0 k (x0.set (x6:Int).toNat true) x1 (!(rdOf false x0 x6)) (wrap64 (x6+1))) else(regletref13_join.l0 k (x0.set (x6:Int).toNat (rdOf false x1 x6)) x1 (!(rdOf false x0 x6)) (wrap64 (x6+1)))) else(if rdOf false x0 x6=true then(regletref13_join.l0 k (x0.set (x6:Int).toNat true) x1 false (wrap64 (x6+1))) else(regletref13_join.l0 k (x0.set (x6:Int).toNat (rdOf false x1 x6)) x1 false (wrap64 (x6+1))))) else(none)) else(none))) else(some (x5,x0))
def regletref13_join.f (k:Nat) (l0:List Bool) (l1:List Bool):Option (Bool×List Bool):=regletref13_join.l0 k l0 l1 false 0
set_option maxHeartbeats 8000000 in
set_option maxRecDepth 100000 in
theorem regletref13_join.calls (k:Nat) (P0_:Nat→Prop) (u9000_:Value) (l0:List Bool) (A1:Option Addr) (c1:Nat) (l1:List Bool) (r1:Bool) (r2:List Bool) (w0 w:World) (hB:Below w0.heap.size w0 w) (ho0:Kd.R Kd.bool 4 w w0.heap.size P0_ u9000_ l0) (hr1:∀W_,Kept w W_ (fun k_=>P0_ k_)→Kd.C Kd.bool W_ A1 l1.length l1) (hc1:l1.length≤c1) (h:regletref13_join.f k l0 l1=some (r1,r2)):
 Calls Try.prog 47 #[u9000_,.slice A1 l1.length c1] w fun e w'=>e= .returned (.bool r1)∧Kd.R Kd.bool 4 w' w0.heap.size (fun k_=>(P0_ k_∨w.heap.size≤k_)) u9000_ r2∧Below w0.heap.size w0 w'∧Kept w w' (fun k_=>P0_ k_):=by
 have Un:=aM (show Kd.R Kd.bool 4 w w0.heap.size (fun k_=>(P0_ k_∨w.heap.size≤k_)) u9000_ l0 from Kd.R_mono ho0 (fun k_ hk=>(.inl hk)));have HR1:=aM hr1;have HC1:=aM hc1;clear hr1 hc1;have HK:=aM (Kept.refl w (fun k_=>P0_ k_));have HW0:=aM hB.size;have HB:=aM hB;clear hB;have H:(regletref13_join.l0 k l0 l1 false 0)=some (r1,r2):=h;clear h;have H':=aM H;clear H;go_enter Try.func47,Try.ntmps47
 go_wp2
 go_loopg [5,6] k (fun kq v5 v6 w'=>∃(eN:List Bool) (eY:Bool) (bW:Int),v5= .bool eY∧v6= .int .i64 bW∧Aside0 (regletref13_join.l0 kq eN l1 eY bW=some (r1,r2))∧Aside0 (kq≤k)∧Aside0 (Kd.R Kd.bool 4 w' w0.heap.size (fun k_=>(P0_ k_∨w.heap.size≤k_)) u9000_ eN)∧Aside0 (Kept w w' (fun k_=>P0_ k_))∧Aside0 (Below w0.heap.size w0 w'))
 case atStart=>exact⟨(l0),(false),(0),(by first|rfl|(simp;done)|(simp [*];done)),(by first|rfl|(simp;done)|(simp [*];done)),H',⟨Nat.le_refl _⟩,⟨gR Un.out⟩,⟨by repeat(first|(with_reducible first|exact HK.out|apply Kept.alloc|apply Kept.drewN|apply Kept.drew)|exact HK.out)⟩,⟨gW HB.out⟩⟩
 case round=>
  clear H'
  (try clear c1);(try clear p2)
  obtain⟨eN,eY,bW,rfl,rfl,HA,HK1,fE,HK,HB⟩:=hrel
  cases gk with
  |zero=>exact absurd HA.out (by simp [regletref13_join.l0])
  |succ k1=>
   have H:=HA.out;clear HA;simp only [regletref13_join.l0] at H
   by_cases c3:bW<(eN.length:Int)
   ·rw [if_pos c3] at H
    have pM:decide (bW<(eN.length:Int))=true:=decide_eq_true c3;clear c3
    by_cases c4:eY=true
    ·subst c4
     have H1:(if 0≤bW then(if rdOf false eN bW=true then(regletref13_join.l0 k1 (eN.set (bW:Int).toNat true) l1 true (wrap64 (bW+1))) else(if bW<(l1.length:Int) then(regletref13_join.l0 k1 (eN.set (bW:Int).toNat (rdOf false l1 bW)) l1 true (wrap64 (bW+1))) else(none))) else(none))=some (r1,r2):=by rw [if_pos rfl] at H;exact H
     clear H;have H:=H1;clear H1
     by_cases c5:0≤bW
     rotate_left
     ·rw [if_neg c5] at H
      exact absurd H (by simp)
     rw [if_pos c5] at H;have vD:decide (0≤bW)=true:=decide_eq_true c5;clear c5;obtain⟨bq6,hbq6⟩:∃b_:Bool,b_=(rdOf false eN bW):=⟨_,rfl⟩;replace H:(if bq6=true then(regletref13_join.l0 k1 (eN.set (bW:Int).toNat true) l1 true (wrap64 (bW+1))) else(if bW<(l1.length:Int) then(regletref13_join.l0 k1 (eN.set (bW:Int).toNat (rdOf false l1 bW)) l1 true (wrap64 (bW+1))) else(none)))=some (r1,r2):=by rw [←hbq6] at H;exact H
     have Nbq6:=aM hbq6;clear hbq6
     by_cases c7:bq6=true
     ·subst c7
      have H1:(regletref13_join.l0 k1 (eN.set (bW:Int).toNat true) l1 true (wrap64 (bW+1)))=some (r1,r2):=by rw [if_pos rfl] at H;exact H
      clear H;have H:=H1;clear H1;obtain⟨y358,Aj⟩:∃y_:List Bool,y_=(eN.set (bW:Int).toNat true):=⟨_,rfl⟩;replace H:(regletref13_join.l0 k1 y358 l1 true (wrap64 (bW+1)))=some (r1,r2):=by first|(rw [Aj];with_reducible exact H)|(have H2_:=(Option.bind_some _ _).symm.trans H;rw [Aj];with_reducible exact H2_)|(have H2_:=(Option.bind_some _ _).symm.trans H;with_reducible exact H2_)|with_reducible exact H|(rw [Aj];exact H)|exact H
      have Uo:=aM Aj;clear Aj;have H':=aM H;clear H;obtain⟨Rm,Ph,EJ⟩:=Kd.R_slice fE.out;subst EJ;have p357:0≤(bW:Int):=of_decide_eq_true (by first|(with_reducible assumption)|assumption);have q357:bW<(eN.length:Int):=of_decide_eq_true (by first|(with_reducible assumption)|assumption);obtain⟨Up,e357,rA⟩:=Kd.at_bool (aF fE.out).2.2 bW p357 q357
      (try rw [←Nbq6.out] at rA)
      cases e357;replace p357:=eq_true p357;replace q357:=eq_true q357;have p8:0≤(bW:Int):=of_decide_eq_true (by first|(with_reducible assumption)|assumption);have q8:(bW:Int)<((eN.length:Int):Int):=of_decide_eq_true (by first|(with_reducible assumption)|assumption);obtain⟨go8,EI,Yt,IY,gl8,cl8,HG8⟩:=Kd.R_form fE.out (by omega)
      (first|cases Yt|(injection Yt with ea_ en_ ec_;(first|subst ea_|(injection ea_ with ea_;subst ea_));subst ec_;clear en_))
      have GB8:=aM IY;have GG8:=aM HG8;clear IY gl8 HG8;have HMgo8:=aM (show(P0_ go8∨w.heap.size≤go8) from(fE.out.1 _ rfl))
      (first|simp only [add_plain] at rA|skip)
      obtain⟨IZ,hf8_0⟩:=Kd.R_celln false fE.out (bW:Int) p8 q8;replace p8:=eq_true p8;replace q8:=eq_true q8;have HP10:=Kd.R_putg fE.out (bW:Int) true
      go_wp2_with (first|((with_reducible refine gate_store (t:=4) (p:=39) rfl ?_);refine store_event (t:=4) (p:=39) (v:=?vo_w11) (w1:=(wr.setCell ⟨go8,(bW:Int).toNat,none⟩ (.bool true))) ?hg ?ho ?hn ?hr ?_;(case ho=>rfl);(case hg=>rfl);(case hn=>rfl);(case hr=>first|(go_simp;done)|(go_simp;rfl));intro w11 hw;have hg:wr.grownBy w11 (some go8):=(by rw [hw];exact HP10.2);have hp_:Kd.R Kd.bool 4 w11 w0.heap.size (fun k_=>(P0_ k_∨w.heap.size≤k_)) (.slice (some ⟨go8,0,none⟩) eN.length Ph) y358:=(by rw [hw,Uo.out];exact HP10.1);clear HP10;have cH:=aM (hp_);have cI:=aM ((by rw [hw];exact aL (HB.out) GB8.out:Below w0.heap.size w0 w11));have cK:=aM (Kept.of_grown (S:=(fun k_=>P0_ k_)) hg (by repeat(first|(with_reducible first|exact HK.out|apply Kept.alloc|apply Kept.drewN|apply Kept.drew)|exact HK.out)) (fun k_ e_=>(fE.out.1 k_ e_)));clear fE;clear HB;clear HK;have fE:=cH;have HB:=cI;have HK:=cK;clear cH cI cK;clear hg hw hp_))
      go_roundg k1
      case measure=>have:=HK1.out;omega
      case rel=>exact⟨(y358),(true),(wrap64 (bW+1)),(by first|rfl|(simp;done)|(simp [*];done)),(by first|rfl|(simp;done)|(simp [*];done)),H',⟨by have:=HK1.out;omega⟩,⟨gR fE.out⟩,⟨by repeat(first|(with_reducible first|exact HK.out|apply Kept.alloc|apply Kept.drewN|apply Kept.drew)|exact HK.out)⟩,⟨gW HB.out⟩⟩
     ·replace c7:=Bool.eq_false_iff.mpr c7
      subst c7;have H1:(if bW<(l1.length:Int) then(regletref13_join.l0 k1 (eN.set (bW:Int).toNat (rdOf false l1 bW)) l1 true (wrap64 (bW+1))) else(none))=some (r1,r2):=by rw [if_neg (show ¬(false=true) by decide)] at H;exact H
      clear H;have H:=H1;clear H1
      by_cases c12:bW<(l1.length:Int)
      rotate_left
      ·rw [if_neg c12] at H
       exact absurd H (by simp)
      rw [if_pos c12] at H;have Ja:decide (bW<(l1.length:Int))=true:=decide_eq_true c12;clear c12;obtain⟨y360,Ak⟩:∃y_:List Bool,y_=(eN.set (bW:Int).toNat (rdOf false l1 bW)):=⟨_,rfl⟩;replace H:(regletref13_join.l0 k1 y360 l1 true (wrap64 (bW+1)))=some (r1,r2):=by first|(rw [Ak];with_reducible exact H)|(have H2_:=(Option.bind_some _ _).symm.trans H;rw [Ak];with_reducible exact H2_)|(have H2_:=(Option.bind_some _ _).symm.trans H;with_reducible exact H2_)|with_reducible exact H|(rw [Ak];exact H)|exact H
      have Uq:=aM Ak;clear Ak;have H':=aM H;clear H;obtain⟨oH,nQ,Sb⟩:=Kd.R_slice fE.out;subst Sb;have p357:0≤(bW:Int):=of_decide_eq_true (by first|(with_reducible assumption)|assumption);have q357:bW<(eN.length:Int):=of_decide_eq_true (by first|(with_reducible assumption)|assumption);obtain⟨Up,e357,rA⟩:=Kd.at_bool (aF fE.out).2.2 bW p357 q357
      (try rw [←Nbq6.out] at rA)
      cases e357;replace p357:=eq_true p357;replace q357:=eq_true q357;have p359:0≤(bW:Int):=of_decide_eq_true (by first|(with_reducible assumption)|assumption);have q359:bW<(l1.length:Int):=of_decide_eq_true (by first|(with_reducible assumption)|assumption);obtain⟨JA,e359,Mj⟩:=Kd.at_bool (Kd.C_kept_now HR1.out HK.out) bW p359 q359
      (try rw [←Nbq6.out] at Mj)
      cases e359;replace p359:=eq_true p359;replace q359:=eq_true q359;have p13:0≤(bW:Int):=of_decide_eq_true (by first|(with_reducible assumption)|assumption);have q13:(bW:Int)<((eN.length:Int):Int):=of_decide_eq_true (by first|(with_reducible assumption)|assumption);obtain⟨go13,mS,Mk,Ur,gl13,cl13,HG13⟩:=Kd.R_form fE.out (by omega)
      (first|cases Mk|(injection Mk with ea_ en_ ec_;(first|subst ea_|(injection ea_ with ea_;subst ea_));subst ec_;clear en_))
      have GB13:=aM Ur;have GG13:=aM HG13;clear Ur gl13 HG13;have HMgo13:=aM (show(P0_ go13∨w.heap.size≤go13) from(fE.out.1 _ rfl))
      (first|simp only [add_plain] at rA|skip)
      obtain⟨FD,hf13_0⟩:=Kd.R_celln false fE.out (bW:Int) p13 q13;replace p13:=eq_true p13;replace q13:=eq_true q13;have HP15:=Kd.R_putg fE.out (bW:Int) (rdOf false l1 bW)
      go_wp2_with (first|((with_reducible refine gate_store (t:=4) (p:=39) rfl ?_);refine store_event (t:=4) (p:=39) (v:=?vo_w16) (w1:=(wr.setCell ⟨go13,(bW:Int).toNat,none⟩ (.bool (rdOf false l1 bW)))) ?hg ?ho ?hn ?hr ?_;(case ho=>rfl);(case hg=>rfl);(case hn=>rfl);(case hr=>first|(go_simp;done)|(go_simp;rfl));intro w16 hw;have hg:wr.grownBy w16 (some go13):=(by rw [hw];exact HP15.2);have hp_:Kd.R Kd.bool 4 w16 w0.heap.size (fun k_=>(P0_ k_∨w.heap.size≤k_)) (.slice (some ⟨go13,0,none⟩) eN.length nQ) y360:=(by rw [hw,Uq.out];exact HP15.1);clear HP15;have cH:=aM (hp_);have cI:=aM ((by rw [hw];exact aL (HB.out) GB13.out:Below w0.heap.size w0 w16));have cK:=aM (Kept.of_grown (S:=(fun k_=>P0_ k_)) hg (by repeat(first|(with_reducible first|exact HK.out|apply Kept.alloc|apply Kept.drewN|apply Kept.drew)|exact HK.out)) (fun k_ e_=>(fE.out.1 k_ e_)));clear fE;clear HB;clear HK;have fE:=cH;have HB:=cI;have HK:=cK;clear cH cI cK;clear hg hw hp_))
      go_roundg k1
      case measure=>have:=HK1.out;omega
      case rel=>exact⟨(y360),(true),(wrap64 (bW+1)),(by first|rfl|(simp;done)|(simp [*];done)),(by first|rfl|(simp;done)|(simp [*];done)),H',⟨by have:=HK1.out;omega⟩,⟨gR fE.out⟩,⟨by repeat(first|(with_reducible first|exact HK.out|apply Kept.alloc|apply Kept.drewN|apply Kept.drew)|exact HK.out)⟩,⟨gW HB.out⟩⟩
    ·replace c4:=Bool.eq_false_iff.mpr c4
     subst c4;have H1:(if 0≤bW then(if bW<(l1.length:Int) then(if rdOf false l1 bW=true then(if rdOf false eN bW=true then(regletref13_join.l0 k1 (eN.set (bW:Int).toNat true) l1 (!(rdOf false eN bW)) (wrap64 (bW+1))) else(regletref13_join.l0 k1 (eN.set (bW:Int).toNat (rdOf false l1 bW)) l1 (!(rdOf false eN bW)) (wrap64 (bW+1)))) else(if rdOf false eN bW=true then(regletref13_join.l0 k1 (eN.set (bW:Int).toNat true) l1 false (wrap64 (bW+1))) else(regletref13_join.l0 k1 (eN.set (bW:Int).toNat (rdOf false l1 bW)) l1 false (wrap64 (bW+1))))) else(none)) else(none))=some (r1,r2):=by rw [if_neg (show ¬(false=true) by decide)] at H;exact H
     clear H;have H:=H1;clear H1
     by_cases c17:0≤bW
     rotate_left
     ·rw [if_neg c17] at H
      exact absurd H (by simp)
     rw [if_pos c17] at H;have vG:decide (0≤bW)=true:=decide_eq_true c17;clear c17
     by_cases c18:bW<(l1.length:Int)
     rotate_left
     ·rw [if_neg c18] at H
      exact absurd H (by simp)
     rw [if_pos c18] at H;have Pt:decide (bW<(l1.length:Int))=true:=decide_eq_true c18;clear c18;obtain⟨bq19,hbq19⟩:∃b_:Bool,b_=(rdOf false l1 bW):=⟨_,rfl⟩;replace H:(if bq19=true then(if rdOf false eN bW=true then(regletref13_join.l0 k1 (eN.set (bW:Int).toNat true) l1 (!(rdOf false eN bW)) (wrap64 (bW+1))) else(regletref13_join.l0 k1 (eN.set (bW:Int).toNat (bq19)) l1 (!(rdOf false eN bW)) (wrap64 (bW+1)))) else(if rdOf false eN bW=true then(regletref13_join.l0 k1 (eN.set (bW:Int).toNat true) l1 false (wrap64 (bW+1))) else(regletref13_join.l0 k1 (eN.set (bW:Int).toNat (bq19)) l1 false (wrap64 (bW+1)))))=some (r1,r2):=by rw [←hbq19] at H;exact H
     have Nbq19:=aM hbq19;clear hbq19
     by_cases c20:bq19=true
     ·subst c20
      have H1:(if rdOf false eN bW=true then(regletref13_join.l0 k1 (eN.set (bW:Int).toNat true) l1 (!(rdOf false eN bW)) (wrap64 (bW+1))) else(regletref13_join.l0 k1 (eN.set (bW:Int).toNat (true)) l1 (!(rdOf false eN bW)) (wrap64 (bW+1))))=some (r1,r2):=by rw [if_pos rfl] at H;exact H
      clear H;have H:=H1;clear H1;obtain⟨bq21,hbq21⟩:∃b_:Bool,b_=(rdOf false eN bW):=⟨_,rfl⟩;replace H:(if bq21=true then(regletref13_join.l0 k1 (eN.set (bW:Int).toNat true) l1 (!(bq21)) (wrap64 (bW+1))) else(regletref13_join.l0 k1 (eN.set (bW:Int).toNat (true)) l1 (!(bq21)) (wrap64 (bW+1))))=some (r1,r2):=by rw [←hbq21] at H;exact H
      have Nbq21:=aM hbq21;clear hbq21
      by_cases c22:bq21=true
      ·subst c22
       have H1:(regletref13_join.l0 k1 (eN.set (bW:Int).toNat true) l1 (!(true)) (wrap64 (bW+1)))=some (r1,r2):=by rw [if_pos rfl] at H;exact H
       clear H;have H:=H1;clear H1;obtain⟨y364,Al⟩:∃y_:List Bool,y_=(eN.set (bW:Int).toNat true):=⟨_,rfl⟩;replace H:(regletref13_join.l0 k1 y364 l1 (!(true)) (wrap64 (bW+1)))=some (r1,r2):=by first|(rw [Al];with_reducible exact H)|(have H2_:=(Option.bind_some _ _).symm.trans H;rw [Al];with_reducible exact H2_)|(have H2_:=(Option.bind_some _ _).symm.trans H;with_reducible exact H2_)|with_reducible exact H|(rw [Al];exact H)|exact H
       have Us:=aM Al;clear Al;have H':=aM H;clear H;obtain⟨KH,FE,FF⟩:=Kd.R_slice fE.out;subst FF;have p361:0≤(bW:Int):=of_decide_eq_true (by first|(with_reducible assumption)|assumption);have q361:bW<(l1.length:Int):=of_decide_eq_true (by first|(with_reducible assumption)|assumption);obtain⟨Am,e361,jY⟩:=Kd.at_bool (Kd.C_kept_now HR1.out HK.out) bW p361 q361
       (try rw [←Nbq19.out] at jY)
       (try rw [←Nbq21.out] at jY)
       cases e361;replace p361:=eq_true p361;replace q361:=eq_true q361;have p362:0≤(bW:Int):=of_decide_eq_true (by first|(with_reducible assumption)|assumption);have q362:bW<(eN.length:Int):=of_decide_eq_true (by first|(with_reducible assumption)|assumption);obtain⟨Jb,e362,nR⟩:=Kd.at_bool (aF fE.out).2.2 bW p362 q362
       (try rw [←Nbq19.out] at nR)
       (try rw [←Nbq21.out] at nR)
       cases e362;replace p362:=eq_true p362;replace q362:=eq_true q362;have p363:0≤(bW:Int):=of_decide_eq_true (by first|(with_reducible assumption)|assumption);have q363:bW<(eN.length:Int):=of_decide_eq_true (by first|(with_reducible assumption)|assumption);obtain⟨Jc,e363,nS⟩:=Kd.at_bool (aF fE.out).2.2 bW p363 q363
       (try rw [←Nbq19.out] at nS)
       (try rw [←Nbq21.out] at nS)
       obtain rfl:Jb=Jc:=(by injection e363);replace p363:=eq_true p363;replace q363:=eq_true q363;have p23:0≤(bW:Int):=of_decide_eq_true (by first|(with_reducible assumption)|assumption);have q23:(bW:Int)<((eN.length:Int):Int):=of_decide_eq_true (by first|(with_reducible assumption)|assumption);obtain⟨go23,KI,Ut,Uu,gl23,cl23,HG23⟩:=Kd.R_form fE.out (by omega)
       (first|cases Ut|(injection Ut with ea_ en_ ec_;(first|subst ea_|(injection ea_ with ea_;subst ea_));subst ec_;clear en_))
       have GB23:=aM Uu;have GG23:=aM HG23;clear Uu gl23 HG23;have HMgo23:=aM (show(P0_ go23∨w.heap.size≤go23) from(fE.out.1 _ rfl))
       (first|simp only [add_plain] at nR|skip)
       (first|simp only [add_plain] at nS|skip)
       obtain⟨FG,hf23_0⟩:=Kd.R_celln false fE.out (bW:Int) p23 q23;replace p23:=eq_true p23;replace q23:=eq_true q23;have HP25:=Kd.R_putg fE.out (bW:Int) true
       go_wp2_with (first|((with_reducible refine gate_store (t:=4) (p:=39) rfl ?_);refine store_event (t:=4) (p:=39) (v:=?vo_w26) (w1:=(wr.setCell ⟨go23,(bW:Int).toNat,none⟩ (.bool true))) ?hg ?ho ?hn ?hr ?_;(case ho=>rfl);(case hg=>rfl);(case hn=>rfl);(case hr=>first|(go_simp;done)|(go_simp;rfl));intro w26 hw;have hg:wr.grownBy w26 (some go23):=(by rw [hw];exact HP25.2);have hp_:Kd.R Kd.bool 4 w26 w0.heap.size (fun k_=>(P0_ k_∨w.heap.size≤k_)) (.slice (some ⟨go23,0,none⟩) eN.length FE) y364:=(by rw [hw,Us.out];exact HP25.1);clear HP25;have cH:=aM (hp_);have cI:=aM ((by rw [hw];exact aL (HB.out) GB23.out:Below w0.heap.size w0 w26));have cK:=aM (Kept.of_grown (S:=(fun k_=>P0_ k_)) hg (by repeat(first|(with_reducible first|exact HK.out|apply Kept.alloc|apply Kept.drewN|apply Kept.drew)|exact HK.out)) (fun k_ e_=>(fE.out.1 k_ e_)));clear fE;clear HB;clear HK;have fE:=cH;have HB:=cI;have HK:=cK;clear cH cI cK;clear hg hw hp_))
       go_roundg k1
       case measure=>have:=HK1.out;omega
       case rel=>exact⟨(y364),(!(true)),(wrap64 (bW+1)),(by first|rfl|(simp;done)|(simp [*];done)),(by first|rfl|(simp;done)|(simp [*];done)),H',⟨by have:=HK1.out;omega⟩,⟨gR fE.out⟩,⟨by repeat(first|(with_reducible first|exact HK.out|apply Kept.alloc|apply Kept.drewN|apply Kept.drew)|exact HK.out)⟩,⟨gW HB.out⟩⟩
      ·replace c22:=Bool.eq_false_iff.mpr c22
       subst c22;have H1:(regletref13_join.l0 k1 (eN.set (bW:Int).toNat (true)) l1 (!(false)) (wrap64 (bW+1)))=some (r1,r2):=by rw [if_neg (show ¬(false=true) by decide)] at H;exact H
       clear H;have H:=H1;clear H1;obtain⟨y366,Ar⟩:∃y_:List Bool,y_=(eN.set (bW:Int).toNat (true)):=⟨_,rfl⟩;replace H:(regletref13_join.l0 k1 y366 l1 (!(false)) (wrap64 (bW+1)))=some (r1,r2):=by first|(rw [Ar];with_reducible exact H)|(have H2_:=(Option.bind_some _ _).symm.trans H;rw [Ar];with_reducible exact H2_)|(have H2_:=(Option.bind_some _ _).symm.trans H;with_reducible exact H2_)|with_reducible exact H|(rw [Ar];exact H)|exact H
       have Uv:=aM Ar;clear Ar;have H':=aM H;clear H;obtain⟨sK,rB,Sc⟩:=Kd.R_slice fE.out;subst Sc;have p361:0≤(bW:Int):=of_decide_eq_true (by first|(with_reducible assumption)|assumption);have q361:bW<(l1.length:Int):=of_decide_eq_true (by first|(with_reducible assumption)|assumption);obtain⟨Am,e361,jY⟩:=Kd.at_bool (Kd.C_kept_now HR1.out HK.out) bW p361 q361
       (try rw [←Nbq19.out] at jY)
       (try rw [←Nbq21.out] at jY)
       cases e361;replace p361:=eq_true p361;replace q361:=eq_true q361;have p362:0≤(bW:Int):=of_decide_eq_true (by first|(with_reducible assumption)|assumption);have q362:bW<(eN.length:Int):=of_decide_eq_true (by first|(with_reducible assumption)|assumption);obtain⟨Jb,e362,nR⟩:=Kd.at_bool (aF fE.out).2.2 bW p362 q362
       (try rw [←Nbq19.out] at nR)
       (try rw [←Nbq21.out] at nR)
       cases e362;replace p362:=eq_true p362;replace q362:=eq_true q362;have p363:0≤(bW:Int):=of_decide_eq_true (by first|(with_reducible assumption)|assumption);have q363:bW<(eN.length:Int):=of_decide_eq_true (by first|(with_reducible assumption)|assumption);obtain⟨Jc,e363,nS⟩:=Kd.at_bool (aF fE.out).2.2 bW p363 q363
       (try rw [←Nbq19.out] at nS)
       (try rw [←Nbq21.out] at nS)
       obtain rfl:Jb=Jc:=(by injection e363);replace p363:=eq_true p363;replace q363:=eq_true q363;have p365:0≤(bW:Int):=of_decide_eq_true (by first|(with_reducible assumption)|assumption);have q365:bW<(l1.length:Int):=of_decide_eq_true (by first|(with_reducible assumption)|assumption);obtain⟨Uw,e365,Fq⟩:=Kd.at_bool (Kd.C_kept_now HR1.out HK.out) bW p365 q365
       (try rw [←Nbq19.out] at Fq)
       (try rw [←Nbq21.out] at Fq)
       obtain rfl:Am=Uw:=(by injection e365);replace p365:=eq_true p365;replace q365:=eq_true q365;have p27:0≤(bW:Int):=of_decide_eq_true (by first|(with_reducible assumption)|assumption);have q27:(bW:Int)<((eN.length:Int):Int):=of_decide_eq_true (by first|(with_reducible assumption)|assumption);obtain⟨go27,oI,Aw,Ux,gl27,cl27,HG27⟩:=Kd.R_form fE.out (by omega)
       (first|cases Aw|(injection Aw with ea_ en_ ec_;(first|subst ea_|(injection ea_ with ea_;subst ea_));subst ec_;clear en_))
       have GB27:=aM Ux;have GG27:=aM HG27;clear Ux gl27 HG27;have HMgo27:=aM (show(P0_ go27∨w.heap.size≤go27) from(fE.out.1 _ rfl))
       (first|simp only [add_plain] at nR|skip)
       (first|simp only [add_plain] at nS|skip)
       obtain⟨FH,hf27_0⟩:=Kd.R_celln false fE.out (bW:Int) p27 q27;replace p27:=eq_true p27;replace q27:=eq_true q27;have HP29:=Kd.R_putg fE.out (bW:Int) true
       go_wp2_with (first|((with_reducible refine gate_store (t:=4) (p:=39) rfl ?_);refine store_event (t:=4) (p:=39) (v:=?vo_w30) (w1:=(wr.setCell ⟨go27,(bW:Int).toNat,none⟩ (.bool true))) ?hg ?ho ?hn ?hr ?_;(case ho=>rfl);(case hg=>rfl);(case hn=>rfl);(case hr=>first|(go_simp;done)|(go_simp;rfl));intro w30 hw;have hg:wr.grownBy w30 (some go27):=(by rw [hw];exact HP29.2);have hp_:Kd.R Kd.bool 4 w30 w0.heap.size (fun k_=>(P0_ k_∨w.heap.size≤k_)) (.slice (some ⟨go27,0,none⟩) eN.length rB) y366:=(by rw [hw,Uv.out];exact HP29.1);clear HP29;have cH:=aM (hp_);have cI:=aM ((by rw [hw];exact aL (HB.out) GB27.out:Below w0.heap.size w0 w30));have cK:=aM (Kept.of_grown (S:=(fun k_=>P0_ k_)) hg (by repeat(first|(with_reducible first|exact HK.out|apply Kept.alloc|apply Kept.drewN|apply Kept.drew)|exact HK.out)) (fun k_ e_=>(fE.out.1 k_ e_)));clear fE;clear HB;clear HK;have fE:=cH;have HB:=cI;have HK:=cK;clear cH cI cK;clear hg hw hp_))
       go_roundg k1
       case measure=>have:=HK1.out;omega
       case rel=>exact⟨(y366),(!(false)),(wrap64 (bW+1)),(by first|rfl|(simp;done)|(simp [*];done)),(by first|rfl|(simp;done)|(simp [*];done)),H',⟨by have:=HK1.out;omega⟩,⟨gR fE.out⟩,⟨by repeat(first|(with_reducible first|exact HK.out|apply Kept.alloc|apply Kept.drewN|apply Kept.drew)|exact HK.out)⟩,⟨gW HB.out⟩⟩
     ·replace c20:=Bool.eq_false_iff.mpr c20
      subst c20;have H1:(if rdOf false eN bW=true then(regletref13_join.l0 k1 (eN.set (bW:Int).toNat true) l1 false (wrap64 (bW+1))) else(regletref13_join.l0 k1 (eN.set (bW:Int).toNat (false)) l1 false (wrap64 (bW+1))))=some (r1,r2):=by rw [if_neg (show ¬(false=true) by decide)] at H;exact H
      clear H;have H:=H1;clear H1;obtain⟨bq31,hbq31⟩:∃b_:Bool,b_=(rdOf false eN bW):=⟨_,rfl⟩;replace H:(if bq31=true then(regletref13_join.l0 k1 (eN.set (bW:Int).toNat true) l1 false (wrap64 (bW+1))) else(regletref13_join.l0 k1 (eN.set (bW:Int).toNat (false)) l1 false (wrap64 (bW+1))))=some (r1,r2):=by rw [←hbq31] at H;exact H
      have Nbq31:=aM hbq31;clear hbq31
      by_cases c32:bq31=true
      ·subst c32
       have H1:(regletref13_join.l0 k1 (eN.set (bW:Int).toNat true) l1 false (wrap64 (bW+1)))=some (r1,r2):=by rw [if_pos rfl] at H;exact H
       clear H;have H:=H1;clear H1;obtain⟨y368,Ax⟩:∃y_:List Bool,y_=(eN.set (bW:Int).toNat true):=⟨_,rfl⟩;replace H:(regletref13_join.l0 k1 y368 l1 false (wrap64 (bW+1)))=some (r1,r2):=by first|(rw [Ax];with_reducible exact H)|(have H2_:=(Option.bind_some _ _).symm.trans H;rw [Ax];with_reducible exact H2_)|(have H2_:=(Option.bind_some _ _).symm.trans H;with_reducible exact H2_)|with_reducible exact H|(rw [Ax];exact H)|exact H
       have Uy:=aM Ax;clear Ax;have H':=aM H;clear H;obtain⟨Uz,Sd,Se⟩:=Kd.R_slice fE.out;subst Se;have p361:0≤(bW:Int):=of_decide_eq_true (by first|(with_reducible assumption)|assumption);have q361:bW<(l1.length:Int):=of_decide_eq_true (by first|(with_reducible assumption)|assumption);obtain⟨Am,e361,jY⟩:=Kd.at_bool (Kd.C_kept_now HR1.out HK.out) bW p361 q361
       (try rw [←Nbq19.out] at jY)
       (try rw [←Nbq31.out] at jY)
       cases e361;replace p361:=eq_true p361;replace q361:=eq_true q361;have p367:0≤(bW:Int):=of_decide_eq_true (by first|(with_reducible assumption)|assumption);have q367:bW<(eN.length:Int):=of_decide_eq_true (by first|(with_reducible assumption)|assumption);obtain⟨Va,e367,nT⟩:=Kd.at_bool (aF fE.out).2.2 bW p367 q367
       (try rw [←Nbq19.out] at nT)
       (try rw [←Nbq31.out] at nT)
       cases e367;replace p367:=eq_true p367;replace q367:=eq_true q367;have p33:0≤(bW:Int):=of_decide_eq_true (by first|(with_reducible assumption)|assumption);have q33:(bW:Int)<((eN.length:Int):Int):=of_decide_eq_true (by first|(with_reducible assumption)|assumption);obtain⟨go33,KJ,Vb,Vc,gl33,cl33,HG33⟩:=Kd.R_form fE.out (by omega)
       (first|cases Vb|(injection Vb with ea_ en_ ec_;(first|subst ea_|(injection ea_ with ea_;subst ea_));subst ec_;clear en_))
       have GB33:=aM Vc;have GG33:=aM HG33;clear Vc gl33 HG33;have HMgo33:=aM (show(P0_ go33∨w.heap.size≤go33) from(fE.out.1 _ rfl))
       (first|simp only [add_plain] at nT|skip)
       obtain⟨FI,hf33_0⟩:=Kd.R_celln false fE.out (bW:Int) p33 q33;replace p33:=eq_true p33;replace q33:=eq_true q33;have HP35:=Kd.R_putg fE.out (bW:Int) true
       go_wp2_with (first|((with_reducible refine gate_store (t:=4) (p:=39) rfl ?_);refine store_event (t:=4) (p:=39) (v:=?vo_w36) (w1:=(wr.setCell ⟨go33,(bW:Int).toNat,none⟩ (.bool true))) ?hg ?ho ?hn ?hr ?_;(case ho=>rfl);(case hg=>rfl);(case hn=>rfl);(case hr=>first|(go_simp;done)|(go_simp;rfl));intro w36 hw;have hg:wr.grownBy w36 (some go33):=(by rw [hw];exact HP35.2);have hp_:Kd.R Kd.bool 4 w36 w0.heap.size (fun k_=>(P0_ k_∨w.heap.size≤k_)) (.slice (some ⟨go33,0,none⟩) eN.length Sd) y368:=(by rw [hw,Uy.out];exact HP35.1);clear HP35;have cH:=aM (hp_);have cI:=aM ((by rw [hw];exact aL (HB.out) GB33.out:Below w0.heap.size w0 w36));have cK:=aM (Kept.of_grown (S:=(fun k_=>P0_ k_)) hg (by repeat(first|(with_reducible first|exact HK.out|apply Kept.alloc|apply Kept.drewN|apply Kept.drew)|exact HK.out)) (fun k_ e_=>(fE.out.1 k_ e_)));clear fE;clear HB;clear HK;have fE:=cH;have HB:=cI;have HK:=cK;clear cH cI cK;clear hg hw hp_))
       go_roundg k1
       case measure=>have:=HK1.out;omega
       case rel=>exact⟨(y368),(false),(wrap64 (bW+1)),(by first|rfl|(simp;done)|(simp [*];done)),(by first|rfl|(simp;done)|(simp [*];done)),H',⟨by have:=HK1.out;omega⟩,⟨gR fE.out⟩,⟨by repeat(first|(with_reducible first|exact HK.out|apply Kept.alloc|apply Kept.drewN|apply Kept.drew)|exact HK.out)⟩,⟨gW HB.out⟩⟩
      ·replace c32:=Bool.eq_false_iff.mpr c32
       subst c32;have H1:(regletref13_join.l0 k1 (eN.set (bW:Int).toNat (false)) l1 false (wrap64 (bW+1)))=some (r1,r2):=by rw [if_neg (show ¬(false=true) by decide)] at H;exact H
       clear H;have H:=H1;clear H1;obtain⟨y370,Ay⟩:∃y_:List Bool,y_=(eN.set (bW:Int).toNat (false)):=⟨_,rfl⟩;replace H:(regletref13_join.l0 k1 y370 l1 false (wrap64 (bW+1)))=some (r1,r2):=by first|(rw [Ay];with_reducible exact H)|(have H2_:=(Option.bind_some _ _).symm.trans H;rw [Ay];with_reducible exact H2_)|(have H2_:=(Option.bind_some _ _).symm.trans H;with_reducible exact H2_)|with_reducible exact H|(rw [Ay];exact H)|exact H
       have Vd:=aM Ay;clear Ay;have H':=aM H;clear H;obtain⟨KK,FJ,FL⟩:=Kd.R_slice fE.out;subst FL;have p361:0≤(bW:Int):=of_decide_eq_true (by first|(with_reducible assumption)|assumption);have q361:bW<(l1.length:Int):=of_decide_eq_true (by first|(with_reducible assumption)|assumption);obtain⟨Am,e361,jY⟩:=Kd.at_bool (Kd.C_kept_now HR1.out HK.out) bW p361 q361
       (try rw [←Nbq19.out] at jY)
       (try rw [←Nbq31.out] at jY)
       cases e361;replace p361:=eq_true p361;replace q361:=eq_true q361;have p367:0≤(bW:Int):=of_decide_eq_true (by first|(with_reducible assumption)|assumption);have q367:bW<(eN.length:Int):=of_decide_eq_true (by first|(with_reducible assumption)|assumption);obtain⟨Va,e367,nT⟩:=Kd.at_bool (aF fE.out).2.2 bW p367 q367
       (try rw [←Nbq19.out] at nT)
       (try rw [←Nbq31.out] at nT)
       cases e367;replace p367:=eq_true p367;replace q367:=eq_true q367;have p369:0≤(bW:Int):=of_decide_eq_true (by first|(with_reducible assumption)|assumption);have q369:bW<(l1.length:Int):=of_decide_eq_true (by first|(with_reducible assumption)|assumption);obtain⟨Ve,e369,Fr⟩:=Kd.at_bool (Kd.C_kept_now HR1.out HK.out) bW p369 q369
       (try rw [←Nbq19.out] at Fr)
       (try rw [←Nbq31.out] at Fr)
       obtain rfl:Am=Ve:=(by injection e369);replace p369:=eq_true p369;replace q369:=eq_true q369;have p37:0≤(bW:Int):=of_decide_eq_true (by first|(with_reducible assumption)|assumption);have q37:(bW:Int)<((eN.length:Int):Int):=of_decide_eq_true (by first|(with_reducible assumption)|assumption);obtain⟨go37,KL,Vf,Vg,gl37,cl37,HG37⟩:=Kd.R_form fE.out (by omega)
       (first|cases Vf|(injection Vf with ea_ en_ ec_;(first|subst ea_|(injection ea_ with ea_;subst ea_));subst ec_;clear en_))
       have GB37:=aM Vg;have GG37:=aM HG37;clear Vg gl37 HG37;have HMgo37:=aM (show(P0_ go37∨w.heap.size≤go37) from(fE.out.1 _ rfl))
       (first|simp only [add_plain] at nT|skip)
       obtain⟨FM,hf37_0⟩:=Kd.R_celln false fE.out (bW:Int) p37 q37;replace p37:=eq_true p37;replace q37:=eq_true q37;have HP39:=Kd.R_putg fE.out (bW:Int) false
       go_wp2_with (first|((with_reducible refine gate_store (t:=4) (p:=39) rfl ?_);refine store_event (t:=4) (p:=39) (v:=?vo_w40) (w1:=(wr.setCell ⟨go37,(bW:Int).toNat,none⟩ (.bool false))) ?hg ?ho ?hn ?hr ?_;(case ho=>rfl);(case hg=>rfl);(case hn=>rfl);(case hr=>first|(go_simp;done)|(go_simp;rfl));intro w40 hw;have hg:wr.grownBy w40 (some go37):=(by rw [hw];exact HP39.2);have hp_:Kd.R Kd.bool 4 w40 w0.heap.size (fun k_=>(P0_ k_∨w.heap.size≤k_)) (.slice (some ⟨go37,0,none⟩) eN.length FJ) y370:=(by rw [hw,Vd.out];exact HP39.1);clear HP39;have cH:=aM (hp_);have cI:=aM ((by rw [hw];exact aL (HB.out) GB37.out:Below w0.heap.size w0 w40));have cK:=aM (Kept.of_grown (S:=(fun k_=>P0_ k_)) hg (by repeat(first|(with_reducible first|exact HK.out|apply Kept.alloc|apply Kept.drewN|apply Kept.drew)|exact HK.out)) (fun k_ e_=>(fE.out.1 k_ e_)));clear fE;clear HB;clear HK;have fE:=cH;have HB:=cI;have HK:=cK;clear cH cI cK;clear hg hw hp_))
       go_roundg k1
       case measure=>have:=HK1.out;omega
       case rel=>exact⟨(y370),(false),(wrap64 (bW+1)),(by first|rfl|(simp;done)|(simp [*];done)),(by first|rfl|(simp;done)|(simp [*];done)),H',⟨by have:=HK1.out;omega⟩,⟨gR fE.out⟩,⟨by repeat(first|(with_reducible first|exact HK.out|apply Kept.alloc|apply Kept.drewN|apply Kept.drew)|exact HK.out)⟩,⟨gW HB.out⟩⟩
   ·rw [if_neg c3] at H
    have pM:decide (bW<(eN.length:Int))=false:=decide_eq_false c3;clear c3;simp only [Option.some.injEq,Prod.mk.injEq] at H;obtain⟨rfl,rfl⟩:=H;obtain⟨KM,KN,FN⟩:=Kd.R_slice fE.out;subst FN;go_wp2
    go_ret
    exact⟨by first|rfl|(simp [errW_none,errW_some]<;>rfl)|(simp [*,errW_none,errW_some]<;>rfl),gR fE.out,gW HB.out,by repeat(first|(with_reducible first|exact HK.out|apply Kept.alloc|apply Kept.drewN|apply Kept.drew)|exact HK.out)⟩
def regletref13_begins.l0:Nat→List (S43)→List (List Bool)→List Bool→List Bool→Int→Option (List Bool×Bool)
 |0,_,_,_,_,_=>none
 |k+1,x1,x2,x3,x10,x11=>if x11<(x1.length:Int) then(if 0≤x11 then(if(rd_T43 x1 x11).f0=true then(if 0≤((rd_T43 x1 x11).f1) then(if((rd_T43 x1 x11).f1)<(x10.length:Int) then(some ((x10.set (((rd_T43 x1 x11).f1):Int).toNat true),false)) else(none)) else(none)) else(if 0≤((rd_T43 x1 x11).f1) then(if((rd_T43 x1 x11).f1)<(x2.length:Int) then((regletref13_join.f k x10 (rd_L17 x2 ((rd_T43 x1 x11).f1))).bind fun sQ=>(if((rd_T43 x1 x11).f1)<(x3.length:Int) then(if(rdOf false x3 ((rd_T43 x1 x11).f1)=true) then(regletref13_begins.l0 k x1 x2 x3 sQ.2 (wrap64 (x11+1))) else(some (sQ.2,false))) else(none))) else(none)) else(none))) else(none)) else(some (x10,true))
def regletref13_begins.f (k:Nat) (aU:List ByteArray) (aX:List (S72)) (bB:Int) (bK:Int) (aQ:List (S35)) (l1:List (S43)) (l2:List (List Bool)) (l3:List Bool):Option (List Bool×Bool):=if 0≤(wrap64 ((aX.length:Int)+1)) then(if(wrap64 ((aX.length:Int)+1):Int).toNat≤281474976710656 then(regletref13_begins.l0 k l1 l2 l3 (List.replicate (wrap64 ((aX.length:Int)+1):Int).toNat false) 0) else(none)) else(none)
set_option maxHeartbeats 8000000 in
set_option maxRecDepth 100000 in
theorem regletref13_begins.calls (k:Nat) (bR:Option Addr) (bS:Nat) (aU:List ByteArray) (bU:Option Addr) (bV:Nat) (aX:List (S72)) (bB:Int) (bK:Int) (cC:Option Addr) (bX:Nat) (aQ:List (S35)) (A1:Option Addr) (c1:Nat) (l1:List (S43)) (A2:Option Addr) (c2:Nat) (l2:List (List Bool)) (A3:Option Addr) (c3:Nat) (l3:List Bool) (r1:List Bool) (r2:Bool) (w:World) (dX:Kd.C Kd.string w bR aU.length aU) (dZ:aU.length≤bS) (eB:Kd.C k72 w bU aX.length aX) (eH:aX.length≤bV) (dY:Kd.C k35 w cC aQ.length aQ) (eJ:aQ.length≤bX) (hr1:Kd.C k43 w A1 l1.length l1) (hc1:l1.length≤c1) (hr2:Kd.C (Kd.slice 4 Kd.bool) w A2 l2.length l2) (hc2:l2.length≤c2) (hr3:Kd.C Kd.bool w A3 l3.length l3) (hc3:l3.length≤c3) (h:regletref13_begins.f k aU aX bB bK aQ l1 l2 l3=some (r1,r2)):
 Calls Try.prog 46 #[.agg #[.slice bR aU.length bS,.slice bU aX.length bV,.int .i64 bB,.int .i64 bK,.slice cC aQ.length bX],.slice A1 l1.length c1,.slice A2 l2.length c2,.slice A3 l3.length c3] w fun e w'=>∃v0_:Value,e= .returned (.tuple #[v0_,.bool r2])∧Kd.R Kd.bool 4 w' w.heap.size (fun _=>True) v0_ r1∧Below w.heap.size w w':=by
 have hu26:=Try.underlying26;have jA:=aM dX;have jV:=aM dZ;clear dX dZ;have kL:=aM eB;have kM:=aM eH;clear eB eH;have fP:=aM dY;have kN:=aM eJ;clear dY eJ;have HR1:=aM hr1;have HC1:=aM hc1;clear hr1 hc1;have HR2:=aM hr2;have HC2:=aM hc2;clear hr2 hc2;have HR3:=aM hr3;have HC3:=aM hc3;clear hr3 hc3;have HB:=aM (Below.refl w.heap.size w);have H:(if 0≤(wrap64 ((aX.length:Int)+1)) then(if(wrap64 ((aX.length:Int)+1):Int).toNat≤281474976710656 then(regletref13_begins.l0 k l1 l2 l3 (List.replicate (wrap64 ((aX.length:Int)+1):Int).toNat false) 0) else(none)) else(none))=some (r1,r2):=h;clear h;obtain⟨Jd,If⟩:∃j_:Int,(wrap64 ((aX.length:Int)+1))=j_:=⟨_,rfl⟩;replace H:(if 0≤(Jd) then(if(Jd:Int).toNat≤281474976710656 then(regletref13_begins.l0 k l1 l2 l3 (List.replicate (Jd:Int).toNat false) 0) else(none)) else(none))=some (r1,r2):=by first|(rw [If] at H;exact H)|(simp only [If] at H ⊢;exact H)
 have hji5w:(IntKind.i64.wrap ((aX.length:Int)+1))=Jd:=(i64_w _).trans If
 by_cases c6:0≤(Jd)
 rotate_left
 ·rw [if_neg c6] at H
  exact absurd H (by simp)
 rw [if_pos c6] at H;have pR:=eq_true c6;have wG:decide (0≤(Jd))=true:=decide_eq_true c6;clear c6
 by_cases c7:(Jd:Int).toNat≤281474976710656
 rotate_left
 ·rw [if_neg c7] at H
  exact absurd H (by simp)
 rw [if_pos c7] at H;have Ml:=eq_true c7;have Mm:decide ((Jd:Int).toNat≤281474976710656)=true:=decide_eq_true c7;clear c7;obtain⟨y372,Az⟩:∃y_:List Bool,y_=(List.replicate (Jd:Int).toNat false):=⟨_,rfl⟩;replace H:(regletref13_begins.l0 k l1 l2 l3 y372 0)=some (r1,r2):=by first|(rw [Az];with_reducible exact H)|(have H2_:=(Option.bind_some _ _).symm.trans H;rw [Az];with_reducible exact H2_)|(have H2_:=(Option.bind_some _ _).symm.trans H;with_reducible exact H2_)|with_reducible exact H|(rw [Az];exact H)|exact H
 have Pw:=aM Az;clear Az;have H':=aM H;clear H;go_enter Try.func46,Try.ntmps46
 go_wp2_with (first|((with_reducible refine bJ (N:=4) rfl ?_);refine box_event ?hg (N:=4) ?hd (cs:=#[.slice bR aU.length bS,.slice bU aX.length bV,.int .i64 bB,.int .i64 bK,.slice cC aQ.length bX]) (t:=26) ?hr ?_;(case hd=>rfl);(case hg=>rfl);(case hr=>first|(go_simp;done)|(go_simp;rfl));intro sR hg w8 hbox hb;have cH:=aM (bG (gW HB.out) hb);have cI:=aM (hbox);have cK:=aM ((by rw [hg];exact(bH (gW HB.out)):w.heap.size≤sR));have cQ:=aM ((by rw [hg];exact(bH (gW HB.out)):w.heap.size≤sR));clear HB;have HB:=cH;have gT:=cI;have GW371:=cK;have Px:=cQ;clear cH cI cK cQ;clear hb hbox hg;have lX:w8.cell? ⟨sR,0,none⟩=some (.slice bR aU.length bS):=(aG gT.out 0).trans rfl;have lY:w8.cell? ⟨sR,1,none⟩=some (.slice bU aX.length bV):=(aG gT.out 1).trans rfl;have vH:w8.cell? ⟨sR,2,none⟩=some (.int .i64 bB):=(aG gT.out 2).trans rfl;have vI:w8.cell? ⟨sR,3,none⟩=some (.int .i64 bK):=(aG gT.out 3).trans rfl;have vJ:w8.cell? ⟨sR,4,none⟩=some (.slice cC aQ.length bX):=(aG gT.out 4).trans rfl;have lZ:=aH gT.out 0;have mA:=aH gT.out 1;have vK:=aH gT.out 2;have vL:=aH gT.out 3;have vM:=aH gT.out 4)|((with_reducible refine bJ (N:=16) rfl ?_);refine Kd.R_make Kd.bool _ 4 rfl (N:=16) rfl 90 _ _ rfl Jd rfl rfl Try.underlying90 (.bool false) 1 info4 rfl (by decide) (by omega) false (ok:=fun _=>True) (okp:=fun _=>True) rfl (fun _ hk=>hk) trivial (of_decide_eq_true (by first|(with_reducible assumption)|assumption)) (Nat.le_trans (Nat.mul_le_mul_right _ (of_decide_eq_true (by first|(with_reducible assumption)|assumption):Jd.toNat≤281474976710656)) (by omega)) (Below.refl _ _) (Nat.le_refl _) ?_;intro v373 w10 ho11 hb hg_ hnew_;clear hg_ hnew_;(first|rw [←Pw.out] at ho11|(simp only [Int.reduceToNat] at ho11;rw [←Pw.out] at ho11));have cH:=aM (bL ho11 (bH (gW HB.out)));have cI:=aM (bF (gB gT.out) hb);have cK:=aM (bG (gW HB.out) hb);clear gT;clear HB;have Vh:=cH;have gT:=cI;have HB:=cK;clear cH cI cK;clear hb ho11))
 go_loopg [11] k (fun kq v11 w'=>∃(iW:List Bool) (dE:Int),v11= .int .i64 dE∧Aside0 (regletref13_begins.l0 kq l1 l2 l3 iW dE=some (r1,r2))∧Aside0 (kq≤k)∧Aside0 (Kd.R Kd.bool 4 w' w.heap.size (fun _=>True) v373 iW)∧Aside0 (w'.heap[sR]?=some (.cells #[(.slice bR aU.length bS),(.slice bU aX.length bV),.int .i64 bB,.int .i64 bK,(.slice cC aQ.length bX)] 26 (0,0)))∧Aside0 (Below w.heap.size w w'))
 case atStart=>exact⟨(y372),(0),(by first|rfl|(simp;done)|(simp [*];done)),H',⟨Nat.le_refl _⟩,⟨gR Vh.out⟩,⟨gB gT.out⟩,⟨gW HB.out⟩⟩
 case round=>
  clear H'
  (try clear c1);(try clear c2);(try clear p2);(try clear c3);(try clear c4);(try clear c6);(try clear pR);(try clear wG);(try clear p6);(try clear c7);(try clear Ml);(try clear Mm);(try clear lX);(try clear lY);(try clear vH);(try clear vI);(try clear vJ);(try clear lZ);(try clear mA);(try clear vK);(try clear vL);(try clear vM)
  obtain⟨iW,dE,rfl,HA,HK1,dK,gT,HB⟩:=hrel
  cases gk with
  |zero=>exact absurd HA.out (by simp [regletref13_begins.l0])
  |succ k1=>
   have H:=HA.out;clear HA;simp only [regletref13_begins.l0] at H
   by_cases c12:dE<(l1.length:Int)
   ·rw [if_pos c12] at H
    have Ja:decide (dE<(l1.length:Int))=true:=decide_eq_true c12;clear c12
    by_cases c13:0≤dE
    rotate_left
    ·rw [if_neg c13] at H
     exact absurd H (by simp)
    rw [if_pos c13] at H;have Je:decide (0≤dE)=true:=decide_eq_true c13;clear c13;obtain⟨bq14,hbq14⟩:∃b_:Bool,b_=((rd_T43 l1 dE).f0):=⟨_,rfl⟩;replace H:(if bq14=true then(if 0≤((rd_T43 l1 dE).f1) then(if((rd_T43 l1 dE).f1)<(iW.length:Int) then(some ((iW.set (((rd_T43 l1 dE).f1):Int).toNat true),false)) else(none)) else(none)) else(if 0≤((rd_T43 l1 dE).f1) then(if((rd_T43 l1 dE).f1)<(l2.length:Int) then((regletref13_join.f k1 iW (rd_L17 l2 ((rd_T43 l1 dE).f1))).bind fun sQ=>(if((rd_T43 l1 dE).f1)<(l3.length:Int) then(if(rdOf false l3 ((rd_T43 l1 dE).f1)=true) then(regletref13_begins.l0 k1 l1 l2 l3 sQ.2 (wrap64 (dE+1))) else(some (sQ.2,false))) else(none))) else(none)) else(none)))=some (r1,r2):=by rw [←hbq14] at H;exact H
    have Nbq14:=aM hbq14;clear hbq14
    by_cases c15:bq14=true
    ·subst c15
     have H1:(if 0≤((rd_T43 l1 dE).f1) then(if((rd_T43 l1 dE).f1)<(iW.length:Int) then(some ((iW.set (((rd_T43 l1 dE).f1):Int).toNat true),false)) else(none)) else(none))=some (r1,r2):=by rw [if_pos rfl] at H;exact H
     clear H;have H:=H1;clear H1
     by_cases c16:0≤((rd_T43 l1 dE).f1)
     rotate_left
     ·rw [if_neg c16] at H
      exact absurd H (by simp)
     rw [if_pos c16] at H;have Jf:decide (0≤((rd_T43 l1 dE).f1))=true:=decide_eq_true c16;clear c16
     by_cases c17:((rd_T43 l1 dE).f1)<(iW.length:Int)
     rotate_left
     ·rw [if_neg c17] at H
      exact absurd H (by simp)
     rw [if_pos c17] at H;have vG:decide (((rd_T43 l1 dE).f1)<(iW.length:Int))=true:=decide_eq_true c17;clear c17;obtain⟨y377,Ba⟩:∃y_:List Bool,y_=(iW.set (((rd_T43 l1 dE).f1):Int).toNat true):=⟨_,rfl⟩;replace H:(some (y377,false))=some (r1,r2):=by first|(rw [Ba];with_reducible exact H)|(have H2_:=(Option.bind_some _ _).symm.trans H;rw [Ba];with_reducible exact H2_)|(have H2_:=(Option.bind_some _ _).symm.trans H;with_reducible exact H2_)|with_reducible exact H|(rw [Ba];exact H)|exact H
     have Vi:=aM Ba;clear Ba;simp only [Option.some.injEq,Prod.mk.injEq] at H;obtain⟨rfl,rfl⟩:=H;have p375:0≤(dE:Int):=of_decide_eq_true (by first|(with_reducible assumption)|assumption);have q375:dE<(l1.length:Int):=of_decide_eq_true (by first|(with_reducible assumption)|assumption);obtain⟨vN,e375,gY,jZ⟩:=at_T43 HR1.out dE p375 q375
     (try rw [←Nbq14.out] at gY)
     cases e375;replace gY:=(HB.out.cell (World.block_lt_of_cell? w _ gY)).trans gY;replace jZ:=(HB.out.cell (World.block_lt_of_cell? w _ jZ)).trans jZ;replace p375:=eq_true p375;replace q375:=eq_true q375;have p376:0≤(dE:Int):=of_decide_eq_true (by first|(with_reducible assumption)|assumption);have q376:dE<(l1.length:Int):=of_decide_eq_true (by first|(with_reducible assumption)|assumption);obtain⟨Vj,e376,tO,yG⟩:=at_T43 HR1.out dE p376 q376
     (try rw [←Nbq14.out] at tO)
     obtain rfl:vN=Vj:=(by injection e376);replace tO:=(HB.out.cell (World.block_lt_of_cell? w _ tO)).trans tO;replace yG:=(HB.out.cell (World.block_lt_of_cell? w _ yG)).trans yG;replace p376:=eq_true p376;replace q376:=eq_true q376;have p18:0≤(((rd_T43 l1 dE).f1):Int):=of_decide_eq_true (by first|(with_reducible assumption)|assumption);have q18:(((rd_T43 l1 dE).f1):Int)<((iW.length:Int):Int):=of_decide_eq_true (by first|(with_reducible assumption)|assumption);obtain⟨go18,sW,Ic,Vk,gl18,cl18,HG18⟩:=Kd.R_form dK.out (by omega)
     (first|cases Ic|(injection Ic with ea_ en_ ec_;(first|subst ea_|(injection ea_ with ea_;subst ea_));subst ec_;clear en_))
     have GB18:=aM Vk;have GG18:=aM HG18;clear Vk gl18 HG18;obtain⟨FO,hf18_0⟩:=Kd.R_celln false dK.out (((rd_T43 l1 dE).f1):Int) p18 q18;replace p18:=eq_true p18;replace q18:=eq_true q18;have HP19:=Kd.R_putg dK.out (((rd_T43 l1 dE).f1):Int) true
     go_wp2_with (first|((with_reducible refine gate_store (t:=4) (p:=34) rfl ?_);refine store_event (t:=4) (p:=34) (v:=?vo_w20) (w1:=(wr.setCell ⟨go18,(((rd_T43 l1 dE).f1):Int).toNat,none⟩ (.bool true))) ?hg ?ho ?hn ?hr ?_;(case ho=>rfl);(case hg=>rfl);(case hn=>rfl);(case hr=>first|(go_simp;done)|(go_simp;rfl));intro w20 hw;have hg:wr.grownBy w20 (some go18):=(by rw [hw];exact HP19.2);have hp_:Kd.R Kd.bool 4 w20 w.heap.size (fun _=>True) (.slice (some ⟨go18,0,none⟩) iW.length sW) y377:=(by rw [hw,Vi.out];exact HP19.1);clear HP19;have cH:=aM (hp_);have cI:=aM (blk_grown (gB gT.out) hg (Kd.R_ne dK.out gT.out (by decide)));have cK:=aM ((by rw [hw];exact aL (HB.out) GB18.out:Below w.heap.size w w20));clear dK;clear gT;clear HB;have dK:=cH;have gT:=cI;have HB:=cK;clear cH cI cK;clear hg hw hp_))
     go_ret2
     exact⟨_,by first|rfl|(simp [errW_none,errW_some]<;>rfl)|(simp only [←If];first|rfl|(simp [errW_none,errW_some]<;>rfl))|(simp [*,errW_none,errW_some]<;>rfl),gR dK.out,gW HB.out⟩
    ·replace c15:=Bool.eq_false_iff.mpr c15
     subst c15;have H1:(if 0≤((rd_T43 l1 dE).f1) then(if((rd_T43 l1 dE).f1)<(l2.length:Int) then((regletref13_join.f k1 iW (rd_L17 l2 ((rd_T43 l1 dE).f1))).bind fun sQ=>(if((rd_T43 l1 dE).f1)<(l3.length:Int) then(if(rdOf false l3 ((rd_T43 l1 dE).f1)=true) then(regletref13_begins.l0 k1 l1 l2 l3 sQ.2 (wrap64 (dE+1))) else(some (sQ.2,false))) else(none))) else(none)) else(none))=some (r1,r2):=by rw [if_neg (show ¬(false=true) by decide)] at H;exact H
     clear H;have H:=H1;clear H1
     by_cases c21:0≤((rd_T43 l1 dE).f1)
     rotate_left
     ·rw [if_neg c21] at H
      exact absurd H (by simp)
     rw [if_pos c21] at H;have Pu:decide (0≤((rd_T43 l1 dE).f1))=true:=decide_eq_true c21;clear c21
     by_cases c22:((rd_T43 l1 dE).f1)<(l2.length:Int)
     rotate_left
     ·rw [if_neg c22] at H
      exact absurd H (by simp)
     rw [if_pos c22] at H;have wI:decide (((rd_T43 l1 dE).f1)<(l2.length:Int))=true:=decide_eq_true c22;clear c22;replace H:=Option.bind_eq_some_iff.mp H;obtain⟨⟨t380,t381⟩,A230,H⟩:=H;replace H:(if((rd_T43 l1 dE).f1)<(l3.length:Int) then(if(rdOf false l3 ((rd_T43 l1 dE).f1)=true) then(regletref13_begins.l0 k1 l1 l2 l3 t381 (wrap64 (dE+1))) else(some (t381,false))) else(none))=some (r1,r2):=H;have A23:=aM A230;clear A230
     by_cases c24:((rd_T43 l1 dE).f1)<(l3.length:Int)
     rotate_left
     ·rw [if_neg c24] at H
      exact absurd H (by simp)
     rw [if_pos c24] at H;have wJ:decide (((rd_T43 l1 dE).f1)<(l3.length:Int))=true:=decide_eq_true c24;clear c24;obtain⟨bq25,hbq25⟩:∃b_:Bool,b_=(rdOf false l3 ((rd_T43 l1 dE).f1)):=⟨_,rfl⟩;replace H:(if(bq25=true) then(regletref13_begins.l0 k1 l1 l2 l3 t381 (wrap64 (dE+1))) else(some (t381,false)))=some (r1,r2):=by rw [←hbq25] at H;exact H
     have Nbq25:=aM hbq25;clear hbq25
     by_cases c26:(bq25=true)
     ·subst c26
      have H1:(regletref13_begins.l0 k1 l1 l2 l3 t381 (wrap64 (dE+1)))=some (r1,r2):=by rw [if_pos rfl] at H;exact H
      clear H;have H:=H1;clear H1;have H':=aM H;clear H;have p375:0≤(dE:Int):=of_decide_eq_true (by first|(with_reducible assumption)|assumption);have q375:dE<(l1.length:Int):=of_decide_eq_true (by first|(with_reducible assumption)|assumption);obtain⟨vN,e375,gY,jZ⟩:=at_T43 HR1.out dE p375 q375
      (try rw [←Nbq14.out] at gY)
      (try rw [←Nbq25.out] at gY)
      cases e375;replace gY:=(HB.out.cell (World.block_lt_of_cell? w _ gY)).trans gY;replace jZ:=(HB.out.cell (World.block_lt_of_cell? w _ jZ)).trans jZ;replace p375:=eq_true p375;replace q375:=eq_true q375;have p378:0≤(dE:Int):=of_decide_eq_true (by first|(with_reducible assumption)|assumption);have q378:dE<(l1.length:Int):=of_decide_eq_true (by first|(with_reducible assumption)|assumption);obtain⟨Jg,e378,kA,nU⟩:=at_T43 HR1.out dE p378 q378
      (try rw [←Nbq14.out] at kA)
      (try rw [←Nbq25.out] at kA)
      obtain rfl:vN=Jg:=(by injection e378);replace kA:=(HB.out.cell (World.block_lt_of_cell? w _ kA)).trans kA;replace nU:=(HB.out.cell (World.block_lt_of_cell? w _ nU)).trans nU;replace p378:=eq_true p378;replace q378:=eq_true q378;have p379:0≤(((rd_T43 l1 dE).f1):Int):=of_decide_eq_true (by first|(with_reducible assumption)|assumption);have q379:((rd_T43 l1 dE).f1)<(l2.length:Int):=of_decide_eq_true (by first|(with_reducible assumption)|assumption);obtain⟨Vl,Cu,Cv,e379,nV,rC,rD⟩:=at_L17 HR2.out ((rd_T43 l1 dE).f1) p379 q379
      cases e379;replace nV:=(HB.out.cell (World.block_lt_of_cell? w _ nV)).trans nV;have yH:=aM rD;have yI:=aM rC;clear rD rC;replace p379:=eq_true p379;replace q379:=eq_true q379;obtain⟨oY,oI,Aw⟩:=Kd.R_slice dK.out;subst Aw
      go_wp2_with (first|((with_reducible refine bI (f:=47) rfl ?_);refine goesL_ (some 45) rfl rfl Try.func47 (by kernel_rfl) rfl #[.slice oY iW.length oI,.slice Cu (rd_L17 l2 ((rd_T43 l1 dE).f1)).length Cv] rfl (by(try simp only [List.map_toArray,List.map_cons,List.map_nil]);first|done|rfl|(simp only [List.length_drop,List.length_take];rfl)) ?_;(with_reducible refine(regletref13_join.calls k1 (fun k_=>some k_=(.slice oY iW.length oI:Value).ownBlock) (.slice oY iW.length oI) iW _ _ (rd_L17 l2 ((rd_T43 l1 dE).f1)) t380 t381 w _ ?side1 ?side2 ?side3 ?side4 A23.out).mono ?_);(case side1=>repeat(first|(with_reducible first|exact HB.out|apply aN|apply aP|apply aO|refine aL ?_ Px.out)|exact HB.out));(case side2=>exact Kd.R_tight rfl dK.out);(case side3=>exact Kd.C_kept_came Kd.heap_bool yH.out (gW HB.out) (fun k_ hs_=>(fun e_=>Kd.R_base dK.out k_ e_.symm) hs_));(case side4=>exact yI.out);rintro e w28 ⟨rfl,Vm,hb,hkp⟩;refine⟨_,rfl,?_⟩;have cH:=aM (Kd.R_reok rfl Vm (fun k_ e_=>dK.out.1 k_ e_));have cI:=aM (blk_kept (gB gT.out) hkp (fun hs_=>(fun e_=>(Kd.R_ne dK.out gT.out (by decide)) e_) hs_));have cK:=aM (hb);clear dK;clear gT;clear HB;have dK:=cH;have gT:=cI;have HB:=cK;clear cH cI cK;(try clear hb);(try clear hkp);(try clear Vm);have p382:0≤(dE:Int):=of_decide_eq_true (by first|(with_reducible assumption)|assumption);have q382:dE<(l1.length:Int):=of_decide_eq_true (by first|(with_reducible assumption)|assumption);obtain⟨Jh,e382,kB,nW⟩:=at_T43 HR1.out dE p382 q382;(try rw [←Nbq14.out] at kB);(try rw [←Nbq25.out] at kB);obtain rfl:vN=Jh:=(by injection e382);replace kB:=(HB.out.cell (World.block_lt_of_cell? w _ kB)).trans kB;replace nW:=(HB.out.cell (World.block_lt_of_cell? w _ nW)).trans nW;replace p382:=eq_true p382;replace q382:=eq_true q382;have p383:0≤(((rd_T43 l1 dE).f1):Int):=of_decide_eq_true (by first|(with_reducible assumption)|assumption);have q383:((rd_T43 l1 dE).f1)<(l3.length:Int):=of_decide_eq_true (by first|(with_reducible assumption)|assumption);obtain⟨Vn,e383,kC⟩:=Kd.at_bool HR3.out ((rd_T43 l1 dE).f1) p383 q383;(try rw [←Nbq14.out] at kC);(try rw [←Nbq25.out] at kC);cases e383;replace kC:=(HB.out.cell (World.block_lt_of_cell? w _ kC)).trans kC;replace p383:=eq_true p383;replace q383:=eq_true q383))
      go_roundg k1
      case measure=>have:=HK1.out;omega
      case rel=>exact⟨(t381),(wrap64 (dE+1)),(by first|rfl|(simp;done)|(simp [*];done)),H',⟨by have:=HK1.out;omega⟩,⟨gR dK.out⟩,⟨gB gT.out⟩,⟨gW HB.out⟩⟩
     ·replace c26:=Bool.eq_false_iff.mpr c26
      subst c26;have H1:(some (t381,false))=some (r1,r2):=by rw [if_neg (show ¬(false=true) by decide)] at H;exact H
      clear H;have H:=H1;clear H1;simp only [Option.some.injEq,Prod.mk.injEq] at H;obtain⟨rfl,rfl⟩:=H;have p375:0≤(dE:Int):=of_decide_eq_true (by first|(with_reducible assumption)|assumption);have q375:dE<(l1.length:Int):=of_decide_eq_true (by first|(with_reducible assumption)|assumption);obtain⟨vN,e375,gY,jZ⟩:=at_T43 HR1.out dE p375 q375
      (try rw [←Nbq14.out] at gY)
      (try rw [←Nbq25.out] at gY)
      cases e375;replace gY:=(HB.out.cell (World.block_lt_of_cell? w _ gY)).trans gY;replace jZ:=(HB.out.cell (World.block_lt_of_cell? w _ jZ)).trans jZ;replace p375:=eq_true p375;replace q375:=eq_true q375;have p378:0≤(dE:Int):=of_decide_eq_true (by first|(with_reducible assumption)|assumption);have q378:dE<(l1.length:Int):=of_decide_eq_true (by first|(with_reducible assumption)|assumption);obtain⟨Jg,e378,kA,nU⟩:=at_T43 HR1.out dE p378 q378
      (try rw [←Nbq14.out] at kA)
      (try rw [←Nbq25.out] at kA)
      obtain rfl:vN=Jg:=(by injection e378);replace kA:=(HB.out.cell (World.block_lt_of_cell? w _ kA)).trans kA;replace nU:=(HB.out.cell (World.block_lt_of_cell? w _ nU)).trans nU;replace p378:=eq_true p378;replace q378:=eq_true q378;have p379:0≤(((rd_T43 l1 dE).f1):Int):=of_decide_eq_true (by first|(with_reducible assumption)|assumption);have q379:((rd_T43 l1 dE).f1)<(l2.length:Int):=of_decide_eq_true (by first|(with_reducible assumption)|assumption);obtain⟨Vl,Cu,Cv,e379,nV,rC,rD⟩:=at_L17 HR2.out ((rd_T43 l1 dE).f1) p379 q379
      cases e379;replace nV:=(HB.out.cell (World.block_lt_of_cell? w _ nV)).trans nV;have yH:=aM rD;have yI:=aM rC;clear rD rC;replace p379:=eq_true p379;replace q379:=eq_true q379;obtain⟨fS,fL,Ji⟩:=Kd.R_slice dK.out;subst Ji
      go_wp2_with (first|((with_reducible refine bI (f:=47) rfl ?_);refine goesL_ (some 45) rfl rfl Try.func47 (by kernel_rfl) rfl #[.slice fS iW.length fL,.slice Cu (rd_L17 l2 ((rd_T43 l1 dE).f1)).length Cv] rfl (by(try simp only [List.map_toArray,List.map_cons,List.map_nil]);first|done|rfl|(simp only [List.length_drop,List.length_take];rfl)) ?_;(with_reducible refine(regletref13_join.calls k1 (fun k_=>some k_=(.slice fS iW.length fL:Value).ownBlock) (.slice fS iW.length fL) iW _ _ (rd_L17 l2 ((rd_T43 l1 dE).f1)) t380 t381 w _ ?side1 ?side2 ?side3 ?side4 A23.out).mono ?_);(case side1=>repeat(first|(with_reducible first|exact HB.out|apply aN|apply aP|apply aO|refine aL ?_ Px.out)|exact HB.out));(case side2=>exact Kd.R_tight rfl dK.out);(case side3=>exact Kd.C_kept_came Kd.heap_bool yH.out (gW HB.out) (fun k_ hs_=>(fun e_=>Kd.R_base dK.out k_ e_.symm) hs_));(case side4=>exact yI.out);rintro e w30 ⟨rfl,Vm,hb,hkp⟩;refine⟨_,rfl,?_⟩;have cH:=aM (Kd.R_reok rfl Vm (fun k_ e_=>dK.out.1 k_ e_));have cI:=aM (blk_kept (gB gT.out) hkp (fun hs_=>(fun e_=>(Kd.R_ne dK.out gT.out (by decide)) e_) hs_));have cK:=aM (hb);clear dK;clear gT;clear HB;have dK:=cH;have gT:=cI;have HB:=cK;clear cH cI cK;(try clear hb);(try clear hkp);(try clear Vm);have p382:0≤(dE:Int):=of_decide_eq_true (by first|(with_reducible assumption)|assumption);have q382:dE<(l1.length:Int):=of_decide_eq_true (by first|(with_reducible assumption)|assumption);obtain⟨Jh,e382,kB,nW⟩:=at_T43 HR1.out dE p382 q382;(try rw [←Nbq14.out] at kB);(try rw [←Nbq25.out] at kB);obtain rfl:vN=Jh:=(by injection e382);replace kB:=(HB.out.cell (World.block_lt_of_cell? w _ kB)).trans kB;replace nW:=(HB.out.cell (World.block_lt_of_cell? w _ nW)).trans nW;replace p382:=eq_true p382;replace q382:=eq_true q382;have p383:0≤(((rd_T43 l1 dE).f1):Int):=of_decide_eq_true (by first|(with_reducible assumption)|assumption);have q383:((rd_T43 l1 dE).f1)<(l3.length:Int):=of_decide_eq_true (by first|(with_reducible assumption)|assumption);obtain⟨Vn,e383,kC⟩:=Kd.at_bool HR3.out ((rd_T43 l1 dE).f1) p383 q383;(try rw [←Nbq14.out] at kC);(try rw [←Nbq25.out] at kC);cases e383;replace kC:=(HB.out.cell (World.block_lt_of_cell? w _ kC)).trans kC;replace p383:=eq_true p383;replace q383:=eq_true q383))
      go_ret2
      exact⟨_,by first|rfl|(simp [errW_none,errW_some]<;>rfl)|(simp only [←If];first|rfl|(simp [errW_none,errW_some]<;>rfl))|(simp [*,errW_none,errW_some]<;>rfl),gR dK.out,gW HB.out⟩
   ·rw [if_neg c12] at H
    have Ja:decide (dE<(l1.length:Int))=false:=decide_eq_false c12;clear c12;simp only [Option.some.injEq,Prod.mk.injEq] at H;obtain⟨rfl,rfl⟩:=H;go_wp2
    go_ret2
    exact⟨_,by first|rfl|(simp [errW_none,errW_some]<;>rfl)|(simp only [←If];first|rfl|(simp [errW_none,errW_some]<;>rfl))|(simp [*,errW_none,errW_some]<;>rfl),gR dK.out,gW HB.out⟩
attribute [local go_sem] max2_int min2_int max_two min_two max_three min_three max_four min_four   -- for this text's walks alone
set_option linter.unusedVariables false
set_option linter.unusedSimpArgs false
mutual
def regletref13_Empty.l0:Nat→List Bool→Bool→List ByteArray→List (S72)→Int→Int→List (S35)→Option (List Bool)
 |0,_,_,_,_,_,_,_=>none
 |k+1,x3,x4,x344000,x344001,x344002,x344003,x344004=>if x4=true then(regletref13_Empty.l1 k x3 false 0 x344000 x344001 x344002 x344003 x344004) else(some x3)
def regletref13_Empty.l1:Nat→List Bool→Bool→Int→List ByteArray→List (S72)→Int→Int→List (S35)→Option (List Bool)
 |0,_,_,_,_,_,_,_,_=>none
 |k+1,x3,x4,x5,x344000,x344001,x344002,x344003,x344004=>if x5<(x344004.length:Int) then(regletref13_Empty.l2 k x3 x4 x5 true 0 x344000 x344001 x344002 x344003 x344004) else(regletref13_Empty.l0 k x3 x4 x344000 x344001 x344002 x344003 x344004)
def regletref13_Empty.l2:Nat→List Bool→Bool→Int→Bool→Int→List ByteArray→List (S72)→Int→Int→List (S35)→Option (List Bool)
 |0,_,_,_,_,_,_,_,_,_,_=>none
 |k+1,x3,x4,x5,x6,x7,x344000,x344001,x344002,x344003,x344004=>if 0≤x5 then(if x5<(x344004.length:Int) then(if x7<(((rd_T35 x344004 x5).f1).length:Int) then(if 0≤x7 then(if x6=true then(if((rd_T43 ((rd_T35 x344004 x5).f1) x7).f0=true) then(regletref13_Empty.l2 k x3 x4 x5 false (wrap64 (x7+1)) x344000 x344001 x344002 x344003 x344004) else(if 0≤((rd_T43 ((rd_T35 x344004 x5).f1) x7).f1) then(if((rd_T43 ((rd_T35 x344004 x5).f1) x7).f1)<(x3.length:Int) then(regletref13_Empty.l2 k x3 x4 x5 (rdOf false x3 ((rd_T43 ((rd_T35 x344004 x5).f1) x7).f1)) (wrap64 (x7+1)) x344000 x344001 x344002 x344003 x344004) else(none)) else(none))) else(regletref13_Empty.l2 k x3 x4 x5 false (wrap64 (x7+1)) x344000 x344001 x344002 x344003 x344004)) else(none)) else(if x6=true then(if 0≤((rd_T35 x344004 x5).f0) then(if((rd_T35 x344004 x5).f0)<(x3.length:Int) then(if(rdOf false x3 ((rd_T35 x344004 x5).f0)=true) then(regletref13_Empty.l1 k x3 x4 (wrap64 (x5+1)) x344000 x344001 x344002 x344003 x344004) else(regletref13_Empty.l1 k (x3.set (((rd_T35 x344004 x5).f0):Int).toNat true) true (wrap64 (x5+1)) x344000 x344001 x344002 x344003 x344004)) else(none)) else(none)) else(regletref13_Empty.l1 k x3 x4 (wrap64 (x5+1)) x344000 x344001 x344002 x344003 x344004))) else(none)) else(none)
end
def regletref13_Empty.f (k:Nat) (aU:List ByteArray) (aX:List (S72)) (bB:Int) (bK:Int) (aQ:List (S35)):Option (List Bool):=(regletref13_Right.f k aU aX bB bK aQ).bind fun t344=>(if t344=true then(if 0≤(aU.length:Int) then(if((aU.length:Int):Int).toNat≤281474976710656 then(regletref13_Empty.l0 k (List.replicate ((aU.length:Int):Int).toNat false) true aU aX bB bK aQ) else(none)) else(none)) else(some ([]:List Bool)))
set_option maxHeartbeats 8000000 in
set_option maxRecDepth 100000 in
theorem regletref13_Empty.calls (k:Nat) (bR:Option Addr) (bS:Nat) (aU:List ByteArray) (bU:Option Addr) (bV:Nat) (aX:List (S72)) (bB:Int) (bK:Int) (cC:Option Addr) (bX:Nat) (aQ:List (S35)) (r:List Bool) (w:World) (dX:Kd.C Kd.string w bR aU.length aU) (dZ:aU.length≤bS) (eB:Kd.C k72 w bU aX.length aX) (eH:aX.length≤bV) (dY:Kd.C k35 w cC aQ.length aQ) (eJ:aQ.length≤bX) (h:regletref13_Empty.f k aU aX bB bK aQ=some r):
 Calls Try.prog 45 #[.agg #[.slice bR aU.length bS,.slice bU aX.length bV,.int .i64 bB,.int .i64 bK,.slice cC aQ.length bX]] w fun e w'=>∃v0_:Value,e= .returned (v0_)∧Kd.R Kd.bool 4 w' w.heap.size (fun _=>True) v0_ r∧Below w.heap.size w w':=by
 have hu26:=Try.underlying26;have hu43:=Try.underlying43;have jA:=aM dX;have jV:=aM dZ;clear dX dZ;have kL:=aM eB;have kM:=aM eH;clear eB eH;have fP:=aM dY;have kN:=aM eJ;clear dY eJ;have HB:=aM (Below.refl w.heap.size w);have H:((regletref13_Right.f k aU aX bB bK aQ).bind fun t344=>(if t344=true then(if 0≤(aU.length:Int) then(if((aU.length:Int):Int).toNat≤281474976710656 then(regletref13_Empty.l0 k (List.replicate ((aU.length:Int):Int).toNat false) true aU aX bB bK aQ) else(none)) else(none)) else(some ([]:List Bool))))=some r:=h;clear h;replace H:=Option.bind_eq_some_iff.mp H;obtain⟨t344,A20,H⟩:=H;replace H:(if t344=true then(if 0≤(aU.length:Int) then(if((aU.length:Int):Int).toNat≤281474976710656 then(regletref13_Empty.l0 k (List.replicate ((aU.length:Int):Int).toNat false) true aU aX bB bK aQ) else(none)) else(none)) else(some ([]:List Bool)))=some r:=H;have A2:=aM A20;clear A20
 by_cases c3:t344=true
 ·subst c3
  have H1:(if 0≤(aU.length:Int) then(if((aU.length:Int):Int).toNat≤281474976710656 then(regletref13_Empty.l0 k (List.replicate ((aU.length:Int):Int).toNat false) true aU aX bB bK aQ) else(none)) else(none))=some r:=by rw [if_pos rfl] at H;exact H
  clear H;have H:=H1;clear H1
  by_cases c4:0≤(aU.length:Int)
  rotate_left
  ·rw [if_neg c4] at H
   exact absurd H (by simp)
  rw [if_pos c4] at H;have vC:=eq_true c4;have Sf:decide (0≤(aU.length:Int))=true:=decide_eq_true c4;clear c4
  by_cases c5:((aU.length:Int):Int).toNat≤281474976710656
  rotate_left
  ·rw [if_neg c5] at H
   exact absurd H (by simp)
  rw [if_pos c5] at H;have vD:=eq_true c5;have Ib:decide (((aU.length:Int):Int).toNat≤281474976710656)=true:=decide_eq_true c5;clear c5;obtain⟨y345,Bb⟩:∃y_:List Bool,y_=(List.replicate ((aU.length:Int):Int).toNat false):=⟨_,rfl⟩;replace H:(regletref13_Empty.l0 k y345 true aU aX bB bK aQ)=some r:=by first|(rw [Bb];with_reducible exact H)|(have H2_:=(Option.bind_some _ _).symm.trans H;rw [Bb];with_reducible exact H2_)|(have H2_:=(Option.bind_some _ _).symm.trans H;with_reducible exact H2_)|with_reducible exact H|(rw [Bb];exact H)|exact H
  have Py:=aM Bb;clear Bb;have H':=aM H;clear H;go_enter Try.func45,Try.ntmps45
  go_wp2_with (first|((with_reducible refine bJ (N:=1) rfl ?_);refine box_event ?hg (N:=1) ?hd (cs:=#[.slice bR aU.length bS,.slice bU aX.length bV,.int .i64 bB,.int .i64 bK,.slice cC aQ.length bX]) (t:=26) ?hr ?_;(case hd=>rfl);(case hg=>rfl);(case hr=>first|(go_simp;done)|(go_simp;rfl));intro dO hg w6 hbox hb;have cH:=aM (bG (gW HB.out) hb);have cI:=aM (hbox);have cK:=aM ((by rw [hg];exact(bH (gW HB.out)):w.heap.size≤dO));have cQ:=aM ((by rw [hg];exact(bH (gW HB.out)):w.heap.size≤dO));clear HB;have HB:=cH;have cD:=cI;have GW343:=cK;have Fs:=cQ;clear cH cI cK cQ;clear hb hbox hg;have Cw:w6.cell? ⟨dO,0,none⟩=some (.slice bR aU.length bS):=(aG cD.out 0).trans rfl;have Cx:w6.cell? ⟨dO,1,none⟩=some (.slice bU aX.length bV):=(aG cD.out 1).trans rfl;have Cy:w6.cell? ⟨dO,2,none⟩=some (.int .i64 bB):=(aG cD.out 2).trans rfl;have Cz:w6.cell? ⟨dO,3,none⟩=some (.int .i64 bK):=(aG cD.out 3).trans rfl;have Da:w6.cell? ⟨dO,4,none⟩=some (.slice cC aQ.length bX):=(aG cD.out 4).trans rfl;have Db:=aH cD.out 0;have Dc:=aH cD.out 1;have Dd:=aH cD.out 2;have De:=aH cD.out 3;have Df:=aH cD.out 4)|((with_reducible refine bI (f:=30) rfl ?_);refine goesL_ (some 10) rfl rfl Try.func30 (by kernel_rfl) rfl #[.agg #[.slice bR aU.length bS,.slice bU aX.length bV,.int .i64 bB,.int .i64 bK,.slice cC aQ.length bX]] rfl (by(try simp only [List.map_toArray,List.map_cons,List.map_nil]);first|done|rfl|(simp only [List.length_drop,List.length_take];rfl)) ?_;(with_reducible refine(regletref13_Right.calls k _ _ aU _ _ aX bB bK _ _ aQ true _ ?side1 ?side2 ?side3 ?side4 ?side5 ?side6 A2.out).mono ?_);(case side1=>exact gC (bD jA.out HB.out));(case side2=>exact jV.out);(case side3=>exact gC (bD kL.out HB.out));(case side4=>exact kM.out);(case side5=>exact gC (bD fP.out HB.out));(case side6=>exact kN.out);rintro e w8 ⟨rfl,hb⟩;refine⟨_,rfl,?_⟩;have cH:=aM (bF (gB cD.out) hb);have cI:=aM (bG (gW HB.out) hb);clear cD;clear HB;have cD:=cH;have HB:=cI;clear cH cI;(try clear hb);(try clear hb2);(try clear hk);(try clear hi);have lX:w8.cell? ⟨dO,0,none⟩=some (.slice bR aU.length bS):=(aG cD.out 0).trans rfl;have lY:w8.cell? ⟨dO,1,none⟩=some (.slice bU aX.length bV):=(aG cD.out 1).trans rfl;have vH:w8.cell? ⟨dO,2,none⟩=some (.int .i64 bB):=(aG cD.out 2).trans rfl;have vI:w8.cell? ⟨dO,3,none⟩=some (.int .i64 bK):=(aG cD.out 3).trans rfl;have vJ:w8.cell? ⟨dO,4,none⟩=some (.slice cC aQ.length bX):=(aG cD.out 4).trans rfl;have lZ:=aH cD.out 0;have mA:=aH cD.out 1;have vK:=aH cD.out 2;have vL:=aH cD.out 3;have vM:=aH cD.out 4)|((with_reducible refine bJ (N:=15) rfl ?_);refine Kd.R_make Kd.bool _ 4 rfl (N:=15) rfl 90 _ _ rfl (aU.length:Int) rfl rfl Try.underlying90 (.bool false) 1 info4 rfl (by decide) (by omega) false (ok:=fun _=>True) (okp:=fun _=>True) rfl (fun _ hk=>hk) trivial (of_decide_eq_true (by first|(with_reducible assumption)|assumption)) (Nat.le_trans (Nat.mul_le_mul_right _ (of_decide_eq_true (by first|(with_reducible assumption)|assumption):(aU.length:Int).toNat≤281474976710656)) (by omega)) (Below.refl _ _) (Nat.le_refl _) ?_;intro v346 w10 ho11 hb hg_ hnew_;clear hg_ hnew_;(first|rw [←Py.out] at ho11|(simp only [Int.reduceToNat] at ho11;rw [←Py.out] at ho11));have cH:=aM (bL ho11 (bH (gW HB.out)));have cI:=aM (bF (gB cD.out) hb);have cK:=aM (bG (gW HB.out) hb);clear cD;clear HB;have Vo:=cH;have cD:=cI;have HB:=cK;clear cH cI cK;clear hb ho11))
  go_loopg [4] k (fun kq v4 w'=>∃(dD:List Bool) (bY:Bool),v4= .bool bY∧Aside0 (regletref13_Empty.l0 kq dD bY aU aX bB bK aQ=some r)∧Aside0 (kq≤k)∧Aside0 (Kd.R Kd.bool 4 w' w.heap.size (fun _=>True) v346 dD)∧Aside0 (w'.heap[dO]?=some (.cells #[(.slice bR aU.length bS),(.slice bU aX.length bV),.int .i64 bB,.int .i64 bK,(.slice cC aQ.length bX)] 26 (0,0)))∧Aside0 (Below w.heap.size w w'))
  case atStart=>exact⟨(y345),(true),(by first|rfl|(simp;done)|(simp [*];done)),H',⟨Nat.le_refl _⟩,⟨gR Vo.out⟩,⟨gB cD.out⟩,⟨gW HB.out⟩⟩
  case round=>
   clear H'
   (try clear p2);(try clear c3);(try clear c4);(try clear vC);(try clear Sf);(try clear c5);(try clear vD);(try clear Ib);(try clear Cw);(try clear Cx);(try clear Cy);(try clear Cz);(try clear Da);(try clear lX);(try clear lY);(try clear vH);(try clear vI);(try clear vJ);(try clear Db);(try clear Dc);(try clear Dd);(try clear De);(try clear Df)
   (try clear lZ);(try clear mA);(try clear vK);(try clear vL);(try clear vM)
   obtain⟨dD,bY,rfl,HA,HK1,fI,cD,HB⟩:=hrel
   cases gk with
   |zero=>exact absurd HA.out (by simp [regletref13_Empty.l0])
   |succ k1=>
    have H:=HA.out;clear HA;simp only [regletref13_Empty.l0] at H
    by_cases c12:bY=true
    ·subst c12
     have H1:(regletref13_Empty.l1 k1 dD false 0 aU aX bB bK aQ)=some r:=by rw [if_pos rfl] at H;exact H
     clear H;have H:=H1;clear H1;have H':=aM H;clear H;go_wp2
     go_loopg [4,5] k1 (fun kq v4 v5 w'=>∃(gV:List Bool) (oJ:Bool) (cG:Int),v4= .bool oJ∧v5= .int .i64 cG∧Aside0 (regletref13_Empty.l1 kq gV oJ cG aU aX bB bK aQ=some r)∧Aside0 (kq≤k1)∧Aside0 (Kd.R Kd.bool 4 w' w.heap.size (fun _=>True) v346 gV)∧Aside0 (w'.heap[dO]?=some (.cells #[(.slice bR aU.length bS),(.slice bU aX.length bV),.int .i64 bB,.int .i64 bK,(.slice cC aQ.length bX)] 26 (0,0)))∧Aside0 (Below w.heap.size w w'))
     case atStart=>exact⟨(dD),(false),(0),(by first|rfl|(simp;done)|(simp [*];done)),(by first|rfl|(simp;done)|(simp [*];done)),H',⟨Nat.le_refl _⟩,⟨gR fI.out⟩,⟨gB cD.out⟩,⟨gW HB.out⟩⟩
     case round=>
      clear H'
      (try clear c1);(try clear p2);(try clear c3);(try clear c4);(try clear vC);(try clear Sf);(try clear c5);(try clear vD);(try clear Ib);(try clear c12);(try clear Cw);(try clear Cx);(try clear Cy);(try clear Cz);(try clear Da);(try clear lX);(try clear lY);(try clear vH);(try clear vI);(try clear vJ);(try clear Db);(try clear Dc);(try clear Dd)
      (try clear De);(try clear Df);(try clear lZ);(try clear mA);(try clear vK);(try clear vL);(try clear vM);(try clear p2)
      obtain⟨gV,oJ,cG,rfl,rfl,HA,HK2,fI,cD,HB⟩:=hrel
      cases gk with
      |zero=>exact absurd HA.out (by simp [regletref13_Empty.l1])
      |succ k2=>
       have H:=HA.out;clear HA;simp only [regletref13_Empty.l1] at H
       by_cases c13:cG<(aQ.length:Int)
       ·rw [if_pos c13] at H
        have Je:decide (cG<(aQ.length:Int))=true:=decide_eq_true c13;clear c13;have H':=aM H;clear H;have mF:wr.cell? ⟨dO,0,none⟩=some (.slice bR aU.length bS):=(aG cD.out 0).trans rfl;have mG:wr.cell? ⟨dO,1,none⟩=some (.slice bU aX.length bV):=(aG cD.out 1).trans rfl;have pT:wr.cell? ⟨dO,2,none⟩=some (.int .i64 bB):=(aG cD.out 2).trans rfl;have pU:wr.cell? ⟨dO,3,none⟩=some (.int .i64 bK):=(aG cD.out 3).trans rfl;have pV:wr.cell? ⟨dO,4,none⟩=some (.slice cC aQ.length bX):=(aG cD.out 4).trans rfl;have mH:=aH cD.out 0;have mI:=aH cD.out 1;have pW:=aH cD.out 2;have pX:=aH cD.out 3;have pY:=aH cD.out 4;go_wp2
        go_loopg [6,7] k2 (fun kq v6 v7 w'=>∃(Jj:Bool) (fU:Int),v6= .bool Jj∧v7= .int .i64 fU∧Aside0 (regletref13_Empty.l2 kq gV oJ cG Jj fU aU aX bB bK aQ=some r)∧Aside0 (kq≤k2)∧Aside0 (Kd.R Kd.bool 4 w' w.heap.size (fun _=>True) v346 gV)∧Aside0 (w'.heap[dO]?=some (.cells #[(.slice bR aU.length bS),(.slice bU aX.length bV),.int .i64 bB,.int .i64 bK,(.slice cC aQ.length bX)] 26 (0,0)))∧Aside0 (Below w.heap.size w w'))
        case atStart=>exact⟨(true),(0),(by first|rfl|(simp;done)|(simp [*];done)),(by first|rfl|(simp;done)|(simp [*];done)),H',⟨Nat.le_refl _⟩,⟨gR fI.out⟩,⟨gB cD.out⟩,⟨gW HB.out⟩⟩
        case round=>
         clear H'
         (try clear c1);(try clear p2);(try clear c3);(try clear c4);(try clear vC);(try clear Sf);(try clear c5);(try clear vD);(try clear Ib);(try clear c12);(try clear c13);(try clear Je);(try clear mF);(try clear mG);(try clear pT);(try clear pU);(try clear pV);(try clear Cw);(try clear Cx);(try clear Cy);(try clear Cz);(try clear Da);(try clear lX)
         (try clear lY);(try clear vH);(try clear vI);(try clear vJ);(try clear mH);(try clear mI);(try clear pW);(try clear pX);(try clear pY);(try clear Db);(try clear Dc);(try clear Dd);(try clear De);(try clear Df);(try clear lZ);(try clear mA);(try clear vK);(try clear vL);(try clear vM);(try clear p2)
         obtain⟨Jj,fU,rfl,rfl,HA,HK3,fI,cD,HB⟩:=hrel
         cases gk with
         |zero=>exact absurd HA.out (by simp [regletref13_Empty.l2])
         |succ k3=>
          have H:=HA.out;clear HA;simp only [regletref13_Empty.l2] at H
          by_cases c15:0≤cG
          rotate_left
          ·rw [if_neg c15] at H
           exact absurd H (by simp)
          rw [if_pos c15] at H;have sS:decide (0≤cG)=true:=decide_eq_true c15;clear c15
          by_cases c16:cG<(aQ.length:Int)
          rotate_left
          ·rw [if_neg c16] at H
           exact absurd H (by simp)
          rw [if_pos c16] at H;have Jf:decide (cG<(aQ.length:Int))=true:=decide_eq_true c16;clear c16
          by_cases c17:fU<(((rd_T35 aQ cG).f1).length:Int)
          ·rw [if_pos c17] at H
           have vG:decide (fU<(((rd_T35 aQ cG).f1).length:Int))=true:=decide_eq_true c17;clear c17
           by_cases c18:0≤fU
           rotate_left
           ·rw [if_neg c18] at H
            exact absurd H (by simp)
           rw [if_pos c18] at H;have Pt:decide (0≤fU)=true:=decide_eq_true c18;clear c18
           by_cases c19:Jj=true
           ·subst c19
            have H1:(if((rd_T43 ((rd_T35 aQ cG).f1) fU).f0=true) then(regletref13_Empty.l2 k3 gV oJ cG false (wrap64 (fU+1)) aU aX bB bK aQ) else(if 0≤((rd_T43 ((rd_T35 aQ cG).f1) fU).f1) then(if((rd_T43 ((rd_T35 aQ cG).f1) fU).f1)<(gV.length:Int) then(regletref13_Empty.l2 k3 gV oJ cG (rdOf false gV ((rd_T43 ((rd_T35 aQ cG).f1) fU).f1)) (wrap64 (fU+1)) aU aX bB bK aQ) else(none)) else(none)))=some r:=by rw [if_pos rfl] at H;exact H
            clear H;have H:=H1;clear H1;obtain⟨bq20,hbq20⟩:∃b_:Bool,b_=((rd_T43 ((rd_T35 aQ cG).f1) fU).f0):=⟨_,rfl⟩;replace H:(if(bq20=true) then(regletref13_Empty.l2 k3 gV oJ cG false (wrap64 (fU+1)) aU aX bB bK aQ) else(if 0≤((rd_T43 ((rd_T35 aQ cG).f1) fU).f1) then(if((rd_T43 ((rd_T35 aQ cG).f1) fU).f1)<(gV.length:Int) then(regletref13_Empty.l2 k3 gV oJ cG (rdOf false gV ((rd_T43 ((rd_T35 aQ cG).f1) fU).f1)) (wrap64 (fU+1)) aU aX bB bK aQ) else(none)) else(none)))=some r:=by rw [←hbq20] at H;exact H
            have Nbq20:=aM hbq20;clear hbq20
            by_cases c21:(bq20=true)
            ·subst c21
             have H1:(regletref13_Empty.l2 k3 gV oJ cG false (wrap64 (fU+1)) aU aX bB bK aQ)=some r:=by rw [if_pos rfl] at H;exact H
             clear H;have H:=H1;clear H1;have H':=aM H;clear H;have Mn:wr.cell? ⟨dO,0,none⟩=some (.slice bR aU.length bS):=(aG cD.out 0).trans rfl;have Mo:wr.cell? ⟨dO,1,none⟩=some (.slice bU aX.length bV):=(aG cD.out 1).trans rfl;have BT:wr.cell? ⟨dO,2,none⟩=some (.int .i64 bB):=(aG cD.out 2).trans rfl;have BU:wr.cell? ⟨dO,3,none⟩=some (.int .i64 bK):=(aG cD.out 3).trans rfl;have BV:wr.cell? ⟨dO,4,none⟩=some (.slice cC aQ.length bX):=(aG cD.out 4).trans rfl;have Mp:=aH cD.out 0;have Mq:=aH cD.out 1;have BX:=aH cD.out 2;have BZ:=aH cD.out 3;have CA:=aH cD.out 4;have p348:0≤(cG:Int):=of_decide_eq_true (by first|(with_reducible assumption)|assumption);have q348:cG<(aQ.length:Int):=of_decide_eq_true (by first|(with_reducible assumption)|assumption);obtain⟨kU,vO,vP,e348,fK,eO,gL,gM⟩:=at_T35 fP.out cG p348 q348
             cases e348;replace fK:=(HB.out.cell (World.block_lt_of_cell? w _ fK)).trans fK;replace eO:=(HB.out.cell (World.block_lt_of_cell? w _ eO)).trans eO;have rE:=aM gM;have rF:=aM gL;clear gM gL;replace p348:=eq_true p348;replace q348:=eq_true q348;have p349:0≤(cG:Int):=of_decide_eq_true (by first|(with_reducible assumption)|assumption);have q349:cG<(aQ.length:Int):=of_decide_eq_true (by first|(with_reducible assumption)|assumption);obtain⟨Bc,Jk,Jl,e349,kD,iH,mM,mN⟩:=at_T35 fP.out cG p349 q349;obtain rfl:kU=Bc:=(by injection e349);replace kD:=(HB.out.cell (World.block_lt_of_cell? w _ kD)).trans kD;replace iH:=(HB.out.cell (World.block_lt_of_cell? w _ iH)).trans iH;have rG:=aM mN;have Ft:=aM mM;clear mN mM;replace p349:=eq_true p349;replace q349:=eq_true q349;have ea_:=Option.some.inj (eO.symm.trans iH);injection ea_ with ea_ en_ ec_
             subst ea_;subst ec_;clear en_;have p350:0≤(fU:Int):=of_decide_eq_true (by first|(with_reducible assumption)|assumption);have q350:fU<(((rd_T35 aQ cG).f1).length:Int):=of_decide_eq_true (by first|(with_reducible assumption)|assumption);obtain⟨Pz,e350,iT,kE⟩:=at_T43 rG.out fU p350 q350
             (try rw [←Nbq20.out] at iT)
             cases e350;replace iT:=(HB.out.cell (World.block_lt_of_cell? w _ iT)).trans iT;replace kE:=(HB.out.cell (World.block_lt_of_cell? w _ kE)).trans kE;replace p350:=eq_true p350;replace q350:=eq_true q350
             go_wp2_with (first|((with_reducible refine bJ (N:=8) rfl ?_);refine box_event ?hg (N:=8) ?hd (cs:=#[.bool false,.int .i64 0]) (t:=43) ?hr ?_;(case hd=>rfl);(case hg=>rfl);(case hr=>first|(go_simp;done)|(go_simp;rfl));intro gF hg w23 hbox hb;have cH:=aM (aD (gR fI.out) hb);have cI:=aM (bF (gB cD.out) hb);have cK:=aM (bG (gW HB.out) hb);have cQ:=aM (hbox);have dI:=aM ((by rw [hg];exact(bH (gW HB.out)):w.heap.size≤gF));have dR:=aM ((by rw [hg];exact(bH (gW HB.out)):w.heap.size≤gF));have dV:=aM ((by rw [hg];exact Nat.ne_of_lt (bN (g:=dO) (o:= .cells #[.slice bR aU.length bS,.slice bU aX.length bV,.int .i64 bB,.int .i64 bK,.slice (some kU) aQ.length bX] 26 (0,0)) (gB cD.out)):dO≠gF));have eV:=aM ((by rw [hg];exact Nat.ne_of_gt (bN (g:=dO) (o:= .cells #[.slice bR aU.length bS,.slice bU aX.length bV,.int .i64 bB,.int .i64 bK,.slice (some kU) aQ.length bX] 26 (0,0)) (gB cD.out)):gF≠dO));clear fI;clear cD;clear HB;have fI:=cH;have cD:=cI;have HB:=cK;have kF:=cQ;have GW351:=dI;have Bd:=dR;have gZ:=dV;have mW:=eV;clear cH cI cK cQ dI dR dV eV;clear hb hbox hg;have hnb24:=mW.out;have hnc24:=gZ.out;have Fu:w23.cell? ⟨gF,0,none⟩=some (.bool false):=(aG kF.out 0).trans rfl;have Fv:w23.cell? ⟨gF,1,none⟩=some (.int .i64 0):=(aG kF.out 1).trans rfl;have Fw:=aH kF.out 0;have Fx:=aH kF.out 1))
             go_roundg k3
             case measure=>have:=HK1.out;have:=HK2.out;have:=HK3.out;omega
             case rel=>exact⟨(false),(wrap64 (fU+1)),(by first|rfl|(simp;done)|(simp [*];done)),(by first|rfl|(simp;done)|(simp [*];done)),H',⟨by have:=HK1.out;have:=HK2.out;have:=HK3.out;omega⟩,⟨by(with_reducible repeat(first|apply aA|apply aB|apply aC));exact Kd.R_mono (aE (p:=⟨gF,1,none⟩) (aE (p:=⟨gF,0,none⟩) (Kd.R_types fI.out kF.out (by decide)) (fun _ hk=>hk.2) (.bool true)) (fun _ hk=>hk.2) (.int .i64 ((rd_T43 ((rd_T35 aQ cG).f1) fU).f1))) (fun _ hk=>trivial)⟩,⟨by(with_reducible repeat(first|refine aJ ?_ _|refine aK ?_|refine aI ?_ _));refine blk_far ?_ gZ.out _;(with_reducible repeat(first|refine aJ ?_ _|refine aK ?_|refine aI ?_ _));refine blk_far ?_ gZ.out _;(with_reducible repeat(first|refine aJ ?_ _|refine aK ?_|refine aI ?_ _));exact cD.out⟩,⟨by repeat(first|(with_reducible first|exact HB.out|apply aN|apply aP|apply aO|refine aL ?_ Fs.out|refine aL ?_ Bd.out)|exact HB.out)⟩⟩
            ·replace c21:=Bool.eq_false_iff.mpr c21
             subst c21;have H1:(if 0≤((rd_T43 ((rd_T35 aQ cG).f1) fU).f1) then(if((rd_T43 ((rd_T35 aQ cG).f1) fU).f1)<(gV.length:Int) then(regletref13_Empty.l2 k3 gV oJ cG (rdOf false gV ((rd_T43 ((rd_T35 aQ cG).f1) fU).f1)) (wrap64 (fU+1)) aU aX bB bK aQ) else(none)) else(none))=some r:=by rw [if_neg (show ¬(false=true) by decide)] at H;exact H
             clear H;have H:=H1;clear H1
             by_cases c26:0≤((rd_T43 ((rd_T35 aQ cG).f1) fU).f1)
             rotate_left
             ·rw [if_neg c26] at H
              exact absurd H (by simp)
             rw [if_pos c26] at H;have vQ:decide (0≤((rd_T43 ((rd_T35 aQ cG).f1) fU).f1))=true:=decide_eq_true c26;clear c26
             by_cases c27:((rd_T43 ((rd_T35 aQ cG).f1) fU).f1)<(gV.length:Int)
             rotate_left
             ·rw [if_neg c27] at H
              exact absurd H (by simp)
             rw [if_pos c27] at H;have JB:decide (((rd_T43 ((rd_T35 aQ cG).f1) fU).f1)<(gV.length:Int))=true:=decide_eq_true c27;clear c27;have H':=aM H;clear H;have xM:wr.cell? ⟨dO,0,none⟩=some (.slice bR aU.length bS):=(aG cD.out 0).trans rfl;have xN:wr.cell? ⟨dO,1,none⟩=some (.slice bU aX.length bV):=(aG cD.out 1).trans rfl;have xO:wr.cell? ⟨dO,2,none⟩=some (.int .i64 bB):=(aG cD.out 2).trans rfl;have xP:wr.cell? ⟨dO,3,none⟩=some (.int .i64 bK):=(aG cD.out 3).trans rfl;have xQ:wr.cell? ⟨dO,4,none⟩=some (.slice cC aQ.length bX):=(aG cD.out 4).trans rfl;have xR:=aH cD.out 0;have xS:=aH cD.out 1;have xT:=aH cD.out 2;have xU:=aH cD.out 3;have xV:=aH cD.out 4;have p348:0≤(cG:Int):=of_decide_eq_true (by first|(with_reducible assumption)|assumption);have q348:cG<(aQ.length:Int):=of_decide_eq_true (by first|(with_reducible assumption)|assumption);obtain⟨kU,vO,vP,e348,fK,eO,gL,gM⟩:=at_T35 fP.out cG p348 q348
             cases e348;replace fK:=(HB.out.cell (World.block_lt_of_cell? w _ fK)).trans fK;replace eO:=(HB.out.cell (World.block_lt_of_cell? w _ eO)).trans eO;have rE:=aM gM;have rF:=aM gL;clear gM gL;replace p348:=eq_true p348;replace q348:=eq_true q348;have p349:0≤(cG:Int):=of_decide_eq_true (by first|(with_reducible assumption)|assumption);have q349:cG<(aQ.length:Int):=of_decide_eq_true (by first|(with_reducible assumption)|assumption);obtain⟨Bc,Jk,Jl,e349,kD,iH,mM,mN⟩:=at_T35 fP.out cG p349 q349;obtain rfl:kU=Bc:=(by injection e349);replace kD:=(HB.out.cell (World.block_lt_of_cell? w _ kD)).trans kD;replace iH:=(HB.out.cell (World.block_lt_of_cell? w _ iH)).trans iH;have rG:=aM mN;have Ft:=aM mM;clear mN mM;replace p349:=eq_true p349;replace q349:=eq_true q349;have ea_:=Option.some.inj (eO.symm.trans iH);injection ea_ with ea_ en_ ec_
             subst ea_;subst ec_;clear en_;have p350:0≤(fU:Int):=of_decide_eq_true (by first|(with_reducible assumption)|assumption);have q350:fU<(((rd_T35 aQ cG).f1).length:Int):=of_decide_eq_true (by first|(with_reducible assumption)|assumption);obtain⟨Pz,e350,iT,kE⟩:=at_T43 rG.out fU p350 q350
             (try rw [←Nbq20.out] at iT)
             cases e350;replace iT:=(HB.out.cell (World.block_lt_of_cell? w _ iT)).trans iT;replace kE:=(HB.out.cell (World.block_lt_of_cell? w _ kE)).trans kE;replace p350:=eq_true p350;replace q350:=eq_true q350
             go_wp2_with (first|((with_reducible refine bJ (N:=8) rfl ?_);refine box_event ?hg (N:=8) ?hd (cs:=#[.bool false,.int .i64 0]) (t:=43) ?hr ?_;(case hd=>rfl);(case hg=>rfl);(case hr=>first|(go_simp;done)|(go_simp;rfl));intro gF hg w29 hbox hb;have cH:=aM (aD (gR fI.out) hb);have cI:=aM (bF (gB cD.out) hb);have cK:=aM (bG (gW HB.out) hb);have cQ:=aM (hbox);have dI:=aM ((by rw [hg];exact(bH (gW HB.out)):w.heap.size≤gF));have dR:=aM ((by rw [hg];exact(bH (gW HB.out)):w.heap.size≤gF));have dV:=aM ((by rw [hg];exact Nat.ne_of_lt (bN (g:=dO) (o:= .cells #[.slice bR aU.length bS,.slice bU aX.length bV,.int .i64 bB,.int .i64 bK,.slice (some kU) aQ.length bX] 26 (0,0)) (gB cD.out)):dO≠gF));have eV:=aM ((by rw [hg];exact Nat.ne_of_gt (bN (g:=dO) (o:= .cells #[.slice bR aU.length bS,.slice bU aX.length bV,.int .i64 bB,.int .i64 bK,.slice (some kU) aQ.length bX] 26 (0,0)) (gB cD.out)):gF≠dO));clear fI;clear cD;clear HB;have fI:=cH;have cD:=cI;have HB:=cK;have kF:=cQ;have GW351:=dI;have Bd:=dR;have gZ:=dV;have mW:=eV;clear cH cI cK cQ dI dR dV eV;clear hb hbox hg;have hnb30:=mW.out;have hnc30:=gZ.out;have nG:w29.cell? ⟨gF,0,none⟩=some (.bool false):=(aG kF.out 0).trans rfl;have nH:w29.cell? ⟨gF,1,none⟩=some (.int .i64 0):=(aG kF.out 1).trans rfl;have nI:=aH kF.out 0;have nJ:=aH kF.out 1;obtain⟨KO,KP,FP⟩:=Kd.R_slice fI.out;subst FP;have p352:0≤(((rd_T43 ((rd_T35 aQ cG).f1) fU).f1):Int):=of_decide_eq_true (by first|(with_reducible assumption)|assumption);have q352:((rd_T43 ((rd_T35 aQ cG).f1) fU).f1)<(gV.length:Int):=of_decide_eq_true (by first|(with_reducible assumption)|assumption);obtain⟨Qa,e352,rH⟩:=Kd.at_bool (aF fI.out).2.2 ((rd_T43 ((rd_T35 aQ cG).f1) fU).f1) p352 q352;(try rw [←Nbq20.out] at rH);cases e352;have hn352_0:Qa.block≠gF:=Kd.own_blk (Kd.R_ne fI.out kF.out (by decide));have hn352_1:Qa.block≠gF:=Kd.own_blk (Kd.R_ne fI.out kF.out (by decide));replace rH:=(cell_far (p:=⟨gF,0,none⟩) (by first|(rw [add_block];exact hn352_0)|(show(Addr.add _ _).block≠_;rw [add_block];exact hn352_0)|exact hn352_0) (.bool false)).trans rH;replace rH:=(cell_far (p:=⟨gF,1,none⟩) (by first|(rw [add_block];exact hn352_1)|(show(Addr.add _ _).block≠_;rw [add_block];exact hn352_1)|exact hn352_1) (.int .i64 ((rd_T43 ((rd_T35 aQ cG).f1) fU).f1))).trans rH;clear hn352_0;clear hn352_1;replace p352:=eq_true p352;replace q352:=eq_true q352))
             go_roundg k3
             case measure=>have:=HK1.out;have:=HK2.out;have:=HK3.out;omega
             case rel=>exact⟨(rdOf false gV ((rd_T43 ((rd_T35 aQ cG).f1) fU).f1)),(wrap64 (fU+1)),(by first|rfl|(simp;done)|(simp [*];done)),(by first|rfl|(simp;done)|(simp [*];done)),H',⟨by have:=HK1.out;have:=HK2.out;have:=HK3.out;omega⟩,⟨by(with_reducible repeat(first|apply aA|apply aB|apply aC));exact Kd.R_mono (aE (p:=⟨gF,1,none⟩) (aE (p:=⟨gF,0,none⟩) (Kd.R_types fI.out kF.out (by decide)) (fun _ hk=>hk.2) (.bool false)) (fun _ hk=>hk.2) (.int .i64 ((rd_T43 ((rd_T35 aQ cG).f1) fU).f1))) (fun _ hk=>trivial)⟩,⟨by(with_reducible repeat(first|refine aJ ?_ _|refine aK ?_|refine aI ?_ _));refine blk_far ?_ gZ.out _;(with_reducible repeat(first|refine aJ ?_ _|refine aK ?_|refine aI ?_ _));refine blk_far ?_ gZ.out _;(with_reducible repeat(first|refine aJ ?_ _|refine aK ?_|refine aI ?_ _));exact cD.out⟩,⟨by repeat(first|(with_reducible first|exact HB.out|apply aN|apply aP|apply aO|refine aL ?_ Fs.out|refine aL ?_ Bd.out)|exact HB.out)⟩⟩
           ·replace c19:=Bool.eq_false_iff.mpr c19
            subst c19;have H1:(regletref13_Empty.l2 k3 gV oJ cG false (wrap64 (fU+1)) aU aX bB bK aQ)=some r:=by rw [if_neg (show ¬(false=true) by decide)] at H;exact H
            clear H;have H:=H1;clear H1;have H':=aM H;clear H;have tP:wr.cell? ⟨dO,0,none⟩=some (.slice bR aU.length bS):=(aG cD.out 0).trans rfl;have tQ:wr.cell? ⟨dO,1,none⟩=some (.slice bU aX.length bV):=(aG cD.out 1).trans rfl;have tR:wr.cell? ⟨dO,2,none⟩=some (.int .i64 bB):=(aG cD.out 2).trans rfl;have tS:wr.cell? ⟨dO,3,none⟩=some (.int .i64 bK):=(aG cD.out 3).trans rfl;have tT:wr.cell? ⟨dO,4,none⟩=some (.slice cC aQ.length bX):=(aG cD.out 4).trans rfl;have tU:=aH cD.out 0;have tV:=aH cD.out 1;have tW:=aH cD.out 2;have tX:=aH cD.out 3;have tY:=aH cD.out 4;have p348:0≤(cG:Int):=of_decide_eq_true (by first|(with_reducible assumption)|assumption);have q348:cG<(aQ.length:Int):=of_decide_eq_true (by first|(with_reducible assumption)|assumption);obtain⟨kU,vO,vP,e348,fK,eO,gL,gM⟩:=at_T35 fP.out cG p348 q348
            cases e348;replace fK:=(HB.out.cell (World.block_lt_of_cell? w _ fK)).trans fK;replace eO:=(HB.out.cell (World.block_lt_of_cell? w _ eO)).trans eO;have rE:=aM gM;have rF:=aM gL;clear gM gL;replace p348:=eq_true p348;replace q348:=eq_true q348;have p349:0≤(cG:Int):=of_decide_eq_true (by first|(with_reducible assumption)|assumption);have q349:cG<(aQ.length:Int):=of_decide_eq_true (by first|(with_reducible assumption)|assumption);obtain⟨Bc,Jk,Jl,e349,kD,iH,mM,mN⟩:=at_T35 fP.out cG p349 q349;obtain rfl:kU=Bc:=(by injection e349);replace kD:=(HB.out.cell (World.block_lt_of_cell? w _ kD)).trans kD;replace iH:=(HB.out.cell (World.block_lt_of_cell? w _ iH)).trans iH;have rG:=aM mN;have Ft:=aM mM;clear mN mM;replace p349:=eq_true p349;replace q349:=eq_true q349;have ea_:=Option.some.inj (eO.symm.trans iH);injection ea_ with ea_ en_ ec_
            subst ea_;subst ec_;clear en_;have p350:0≤(fU:Int):=of_decide_eq_true (by first|(with_reducible assumption)|assumption);have q350:fU<(((rd_T35 aQ cG).f1).length:Int):=of_decide_eq_true (by first|(with_reducible assumption)|assumption);obtain⟨Pz,e350,iT,kE⟩:=at_T43 rG.out fU p350 q350
            cases e350;replace iT:=(HB.out.cell (World.block_lt_of_cell? w _ iT)).trans iT;replace kE:=(HB.out.cell (World.block_lt_of_cell? w _ kE)).trans kE;replace p350:=eq_true p350;replace q350:=eq_true q350
            go_wp2_with (first|((with_reducible refine bJ (N:=8) rfl ?_);refine box_event ?hg (N:=8) ?hd (cs:=#[.bool false,.int .i64 0]) (t:=43) ?hr ?_;(case hd=>rfl);(case hg=>rfl);(case hr=>first|(go_simp;done)|(go_simp;rfl));intro gF hg w34 hbox hb;have cH:=aM (aD (gR fI.out) hb);have cI:=aM (bF (gB cD.out) hb);have cK:=aM (bG (gW HB.out) hb);have cQ:=aM (hbox);have dI:=aM ((by rw [hg];exact(bH (gW HB.out)):w.heap.size≤gF));have dR:=aM ((by rw [hg];exact(bH (gW HB.out)):w.heap.size≤gF));have dV:=aM ((by rw [hg];exact Nat.ne_of_lt (bN (g:=dO) (o:= .cells #[.slice bR aU.length bS,.slice bU aX.length bV,.int .i64 bB,.int .i64 bK,.slice (some kU) aQ.length bX] 26 (0,0)) (gB cD.out)):dO≠gF));have eV:=aM ((by rw [hg];exact Nat.ne_of_gt (bN (g:=dO) (o:= .cells #[.slice bR aU.length bS,.slice bU aX.length bV,.int .i64 bB,.int .i64 bK,.slice (some kU) aQ.length bX] 26 (0,0)) (gB cD.out)):gF≠dO));clear fI;clear cD;clear HB;have fI:=cH;have cD:=cI;have HB:=cK;have kF:=cQ;have GW351:=dI;have Bd:=dR;have gZ:=dV;have mW:=eV;clear cH cI cK cQ dI dR dV eV;clear hb hbox hg;have hnb35:=mW.out;have hnc35:=gZ.out;have pG:w34.cell? ⟨gF,0,none⟩=some (.bool false):=(aG kF.out 0).trans rfl;have pH:w34.cell? ⟨gF,1,none⟩=some (.int .i64 0):=(aG kF.out 1).trans rfl;have pI:=aH kF.out 0;have pJ:=aH kF.out 1))
            go_roundg k3
            case measure=>have:=HK1.out;have:=HK2.out;have:=HK3.out;omega
            case rel=>exact⟨(false),(wrap64 (fU+1)),(by first|rfl|(simp;done)|(simp [*];done)),(by first|rfl|(simp;done)|(simp [*];done)),H',⟨by have:=HK1.out;have:=HK2.out;have:=HK3.out;omega⟩,⟨by(with_reducible repeat(first|apply aA|apply aB|apply aC));exact Kd.R_mono (aE (p:=⟨gF,1,none⟩) (aE (p:=⟨gF,0,none⟩) (Kd.R_types fI.out kF.out (by decide)) (fun _ hk=>hk.2) (.bool ((rd_T43 ((rd_T35 aQ cG).f1) fU).f0))) (fun _ hk=>hk.2) (.int .i64 ((rd_T43 ((rd_T35 aQ cG).f1) fU).f1))) (fun _ hk=>trivial)⟩,⟨by(with_reducible repeat(first|refine aJ ?_ _|refine aK ?_|refine aI ?_ _));refine blk_far ?_ gZ.out _;(with_reducible repeat(first|refine aJ ?_ _|refine aK ?_|refine aI ?_ _));refine blk_far ?_ gZ.out _;(with_reducible repeat(first|refine aJ ?_ _|refine aK ?_|refine aI ?_ _));exact cD.out⟩,⟨by repeat(first|(with_reducible first|exact HB.out|apply aN|apply aP|apply aO|refine aL ?_ Fs.out|refine aL ?_ Bd.out)|exact HB.out)⟩⟩
          ·rw [if_neg c17] at H
           have vG:decide (fU<(((rd_T35 aQ cG).f1).length:Int))=false:=decide_eq_false c17;clear c17
           by_cases c37:Jj=true
           ·subst c37
            have H1:(if 0≤((rd_T35 aQ cG).f0) then(if((rd_T35 aQ cG).f0)<(gV.length:Int) then(if(rdOf false gV ((rd_T35 aQ cG).f0)=true) then(regletref13_Empty.l1 k3 gV oJ (wrap64 (cG+1)) aU aX bB bK aQ) else(regletref13_Empty.l1 k3 (gV.set (((rd_T35 aQ cG).f0):Int).toNat true) true (wrap64 (cG+1)) aU aX bB bK aQ)) else(none)) else(none))=some r:=by rw [if_pos rfl] at H;exact H
            clear H;have H:=H1;clear H1
            by_cases c38:0≤((rd_T35 aQ cG).f0)
            rotate_left
            ·rw [if_neg c38] at H
             exact absurd H (by simp)
            rw [if_pos c38] at H;have JC:decide (0≤((rd_T35 aQ cG).f0))=true:=decide_eq_true c38;clear c38
            by_cases c39:((rd_T35 aQ cG).f0)<(gV.length:Int)
            rotate_left
            ·rw [if_neg c39] at H
             exact absurd H (by simp)
            rw [if_pos c39] at H;have Fy:decide (((rd_T35 aQ cG).f0)<(gV.length:Int))=true:=decide_eq_true c39;clear c39;obtain⟨bq40,hbq40⟩:∃b_:Bool,b_=(rdOf false gV ((rd_T35 aQ cG).f0)):=⟨_,rfl⟩;replace H:(if(bq40=true) then(regletref13_Empty.l1 k3 gV oJ (wrap64 (cG+1)) aU aX bB bK aQ) else(regletref13_Empty.l1 k3 (gV.set (((rd_T35 aQ cG).f0):Int).toNat true) true (wrap64 (cG+1)) aU aX bB bK aQ))=some r:=by rw [←hbq40] at H;exact H
            have Nbq40:=aM hbq40;clear hbq40
            by_cases c41:(bq40=true)
            ·subst c41
             have H1:(regletref13_Empty.l1 k3 gV oJ (wrap64 (cG+1)) aU aX bB bK aQ)=some r:=by rw [if_pos rfl] at H;exact H
             clear H;have H:=H1;clear H1;have H':=aM H;clear H;have Fl:wr.cell? ⟨dO,0,none⟩=some (.slice bR aU.length bS):=(aG cD.out 0).trans rfl;have Fm:wr.cell? ⟨dO,1,none⟩=some (.slice bU aX.length bV):=(aG cD.out 1).trans rfl;have Lt:wr.cell? ⟨dO,2,none⟩=some (.int .i64 bB):=(aG cD.out 2).trans rfl;have Lu:wr.cell? ⟨dO,3,none⟩=some (.int .i64 bK):=(aG cD.out 3).trans rfl;have Lv:wr.cell? ⟨dO,4,none⟩=some (.slice cC aQ.length bX):=(aG cD.out 4).trans rfl;have Fn:=aH cD.out 0;have Fo:=aH cD.out 1;have Lw:=aH cD.out 2;have Lx:=aH cD.out 3;have Ly:=aH cD.out 4;have p348:0≤(cG:Int):=of_decide_eq_true (by first|(with_reducible assumption)|assumption);have q348:cG<(aQ.length:Int):=of_decide_eq_true (by first|(with_reducible assumption)|assumption);obtain⟨kU,vO,vP,e348,fK,eO,gL,gM⟩:=at_T35 fP.out cG p348 q348
             cases e348;replace fK:=(HB.out.cell (World.block_lt_of_cell? w _ fK)).trans fK;replace eO:=(HB.out.cell (World.block_lt_of_cell? w _ eO)).trans eO;have rE:=aM gM;have rF:=aM gL;clear gM gL;replace p348:=eq_true p348;replace q348:=eq_true q348;have p353:0≤(cG:Int):=of_decide_eq_true (by first|(with_reducible assumption)|assumption);have q353:cG<(aQ.length:Int):=of_decide_eq_true (by first|(with_reducible assumption)|assumption);obtain⟨Jm,Sg,Si,e353,nX,lN,rI,rJ⟩:=at_T35 fP.out cG p353 q353;obtain rfl:kU=Jm:=(by injection e353);replace nX:=(HB.out.cell (World.block_lt_of_cell? w _ nX)).trans nX;replace lN:=(HB.out.cell (World.block_lt_of_cell? w _ lN)).trans lN;have Mr:=aM rJ;have Ms:=aM rI;clear rJ rI;replace p353:=eq_true p353;replace q353:=eq_true q353;have ea_:=Option.some.inj (eO.symm.trans lN);injection ea_ with ea_ en_ ec_
             subst ea_;subst ec_;clear en_;obtain⟨rK,rL,Sj⟩:=Kd.R_slice fI.out;subst Sj;have p354:0≤(((rd_T35 aQ cG).f0):Int):=of_decide_eq_true (by first|(with_reducible assumption)|assumption);have q354:((rd_T35 aQ cG).f0)<(gV.length:Int):=of_decide_eq_true (by first|(with_reducible assumption)|assumption);obtain⟨Vp,e354,tZ⟩:=Kd.at_bool (aF fI.out).2.2 ((rd_T35 aQ cG).f0) p354 q354
             (try rw [←Nbq40.out] at tZ)
             cases e354;replace p354:=eq_true p354;replace q354:=eq_true q354;go_wp2
             go_roundg k3
             case measure=>have:=HK1.out;have:=HK2.out;have:=HK3.out;omega
             case rel=>exact⟨(gV),(oJ),(wrap64 (cG+1)),(by first|rfl|(simp;done)|(simp [*];done)),(by first|rfl|(simp;done)|(simp [*];done)),H',⟨by have:=HK1.out;have:=HK2.out;have:=HK3.out;omega⟩,⟨gR fI.out⟩,⟨gB cD.out⟩,⟨gW HB.out⟩⟩
            ·replace c41:=Bool.eq_false_iff.mpr c41
             subst c41;have H1:(regletref13_Empty.l1 k3 (gV.set (((rd_T35 aQ cG).f0):Int).toNat true) true (wrap64 (cG+1)) aU aX bB bK aQ)=some r:=by rw [if_neg (show ¬(false=true) by decide)] at H;exact H
             clear H;have H:=H1;clear H1;obtain⟨y356,Be⟩:∃y_:List Bool,y_=(gV.set (((rd_T35 aQ cG).f0):Int).toNat true):=⟨_,rfl⟩;replace H:(regletref13_Empty.l1 k3 y356 true (wrap64 (cG+1)) aU aX bB bK aQ)=some r:=by first|(rw [Be];with_reducible exact H)|(have H2_:=(Option.bind_some _ _).symm.trans H;rw [Be];with_reducible exact H2_)|(have H2_:=(Option.bind_some _ _).symm.trans H;with_reducible exact H2_)|with_reducible exact H|(rw [Be];exact H)|exact H
             have Vq:=aM Be;clear Be;have H':=aM H;clear H;have Lz:wr.cell? ⟨dO,0,none⟩=some (.slice bR aU.length bS):=(aG cD.out 0).trans rfl;have Ma:wr.cell? ⟨dO,1,none⟩=some (.slice bU aX.length bV):=(aG cD.out 1).trans rfl;have Mb:wr.cell? ⟨dO,2,none⟩=some (.int .i64 bB):=(aG cD.out 2).trans rfl;have Mc:wr.cell? ⟨dO,3,none⟩=some (.int .i64 bK):=(aG cD.out 3).trans rfl;have Md:wr.cell? ⟨dO,4,none⟩=some (.slice cC aQ.length bX):=(aG cD.out 4).trans rfl;have Me:=aH cD.out 0;have Mf:=aH cD.out 1;have Mg:=aH cD.out 2;have Mh:=aH cD.out 3;have Mi:=aH cD.out 4;have p348:0≤(cG:Int):=of_decide_eq_true (by first|(with_reducible assumption)|assumption);have q348:cG<(aQ.length:Int):=of_decide_eq_true (by first|(with_reducible assumption)|assumption);obtain⟨kU,vO,vP,e348,fK,eO,gL,gM⟩:=at_T35 fP.out cG p348 q348
             cases e348;replace fK:=(HB.out.cell (World.block_lt_of_cell? w _ fK)).trans fK;replace eO:=(HB.out.cell (World.block_lt_of_cell? w _ eO)).trans eO;have rE:=aM gM;have rF:=aM gL;clear gM gL;replace p348:=eq_true p348;replace q348:=eq_true q348;have p353:0≤(cG:Int):=of_decide_eq_true (by first|(with_reducible assumption)|assumption);have q353:cG<(aQ.length:Int):=of_decide_eq_true (by first|(with_reducible assumption)|assumption);obtain⟨Jm,Sg,Si,e353,nX,lN,rI,rJ⟩:=at_T35 fP.out cG p353 q353;obtain rfl:kU=Jm:=(by injection e353);replace nX:=(HB.out.cell (World.block_lt_of_cell? w _ nX)).trans nX;replace lN:=(HB.out.cell (World.block_lt_of_cell? w _ lN)).trans lN;have Mr:=aM rJ;have Ms:=aM rI;clear rJ rI;replace p353:=eq_true p353;replace q353:=eq_true q353;have ea_:=Option.some.inj (eO.symm.trans lN);injection ea_ with ea_ en_ ec_
             subst ea_;subst ec_;clear en_;obtain⟨Sk,Mt,Mu⟩:=Kd.R_slice fI.out;subst Mu;have p354:0≤(((rd_T35 aQ cG).f0):Int):=of_decide_eq_true (by first|(with_reducible assumption)|assumption);have q354:((rd_T35 aQ cG).f0)<(gV.length:Int):=of_decide_eq_true (by first|(with_reducible assumption)|assumption);obtain⟨Vp,e354,tZ⟩:=Kd.at_bool (aF fI.out).2.2 ((rd_T35 aQ cG).f0) p354 q354
             (try rw [←Nbq40.out] at tZ)
             cases e354;replace p354:=eq_true p354;replace q354:=eq_true q354;have p355:0≤(cG:Int):=of_decide_eq_true (by first|(with_reducible assumption)|assumption);have q355:cG<(aQ.length:Int):=of_decide_eq_true (by first|(with_reducible assumption)|assumption);obtain⟨Vr,FQ,FR,e355,yJ,uA,Fz,Ga⟩:=at_T35 fP.out cG p355 q355;obtain rfl:kU=Vr:=(by injection e355);replace yJ:=(HB.out.cell (World.block_lt_of_cell? w _ yJ)).trans yJ;replace uA:=(HB.out.cell (World.block_lt_of_cell? w _ uA)).trans uA;have CB:=aM Ga;have CC:=aM Fz;clear Ga Fz;replace p355:=eq_true p355;replace q355:=eq_true q355;have ea_:=Option.some.inj (eO.symm.trans uA);injection ea_ with ea_ en_ ec_
             subst ea_;subst ec_;clear en_;have p44:0≤(((rd_T35 aQ cG).f0):Int):=of_decide_eq_true (by first|(with_reducible assumption)|assumption);have q44:(((rd_T35 aQ cG).f0):Int)<((gV.length:Int):Int):=of_decide_eq_true (by first|(with_reducible assumption)|assumption);obtain⟨go44,KQ,Vs,Vt,gl44,cl44,HG44⟩:=Kd.R_form fI.out (by omega)
             (first|cases Vs|(injection Vs with ea_ en_ ec_;(first|subst ea_|(injection ea_ with ea_;subst ea_));subst ec_;clear en_))
             have GB44:=aM Vt;have GG44:=aM HG44;clear Vt gl44 HG44
             (first|simp only [add_plain] at tZ|skip)
             obtain⟨FS,hf44_0⟩:=Kd.R_celln false fI.out (((rd_T35 aQ cG).f0):Int) p44 q44;replace p44:=eq_true p44;replace q44:=eq_true q44;have HP47:=Kd.R_putg fI.out (((rd_T35 aQ cG).f0):Int) true
             go_wp2_with (first|((with_reducible refine gate_store (t:=4) (p:=77) rfl ?_);refine store_event (t:=4) (p:=77) (v:=?vo_w48) (w1:=(wr.setCell ⟨go44,(((rd_T35 aQ cG).f0):Int).toNat,none⟩ (.bool true))) ?hg ?ho ?hn ?hr ?_;(case ho=>rfl);(case hg=>rfl);(case hn=>rfl);(case hr=>first|(go_simp;done)|(go_simp;rfl));intro w48 hw;have hg:wr.grownBy w48 (some go44):=(by rw [hw];exact HP47.2);have hp_:Kd.R Kd.bool 4 w48 w.heap.size (fun _=>True) (.slice (some ⟨go44,0,none⟩) gV.length Mt) y356:=(by rw [hw,Vq.out];exact HP47.1);clear HP47;have cH:=aM (hp_);have cI:=aM (blk_grown (gB cD.out) hg (Kd.R_ne fI.out cD.out (by decide)));have cK:=aM ((by rw [hw];exact aL (HB.out) GB44.out:Below w.heap.size w w48));clear fI;clear cD;clear HB;have fI:=cH;have cD:=cI;have HB:=cK;clear cH cI cK;clear hg hw hp_))
             go_roundg k3
             case measure=>have:=HK1.out;have:=HK2.out;have:=HK3.out;omega
             case rel=>exact⟨(y356),(true),(wrap64 (cG+1)),(by first|rfl|(simp;done)|(simp [*];done)),(by first|rfl|(simp;done)|(simp [*];done)),H',⟨by have:=HK1.out;have:=HK2.out;have:=HK3.out;omega⟩,⟨gR fI.out⟩,⟨gB cD.out⟩,⟨gW HB.out⟩⟩
           ·replace c37:=Bool.eq_false_iff.mpr c37
            subst c37;have H1:(regletref13_Empty.l1 k3 gV oJ (wrap64 (cG+1)) aU aX bB bK aQ)=some r:=by rw [if_neg (show ¬(false=true) by decide)] at H;exact H
            clear H;have H:=H1;clear H1;have H':=aM H;clear H;have CD:wr.cell? ⟨dO,0,none⟩=some (.slice bR aU.length bS):=(aG cD.out 0).trans rfl;have CG:wr.cell? ⟨dO,1,none⟩=some (.slice bU aX.length bV):=(aG cD.out 1).trans rfl;have CH:wr.cell? ⟨dO,2,none⟩=some (.int .i64 bB):=(aG cD.out 2).trans rfl;have CI:wr.cell? ⟨dO,3,none⟩=some (.int .i64 bK):=(aG cD.out 3).trans rfl;have CJ:wr.cell? ⟨dO,4,none⟩=some (.slice cC aQ.length bX):=(aG cD.out 4).trans rfl;have CK:=aH cD.out 0;have CL:=aH cD.out 1;have CM:=aH cD.out 2;have CN:=aH cD.out 3;have CO:=aH cD.out 4;have p348:0≤(cG:Int):=of_decide_eq_true (by first|(with_reducible assumption)|assumption);have q348:cG<(aQ.length:Int):=of_decide_eq_true (by first|(with_reducible assumption)|assumption);obtain⟨kU,vO,vP,e348,fK,eO,gL,gM⟩:=at_T35 fP.out cG p348 q348
            cases e348;replace fK:=(HB.out.cell (World.block_lt_of_cell? w _ fK)).trans fK;replace eO:=(HB.out.cell (World.block_lt_of_cell? w _ eO)).trans eO;have rE:=aM gM;have rF:=aM gL;clear gM gL;replace p348:=eq_true p348;replace q348:=eq_true q348;go_wp2
            go_roundg k3
            case measure=>have:=HK1.out;have:=HK2.out;have:=HK3.out;omega
            case rel=>exact⟨(gV),(oJ),(wrap64 (cG+1)),(by first|rfl|(simp;done)|(simp [*];done)),(by first|rfl|(simp;done)|(simp [*];done)),H',⟨by have:=HK1.out;have:=HK2.out;have:=HK3.out;omega⟩,⟨gR fI.out⟩,⟨gB cD.out⟩,⟨gW HB.out⟩⟩
       ·rw [if_neg c13] at H
        have Je:decide (cG<(aQ.length:Int))=false:=decide_eq_false c13;clear c13;have H':=aM H;clear H;have Mv:wr.cell? ⟨dO,0,none⟩=some (.slice bR aU.length bS):=(aG cD.out 0).trans rfl;have Mw:wr.cell? ⟨dO,1,none⟩=some (.slice bU aX.length bV):=(aG cD.out 1).trans rfl;have Mx:wr.cell? ⟨dO,2,none⟩=some (.int .i64 bB):=(aG cD.out 2).trans rfl;have My:wr.cell? ⟨dO,3,none⟩=some (.int .i64 bK):=(aG cD.out 3).trans rfl;have Mz:wr.cell? ⟨dO,4,none⟩=some (.slice cC aQ.length bX):=(aG cD.out 4).trans rfl;have Na:=aH cD.out 0;have Nb:=aH cD.out 1;have Nc:=aH cD.out 2;have Nd:=aH cD.out 3;have Nf:=aH cD.out 4;go_wp2
        go_roundg k2
        case measure=>have:=HK1.out;have:=HK2.out;omega
        case rel=>exact⟨(gV),(oJ),(by first|rfl|(simp;done)|(simp [*];done)),H',⟨by have:=HK1.out;have:=HK2.out;omega⟩,⟨gR fI.out⟩,⟨gB cD.out⟩,⟨gW HB.out⟩⟩
    ·replace c12:=Bool.eq_false_iff.mpr c12
     subst c12;have H1:(some dD)=some r:=by rw [if_neg (show ¬(false=true) by decide)] at H;exact H
     clear H;have H:=H1;clear H1;obtain rfl:=Option.some.inj H;go_wp2
     go_ret
     exact⟨_,by first|rfl|(simp [errW_none,errW_some]<;>rfl)|(simp [*,errW_none,errW_some]<;>rfl),gR fI.out,gW HB.out⟩
 ·replace c3:=Bool.eq_false_iff.mpr c3
  subst c3;have H1:(some ([]:List Bool))=some r:=by rw [if_neg (show ¬(false=true) by decide)] at H;exact H
  clear H;have H:=H1;clear H1;obtain rfl:=Option.some.inj H;go_enter Try.func45,Try.ntmps45
  go_wp2_with (first|((with_reducible refine bJ (N:=1) rfl ?_);refine box_event ?hg (N:=1) ?hd (cs:=#[.slice bR aU.length bS,.slice bU aX.length bV,.int .i64 bB,.int .i64 bK,.slice cC aQ.length bX]) (t:=26) ?hr ?_;(case hd=>rfl);(case hg=>rfl);(case hr=>first|(go_simp;done)|(go_simp;rfl));intro dO hg w51 hbox hb;have cH:=aM (bG (gW HB.out) hb);have cI:=aM (hbox);have cK:=aM ((by rw [hg];exact(bH (gW HB.out)):w.heap.size≤dO));have cQ:=aM ((by rw [hg];exact(bH (gW HB.out)):w.heap.size≤dO));clear HB;have HB:=cH;have cD:=cI;have GW343:=cK;have Fs:=cQ;clear cH cI cK cQ;clear hb hbox hg;have Ng:w51.cell? ⟨dO,0,none⟩=some (.slice bR aU.length bS):=(aG cD.out 0).trans rfl;have Nh:w51.cell? ⟨dO,1,none⟩=some (.slice bU aX.length bV):=(aG cD.out 1).trans rfl;have Nk:w51.cell? ⟨dO,2,none⟩=some (.int .i64 bB):=(aG cD.out 2).trans rfl;have Nl:w51.cell? ⟨dO,3,none⟩=some (.int .i64 bK):=(aG cD.out 3).trans rfl;have Nm:w51.cell? ⟨dO,4,none⟩=some (.slice cC aQ.length bX):=(aG cD.out 4).trans rfl;have Nn:=aH cD.out 0;have No:=aH cD.out 1;have Np:=aH cD.out 2;have Nq:=aH cD.out 3;have Nr:=aH cD.out 4)|((with_reducible refine bI (f:=30) rfl ?_);refine goesL_ (some 10) rfl rfl Try.func30 (by kernel_rfl) rfl #[.agg #[.slice bR aU.length bS,.slice bU aX.length bV,.int .i64 bB,.int .i64 bK,.slice cC aQ.length bX]] rfl (by(try simp only [List.map_toArray,List.map_cons,List.map_nil]);first|done|rfl|(simp only [List.length_drop,List.length_take];rfl)) ?_;(with_reducible refine(regletref13_Right.calls k _ _ aU _ _ aX bB bK _ _ aQ false _ ?side1 ?side2 ?side3 ?side4 ?side5 ?side6 A2.out).mono ?_);(case side1=>exact gC (bD jA.out HB.out));(case side2=>exact jV.out);(case side3=>exact gC (bD kL.out HB.out));(case side4=>exact kM.out);(case side5=>exact gC (bD fP.out HB.out));(case side6=>exact kN.out);rintro e w53 ⟨rfl,hb⟩;refine⟨_,rfl,?_⟩;have cH:=aM (bF (gB cD.out) hb);have cI:=aM (bG (gW HB.out) hb);clear cD;clear HB;have cD:=cH;have HB:=cI;clear cH cI;(try clear hb);(try clear hb2);(try clear hk);(try clear hi)))
  go_ret
  exact⟨_,by first|rfl|(simp [errW_none,errW_some]<;>rfl)|(simp [*,errW_none,errW_some]<;>rfl),by first|exact Kd.R_nil _ _ _ _ _|exact Kd.N_nil _ _ _ _ _|exact Kd.V_nil _ _ _ _ _|exact Kd.Q_nil _ _ _ _ _|exact Kd.S_nil _ _ _ _ _,gW HB.out⟩
end Go.Proofs.Ytapjfnfengefpaa.P
end

section
namespace Go.Proofs.Ytapjfnfengefpaa.P
open Go.RowKit Go.Proofs.YtapjfnfengefpaaW.PrintWords Go.Proofs.YtapjfnfengefpaaW.PrintLast Go.Proofs.YtapjfnfengefpaaW.PrintMore Go.Proofs.Ytapjfnfengefpaa.R
set_option linter.unusedVariables false
set_option linter.unusedSimpArgs false
def regletref13_first.l1 (aU:List ByteArray) (aX:List (S72)) (bB:Int) (bK:Int) (aQ:List (S35)):Nat→List (List Bool)→List Bool→Bool→Int→Option (Bool×List (List Bool))
 |0,_,_,_,_=>none
 |k+1,out,em,more,i=>
  if i<(aQ.length:Int) then
   if 0≤i then
    (regletref13_begins.f k aU aX bB bK aQ (rd_T35 aQ i).f1 out em).bind fun m=>
     if 0≤(rd_T35 aQ i).f0 then
      if(rd_T35 aQ i).f0<(out.length:Int) then
       (regletref13_join.f k (out.getD (rd_T35 aQ i).f0.toNat []) m.1).bind fun b=>
        regletref13_first.l1 aU aX bB bK aQ k (out.set (rd_T35 aQ i).f0.toNat b.2) em (if b.1=true then true else more) (wrap64 (i+1))
      else none
     else none
   else none
  else some (more,out)
def regletref13_first.l0 (aU:List ByteArray) (aX:List (S72)) (bB:Int) (bK:Int) (aQ:List (S35)):Nat→List (List Bool)→List Bool→Bool→Option (List (List Bool))
 |0,_,_,_=>none
 |k+1,out,em,more=>if more=true then(regletref13_first.l1 aU aX bB bK aQ k out em false 0).bind fun r=>regletref13_first.l0 aU aX bB bK aQ k r.2 em r.1 else some out
def regletref13_first.f (k:Nat) (aU:List ByteArray) (aX:List (S72)) (bB:Int) (bK:Int) (aQ:List (S35)):Option (List (List Bool)):=
 (regletref13_marks.f k aU aX bB bK aQ).bind fun out=>(regletref13_Empty.f k aU aX bB bK aQ).bind fun em=>regletref13_first.l0 aU aX bB bK aQ k out em true
set_option maxHeartbeats 2000000 in
set_option maxRecDepth 100000 in
theorem regletref13_first.calls (k:Nat) (bR:Option Addr) (bS:Nat) (aU:List ByteArray) (bU:Option Addr) (bV:Nat) (aX:List (S72)) (bB:Int) (bK:Int) (cC:Option Addr) (bX:Nat) (aQ:List (S35)) (r:List (List Bool)) (w:World) (dX:Kd.C Kd.string w bR aU.length aU) (dZ:aU.length≤bS) (eB:Kd.C k72 w bU aX.length aX) (eH:aX.length≤bV) (dY:Kd.C k35 w cC aQ.length aQ) (eJ:aQ.length≤bX) (h:regletref13_first.f k aU aX bB bK aQ=some r):
 Calls Try.prog 44 #[.agg #[.slice bR aU.length bS,.slice bU aX.length bV,.int .i64 bB,.int .i64 bK,.slice cC aQ.length bX]] w fun e w'=>∃v0_:Value,e= .returned (v0_)∧Kd.S (Kd.slice 4 Kd.bool) 90 w' w.heap.size (fun _=>True) v0_ r∧Below w.heap.size w w':=by
 obtain⟨m0,hm0,h2⟩:=Option.bind_eq_some_iff.1 h;clear h;obtain⟨em,hem,h3⟩:=Option.bind_eq_some_iff.1 h2;clear h2;have HM:=aM hm0;have HE:=aM hem;have HL:=aM h3;clear h3 hm0 hem;have HA1:Aside0 (Below w.heap.size w (w.alloc (.cells #[.slice bR aU.length bS,.slice bU aX.length bV,.int .i64 bB,.int .i64 bK,.slice cC aQ.length bX] 26))):=⟨(Below.refl _ w).alloc (Nat.le_refl _) _⟩;have HA2:Aside0 ((w.alloc (.cells #[.slice bR aU.length bS,.slice bU aX.length bV,.int .i64 bB,.int .i64 bK,.slice cC aQ.length bX] 26)).heap[w.heap.size]?=some (.cells #[.slice bR aU.length bS,.slice bU aX.length bV,.int .i64 bB,.int .i64 bK,.slice cC aQ.length bX] 26 (0,0))):=⟨by simpa using heap_alloc_new w _⟩;go_enter Try.func44,Try.ntmps44
 go_wp2_with (go_at_call 43;(with_reducible refine(regletref13_marks.calls k bR bS aU bU bV aX bB bK cC bX aQ m0 _ (bD dX HA1.out) dZ (bD eB HA1.out) eH (bD dY HA1.out) eJ HM.out).mono ?_);rintro e w1 ⟨v1,rfl,hS1,hb1⟩;have HS1:=aM hS1;have HB1:=aM hb1;clear hS1 hb1;have Sl:Aside0 (w1.heap[w.heap.size]?=some (.cells #[.slice bR aU.length bS,.slice bU aX.length bV,.int .i64 bB,.int .i64 bK,.slice cC aQ.length bX] 26 (0,0))):=⟨(HB1.out.block _ (by simp)).trans HA2.out⟩;have BL1:Aside0 (Below w.heap.size w w1):=⟨HA1.out.trans (HB1.out.mono (by simp))⟩;have SZ1:Aside0 (w.heap.size<w1.heap.size):=⟨by have:=HB1.out.size;simp at this;omega⟩;have HS2:Aside0 (Kd.S (Kd.slice 4 Kd.bool) 90 w1 w.heap.size (fun k_=>w.heap.size<k_∧k_<w1.heap.size) v1 m0):=⟨Kd.S_mono (Kd.S_lower (Kd.S_bound HS1.out) (by simp)) (fun k_ hk=>by have:=hk.2.1;have:=hk.2.2.1;simp at *;omega)⟩;clear HS1 HB1 HA1 HA2 HM;have q0:w1.cell? ⟨w.heap.size,0,none⟩=some (.slice bR aU.length bS):=(aG Sl.out 0).trans rfl;have q1:w1.cell? ⟨w.heap.size,1,none⟩=some (.slice bU aX.length bV):=(aG Sl.out 1).trans rfl;have q2:w1.cell? ⟨w.heap.size,2,none⟩=some (.int .i64 bB):=(aG Sl.out 2).trans rfl;have q3:w1.cell? ⟨w.heap.size,3,none⟩=some (.int .i64 bK):=(aG Sl.out 3).trans rfl;have q4:w1.cell? ⟨w.heap.size,4,none⟩=some (.slice cC aQ.length bX):=(aG Sl.out 4).trans rfl)
 go_wp2_with (go_at_call 45;(with_reducible refine(regletref13_Empty.calls k bR bS aU bU bV aX bB bK cC bX aQ em _ (bD dX BL1.out) dZ (bD eB BL1.out) eH (bD dY BL1.out) eJ HE.out).mono ?_);rintro e w2 ⟨v2,rfl,hR2,hb2⟩;have HR2:=aM hR2;have HB2:=aM hb2;clear hR2 hb2 q0 q1 q2 q3 q4;have JD:Aside0 (w2.heap[w.heap.size]?=some (.cells #[.slice bR aU.length bS,.slice bU aX.length bV,.int .i64 bB,.int .i64 bK,.slice cC aQ.length bX] 26 (0,0))):=⟨(HB2.out.block _ SZ1.out).trans Sl.out⟩;have BL2:Aside0 (Below w.heap.size w w2):=⟨BL1.out.trans (HB2.out.mono (Nat.le_of_lt SZ1.out))⟩;have HS3:Aside0 (Kd.S (Kd.slice 4 Kd.bool) 90 w2 w.heap.size (fun k_=>w.heap.size<k_∧k_<w1.heap.size) v1 m0):=⟨Kd.S_below HS2.out HB2.out⟩;have HR3:Aside0 (Kd.R Kd.bool 4 w2 w.heap.size (fun k_=>w1.heap.size≤k_) v2 em):=⟨Kd.R_mono (bL (Kd.R_bound HR2.out) (Nat.le_of_lt SZ1.out)) (fun k_ hk=>hk.2.1)⟩;have SZ2:Aside0 (w1.heap.size≤w2.heap.size):=⟨HB2.out.size⟩;clear Sl BL1 HS2 HR2 HB2 HE)
 obtain⟨A1,c1,rfl⟩:=Kd.S_slice HS3.out;obtain⟨A2,c2,rfl⟩:=Kd.R_slice HR3.out
 go_loopg [5] k (fun kq v5 wr=>∃(m:List (List Bool)) (more:Bool),v5= .bool more∧Aside0 (m.length=m0.length)∧Aside0 (regletref13_first.l0 aU aX bB bK aQ kq m em more=some r)∧Aside0 (kq≤k)∧Aside0 (wr.heap[w.heap.size]?=some (.cells #[.slice bR aU.length bS,.slice bU aX.length bV,.int .i64 bB,.int .i64 bK,.slice cC aQ.length bX] 26 (0,0)))∧Aside0 (Below w.heap.size w wr)∧Aside0 (w1.heap.size≤wr.heap.size)∧Aside0 (Kd.S (Kd.slice 4 Kd.bool) 90 wr w.heap.size (fun k_=>w.heap.size<k_∧k_<w1.heap.size) (.slice A1 m0.length c1) m)∧Aside0 (Kd.R Kd.bool 4 wr w.heap.size (fun k_=>w1.heap.size≤k_) (.slice A2 em.length c2) em))
 case atStart=>exact⟨m0,true,rfl,⟨rfl⟩,HL,⟨Nat.le_refl _⟩,JD,BL2,SZ2,HS3,HR3⟩
 case round=>
  clear JD BL2 SZ2 HS3 HR3 HL;obtain⟨m,more,rfl,LN,HA,HK,BK,BL,SZ,HS,HR⟩:=hrel
  cases gk with
  |zero=>exact absurd HA.out (by simp [regletref13_first.l0])
  |succ k1=>
   have H:=HA.out;clear HA;simp only [regletref13_first.l0] at H
   cases more with
   |false=>
    obtain rfl:=Option.some.inj (by simpa using H);clear H;go_wp2
    go_ret
    exact⟨_,rfl,Kd.S_mono HS.out (fun _ _=>trivial),BL.out⟩
   |true=>
    rw [if_pos rfl] at H;obtain⟨⟨mr,outr⟩,h1,h2⟩:=Option.bind_eq_some_iff.1 H;clear H;have H1:=aM h1;have H2:=aM h2;clear h1 h2;go_wp2
    obtain⟨wo,ewo⟩:∃wo:World,wo=wr:=⟨_,rfl⟩;subst ewo
    go_loopg [5,6] k1 (fun kq v5 v6 wr=>∃(m:List (List Bool)) (more:Bool) (i:Int),v5= .bool more∧v6= .int .i64 i∧Aside0 (m.length=m0.length)∧Aside0 (regletref13_first.l1 aU aX bB bK aQ kq m em more i=some (mr,outr))∧Aside0 (kq≤k1)∧Aside0 (wr.heap[w.heap.size]?=some (.cells #[.slice bR aU.length bS,.slice bU aX.length bV,.int .i64 bB,.int .i64 bK,.slice cC aQ.length bX] 26 (0,0)))∧Aside0 (Below w.heap.size w wr)∧Aside0 (w1.heap.size≤wr.heap.size)∧Aside0 (Kd.S (Kd.slice 4 Kd.bool) 90 wr w.heap.size (fun k_=>w.heap.size<k_∧k_<w1.heap.size) (.slice A1 m0.length c1) m)∧Aside0 (Kd.R Kd.bool 4 wr w.heap.size (fun k_=>w1.heap.size≤k_) (.slice A2 em.length c2) em))
    case atStart=>exact⟨m,false,0,rfl,rfl,LN,H1,⟨Nat.le_refl _⟩,BK,BL,SZ,HS,HR⟩
    case round=>
     clear H1 LN BK BL SZ HS HR;obtain⟨m,more,i,rfl,rfl,LN,HA,HK2,BK,BL,SZ,HS,HR⟩:=hrel
     cases gk with
     |zero=>exact absurd HA.out (by simp [regletref13_first.l1])
     |succ k2=>
      have H:=HA.out;clear HA;simp only [regletref13_first.l1] at H;have q0:wr.cell? ⟨w.heap.size,0,none⟩=some (.slice bR aU.length bS):=(aG BK.out 0).trans rfl;have q1:wr.cell? ⟨w.heap.size,1,none⟩=some (.slice bU aX.length bV):=(aG BK.out 1).trans rfl;have q2:wr.cell? ⟨w.heap.size,2,none⟩=some (.int .i64 bB):=(aG BK.out 2).trans rfl;have q3:wr.cell? ⟨w.heap.size,3,none⟩=some (.int .i64 bK):=(aG BK.out 3).trans rfl;have q4:wr.cell? ⟨w.heap.size,4,none⟩=some (.slice cC aQ.length bX):=(aG BK.out 4).trans rfl
      by_cases hi:i<(aQ.length:Int)
      ·rw [if_pos hi] at H
       by_cases hi0:0≤i
       rotate_left
       ·rw [if_neg hi0] at H;exact absurd H (by simp)
       rw [if_pos hi0] at H;obtain⟨⟨bm,be⟩,hbg,H3⟩:=Option.bind_eq_some_iff.1 H;clear H;have HG:=aM hbg;clear hbg;simp only at H3
       by_cases hl0:0≤(rd_T35 aQ i).f0
       rotate_left
       ·rw [if_neg hl0] at H3;exact absurd H3 (by simp)
       rw [if_pos hl0] at H3
       by_cases hl1:(rd_T35 aQ i).f0<(m.length:Int)
       rotate_left
       ·rw [if_neg hl1] at H3;exact absurd H3 (by simp)
       rw [if_pos hl1] at H3;obtain⟨⟨jb,jr⟩,hj,H4⟩:=Option.bind_eq_some_iff.1 H3;clear H3;simp only at H4;have HJ:=aM hj;have HN:=aM H4;clear hj H4;have AT:Aside0 (∀W:World,Below w.heap.size w W→∃ad A1 c1,cC=some ad∧W.cell? (ad.add (i.toNat * 2))=some (.int .i64 (rd_T35 aQ i).f0)∧W.cell? ⟨(ad.add (i.toNat * 2)).block,(ad.add (i.toNat * 2)).off+1,none⟩=some (.slice A1 (rd_T35 aQ i).f1.length c1)∧(rd_T35 aQ i).f1.length≤c1∧Kd.C k43 W A1 (rd_T35 aQ i).f1.length (rd_T35 aQ i).f1):=⟨fun W hW=>at_T35 (bD dY hW) i hi0 hi⟩;generalize rd_T35 aQ i=p at AT HG HJ HN hl0 hl1;obtain⟨ad,A3,c3,ead,e0,e1,hle3,hC3⟩:=AT.out wr BL.out
       cases ead;have d0:decide (i<(aQ.length:Int))=true:=decide_eq_true hi;have p0:=eq_true hi0;have p1:=eq_true hi;have HI:=aM (And.intro hi hi0);have HLL:=aM (And.intro hl0 hl1);clear hi hi0 hl0 hl1;have HC3:=aM hC3;have HLE3:=aM hle3;clear hC3 hle3;go_wp2
       have SZW:Aside0 (w.heap.size<wr.drew.heap.size):=⟨Nat.lt_of_lt_of_le SZ1.out SZ.out⟩;have KEEP:Aside0 (∀w3:World,Below wr.drew.heap.size wr.drew w3→w3.cell? ⟨w.heap.size,0,none⟩=some (.slice bR aU.length bS)∧w3.cell? ⟨w.heap.size,1,none⟩=some (.slice bU aX.length bV)∧w3.cell? ⟨w.heap.size,2,none⟩=some (.int .i64 bB)∧w3.cell? ⟨w.heap.size,3,none⟩=some (.int .i64 bK)∧w3.cell? ⟨w.heap.size,4,none⟩=some (.slice (some ad) aQ.length bX)∧w3.cell? ⟨(ad.add (i.toNat * 2)).block,(ad.add (i.toNat * 2)).off+1,none⟩=some (.slice A3 p.f1.length c3)):=⟨fun w3 h3=>⟨(h3.cell (p:=⟨w.heap.size,0,none⟩) SZW.out).trans q0,(h3.cell (p:=⟨w.heap.size,1,none⟩) SZW.out).trans q1,(h3.cell (p:=⟨w.heap.size,2,none⟩) SZW.out).trans q2,(h3.cell (p:=⟨w.heap.size,3,none⟩) SZW.out).trans q3,(h3.cell (p:=⟨w.heap.size,4,none⟩) SZW.out).trans q4,(h3.cell (p:=⟨(ad.add (i.toNat * 2)).block,(ad.add (i.toNat * 2)).off+1,none⟩) (World.block_lt_of_cell? wr _ e1)).trans e1⟩⟩;have hcon:=regletref13_begins.calls k2 bR bS aU bU bV aX bB bK (some ad) bX aQ A3 c3 p.f1 A1 c1 m A2 c2 em bm be wr.drew (bD dX (aO BL.out)) dZ (bD eB (aO BL.out)) eH (bD dY (aO BL.out)) eJ (bD HC3.out (aO (Below.refl _ _))) HLE3.out (by have:=(Kd.S_reads' (aW HS.out)).2.2;exact this) (by rw [LN.out];exact(Kd.S_reads' HS.out).2.1) (aF (aC HR.out)).2.2 (aF HR.out).2.1 HG.out;rw [LN.out] at hcon
       go_region_held3 (fun w'=>w'.cell? ⟨w.heap.size,0,none⟩=some (.slice bR aU.length bS)∧w'.cell? ⟨w.heap.size,1,none⟩=some (.slice bU aX.length bV)∧w'.cell? ⟨w.heap.size,2,none⟩=some (.int .i64 bB)∧w'.cell? ⟨w.heap.size,3,none⟩=some (.int .i64 bK)∧w'.cell? ⟨w.heap.size,4,none⟩=some (.slice (some ad) aQ.length bX)∧w'.cell? ⟨(ad.add (i.toNat * 2)).block,(ad.add (i.toNat * 2)).off+1,none⟩=some (.slice A3 p.f1.length c3))
        (first|go_keep|exact KEEP.out _ HB3.out)
        (first|(go_at_call 46;(with_reducible refine hcon.mono ?_);rintro e w3 ⟨v3,rfl,hR5,hb3⟩;have HR5:=aM hR5;have HB3:=aM hb3;clear hR5 hb3))
       have FT:Aside0 (w3.heap[w.heap.size]?=some (.cells #[.slice bR aU.length bS,.slice bU aX.length bV,.int .i64 bB,.int .i64 bK,.slice (some ad) aQ.length bX] 26 (0,0))):=⟨(HB3.out.block _ SZW.out).trans BK.out⟩;have BL3:Aside0 (Below w.heap.size w w3):=⟨(aO BL.out).trans (HB3.out.mono (Nat.le_of_lt SZW.out))⟩;have SZ3:Aside0 (w1.heap.size≤w3.heap.size):=⟨Nat.le_trans SZ.out HB3.out.size⟩;have HS6:=aM (Kd.S_below (aW HS.out) HB3.out);have HR6:=aM (aD (aC HR.out) HB3.out);obtain⟨A5,c5,rfl⟩:=Kd.R_slice HR5.out;obtain⟨g,vr,P,eA,hcell,hRow,hP,hback⟩:=S_row rfl HS6.out p.f0 HLL.out.1 HLL.out.2
       cases eA;generalize m.getD p.f0.toNat []=row at hRow HJ;obtain⟨A4,c4,rfl⟩:=Kd.R_slice hRow;obtain⟨ad',A3',c3',ead,e0',e1',_,_⟩:=AT.out w3 BL3.out
       cases ead;have hcon2:=regletref13_join.calls k2 P _ _ A5 c5 bm jb jr w w3 BL3.out hRow (fun W_ hk=>(aF (Kd.R_step (Kd.R_bound HR5.out) (fun k_ hk1 hk2=>hk.2 k_ hk2 (fun hk3=>by have:=(hP k_ hk3).1.2;have:=hk1.2.1;have:=SZ.out;simp at *;omega)))).2.2) (aF HR5.out).2.1 HJ.out;have HBK:=aM hback;have HP:=aM hP;clear KEEP hback hP hRow HS6 HR5 HB3 hcon e0 e1 q0 q1 q2 q3 q4 BK BL SZ HS HR;have q4:w3.cell? ⟨w.heap.size,4,none⟩=some (.slice (some ad) aQ.length bX):=(aG FT.out 4).trans rfl;have p2:=eq_true HLL.out.1;have p3:(p.f0<(m0.length:Int))=True:=eq_true (by have:=HLL.out.2;rw [LN.out] at this;exact this)
       cases jb
       all_goals
        go_wp2_with (go_at_call 47;(with_reducible refine hcon2.mono ?_);rintro e w4 ⟨rfl,hR7,hb4,hk4⟩;have HR7:=aM hR7;have HB4:=aM hb4;have HK4:=aM hk4;clear hR7 hb4 hk4 hcon2)
        have KR:Aside0 (w4.heap[w.heap.size]?=some (.cells #[.slice bR aU.length bS,.slice bU aX.length bV,.int .i64 bB,.int .i64 bK,.slice (some ad) aQ.length bX] 26 (0,0))):=⟨(HK4.out.2 _ (Nat.lt_of_lt_of_le SZ1.out SZ3.out) (fun hk=>by have:=(HP.out _ hk).1.1;omega)).trans FT.out⟩;have SZ4:Aside0 (w1.heap.size≤w4.heap.size):=⟨Nat.le_trans SZ3.out HK4.out.1⟩;have HS7:=aM (HBK.out w4 _ jr HK4.out HR7.out);have HR8:Aside0 (Kd.R Kd.bool 4 w4 w.heap.size (fun k_=>w1.heap.size≤k_) (.slice A2 em.length c2) em):=⟨Kd.R_step HR6.out (fun k_ hk hlt=>HK4.out.2 k_ hlt (fun hk3=>by have:=(HP.out _ hk3).1.2;omega))⟩;clear HBK HP HR7 HK4 HR6 HJ FT BL3 SZ3
        go_roundg k2
        case measure=>omega
        case rel=>exact⟨m.set p.f0.toNat jr,_,_,rfl,rfl,⟨by rw [List.length_set];exact LN.out⟩,HN,⟨by have:=HK2.out;omega⟩,KR,HB4,SZ4,HS7,HR8⟩
      ·rw [if_neg hi] at H
       have he:=Option.some.inj H;injection he with e1 e2
       subst e1;subst e2;clear H;have d0:decide (i<(aQ.length:Int))=false:=decide_eq_false hi;clear hi;go_wp2
       go_roundg k1
       case measure=>omega
       case rel=>exact⟨m,more,rfl,LN,H2,⟨by have:=HK.out;omega⟩,BK,BL,SZ,HS,HR⟩
def regletref13_Of.f (k:Nat) (aU:List ByteArray) (aX:List (S72)) (bB:Int) (bK:Int) (aQ:List (S35)) (l1:List (S43)):Option (List Int×Bool):=
 (regletref13_Right.f k aU aX bB bK aQ).bind fun r=>if r=true then if(aU.length:Int)=0 then some ([],false) else(regletref13_Right.f k aU aX bB bK [⟨0,l1⟩]).bind fun r2=>if r2=true then(regletref13_first.f k aU aX bB bK aQ).bind fun f=>(regletref13_Empty.f k aU aX bB bK aQ).bind fun e=>(regletref13_begins.f k aU aX bB bK aQ l1 f e).bind fun y=>(regletref13_list.f k y.1).bind fun z=>some (z,y.2) else some ([],false) else some ([],false)
set_option maxHeartbeats 4000000 in
theorem regletref13_Of.calls (k:Nat) (bR:Option Addr) (bS:Nat) (aU:List ByteArray) (bU:Option Addr) (bV:Nat) (aX:List (S72)) (bB:Int) (bK:Int) (cC:Option Addr) (bX:Nat) (aQ:List (S35)) (A1:Option Addr) (c1:Nat) (l1:List (S43)) (r1:List Int) (r2:Bool) (w:World) (dX:Kd.C Kd.string w bR aU.length aU) (dZ:aU.length≤bS) (eB:Kd.C k72 w bU aX.length aX) (eH:aX.length≤bV) (dY:Kd.C k35 w cC aQ.length aQ) (eJ:aQ.length≤bX) (hr1:Kd.C k43 w A1 l1.length l1) (hc1:l1.length≤c1) (h:regletref13_Of.f k aU aX bB bK aQ l1=some (r1,r2)):
 Calls Try.prog 32 #[.agg #[.slice bR aU.length bS,.slice bU aX.length bV,.int .i64 bB,.int .i64 bK,.slice cC aQ.length bX],.slice A1 l1.length c1] w fun e w'=>∃v0_:Value,e= .returned (.tuple #[v0_,.bool r2])∧Kd.R (Kd.int .i64) 3 w' w.heap.size (fun _=>True) v0_ r1∧Below w.heap.size w w':=by
 obtain⟨rt,hrt,h2⟩:=Option.bind_eq_some_iff.1 h;have HRT:=aM hrt;clear h hrt;have H0:Aside0 (((((w.alloc (.cells #[.slice bR aU.length bS,.slice bU aX.length bV,.int .i64 bB,.int .i64 bK,.slice cC aQ.length bX] 26)).alloc (.cells #[.int .i64 0,.slice A1 l1.length c1] 35)).alloc (.cells #[.slice bR aU.length bS,.slice bU aX.length bV,.int .i64 bB,.int .i64 bK,.slice (some ⟨w.heap.size+1+1+1,0,none⟩) 1 1] 26)).alloc (.cells #[.int .i64 0,.slice A1 l1.length c1] 35)).heap[w.heap.size]?=some (.cells #[.slice bR aU.length bS,.slice bU aX.length bV,.int .i64 bB,.int .i64 bK,.slice cC aQ.length bX] 26 (0,0))):=⟨aI (aI (aI (heap_alloc_new w _) _) _) _⟩;have H1:Aside0 (((((w.alloc (.cells #[.slice bR aU.length bS,.slice bU aX.length bV,.int .i64 bB,.int .i64 bK,.slice cC aQ.length bX] 26)).alloc (.cells #[.int .i64 0,.slice A1 l1.length c1] 35)).alloc (.cells #[.slice bR aU.length bS,.slice bU aX.length bV,.int .i64 bB,.int .i64 bK,.slice (some ⟨w.heap.size+1+1+1,0,none⟩) 1 1] 26)).alloc (.cells #[.int .i64 0,.slice A1 l1.length c1] 35)).heap[w.heap.size+1+1]?=some (.cells #[.slice bR aU.length bS,.slice bU aX.length bV,.int .i64 bB,.int .i64 bK,.slice (some ⟨w.heap.size+1+1+1,0,none⟩) 1 1] 26 (0,0))):=⟨aI (by have h:=heap_alloc_new ((w.alloc (.cells #[.slice bR aU.length bS,.slice bU aX.length bV,.int .i64 bB,.int .i64 bK,.slice cC aQ.length bX] 26)).alloc (.cells #[.int .i64 0,.slice A1 l1.length c1] 35)) (.cells #[.slice bR aU.length bS,.slice bU aX.length bV,.int .i64 bB,.int .i64 bK,.slice (some ⟨w.heap.size+1+1+1,0,none⟩) 1 1] 26);simp only [World.size_alloc] at h;exact h) _⟩;have HC:Aside0 (∀W,Below (w.heap.size+4) ((((w.alloc (.cells #[.slice bR aU.length bS,.slice bU aX.length bV,.int .i64 bB,.int .i64 bK,.slice cC aQ.length bX] 26)).alloc (.cells #[.int .i64 0,.slice A1 l1.length c1] 35)).alloc (.cells #[.slice bR aU.length bS,.slice bU aX.length bV,.int .i64 bB,.int .i64 bK,.slice (some ⟨w.heap.size+1+1+1,0,none⟩) 1 1] 26)).alloc (.cells #[.int .i64 0,.slice A1 l1.length c1] 35)) W→W.cell? ⟨w.heap.size,0,none⟩=some (.slice bR aU.length bS)∧W.cell? ⟨w.heap.size,1,none⟩=some (.slice bU aX.length bV)∧W.cell? ⟨w.heap.size,2,none⟩=some (.int .i64 bB)∧W.cell? ⟨w.heap.size,3,none⟩=some (.int .i64 bK)∧W.cell? ⟨w.heap.size,4,none⟩=some (.slice cC aQ.length bX)):=⟨fun W hW=>⟨(aG ((hW.block _ (by omega)).trans H0.out) 0).trans rfl,(aG ((hW.block _ (by omega)).trans H0.out) 1).trans rfl,(aG ((hW.block _ (by omega)).trans H0.out) 2).trans rfl,(aG ((hW.block _ (by omega)).trans H0.out) 3).trans rfl,(aG ((hW.block _ (by omega)).trans H0.out) 4).trans rfl⟩⟩;have HD:Aside0 (∀W,Below (w.heap.size+4) ((((w.alloc (.cells #[.slice bR aU.length bS,.slice bU aX.length bV,.int .i64 bB,.int .i64 bK,.slice cC aQ.length bX] 26)).alloc (.cells #[.int .i64 0,.slice A1 l1.length c1] 35)).alloc (.cells #[.slice bR aU.length bS,.slice bU aX.length bV,.int .i64 bB,.int .i64 bK,.slice (some ⟨w.heap.size+1+1+1,0,none⟩) 1 1] 26)).alloc (.cells #[.int .i64 0,.slice A1 l1.length c1] 35)) W→W.cell? ⟨w.heap.size+1+1,0,none⟩=some (.slice bR aU.length bS)∧W.cell? ⟨w.heap.size+1+1,1,none⟩=some (.slice bU aX.length bV)∧W.cell? ⟨w.heap.size+1+1,2,none⟩=some (.int .i64 bB)∧W.cell? ⟨w.heap.size+1+1,3,none⟩=some (.int .i64 bK)∧W.cell? ⟨w.heap.size+1+1,4,none⟩=some (.slice (some ⟨w.heap.size+1+1+1,0,none⟩) 1 1)):=⟨fun W hW=>⟨(aG ((hW.block _ (by omega)).trans H1.out) 0).trans rfl,(aG ((hW.block _ (by omega)).trans H1.out) 1).trans rfl,(aG ((hW.block _ (by omega)).trans H1.out) 2).trans rfl,(aG ((hW.block _ (by omega)).trans H1.out) 3).trans rfl,(aG ((hW.block _ (by omega)).trans H1.out) 4).trans rfl⟩⟩;have HA4:Aside0 (Below w.heap.size w ((((w.alloc (.cells #[.slice bR aU.length bS,.slice bU aX.length bV,.int .i64 bB,.int .i64 bK,.slice cC aQ.length bX] 26)).alloc (.cells #[.int .i64 0,.slice A1 l1.length c1] 35)).alloc (.cells #[.slice bR aU.length bS,.slice bU aX.length bV,.int .i64 bB,.int .i64 bK,.slice (some ⟨w.heap.size+1+1+1,0,none⟩) 1 1] 26)).alloc (.cells #[.int .i64 0,.slice A1 l1.length c1] 35))):=⟨aN (aN (aN (aN (Below.refl _ w) _) _) _) _⟩
 have HT:Aside0 (∀W,Below (w.heap.size+4) ((((w.alloc (.cells #[.slice bR aU.length bS,.slice bU aX.length bV,.int .i64 bB,.int .i64 bK,.slice cC aQ.length bX] 26)).alloc (.cells #[.int .i64 0,.slice A1 l1.length c1] 35)).alloc (.cells #[.slice bR aU.length bS,.slice bU aX.length bV,.int .i64 bB,.int .i64 bK,.slice (some ⟨w.heap.size+1+1+1,0,none⟩) 1 1] 26)).alloc (.cells #[.int .i64 0,.slice A1 l1.length c1] 35)) W→Kd.C k35 W (some ⟨w.heap.size+1+1+1,0,none⟩) [(⟨0,l1⟩:S35)].length [(⟨0,l1⟩:S35)]):=⟨fun W hW=>by
  have hb:W.heap[w.heap.size+1+1+1]?=some (.cells #[.int .i64 0,.slice A1 l1.length c1] 35 (0,0)):=by
   have h4:=heap_alloc_new (((w.alloc (.cells #[.slice bR aU.length bS,.slice bU aX.length bV,.int .i64 bB,.int .i64 bK,.slice cC aQ.length bX] 26)).alloc (.cells #[.int .i64 0,.slice A1 l1.length c1] 35)).alloc (.cells #[.slice bR aU.length bS,.slice bU aX.length bV,.int .i64 bB,.int .i64 bK,.slice (some ⟨w.heap.size+1+1+1,0,none⟩) 1 1] 26)) (.cells #[.int .i64 0,.slice A1 l1.length c1] 35);simp only [World.size_alloc] at h4;exact(hW.block _ (by omega)).trans h4
  refine⟨rfl,by simp,fun _=>⟨_,rfl,fun j p hj=>?_⟩⟩
  have hj0:j=0:=by
   cases j with
   |zero=>rfl
   |succ j=>simp at hj
  subst hj0;obtain rfl:(⟨0,l1⟩:S35)=p:=by simpa using hj
  refine⟨_,rfl,k35_mk W ⟨0,l1⟩ hc1 (bD hr1 (HA4.out.trans (hW.mono (by omega)))),fun i u hi=>?_⟩
  rw [Nat.zero_mul,Nat.zero_add,add_plain,aG hb]
  simpa using hi⟩
 cases rt with
 |false=>
  rw [if_neg (by simp)] at h2;obtain⟨rfl,rfl⟩:=Prod.mk.inj (Option.some.inj h2);clear h2;go_enter Try.func32,Try.ntmps32
  go_wp2_with (go_at_call 30;(with_reducible refine(regletref13_Right.calls k bR bS aU bU bV aX bB bK cC bX aQ false _ (bD dX HA4.out) dZ (bD eB HA4.out) eH (bD dY HA4.out) eJ HRT.out).mono ?_);rintro e w1 ⟨rfl,hb1⟩)
  go_ret2
  exact⟨_,rfl,Kd.R_nil _ _ _ _ _,HA4.out.trans (hb1.mono (by simp;omega))⟩
 |true=>
  rw [if_pos rfl] at h2
  by_cases hz:(aU.length:Int)=0
  ·rw [if_pos hz] at h2
   obtain⟨rfl,rfl⟩:=Prod.mk.inj (Option.some.inj h2);clear h2;have hzb:((aU.length:Int)==0)=true:=beq_iff_eq.mpr hz;have hzn:(aU.length=0)=True:=eq_true (by omega);clear hz;go_enter Try.func32,Try.ntmps32
   go_wp2_with (first|(go_at_call 30;(with_reducible refine(regletref13_Right.calls k bR bS aU bU bV aX bB bK cC bX aQ true _ (bD dX HA4.out) dZ (bD eB HA4.out) eH (bD dY HA4.out) eJ HRT.out).mono ?_);rintro e w1 ⟨rfl,hb1⟩;have HB1:Aside0 (Below (w.heap.size+4) ((((w.alloc (.cells #[.slice bR aU.length bS,.slice bU aX.length bV,.int .i64 bB,.int .i64 bK,.slice cC aQ.length bX] 26)).alloc (.cells #[.int .i64 0,.slice A1 l1.length c1] 35)).alloc (.cells #[.slice bR aU.length bS,.slice bU aX.length bV,.int .i64 bB,.int .i64 bK,.slice (some ⟨w.heap.size+1+1+1,0,none⟩) 1 1] 26)).alloc (.cells #[.int .i64 0,.slice A1 l1.length c1] 35)) w1):=⟨hb1.mono (by simp)⟩;have HB01:Aside0 (Below w.heap.size w w1):=⟨HA4.out.trans (HB1.out.mono (by omega))⟩;clear hb1;obtain⟨q0,q1,q2,q3,q4⟩:=HC.out w1 HB1.out;obtain⟨t0,t1,t2,t3,t4⟩:=HD.out w1 HB1.out))
   go_ret2
   exact⟨_,rfl,Kd.R_nil _ _ _ _ _,HB01.out⟩
  ·rw [if_neg hz] at h2
   have hzb:((aU.length:Int)==0)=false:=beq_eq_false_iff_ne.mpr hz;have hzn:(aU.length=0)=False:=eq_false (by omega);clear hz;obtain⟨rt2,hrt2,h3⟩:=Option.bind_eq_some_iff.1 h2;have HRT2:=aM hrt2;clear h2 hrt2
   cases rt2 with
   |false=>
    rw [if_neg (by simp)] at h3;obtain⟨rfl,rfl⟩:=Prod.mk.inj (Option.some.inj h3);clear h3;go_enter Try.func32,Try.ntmps32
    go_wp2_with (first
     |(go_at_call 30;have hR2:=regletref13_Right.calls k bR bS aU bU bV aX bB bK (some ⟨w.heap.size+1+1+1,0,none⟩) 1 [(⟨0,l1⟩:S35)] false w1 (bD dX HB01.out) dZ (bD eB HB01.out) eH (HT.out w1 HB1.out) (by simp) HRT2.out;simp only [List.length_cons,List.length_nil,Nat.zero_add] at hR2;(with_reducible refine hR2.mono ?_);rintro e w2 ⟨rfl,hb2⟩;have HB2:Aside0 (Below (w.heap.size+4) ((((w.alloc (.cells #[.slice bR aU.length bS,.slice bU aX.length bV,.int .i64 bB,.int .i64 bK,.slice cC aQ.length bX] 26)).alloc (.cells #[.int .i64 0,.slice A1 l1.length c1] 35)).alloc (.cells #[.slice bR aU.length bS,.slice bU aX.length bV,.int .i64 bB,.int .i64 bK,.slice (some ⟨w.heap.size+1+1+1,0,none⟩) 1 1] 26)).alloc (.cells #[.int .i64 0,.slice A1 l1.length c1] 35)) w2):=⟨HB1.out.trans (hb2.mono (by have:=HB1.out.size;simp at this;omega))⟩;have HB02:Aside0 (Below w.heap.size w w2):=⟨HA4.out.trans (HB2.out.mono (by omega))⟩;clear hR2 hb2 t0 t1 t2 t3 t4 q0 q1 q2 q3 q4;obtain⟨q0,q1,q2,q3,q4⟩:=HC.out w2 HB2.out)
     |(go_at_call 30;(with_reducible refine(regletref13_Right.calls k bR bS aU bU bV aX bB bK cC bX aQ true _ (bD dX HA4.out) dZ (bD eB HA4.out) eH (bD dY HA4.out) eJ HRT.out).mono ?_);rintro e w1 ⟨rfl,hb1⟩;have HB1:Aside0 (Below (w.heap.size+4) ((((w.alloc (.cells #[.slice bR aU.length bS,.slice bU aX.length bV,.int .i64 bB,.int .i64 bK,.slice cC aQ.length bX] 26)).alloc (.cells #[.int .i64 0,.slice A1 l1.length c1] 35)).alloc (.cells #[.slice bR aU.length bS,.slice bU aX.length bV,.int .i64 bB,.int .i64 bK,.slice (some ⟨w.heap.size+1+1+1,0,none⟩) 1 1] 26)).alloc (.cells #[.int .i64 0,.slice A1 l1.length c1] 35)) w1):=⟨hb1.mono (by simp)⟩;have HB01:Aside0 (Below w.heap.size w w1):=⟨HA4.out.trans (HB1.out.mono (by omega))⟩;clear hb1;obtain⟨q0,q1,q2,q3,q4⟩:=HC.out w1 HB1.out;obtain⟨t0,t1,t2,t3,t4⟩:=HD.out w1 HB1.out))
    go_ret2
    exact⟨_,rfl,Kd.R_nil _ _ _ _ _,HB02.out⟩
   |true=>
    rw [if_pos rfl] at h3;obtain⟨f,hf,h4⟩:=Option.bind_eq_some_iff.1 h3;obtain⟨em,he,h5⟩:=Option.bind_eq_some_iff.1 h4;obtain⟨⟨bl,bb⟩,hbg,h6⟩:=Option.bind_eq_some_iff.1 h5;obtain⟨ri,hri,h7⟩:=Option.bind_eq_some_iff.1 h6;obtain⟨rfl,rfl⟩:=Prod.mk.inj (Option.some.inj h7);have HF:=aM hf;have HE:=aM he;have HBG:=aM hbg;have HRI:=aM hri;clear h3 h4 h5 h6 h7 hf he hbg hri;go_enter Try.func32,Try.ntmps32
    go_upto_region 6 with(first
     |(go_at_call 30;have hR2:=regletref13_Right.calls k bR bS aU bU bV aX bB bK (some ⟨w.heap.size+1+1+1,0,none⟩) 1 [(⟨0,l1⟩:S35)] true w1 (bD dX HB01.out) dZ (bD eB HB01.out) eH (HT.out w1 HB1.out) (by simp) HRT2.out;simp only [List.length_cons,List.length_nil,Nat.zero_add] at hR2;(with_reducible refine hR2.mono ?_);rintro e w2 ⟨rfl,hb2⟩;have HB2:Aside0 (Below (w.heap.size+4) ((((w.alloc (.cells #[.slice bR aU.length bS,.slice bU aX.length bV,.int .i64 bB,.int .i64 bK,.slice cC aQ.length bX] 26)).alloc (.cells #[.int .i64 0,.slice A1 l1.length c1] 35)).alloc (.cells #[.slice bR aU.length bS,.slice bU aX.length bV,.int .i64 bB,.int .i64 bK,.slice (some ⟨w.heap.size+1+1+1,0,none⟩) 1 1] 26)).alloc (.cells #[.int .i64 0,.slice A1 l1.length c1] 35)) w2):=⟨HB1.out.trans (hb2.mono (by have:=HB1.out.size;simp at this;omega))⟩;have HB02:Aside0 (Below w.heap.size w w2):=⟨HA4.out.trans (HB2.out.mono (by omega))⟩;clear hR2 hb2 t0 t1 t2 t3 t4 q0 q1 q2 q3 q4;obtain⟨q0,q1,q2,q3,q4⟩:=HC.out w2 HB2.out)
     |(go_at_call 30;(with_reducible refine(regletref13_Right.calls k bR bS aU bU bV aX bB bK cC bX aQ true _ (bD dX HA4.out) dZ (bD eB HA4.out) eH (bD dY HA4.out) eJ HRT.out).mono ?_);rintro e w1 ⟨rfl,hb1⟩;have HB1:Aside0 (Below (w.heap.size+4) ((((w.alloc (.cells #[.slice bR aU.length bS,.slice bU aX.length bV,.int .i64 bB,.int .i64 bK,.slice cC aQ.length bX] 26)).alloc (.cells #[.int .i64 0,.slice A1 l1.length c1] 35)).alloc (.cells #[.slice bR aU.length bS,.slice bU aX.length bV,.int .i64 bB,.int .i64 bK,.slice (some ⟨w.heap.size+1+1+1,0,none⟩) 1 1] 26)).alloc (.cells #[.int .i64 0,.slice A1 l1.length c1] 35)) w1):=⟨hb1.mono (by simp)⟩;have HB01:Aside0 (Below w.heap.size w w1):=⟨HA4.out.trans (HB1.out.mono (by omega))⟩;clear hb1;obtain⟨q0,q1,q2,q3,q4⟩:=HC.out w1 HB1.out;obtain⟨t0,t1,t2,t3,t4⟩:=HD.out w1 HB1.out))
    have HFC:Aside0 (∀W:World,Below w.heap.size w W→Calls Try.prog 44 #[.agg #[.slice bR aU.length bS,.slice bU aX.length bV,.int .i64 bB,.int .i64 bK,.slice cC aQ.length bX]] W fun e w'=>∃v0_:Value,e= .returned (v0_)∧Kd.S (Kd.slice 4 Kd.bool) 90 w' W.heap.size (fun _=>True) v0_ f∧Below W.heap.size W w'):=⟨fun W hb=>regletref13_first.calls k bR bS aU bU bV aX bB bK cC bX aQ f W (bD dX hb) dZ (bD eB hb) eH (bD dY hb) eJ HF.out⟩;have HEC:Aside0 (∀W:World,Below w.heap.size w W→Calls Try.prog 45 #[.agg #[.slice bR aU.length bS,.slice bU aX.length bV,.int .i64 bB,.int .i64 bK,.slice cC aQ.length bX]] W fun e w'=>∃v0_:Value,e= .returned (v0_)∧Kd.R Kd.bool 4 w' W.heap.size (fun _=>True) v0_ em∧Below W.heap.size W w'):=⟨fun W hb=>regletref13_Empty.calls k bR bS aU bU bV aX bB bK cC bX aQ em W (bD dX hb) dZ (bD eB hb) eH (bD dY hb) eJ HE.out⟩
    go_cut [8,9] from 10 (fun s8 s9 wc=>∃A7 c7,s8= .slice A7 bl.length c7∧s9= .bool bb∧Aside0 (Kd.R Kd.bool 4 wc w.heap.size (fun _=>True) (.slice A7 bl.length c7) bl)∧Aside0 (Below w.heap.size w wc))
    case first=>
     go_region_held3 (fun W=>W.cell? ⟨w.heap.size,0,none⟩=some (.slice bR aU.length bS)∧W.cell? ⟨w.heap.size,1,none⟩=some (.slice bU aX.length bV)∧W.cell? ⟨w.heap.size,2,none⟩=some (.int .i64 bB)∧W.cell? ⟨w.heap.size,3,none⟩=some (.int .i64 bK)∧W.cell? ⟨w.heap.size,4,none⟩=some (.slice cC aQ.length bX))
      (first|exact HC.out _ KBB.out|exact HC.out _ KBL.out|exact HC.out _ KB1.out|exact HC.out _ (Below.drew HB2.out)|go_keep)
      (first
       |(go_at_call 44;(with_reducible refine(HFC.out w2.drew (aO HB02.out)).mono ?_);rintro e wf ⟨vf,rfl,hSf,hbf⟩;obtain⟨Af,cf,rfl⟩:=Kd.S_slice hSf;have HSF:=aM hSf;have HBF:Aside0 (Below w.heap.size w wf):=⟨((aO HB02.out)).trans (hbf.mono ((aO HB02.out)).size)⟩;have KB1:Aside0 (Below (w.heap.size+4) ((((w.alloc (.cells #[.slice bR aU.length bS,.slice bU aX.length bV,.int .i64 bB,.int .i64 bK,.slice cC aQ.length bX] 26)).alloc (.cells #[.int .i64 0,.slice A1 l1.length c1] 35)).alloc (.cells #[.slice bR aU.length bS,.slice bU aX.length bV,.int .i64 bB,.int .i64 bK,.slice (some ⟨w.heap.size+1+1+1,0,none⟩) 1 1] 26)).alloc (.cells #[.int .i64 0,.slice A1 l1.length c1] 35)) wf):=⟨((Below.drew HB2.out)).trans (hbf.mono (by have:=((Below.drew HB2.out)).size;simp at this ⊢;omega))⟩;clear hSf hbf q0 q1 q2 q3 q4)
       |(go_at_call 44;(with_reducible refine(HFC.out we HBE.out).mono ?_);rintro e wf ⟨vf,rfl,hSf,hbf⟩;obtain⟨Af,cf,rfl⟩:=Kd.S_slice hSf;have HBL:Aside0 (Below w.heap.size w wf):=⟨(HBE.out).trans (hbf.mono (HBE.out).size)⟩;have KBL:Aside0 (Below (w.heap.size+4) ((((w.alloc (.cells #[.slice bR aU.length bS,.slice bU aX.length bV,.int .i64 bB,.int .i64 bK,.slice cC aQ.length bX] 26)).alloc (.cells #[.int .i64 0,.slice A1 l1.length c1] 35)).alloc (.cells #[.slice bR aU.length bS,.slice bU aX.length bV,.int .i64 bB,.int .i64 bK,.slice (some ⟨w.heap.size+1+1+1,0,none⟩) 1 1] 26)).alloc (.cells #[.int .i64 0,.slice A1 l1.length c1] 35)) wf):=⟨(KB1.out).trans (hbf.mono (by have:=(KB1.out).size;simp at this ⊢;omega))⟩;have CF:=aM (Kd.S_reads' hSf).2;have CE:=aM (And.intro (aF HRE.out).2.1 (bD (aF HRE.out).2.2 hbf));clear hSf hbf)
       |(go_at_call 45;(with_reducible refine(HEC.out w2.drew (aO HB02.out)).mono ?_);rintro e we ⟨ve,rfl,hRe,hbe⟩;obtain⟨Ae,ce,rfl⟩:=Kd.R_slice hRe;have HRE:=aM hRe;have HBE:Aside0 (Below w.heap.size w we):=⟨((aO HB02.out)).trans (hbe.mono ((aO HB02.out)).size)⟩;have KB1:Aside0 (Below (w.heap.size+4) ((((w.alloc (.cells #[.slice bR aU.length bS,.slice bU aX.length bV,.int .i64 bB,.int .i64 bK,.slice cC aQ.length bX] 26)).alloc (.cells #[.int .i64 0,.slice A1 l1.length c1] 35)).alloc (.cells #[.slice bR aU.length bS,.slice bU aX.length bV,.int .i64 bB,.int .i64 bK,.slice (some ⟨w.heap.size+1+1+1,0,none⟩) 1 1] 26)).alloc (.cells #[.int .i64 0,.slice A1 l1.length c1] 35)) we):=⟨((Below.drew HB2.out)).trans (hbe.mono (by have:=((Below.drew HB2.out)).size;simp at this ⊢;omega))⟩;clear hRe hbe q0 q1 q2 q3 q4)
       |(go_at_call 45;(with_reducible refine(HEC.out wf HBF.out).mono ?_);rintro e we ⟨ve,rfl,hRe,hbe⟩;obtain⟨Ae,ce,rfl⟩:=Kd.R_slice hRe;have HBL:Aside0 (Below w.heap.size w we):=⟨(HBF.out).trans (hbe.mono (HBF.out).size)⟩;have KBL:Aside0 (Below (w.heap.size+4) ((((w.alloc (.cells #[.slice bR aU.length bS,.slice bU aX.length bV,.int .i64 bB,.int .i64 bK,.slice cC aQ.length bX] 26)).alloc (.cells #[.int .i64 0,.slice A1 l1.length c1] 35)).alloc (.cells #[.slice bR aU.length bS,.slice bU aX.length bV,.int .i64 bB,.int .i64 bK,.slice (some ⟨w.heap.size+1+1+1,0,none⟩) 1 1] 26)).alloc (.cells #[.int .i64 0,.slice A1 l1.length c1] 35)) we):=⟨(KB1.out).trans (hbe.mono (by have:=(KB1.out).size;simp at this ⊢;omega))⟩;have CE:=aM (aF hRe).2;have CF:=aM (And.intro (Kd.S_reads' HSF.out).2.1 (bD (Kd.S_reads' HSF.out).2.2 hbe));clear hRe hbe)
       |(go_at_call 46;(with_reducible refine(regletref13_begins.calls k bR bS aU bU bV aX bB bK cC bX aQ A1 c1 l1 Af cf f Ae ce em bl bb _ (bD dX HBL.out) dZ (bD eB HBL.out) eH (bD dY HBL.out) eJ (bD hr1 HBL.out) hc1 CF.out.2 CF.out.1 CE.out.2 CE.out.1 HBG.out).mono ?_);rintro e wb ⟨vb,rfl,hRb,hbb⟩;obtain⟨A7,c7,rfl⟩:=Kd.R_slice hRb;have HRB:=aM (bL hRb HBL.out.size);have HBB:Aside0 (Below w.heap.size w wb):=⟨HBL.out.trans (hbb.mono HBL.out.size)⟩;have KBB:Aside0 (Below (w.heap.size+4) ((((w.alloc (.cells #[.slice bR aU.length bS,.slice bU aX.length bV,.int .i64 bB,.int .i64 bK,.slice cC aQ.length bX] 26)).alloc (.cells #[.int .i64 0,.slice A1 l1.length c1] 35)).alloc (.cells #[.slice bR aU.length bS,.slice bU aX.length bV,.int .i64 bB,.int .i64 bK,.slice (some ⟨w.heap.size+1+1+1,0,none⟩) 1 1] 26)).alloc (.cells #[.int .i64 0,.slice A1 l1.length c1] 35)) wb):=⟨KBL.out.trans (hbb.mono (by have:=KBL.out.size;simp at this ⊢;omega))⟩;clear hRb hbb))
     all_goals
      go_wp2_with fail
      go_meet
      case rel=>exact⟨A7,c7,rfl,rfl,HRB,HBB⟩
    case rest=>
     obtain⟨A7,c7,rfl,rfl,HRB,HBB⟩:=hcut
     go_wp2_with (go_at_call 49;(with_reducible refine(regletref13_list.calls k A7 c7 bl ri _ (aF HRB.out).2.2 (aF HRB.out).2.1 HRI.out).mono ?_);rintro e w5 ⟨v5,rfl,hR5,hb5⟩;have HR5:=aM hR5;have HB5:=aM hb5;clear hR5 hb5)
     go_ret2
     exact⟨_,rfl,bL HR5.out HBB.out.size,HBB.out.trans (HB5.out.mono HBB.out.size)⟩
def rJoinRow (k:Nat) (n:Int) (m:List Bool) (out:List (List Bool)):Option (Bool×List (List Bool)):=
 if 0≤n then if n<(out.length:Int) then(regletref13_join.f k (out.getD n.toNat []) m).bind fun b=>some (b.1,out.set n.toNat b.2) else none else none
def rJoinFrom (k:Nat) (left:Int) (m:List Bool) (e:Bool) (out:List (List Bool)):Option (List Bool):=
 if e=true then if 0≤left then if left<(out.length:Int) then(regletref13_join.f k m (out.getD left.toNat [])).bind fun b=>some b.2 else none else none else some m
def rFollowIn (k:Nat) (aU:List ByteArray) (aX:List (S72)) (bB:Int) (bK:Int) (aQ:List (S35)) (f:List (List Bool)) (em:List Bool) (left:Int):List (S43)→Bool→List (List Bool)→Option (Bool×List (List Bool))
 | [],more,out=>some (more,out)
 |y::ys,more,out=>if y.f0=true then rFollowIn k aU aX bB bK aQ f em left ys more out else
  (regletref13_begins.f k aU aX bB bK aQ ys f em).bind fun l=>(rJoinFrom k left l.1 l.2 out).bind fun m=>(rJoinRow k y.f1 m out).bind fun b=>rFollowIn k aU aX bB bK aQ f em left ys (if b.1=true then true else more) b.2
def rFollowPs (k:Nat) (aU:List ByteArray) (aX:List (S72)) (bB:Int) (bK:Int) (aQ:List (S35)) (f:List (List Bool)) (em:List Bool):List (S35)→Bool→List (List Bool)→Option (Bool×List (List Bool))
 | [],more,out=>some (more,out)
 |p::ps,more,out=>(rFollowIn k aU aX bB bK aQ f em p.f0 p.f1 more out).bind fun b=>rFollowPs k aU aX bB bK aQ f em ps b.1 b.2
def rFollowOut (kk:Nat) (aU:List ByteArray) (aX:List (S72)) (bB:Int) (bK:Int) (aQ:List (S35)) (f:List (List Bool)) (em:List Bool):Nat→List (List Bool)→Bool→Option (List (List Bool))
 |0,_,_=>none
 |k+1,out,more=>if more=true then(rFollowPs kk aU aX bB bK aQ f em aQ false out).bind fun b=>rFollowOut kk aU aX bB bK aQ f em k b.2 b.1 else some out
def rFollow0 (nt:Nat) (out:List (List Bool)):Option (List (List Bool)):=
 if 0<out.length then if nt<(out.getD 0 []).length then some (out.set 0 ((out.getD 0 []).set nt true)) else none else some out
def regletref13_Follow.f (k:Nat) (aU:List ByteArray) (aX:List (S72)) (bB:Int) (bK:Int) (aQ:List (S35)):Option (List (List Int)):=
 if aQ.length≤9223372036854775807∧aQ.all (fun p=>decide (p.f1.length≤9223372036854775807))=true then
 (regletref13_Right.f k aU aX bB bK aQ).bind fun r=>if r=true then(regletref13_marks.f k aU aX bB bK aQ).bind fun out=>(regletref13_first.f k aU aX bB bK aQ).bind fun f=>(regletref13_Empty.f k aU aX bB bK aQ).bind fun em=>(rFollow0 aX.length out).bind fun out0=>(rFollowOut k aU aX bB bK aQ f em k out0 true).bind fun o=>regletref13_lists.f k o else some []
 else none
structure RFollowI (w w5:World) (lo hi:Nat) (Ao:Option Addr) (co N:Nat) (out:List (List Bool)) (W:World):Prop where
 bel:Below w.heap.size w W
 r:Kd.S (Kd.slice 4 Kd.bool) 90 W w.heap.size (fun k=>lo≤k∧k<hi) (.slice Ao N co) out
 k:Kept w5 W (fun k=>lo≤k∧k<hi)
 h:hi≤W.heap.size
section
variable {w w5:World}{lo hi:Nat}{Ao:Option Addr}{co N:Nat}{out out':List (List Bool)}{W W':World}
theorem RFollowI.below (h:RFollowI w w5 lo hi Ao co N out W) (hb:Below W.heap.size W W'):RFollowI w w5 lo hi Ao co N out W':=
 ⟨h.bel.trans (hb.mono h.bel.size),Kd.S_below h.r hb,h.k.below hb,Nat.le_trans h.h hb.size⟩
end
set_option maxHeartbeats 1000000 in
theorem rjoin_from (k:Nat) (w w5 W:World) (lo hi:Nat) (Ao:Option Addr) (co N:Nat) (out:List (List Bool)) (HI:RFollowI w w5 lo hi Ao co N out W) (left:Int) (hl0:0≤left) (hl1:left<(out.length:Int)) (m m':List Bool) (b:Bool) (B:Nat) (hB:w5.heap.size≤B) (hhi:hi≤w5.heap.size) (hBW:B≤W.heap.size) (A2:Option Addr) (c2:Nat) (hm:Kd.R Kd.bool 4 W w.heap.size (fun k=>B≤k) (.slice A2 m.length c2) m) (h:regletref13_join.f k m (out.getD left.toNat [])=some (b,m')):
 ∃(go:Nat) (A4:Option Addr) (c4 m4:Nat),Ao=some ⟨go,0,none⟩∧W.cell? ⟨go,left.toNat,none⟩=some (.slice A4 m4 c4)∧
  Calls Try.prog 47 #[.slice A2 m.length c2,.slice A4 m4 c4] W fun e w'=>e= .returned (.bool b)∧Aside0 (RFollowI w w5 lo hi Ao co N out w')∧Aside0 (Kd.R Kd.bool 4 w' w.heap.size (fun k=>B≤k) (.slice A2 m.length c2) m')∧Aside0 (Kept W w' (fun k=>B≤k)):=by
 obtain⟨go,vr,P,eA,hcell,hRow,hP,hback⟩:=S_row rfl HI.r left hl0 hl1;obtain⟨A4,c4,rfl⟩:=Kd.R_slice hRow;refine⟨go,A4,c4,_,eA,hcell,?_⟩
 refine(regletref13_join.calls k (fun k=>B≤k) _ m A4 c4 (out.getD left.toNat []) b m' w W HI.bel hm (Kd.C_kept_own hRow (fun k hk hh=>by have:=(hP k hk).1.2;omega)) (aF hRow).2.1 h).mono ?_
 rintro e w3 ⟨rfl,hR3,hb3,hk3⟩
 refine⟨rfl,⟨⟨hb3,Kd.S_kept HI.r hk3 (fun k h1 h2=>by omega),HI.k.then_ hk3 (fun k h2=> .inr (Nat.le_trans hB h2)),Nat.le_trans HI.h hk3.1⟩⟩,⟨Kd.R_mono hR3 (fun k hk=>hk.elim id (fun h2=>Nat.le_trans hBW h2))⟩,⟨hk3⟩⟩
set_option maxHeartbeats 1000000 in
theorem rjoin_row (k:Nat) (w w5 W:World) (lo hi:Nat) (Ao:Option Addr) (co N:Nat) (out out':List (List Bool)) (HI:RFollowI w w5 lo hi Ao co N out W) (n:Int) (m:List Bool) (n2:Nat) (b:Bool) (B:Nat) (hhi:hi≤B) (A2:Option Addr) (c2:Nat) (hm:Kd.R Kd.bool 4 W w.heap.size (fun k=>B≤k) (.slice A2 n2 c2) m) (h:rJoinRow k n m out=some (b,out')):
 ∃(go:Nat) (A4:Option Addr) (c4 m4:Nat),0≤n∧n<(out.length:Int)∧Ao=some ⟨go,0,none⟩∧W.cell? ⟨go,n.toNat,none⟩=some (.slice A4 m4 c4)∧out'.length=out.length∧
  Calls Try.prog 47 #[.slice A4 m4 c4,.slice A2 n2 c2] W fun e w'=>e= .returned (.bool b)∧Aside0 (RFollowI w w5 lo hi Ao co N out' w')∧Aside0 (Kept W w' (fun k=>lo≤k∧k<hi)):=by
 unfold rJoinRow at h
 split at h
 case isFalse=>simp at h
 rename_i h0
 split at h
 case isFalse=>simp at h
 rename_i h1
 obtain⟨⟨ab,ar⟩,had,h2⟩:=Option.bind_eq_some_iff.1 h;obtain⟨rfl,rfl⟩:=Prod.mk.inj (Option.some.inj h2);have hn2:=(aF hm).1;subst hn2;obtain⟨go,vr,P,eA,hcell,hRow,hP,hback⟩:=S_row rfl HI.r n h0 h1;obtain⟨A4,c4,rfl⟩:=Kd.R_slice hRow;refine⟨go,A4,c4,_,h0,h1,eA,hcell,by simp,?_⟩
 refine(regletref13_join.calls k P _ _ A2 c2 m ab ar w W HI.bel hRow (Kd.C_kept_own hm (fun k hk hp=>by have:=(hP k hp).1.2;omega)) (aF hm).2.1 had).mono ?_
 rintro e w3 ⟨rfl,hR3,hb3,hk3⟩
 exact⟨rfl,⟨⟨hb3,hback w3 _ ar hk3 hR3,HI.k.then_ hk3 (fun k h2=> .inl (hP k h2).1),Nat.le_trans HI.h hk3.1⟩⟩,⟨Kept.mono hk3 (fun k hk=>(hP k hk).1)⟩⟩
theorem infoSymR:(Try.prog.info? 43).map (fun i=>(i.zero,i.size,i.bytes))=some (some (.agg #[.bool false,.int .i64 0]),2,16):=by kernel_rfl
set_option maxHeartbeats 4000000 in
set_option maxRecDepth 100000 in
theorem regletref13_Follow.calls (k:Nat) (bR:Option Addr) (bS:Nat) (aU:List ByteArray) (bU:Option Addr) (bV:Nat) (aX:List (S72)) (bB:Int) (bK:Int) (cC:Option Addr) (bX:Nat) (aQ:List (S35)) (r:List (List Int)) (w:World) (dX:Kd.C Kd.string w bR aU.length aU) (dZ:aU.length≤bS) (eB:Kd.C k72 w bU aX.length aX) (eH:aX.length≤bV) (dY:Kd.C k35 w cC aQ.length aQ) (eJ:aQ.length≤bX) (h:regletref13_Follow.f k aU aX bB bK aQ=some r):
 Calls Try.prog 31 #[.agg #[.slice bR aU.length bS,.slice bU aX.length bV,.int .i64 bB,.int .i64 bK,.slice cC aQ.length bX]] w fun e w'=>∃v0_:Value,e= .returned (v0_)∧Kd.S (Kd.slice 3 (Kd.int .i64)) 32 w' w.heap.size (fun _=>True) v0_ r∧Below w.heap.size w w':=by
 unfold regletref13_Follow.f at h
 split at h
 case isFalse=>simp at h
 rename_i hsz
 have HSZ:=aM hsz;clear hsz;obtain⟨rt,hrt,h2⟩:=Option.bind_eq_some_iff.1 h;have HRT:=aM hrt;clear h hrt;have HA1:Aside0 (Below w.heap.size w (w.alloc (.cells #[.slice bR aU.length bS,.slice bU aX.length bV,.int .i64 bB,.int .i64 bK,.slice cC aQ.length bX] 26))):=⟨(Below.refl _ w).alloc (Nat.le_refl _) _⟩;have HC:Aside0 (∀W,Below (w.heap.size+1) (w.alloc (.cells #[.slice bR aU.length bS,.slice bU aX.length bV,.int .i64 bB,.int .i64 bK,.slice cC aQ.length bX] 26)) W→W.cell? ⟨w.heap.size,0,none⟩=some (.slice bR aU.length bS)∧W.cell? ⟨w.heap.size,1,none⟩=some (.slice bU aX.length bV)∧W.cell? ⟨w.heap.size,2,none⟩=some (.int .i64 bB)∧W.cell? ⟨w.heap.size,3,none⟩=some (.int .i64 bK)∧W.cell? ⟨w.heap.size,4,none⟩=some (.slice cC aQ.length bX)):=⟨fun W hW=>⟨(hW.cell (p:=⟨w.heap.size,0,none⟩) (by simp)).trans (by simp),(hW.cell (p:=⟨w.heap.size,1,none⟩) (by simp)).trans (by simp),(hW.cell (p:=⟨w.heap.size,2,none⟩) (by simp)).trans (by simp),(hW.cell (p:=⟨w.heap.size,3,none⟩) (by simp)).trans (by simp),(hW.cell (p:=⟨w.heap.size,4,none⟩) (by simp)).trans (by simp)⟩⟩
 cases rt with
 |false=>
  rw [if_neg (by simp)] at h2;obtain rfl:=Option.some.inj h2;clear h2;go_enter Try.func31,Try.ntmps31
  go_wp2_with (go_at_call 30;(with_reducible refine(regletref13_Right.calls k bR bS aU bU bV aX bB bK cC bX aQ false _ (bD dX HA1.out) dZ (bD eB HA1.out) eH (bD dY HA1.out) eJ HRT.out).mono ?_);rintro e w1 ⟨rfl,hb1⟩)
  go_ret
  exact⟨_,rfl,Kd.S_nil _ _ _ _ _,HA1.out.trans (hb1.mono (by simp))⟩
 |true=>
  rw [if_pos rfl] at h2;obtain⟨m0,hm0,h3⟩:=Option.bind_eq_some_iff.1 h2;obtain⟨f,hf,h4⟩:=Option.bind_eq_some_iff.1 h3;obtain⟨em,he,h5⟩:=Option.bind_eq_some_iff.1 h4;obtain⟨out0,ho0,h6⟩:=Option.bind_eq_some_iff.1 h5;obtain⟨out,hout,hlists⟩:=Option.bind_eq_some_iff.1 h6;have HM0:=aM hm0;have HF:=aM hf;have HE:=aM he;have Un:=aM ho0;have HOUT:=aM hout;have HL:=aM hlists;clear h2 h3 h4 h5 h6 hm0 hf he ho0 hout hlists;have HFC:Aside0 (∀W:World,Below w.heap.size w W→Calls Try.prog 44 #[.agg #[.slice bR aU.length bS,.slice bU aX.length bV,.int .i64 bB,.int .i64 bK,.slice cC aQ.length bX]] W fun e w'=>∃v0_:Value,e= .returned (v0_)∧Kd.S (Kd.slice 4 Kd.bool) 90 w' W.heap.size (fun _=>True) v0_ f∧Below W.heap.size W w'):=⟨fun W hb=>regletref13_first.calls k bR bS aU bU bV aX bB bK cC bX aQ f W (bD dX hb) dZ (bD eB hb) eH (bD dY hb) eJ HF.out⟩;have HEC:Aside0 (∀W:World,Below w.heap.size w W→Calls Try.prog 45 #[.agg #[.slice bR aU.length bS,.slice bU aX.length bV,.int .i64 bB,.int .i64 bK,.slice cC aQ.length bX]] W fun e w'=>∃v0_:Value,e= .returned (v0_)∧Kd.R Kd.bool 4 w' W.heap.size (fun _=>True) v0_ em∧Below W.heap.size W w'):=⟨fun W hb=>regletref13_Empty.calls k bR bS aU bU bV aX bB bK cC bX aQ em W (bD dX hb) dZ (bD eB hb) eH (bD dY hb) eJ HE.out⟩;go_enter Try.func31,Try.ntmps31
  go_upto_region 4 with(first
   |(go_at_call 30;(with_reducible refine(regletref13_Right.calls k bR bS aU bU bV aX bB bK cC bX aQ true _ (bD dX HA1.out) dZ (bD eB HA1.out) eH (bD dY HA1.out) eJ HRT.out).mono ?_);rintro e w1 ⟨rfl,hb1⟩;have HB1:Aside0 (Below (w.heap.size+1) (w.alloc (.cells #[.slice bR aU.length bS,.slice bU aX.length bV,.int .i64 bB,.int .i64 bK,.slice cC aQ.length bX] 26)) w1):=⟨hb1.mono (by simp)⟩;have HB01:Aside0 (Below w.heap.size w w1):=⟨HA1.out.trans (hb1.mono (by simp))⟩;clear hb1;obtain⟨q0,q1,q2,q3,q4⟩:=HC.out w1 HB1.out)
   |(go_at_call 43;(with_reducible refine(regletref13_marks.calls k bR bS aU bU bV aX bB bK cC bX aQ m0 _ (bD dX HB01.out) dZ (bD eB HB01.out) eH (bD dY HB01.out) eJ HM0.out).mono ?_);rintro e w3 ⟨v3,rfl,hS3,hb3⟩;obtain⟨Ao,co,rfl⟩:=Kd.S_slice hS3;have HB3:Aside0 (Below (w.heap.size+1) (w.alloc (.cells #[.slice bR aU.length bS,.slice bU aX.length bV,.int .i64 bB,.int .i64 bK,.slice cC aQ.length bX] 26)) w3):=⟨HB1.out.trans (hb3.mono (by have:=HB1.out.size;simpa using this))⟩;have HB03:Aside0 (Below w.heap.size w w3):=⟨HB01.out.trans (hb3.mono HB01.out.size)⟩;have HS3:Aside0 (Kd.S (Kd.slice 4 Kd.bool) 90 w3 w.heap.size (fun k=>w1.heap.size≤k∧k<w3.heap.size) (.slice Ao m0.length co) m0):=⟨Kd.S_lower (Kd.S_mono (Kd.S_bound hS3) (fun k hk=>⟨hk.2.1,hk.2.2.1⟩)) HB01.out.size⟩;have SZ3:Aside0 (w.heap.size<w1.heap.size∧w1.heap.size≤w3.heap.size):=⟨by have:=HB1.out.size;simp at this;omega,hb3.size⟩;clear hS3 hb3 q0 q1 q2 q3 q4;obtain⟨q0,q1,q2,q3,q4⟩:=HC.out w3 HB3.out))
  go_cut [4,5] from 12 (fun s4 s5 wc=>∃Af cf Ae ce,s4= .slice Af f.length cf∧s5= .slice Ae em.length ce∧Aside0 (Below w3.heap.size w3 wc)∧Aside0 (Kd.S (Kd.slice 4 Kd.bool) 90 wc w.heap.size (fun k=>w3.heap.size≤k) (.slice Af f.length cf) f)∧Aside0 (Kd.R Kd.bool 4 wc w.heap.size (fun k=>w3.heap.size≤k) (.slice Ae em.length ce) em))
  case first=>
   have HC3:Aside0 (∀W,Below w3.heap.size w3 W→W.cell? ⟨w.heap.size,0,none⟩=some (.slice bR aU.length bS)∧W.cell? ⟨w.heap.size,1,none⟩=some (.slice bU aX.length bV)∧W.cell? ⟨w.heap.size,2,none⟩=some (.int .i64 bB)∧W.cell? ⟨w.heap.size,3,none⟩=some (.int .i64 bK)∧W.cell? ⟨w.heap.size,4,none⟩=some (.slice cC aQ.length bX)):=⟨fun W hW=>HC.out W (HB3.out.trans (hW.mono (by have:=HB3.out.size;simpa using this)))⟩
   go_region_held3 (fun W=>W.cell? ⟨w.heap.size,0,none⟩=some (.slice bR aU.length bS)∧W.cell? ⟨w.heap.size,1,none⟩=some (.slice bU aX.length bV)∧W.cell? ⟨w.heap.size,2,none⟩=some (.int .i64 bB)∧W.cell? ⟨w.heap.size,3,none⟩=some (.int .i64 bK)∧W.cell? ⟨w.heap.size,4,none⟩=some (.slice cC aQ.length bX))
    (first|exact HC3.out _ H3L.out|exact HC3.out _ KB1.out|exact HC3.out _ (show Below w3.heap.size w3 w3.drew from aO (Below.refl _ w3))|go_keep)
    (first
     |(go_at_call 44;(with_reducible refine(HFC.out w3.drew (aO HB03.out)).mono ?_);rintro e wf ⟨vf,rfl,hSf,hbf⟩;obtain⟨Af,cf,rfl⟩:=Kd.S_slice hSf;have HSF:=aM (Kd.S_bound hSf);have H3F:Aside0 (Below w3.heap.size w3 wf):=⟨((show Below w3.heap.size w3 w3.drew from aO (Below.refl _ w3))).trans (hbf.mono ((show Below w3.heap.size w3 w3.drew from aO (Below.refl _ w3))).size)⟩;have KB1:=H3F;clear hSf hbf q0 q1 q2 q3 q4)
     |(go_at_call 44;(with_reducible refine(HFC.out we (HB03.out.trans (H3E.out.mono HB03.out.size))).mono ?_);rintro e wf ⟨vf,rfl,hSf,hbf⟩;obtain⟨Af,cf,rfl⟩:=Kd.S_slice hSf;have HSF:=aM (Kd.S_bound hSf);have H3L:Aside0 (Below w3.heap.size w3 wf):=⟨(H3E.out).trans (hbf.mono (H3E.out).size)⟩;have CF:Aside0 (Kd.S (Kd.slice 4 Kd.bool) 90 wf w.heap.size (fun k=>w3.heap.size≤k) (.slice Af f.length cf) f):=⟨Kd.S_lower (Kd.S_mono HSF.out (fun k hk=>Nat.le_trans (H3E.out).size hk.2.1)) (Nat.le_trans HB03.out.size (H3E.out).size)⟩;have CE:Aside0 (Kd.R Kd.bool 4 wf w.heap.size (fun k=>w3.heap.size≤k) (.slice Ae em.length ce) em):=⟨bL (Kd.R_mono (aD HRE.out hbf) (fun k hk=>hk.2.1)) HB03.out.size⟩;clear hSf hbf)
     |(go_at_call 45;(with_reducible refine(HEC.out w3.drew (aO HB03.out)).mono ?_);rintro e we ⟨ve,rfl,hRe,hbe⟩;obtain⟨Ae,ce,rfl⟩:=Kd.R_slice hRe;have HRE:=aM (Kd.R_bound hRe);have H3E:Aside0 (Below w3.heap.size w3 we):=⟨((show Below w3.heap.size w3 w3.drew from aO (Below.refl _ w3))).trans (hbe.mono ((show Below w3.heap.size w3 w3.drew from aO (Below.refl _ w3))).size)⟩;have KB1:=H3E;clear hRe hbe q0 q1 q2 q3 q4)
     |(go_at_call 45;(with_reducible refine(HEC.out wf (HB03.out.trans (H3F.out.mono HB03.out.size))).mono ?_);rintro e we ⟨ve,rfl,hRe,hbe⟩;obtain⟨Ae,ce,rfl⟩:=Kd.R_slice hRe;have HRE:=aM (Kd.R_bound hRe);have H3L:Aside0 (Below w3.heap.size w3 we):=⟨(H3F.out).trans (hbe.mono (H3F.out).size)⟩;have CE:Aside0 (Kd.R Kd.bool 4 we w.heap.size (fun k=>w3.heap.size≤k) (.slice Ae em.length ce) em):=⟨bL (Kd.R_mono HRE.out (fun k hk=>Nat.le_trans (H3F.out).size hk.2.1)) (Nat.le_trans HB03.out.size (H3F.out).size)⟩;have CF:Aside0 (Kd.S (Kd.slice 4 Kd.bool) 90 we w.heap.size (fun k=>w3.heap.size≤k) (.slice Af f.length cf) f):=⟨Kd.S_lower (Kd.S_mono (Kd.S_below HSF.out hbe) (fun k hk=>hk.2.1)) HB03.out.size⟩;clear hRe hbe))
   all_goals
    go_wp2_with fail
    go_meet
    case rel=>exact⟨Af,cf,Ae,ce,rfl,rfl,H3L,CF,CE⟩
  case rest=>
   obtain⟨Af,cf,Ae,ce,rfl,rfl,H35,CF,CE⟩:=hcut;obtain⟨w5,ew5⟩:∃w5:World,w5=wc:=⟨_,rfl⟩;subst ew5;have HI0:Aside0 (RFollowI w w5 w1.heap.size w3.heap.size Ao co m0.length m0 w5):=⟨⟨HB03.out.trans (H35.out.mono HB03.out.size),Kd.S_below HS3.out H35.out,Kept.refl _ _,H35.out.size⟩⟩
   have HC5:Aside0 (∀W,Kept w5 W (fun k=>w1.heap.size≤k∧k<w3.heap.size)→W.cell? ⟨w.heap.size,0,none⟩=some (.slice bR aU.length bS)∧W.cell? ⟨w.heap.size,1,none⟩=some (.slice bU aX.length bV)∧W.cell? ⟨w.heap.size,2,none⟩=some (.int .i64 bB)∧W.cell? ⟨w.heap.size,3,none⟩=some (.int .i64 bK)∧W.cell? ⟨w.heap.size,4,none⟩=some (.slice cC aQ.length bX)):=⟨fun W hk=>by
    obtain⟨a0,a1,a2,a3,a4⟩:=HC.out w5 (HB3.out.trans (H35.out.mono (by have:=HB3.out.size;simpa using this)));have hn:¬(w1.heap.size≤w.heap.size∧w.heap.size<w3.heap.size):=by have:=SZ3.out;omega
    exact⟨Go.Proofs.YtapjfnfengefpaaW.PrintWords.cell_kept a0 hk hn,Go.Proofs.YtapjfnfengefpaaW.PrintWords.cell_kept a1 hk hn,Go.Proofs.YtapjfnfengefpaaW.PrintWords.cell_kept a2 hk hn,Go.Proofs.YtapjfnfengefpaaW.PrintWords.cell_kept a3 hk hn,Go.Proofs.YtapjfnfengefpaaW.PrintWords.cell_kept a4 hk hn⟩⟩
   have H35S:Aside0 (w3.heap.size≤w5.heap.size):=⟨H35.out.size⟩;clear HA1 HM0 HF HE HFC HEC q0 q1 q2 q3 q4
   go_upto_if 23 with fail
   go_cut [] from 12 (fun w6=>Aside0 (RFollowI w w5 w1.heap.size w3.heap.size Ao co m0.length out0 w6))
   case first=>
    by_cases hpos:0<m0.length
    ·have hg:decide (0<m0.length)=true:=decide_eq_true hpos
     rw [hg];have H0:=Un.out
     unfold rFollow0 at H0
     rw [if_pos hpos] at H0
     split at H0
     case isFalse=>simp at H0
     rename_i hnt
     obtain rfl:=Option.some.inj H0;obtain⟨go,vr,P,eA,hcell,hRow,hP,hback⟩:=S_row rfl HI0.out.r 0 (by omega) (by omega)
     cases eA;rw [show(0:Int).toNat=0 from rfl] at hRow hcell hback;obtain⟨gr,c7,hv,_,_,_⟩:=Kd.R_form hRow (by omega);subst hv;obtain⟨hx,hf⟩:=Kd.R_celln false hRow (aX.length:Int) (by omega) (by omega);have hput:=Kd.R_putg hRow (aX.length:Int) true;rw [Int.toNat_natCast] at hx hf hput;have hPgr:P gr:=hRow.1 gr (by simp [Value.ownBlock]);have HGR:=aM (hP gr hPgr);have hKs:Kept w5 (w5.setCell ⟨gr,aX.length,none⟩ (.bool true)) P:=Kept.setCell (Kept.refl _ _) (.inl hPgr) _;have hS6:=hback _ P _ hKs hput.1;have HFS:Aside0 (RFollowI w w5 w1.heap.size w3.heap.size (some ⟨go,0,none⟩) co m0.length (m0.set 0 ((m0.getD 0 []).set aX.length true)) (w5.setCell ⟨gr,aX.length,none⟩ (.bool true))):=⟨⟨aL HI0.out.bel (show w.heap.size≤gr from by have:=HGR.out.1.1;have:=SZ3.out;omega),hS6,Kept.mono hKs (fun k hk=>(hP k hk).1),by simpa using HI0.out.h⟩⟩;have hne1:go≠gr:=fun e=>HGR.out.2 e.symm
     have hne3:w.heap.size≠gr:=by have:=HGR.out.1.1;have:=SZ3.out;omega
     obtain⟨q0,q1,q2,q3,q4⟩:=HC5.out w5 (Kept.refl _ _);have KEND:=aM (show _∧_ from⟨Go.Proofs.YtapjfnfengefpaaW.PrintWords.cell_kept q1 (Kept.drew (Kept.setCell (Kept.refl w5 (fun k=>k=gr)) (p:=⟨gr,aX.length,none⟩) (.inl rfl) (.bool true))) hne3,Go.Proofs.YtapjfnfengefpaaW.PrintWords.cell_kept hcell (Kept.drew (Kept.setCell (Kept.refl w5 (fun k=>k=gr)) (p:=⟨gr,aX.length,none⟩) (.inl rfl) (.bool true))) hne1⟩);generalize hlr:(m0.getD 0 []).length=lr at hcell hnt KEND;have p1:((aX.length:Int)<(lr:Int))=True:=eq_true (by omega);have p2:(0≤(aX.length:Int))=True:=eq_true (by omega);have p3:((0:Int)<(m0.length:Int))=True:=eq_true (by omega);have p4:(0<m0.length)=True:=eq_true hpos;have p5:(aX.length<lr)=True:=eq_true hnt;clear hRow hback hput hPgr hKs hS6 hP hpos H0 hnt hlr
     go_upto_region 6 with fail
     go_region_held3 (fun W=>W.cell? ⟨w.heap.size,1,none⟩=some (.slice bU aX.length bV)∧W.cell? ⟨go,0,none⟩=some (.slice (some ⟨gr,0,none⟩) lr c7))
      (first|exact KEND.out|go_keep)
      (fail)
     go_wp2_with fail
     go_meet
     case rel=>exact⟨HFS.out.below (aO (Below.refl _ _))⟩
    ·have hg:decide (0<m0.length)=false:=decide_eq_false hpos
     rw [hg];have H0:=Un.out
     unfold rFollow0 at H0
     rw [if_neg hpos] at H0;obtain rfl:=Option.some.inj H0;clear H0
     go_wp2_with fail
     go_meet
     case rel=>exact HI0
   case rest=>
    obtain⟨w6,ew6⟩:∃w6:World,w6=wc:=⟨_,rfl⟩;subst ew6;have HI6:=hcut;have HOUT:=HOUT;clear hcut HI0 HS3 Un HRT H35;go_wp2
    go_loopg [6] k (fun kq v6 wr=>∃(more:Bool) (out':List (List Bool)),v6= .bool more∧Aside0 (rFollowOut k aU aX bB bK aQ f em kq out' more=some out)∧Aside0 (RFollowI w w5 w1.heap.size w3.heap.size Ao co m0.length out' wr))
    case atStart=>exact⟨true,out0,rfl,HOUT,HI6⟩
    case round=>
     clear HOUT HI6;obtain⟨more,out',rfl,HA,HI⟩:=hrel
     cases gk with
     |zero=>exact absurd HA.out (by simp [rFollowOut])
     |succ k1=>
      have H:=HA.out;clear HA;simp only [rFollowOut] at H
      cases more with
      |false=>
       obtain rfl:=Option.some.inj (by simpa using H);clear H;have hN:=(Kd.S_reads' HI.out.r).1;rw [hN]
       go_wp2_with (go_at_call 48;(with_reducible refine(regletref13_lists.calls k Ao co out' r _ (by have:=(Kd.S_reads' HI.out.r).2.2;exact this) (by have:=(Kd.S_reads' HI.out.r).2.1;omega) HL.out).mono ?_);rintro e w8 ⟨v8,rfl,hS8,hb8⟩;have HS8:=aM hS8;have HB8:=aM hb8;clear hS8 hb8)
       go_ret
       exact⟨_,rfl,Kd.S_lower HS8.out HI.out.bel.size,HI.out.bel.trans (HB8.out.mono HI.out.bel.size)⟩
      |true=>
       rw [if_pos rfl] at H;obtain⟨⟨mr,outr⟩,h1,h2⟩:=Option.bind_eq_some_iff.1 H;clear H;have H1:=aM h1;have H2:=aM h2;clear h1 h2;go_wp2
       obtain⟨wo,ewo⟩:∃wo:World,wo=wr:=⟨_,rfl⟩;subst ewo
       go_loopg [6,7] aQ.length (fun kq v6 v7 wr=>∃(more:Bool) (i:Nat) (out':List (List Bool)),v6= .bool more∧v7= .int .i64 i∧i≤aQ.length∧aQ.length - i≤kq∧Aside0 (rFollowPs k aU aX bB bK aQ f em (aQ.drop i) more out'=some (mr,outr))∧Aside0 (RFollowI w w5 w1.heap.size w3.heap.size Ao co m0.length out' wr))
       case atStart=>exact⟨false,0,out',rfl,rfl,by omega,by omega,⟨by simpa using H1.out⟩,HI⟩
       case round=>
        clear H1 HI;obtain⟨more,i,out',rfl,rfl,hi,hm,HA,HI⟩:=hrel;obtain⟨q0,q1,q2,q3,q4⟩:=HC5.out wr HI.out.k
        by_cases hlt:i<aQ.length
        ·have hltz:(i:Int)<(aQ.length:Int):=by omega
         have d0:decide ((i:Int)<(aQ.length:Int))=true:=decide_eq_true hltz;have H:=HA.out;rw [List.drop_eq_getElem_cons hlt] at H;simp only [rFollowPs] at H;obtain⟨⟨mi,outi⟩,h1,h3⟩:=Option.bind_eq_some_iff.1 H;clear H HA;obtain⟨ad,A5,c5,ead,e0,e1,hle5,hC5⟩:=at_T35 dY (i:Int) (by omega) hltz;have hlen:=of_decide_eq_true (List.all_eq_true.1 HSZ.out.2 (aQ[i]) (List.getElem_mem hlt));have hrd:rd_T35 aQ (i:Int)=aQ[i]:=by simp [rd_T35,hlt]
         rw [hrd] at e0 e1 hle5 hC5;rw [Int.toNat_natCast] at e0 e1;have B0:=World.block_lt_of_cell? w _ e0;have B1:=World.block_lt_of_cell? w _ e1;have hp:∃p,p=aQ[i]:=⟨_,rfl⟩;obtain⟨p,hp⟩:=hp;rw [←hp] at h1 e0 e1 hle5 hC5 hlen;obtain⟨left,right⟩:=p;clear hp hrd;simp only at h1 e0 e1 hle5 hC5 hlen;have AT:Aside0 (∀W:World,Below w.heap.size w W→W.cell? (ad.add (i * 2))=some (.int .i64 left)∧W.cell? ⟨(ad.add (i * 2)).block,(ad.add (i * 2)).off+1,none⟩=some (.slice A5 right.length c5)):=⟨fun W hb=>⟨(hb.cell B0).trans e0,(hb.cell B1).trans e1⟩⟩;have HCR:=aM hC5;have HH1:=aM h1;have HH3:=aM h3;have HLT:=aM hlt;have HM:=aM hm;have HLEN:=aM hlen;have HCAP:=aM hle5;have p0:(0≤(i:Int))=True:=eq_true (by omega);have p1:=eq_true hltz;clear h1 h3 hC5 e0 e1 B0 B1 hlt hm hi hltz hlen hle5;obtain⟨f0,f1⟩:=AT.out wr HI.out.bel
         cases ead;go_wp2
         go_loopg [6,9] right.length (fun kq v6 v9 wr=>∃(more:Bool) (j:Nat) (out':List (List Bool)),v6= .bool more∧v9= .int .i64 j∧j≤right.length∧right.length - j≤kq∧Aside0 (rFollowIn k aU aX bB bK aQ f em left (right.drop j) more out'=some (mi,outi))∧Aside0 (RFollowI w w5 w1.heap.size w3.heap.size Ao co m0.length out' wr))
         case atStart=>exact⟨more,0,out',rfl,rfl,by omega,by omega,⟨by simpa using HH1.out⟩,HI⟩
         case round=>
          clear HH1 HI f0 f1 q0 q1 q2 q3 q4;obtain⟨more,j,out',rfl,rfl,hj,hm,HA,HI⟩:=hrel;obtain⟨q0,q1,q2,q3,q4⟩:=HC5.out wr HI.out.k
          by_cases hlt:j<right.length
          ·have hltz:(j:Int)<(right.length:Int):=by omega
           have d1:decide ((j:Int)<(right.length:Int))=true:=decide_eq_true hltz;have H:=HA.out;rw [List.drop_eq_getElem_cons hlt] at H;simp only [rFollowIn] at H;obtain⟨Qb,ea5,e0,e1⟩:=at_T43 HCR.out (j:Int) (by omega) hltz
           cases ea5;have hrd:rd_T43 right (j:Int)=right[j]:=by simp [rd_T43,hlt]
           rw [hrd] at e0 e1;rw [Int.toNat_natCast] at e0 e1;generalize right[j]=y at H e0 e1;obtain⟨tk,n⟩:=y;simp only at H e0 e1;have B0:=World.block_lt_of_cell? w _ e0;have B1:=World.block_lt_of_cell? w _ e1;have AT5:Aside0 (∀W:World,Below w.heap.size w W→W.cell? (Qb.add (j * 2))=some (.bool tk)∧W.cell? ⟨(Qb.add (j * 2)).block,(Qb.add (j * 2)).off+1,none⟩=some (.int .i64 n)):=⟨fun W hb=>⟨(hb.cell B0).trans e0,(hb.cell B1).trans e1⟩⟩;have p2:(0≤(j:Int))=True:=eq_true (by omega);have p3:=eq_true hltz;have HLT5:=aM hlt;have HM5:=aM hm;clear hlt hltz hj hm hrd HA e0 e1 B0 B1;obtain⟨f0,f1⟩:=AT5.out wr HI.out.bel
           cases tk with
           |true=>
            rw [if_pos rfl] at H;have HN:=aM H;clear H;go_wp2
            go_roundg (right.length - (j+1))
            case measure=>have:=HM5.out;have:=HLT5.out;omega
            case rel=>exact⟨more,j+1,out',rfl,congrArg (Value.int .i64) (by unfold wrap64;have:=HLT5.out;have:=HLEN.out;omega),by have:=HLT5.out;omega,Nat.le_refl _,HN,HI⟩
           |false=>
            rw [if_neg (by simp)] at H;obtain⟨⟨m1,me⟩,hbg,H2⟩:=Option.bind_eq_some_iff.1 H;obtain⟨m2,hjf,H3⟩:=Option.bind_eq_some_iff.1 H2;obtain⟨⟨mb,out1⟩,hjr,HN⟩:=Option.bind_eq_some_iff.1 H3;clear H H2 H3;simp only at hbg hjf hjr HN;have HNX:=aM HN;have HJR:=aM hjr;clear HN hjr;have hwr:IntKind.i64.wrap ((j:Int)+1)=(j:Int)+1:=by rw [IntKind.wrap_i64];have:=HLT5.out;have:=HLEN.out;omega
            obtain⟨i0,hi0,_,hsz,_⟩:=info_parts infoSymR;have hcut:=cut_from (P:=Try.prog) 29 43 .i64 Try.underlying29 hi0 2 hsz (some Qb) right.length c5 ((j:Int)+1) (by omega) (by have:=HLT5.out;omega);rw [show((j:Int)+1).toNat=j+1 by omega,←List.length_drop] at hcut;have HCY:Aside0 (∀W',Below w.heap.size w W'→Kd.C k43 W' (if c5=j+1 then some Qb else(some Qb).map (·.add ((j+1) * 2))) (right.drop (j+1)).length (right.drop (j+1))):=⟨fun W' hk=>Kd.C_drop (bD HCR.out hk) HLT5.out HCAP.out⟩;generalize (if c5=j+1 then some Qb else(some Qb).map (·.add ((j+1) * 2)))=A' at hcut HCY;have hbw:Below w.heap.size w wr.drew:=aO HI.out.bel;have hcon:=regletref13_begins.calls k bR bS aU bU bV aX bB bK (some ad) bX aQ A' (c5 - (j+1)) (right.drop (j+1)) Af cf f Ae ce em m1 me wr.drew (bD dX hbw) dZ (bD eB hbw) eH (bD dY hbw) eJ (HCY.out _ hbw) (by rw [List.length_drop];have:=HCAP.out;omega) (Kd.C_kept_own (S:=fun k=>w1.heap.size≤k∧k<w3.heap.size) (Kd.S_R CF.out) (fun k hk h2=>by have:=hk;omega) _ (Kept.drew HI.out.k)) (Kd.S_reads' CF.out).2.1 (Kd.C_kept_own (S:=fun k=>w1.heap.size≤k∧k<w3.heap.size) CE.out (fun k hk h2=>by have:=hk;omega) _ (Kept.drew HI.out.k)) (aF CE.out).2.1 hbg;rw [List.length_drop] at hcon;have HCON:=aM hcon;clear hcon hbg hi0 hsz hbw;have KEEP:Aside0 (∀W:World,Below wr.heap.size wr W→W.cell? ⟨w.heap.size,0,none⟩=some (.slice bR aU.length bS)∧W.cell? ⟨w.heap.size,1,none⟩=some (.slice bU aX.length bV)∧W.cell? ⟨w.heap.size,2,none⟩=some (.int .i64 bB)∧W.cell? ⟨w.heap.size,3,none⟩=some (.int .i64 bK)∧W.cell? ⟨w.heap.size,4,none⟩=some (.slice (some ad) aQ.length bX)):=⟨fun W hb=>HC5.out W (HI.out.k.below hb)⟩;have HJF:=aM hjf;clear hjf;go_wp2
            go_region_held3 (fun W=>W.cell? ⟨w.heap.size,0,none⟩=some (.slice bR aU.length bS)∧W.cell? ⟨w.heap.size,1,none⟩=some (.slice bU aX.length bV)∧W.cell? ⟨w.heap.size,2,none⟩=some (.int .i64 bB)∧W.cell? ⟨w.heap.size,3,none⟩=some (.int .i64 bK)∧W.cell? ⟨w.heap.size,4,none⟩=some (.slice (some ad) aQ.length bX))
             (first|go_keep|exact KEEP.out _ KB.out)
             (first|(go_at_call 46;(with_reducible refine HCON.out.mono ?_);rintro e w2 ⟨v2,rfl,hR2,hb2⟩;obtain⟨A2,c2,rfl⟩:=Kd.R_slice hR2;have HR2:=aM hR2;have KB:Aside0 (Below wr.heap.size wr w2):=⟨(aO (Below.refl _ _)).trans hb2⟩;clear hR2 hb2 q0 q1 q2 q3 q4))
            have HI2:=aM (HI.out.below KB.out);have HR3:Aside0 (Kd.R Kd.bool 4 w2 w.heap.size (fun k=>wr.heap.size≤k) (.slice A2 m1.length c2) m1):=⟨bL (Kd.R_mono (Kd.R_bound HR2.out) (fun k hk=>hk.2.1)) (show w.heap.size≤wr.heap.size from HI.out.bel.size)⟩;have HHI:Aside0 (w3.heap.size≤wr.heap.size):=⟨HI.out.h⟩;have HBW:Aside0 (wr.heap.size≤w2.heap.size):=⟨KB.out.size⟩;have HKS:Aside0 (w5.heap.size≤wr.heap.size):=⟨HI.out.k.1⟩;have HJF0:=HJF.out;have LEN:Aside0 ((m0.length:Int)=(out'.length:Int)):=⟨by have:=(Kd.S_reads' HI.out.r).1;omega⟩;clear HCON HR2 hcut HCY f0 f1
            cases me with
            |false=>
             unfold rJoinFrom at HJF0
             rw [if_neg (by simp)] at HJF0;obtain rfl:=Option.some.inj HJF0;clear HJF0 HJF;obtain⟨go,A4,c4,m4,hn0,hn1,eAo,hcell,hlen1,hcon⟩:=rjoin_row k w w5 w2 w1.heap.size w3.heap.size Ao co m0.length out' out1 HI2.out n m1 m1.length mb wr.heap.size HHI.out A2 c2 HR3.out HJR.out
             cases eAo;have HCON2:=aM hcon;have p6:=eq_true hn0;have p7:(n<(m0.length:Int))=True:=eq_true (by rw [LEN.out];exact hn1);have y2:=(AT5.out w2 HI2.out.bel).2;clear hcon hn0 hn1
             cases mb
             all_goals
              go_wp2_with (go_at_call 47;(with_reducible refine HCON2.out.mono ?_);rintro e w4 ⟨rfl,hI4,hK4⟩)
              go_roundg (right.length - (j+1))
              case measure=>have:=HM5.out;have:=HLT5.out;omega
              case rel=>exact⟨_,j+1,out1,rfl,congrArg (Value.int .i64) (by first|rfl|(unfold wrap64;have:=HLT5.out;have:=HLEN.out;omega)),by have:=HLT5.out;omega,Nat.le_refl _,HNX,hI4⟩
            |true=>
             unfold rJoinFrom at HJF0
             rw [if_pos rfl] at HJF0
             split at HJF0
             case isFalse=>simp at HJF0
             rename_i hl0
             split at HJF0
             case isFalse=>simp at HJF0
             rename_i hl1
             obtain⟨⟨jb,jm⟩,hjj,HJ2⟩:=Option.bind_eq_some_iff.1 HJF0;obtain rfl:=Option.some.inj HJ2;simp only at HJR HNX hjj;obtain⟨go,A4,c4,m4,eAo,hcell,hcon⟩:=rjoin_from k w w5 w2 w1.heap.size w3.heap.size Ao co m0.length out' HI2.out left hl0 hl1 m1 jm jb wr.heap.size HKS.out H35S.out HBW.out A2 c2 HR3.out hjj
             cases eAo;have HCON:=aM hcon;have p8:=eq_true hl0;have p9:(left<(m0.length:Int))=True:=eq_true (by rw [LEN.out];exact hl1);obtain⟨x0,_⟩:=AT.out w2 HI2.out.bel;obtain⟨q0,q1,q2,q3,q4⟩:=HC5.out w2 HI2.out.k;clear hcon hl0 hl1 HJF0 HJ2 hjj HJF q0 q1 q2 q3
             go_upto_region 21 with(go_at_call 47;(with_reducible refine HCON.out.mono ?_);rintro e w6 ⟨rfl,HI6,HR6,HK6⟩)
             clear hcell x0 q4;obtain⟨go2,A7,c7,m7,hn0,hn1,eAo,hcell,hlen1,hcon⟩:=rjoin_row k w w5 w6 w1.heap.size w3.heap.size (some ⟨go,0,none⟩) co m0.length out' out1 HI6.out n jm m1.length mb wr.heap.size HHI.out A2 c2 HR6.out HJR.out;obtain rfl:go=go2:=by injection eAo with eAo;injection eAo
             have HCON2:=aM hcon;have p6:=eq_true hn0;have p7:(n<(m0.length:Int))=True:=eq_true (by rw [LEN.out];exact hn1);have y2:=(AT5.out w6 HI6.out.bel).2;clear hcon hn0 hn1
             cases mb
             all_goals
              go_wp2_with (go_at_call 47;(with_reducible refine HCON2.out.mono ?_);rintro e w4 ⟨rfl,hI4,hK4⟩)
              go_roundg (right.length - (j+1))
              case measure=>have:=HM5.out;have:=HLT5.out;omega
              case rel=>exact⟨_,j+1,out1,rfl,congrArg (Value.int .i64) (by first|rfl|(unfold wrap64;have:=HLT5.out;have:=HLEN.out;omega)),by have:=HLT5.out;omega,Nat.le_refl _,HNX,hI4⟩
          ·have hir:j=right.length:=by omega
           subst hir;have d1:decide ((right.length:Int)<(right.length:Int))=false:=decide_eq_false (by omega);have H:=HA.out;rw [List.drop_length] at H;simp only [rFollowIn] at H;obtain⟨rfl,rfl⟩:=Prod.mk.inj (Option.some.inj H);clear H HA;go_wp2
           go_roundg (aQ.length - (i+1))
           case measure=>have:=HM.out;have:=HLT.out;omega
           case rel=>exact⟨_,i+1,_,rfl,congrArg (Value.int .i64) (by unfold wrap64;have:=HLT.out;have:=HSZ.out.1;omega),by have:=HLT.out;omega,Nat.le_refl _,HH3,HI⟩
        ·have hir:i=aQ.length:=by omega
         subst hir;have d0:decide ((aQ.length:Int)<(aQ.length:Int))=false:=decide_eq_false (by omega);have H:=HA.out;rw [List.drop_length] at H;simp only [rFollowPs] at H;obtain⟨rfl,rfl⟩:=Prod.mk.inj (Option.some.inj H);clear H HA;go_wp2
         go_roundg k1
         case measure=>omega
         case rel=>exact⟨_,_,rfl,H2,HI⟩
end Go.Proofs.Ytapjfnfengefpaa.P
end
