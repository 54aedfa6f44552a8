/- Packed texts of this claim: the walks of the functions, and their plain laws; see the claim's last text. -/
import Derived.Test.YtapjfnfengefpaaKMachineClear5
section
namespace Go.Proofs.Ytapjfnfengefpaa.P
open Go.RowKit Go.Proofs.YtapjfnfengefpaaW.PrintWords Go.Proofs.YtapjfnfengefpaaW.PrintLast Go.Proofs.YtapjfnfengefpaaW.PrintMore
attribute [local go_sem] max2_int min2_int max_two min_two max_three min_three max_four min_four   -- for this text's walks alone
set_option linter.unusedVariables false
set_option linter.unusedSimpArgs false
mutual
def machine_Run.l0:Nat→List (List Int)→List Int→List Int→List Int→Int→Int→List ByteArray→List (S72)→Int→Int→List (S35)→List (S43)→Bool→Option (List Int×Int×Int)
 |0,_,_,_,_,_,_,_,_,_,_,_,_,_=>none
 |k+1,x1,x2,x6,x22,x23,x24,x116000,x116001,x116002,x116003,x116004,x121000,x121001=>if x24<x23 then(if 0≤x24 then(if x24<(x22.length:Int) then(if x24<(x2.length:Int) then(machine_Run.j1 k x1 x2 x6 x24 (rd x22 x24) x22 x23 x24 ((rd x22 x24)==(x116001.length:Int)) x116000 x116001 x116002 x116003 x116004 x121000 x121001) else(machine_Run.j1 k x1 x2 x6 x24 (rd x22 x24) x22 x23 x24 false x116000 x116001 x116002 x116003 x116004 x121000 x121001)) else(none)) else(none)) else(some (x6,0,0))
def machine_Run.j1:Nat→List (List Int)→List Int→List Int→Int→Int→List Int→Int→Int→Bool→List ByteArray→List (S72)→Int→Int→List (S35)→List (S43)→Bool→Option (List Int×Int×Int)
 |0,_,_,_,_,_,_,_,_,_,_,_,_,_,_,_,_=>none
 |k+1,x1,x2,x6,x10,x11,x22,x23,x24,x39,x116000,x116001,x116002,x116003,x116004,x121000,x121001=>if x39=true then(some (([]:List Int),1,x10)) else((machine_Feed.f x116000 x116001 x116002 x116003 x116004 x1 x121000 x121001 x11).bind fun qI=>(if qI.2.2.2=0 then(if x6.length+qI.2.2.1.length<17592186044416 then(machine_Run.l0 k x1 x2 (x6++qI.2.2.1) x22 x23 (wrap64 (x24+1)) x116000 x116001 x116002 x116003 x116004 qI.1 qI.2.1) else(none)) else(some (([]:List Int),qI.2.2.2,x10))))
end
def machine_Run.f (k:Nat) (aU:List ByteArray) (aX:List (S72)) (bA:Int) (bB:Int) (aQ:List (S35)) (l1:List (List Int)) (l2:List Int):Option (List Int×Int×Int):=(machine_Start.f).bind fun Id=>((slices_Clone_int_int.f l2).bind fun t121=>((some (([(aX.length:Int)]:List Int):List Int)).bind fun y124=>(if t121.length+y124.length<17592186044416 then((some (t121++y124:List Int)).bind fun y127=>(machine_Run.l0 k l1 l2 ([]:List Int) y127 (y127.length:Int) 0 aU aX bA bB aQ Id.1 Id.2)) else(none))))
theorem machine_Run.mono_l:∀k,(∀y0 y1 y2 y3 y4 y5 y6 y7 y8 y9 y10 y11 y12,LeO (machine_Run.l0 k y0 y1 y2 y3 y4 y5 y6 y7 y8 y9 y10 y11 y12) (machine_Run.l0 (k+1) y0 y1 y2 y3 y4 y5 y6 y7 y8 y9 y10 y11 y12))∧(∀y0 y1 y2 y3 y4 y5 y6 y7 y8 y9 y10 y11 y12 y13 y14 y15,LeO (machine_Run.j1 k y0 y1 y2 y3 y4 y5 y6 y7 y8 y9 y10 y11 y12 y13 y14 y15) (machine_Run.j1 (k+1) y0 y1 y2 y3 y4 y5 y6 y7 y8 y9 y10 y11 y12 y13 y14 y15))
 |0=>⟨fun _ _ _ _ _ _ _ _ _ _ _ _ _ r h=>by simp [machine_Run.l0] at h,fun _ _ _ _ _ _ _ _ _ _ _ _ _ _ _ _ r h=>by simp [machine_Run.j1] at h⟩
 |k+1=>by
  obtain⟨ih0,ih1⟩:=machine_Run.mono_l k;refine⟨?_,?_⟩
  ·intro y0 y1 y2 y3 y4 y5 y6 y7 y8 y9 y10 y11 y12
   unfold machine_Run.l0
   repeat' first
   |(with_reducible exact ih0 _ _ _ _ _ _ _ _ _ _ _ _ _)
   |(with_reducible exact ih1 _ _ _ _ _ _ _ _ _ _ _ _ _ _ _ _)
   |(with_reducible exact LeO.refl _)
   |(with_reducible exact LeO.none _)
   |(with_reducible refine LeO.ite ?_ ?_)
   |(with_reducible refine LeO.bind ?_ (fun _=>?_))
   |exact ih0 _ _ _ _ _ _ _ _ _ _ _ _ _
   |exact ih1 _ _ _ _ _ _ _ _ _ _ _ _ _ _ _ _
   |exact LeO.none _
   |refine LeO.ite ?_ ?_
   |refine LeO.bind ?_ (fun _=>?_)
  ·intro y0 y1 y2 y3 y4 y5 y6 y7 y8 y9 y10 y11 y12 y13 y14 y15
   unfold machine_Run.j1
   repeat' first
   |(with_reducible exact ih0 _ _ _ _ _ _ _ _ _ _ _ _ _)
   |(with_reducible exact ih1 _ _ _ _ _ _ _ _ _ _ _ _ _ _ _ _)
   |(with_reducible exact LeO.refl _)
   |(with_reducible exact LeO.none _)
   |(with_reducible refine LeO.ite ?_ ?_)
   |(with_reducible refine LeO.bind ?_ (fun _=>?_))
   |exact ih0 _ _ _ _ _ _ _ _ _ _ _ _ _
   |exact ih1 _ _ _ _ _ _ _ _ _ _ _ _ _ _ _ _
   |exact LeO.none _
   |refine LeO.ite ?_ ?_
   |refine LeO.bind ?_ (fun _=>?_)
theorem machine_Run.mono:∀a0 a1 a2 a3 a4 a5 a6 k,LeO (machine_Run.f k a0 a1 a2 a3 a4 a5 a6) (machine_Run.f (k+1) a0 a1 a2 a3 a4 a5 a6):=by
 intro a0 a1 a2 a3 a4 a5 a6 k;obtain⟨ih0,ih1⟩:=machine_Run.mono_l k
 unfold machine_Run.f
 repeat' first
  |(with_reducible exact ih0 _ _ _ _ _ _ _ _ _ _ _ _ _)
  |(with_reducible exact ih1 _ _ _ _ _ _ _ _ _ _ _ _ _ _ _ _)
  |(with_reducible exact LeO.refl _)
  |(with_reducible exact LeO.none _)
  |(with_reducible refine LeO.ite ?_ ?_)
  |(with_reducible refine LeO.bind ?_ (fun _=>?_))
  |exact ih0 _ _ _ _ _ _ _ _ _ _ _ _ _
  |exact ih1 _ _ _ _ _ _ _ _ _ _ _ _ _ _ _ _
  |exact LeO.none _
  |refine LeO.ite ?_ ?_
  |refine LeO.bind ?_ (fun _=>?_)
def machine_Run.T2:Bool×List (List Nat×List Nat):=(true,[([],[]),([0],[0]),([],[]),([2],[2]),([3],[3]),([4],[4]),([1,5,1],[1,5]),([6],[6]),([],[])])
def machine_Run.B2:List Nat:= [0,1,0,4,12,28,63,127,0]
theorem machine_Run.tab2:rtab .any (opsOf Try.f22 2)=machine_Run.T2:=by kernel_rfl
theorem machine_Run.bits2:waitsOk machine_Run.T2.2 machine_Run.B2=true:=by kernel_rfl
set_option maxHeartbeats 8000000 in
set_option maxRecDepth 100000 in
theorem machine_Run.calls (k:Nat) (bM:Option Addr) (bO:Nat) (aU:List ByteArray) (bQ:Option Addr) (bR:Nat) (aX:List (S72)) (bA:Int) (bB:Int) (bV:Option Addr) (bS:Nat) (aQ:List (S35)) (A1:Option Addr) (c1:Nat) (l1:List (List Int)) (A2:Option Addr) (c2:Nat) (l2:List Int) (r1:List Int) (r2:Int) (r3:Int) (w:World) (dX:Kd.C Kd.string w bM aU.length aU) (eE:aU.length≤bO) (eF:Kd.C k72 w bQ aX.length aX) (eG:aX.length≤bR) (dZ:Kd.C k35 w bV aQ.length aQ) (eM:aQ.length≤bS) (hr1:Kd.C (Kd.slice 3 (Kd.int .i64)) w A1 l1.length l1) (hc1:l1.length≤c1) (hr2:Kd.C (Kd.int .i64) w A2 l2.length l2) (hc2:l2.length≤c2) (h:machine_Run.f k aU aX bA bB aQ l1 l2=some (r1,r2,r3)):
 Calls Try.prog 22 #[.agg #[.slice bM aU.length bO,.slice bQ aX.length bR,.int .i64 bA,.int .i64 bB,.slice bV aQ.length bS],.slice A1 l1.length c1,.slice A2 l2.length c2] w fun e w'=>∃v0_:Value,e= .returned (.tuple #[v0_,.int .i64 r2,.int .i64 r3])∧Kd.R (Kd.int .i64) 3 w' w.heap.size (fun _=>True) v0_ r1∧Below w.heap.size w w':=by
 have hu26:=Try.underlying26;have hu31:=Try.underlying31;have fN:=aM dX;have fS:=aM eE;clear dX eE;have gA:=aM eF;have gD:=aM eG;clear eF eG;have eJ:=aM dZ;have gE:=aM eM;clear dZ eM;have HR1:=aM hr1;have HC1:=aM hc1;clear hr1 hc1;have HR2:=aM hr2;have HC2:=aM hc2;clear hr2 hc2;have HB:=aM (Below.refl w.heap.size w);have H:((machine_Start.f).bind fun Id=>((slices_Clone_int_int.f l2).bind fun t121=>((some (([(aX.length:Int)]:List Int):List Int)).bind fun y124=>(if t121.length+y124.length<17592186044416 then((some (t121++y124:List Int)).bind fun y127=>(machine_Run.l0 k l1 l2 ([]:List Int) y127 (y127.length:Int) 0 aU aX bA bB aQ Id.1 Id.2)) else(none)))))=some (r1,r2,r3):=h;clear h;replace H:=Option.bind_eq_some_iff.mp H;obtain⟨⟨t116,t119⟩,A40,H⟩:=H;replace H:((slices_Clone_int_int.f l2).bind fun t121=>((some (([(aX.length:Int)]:List Int):List Int)).bind fun y124=>(if t121.length+y124.length<17592186044416 then((some (t121++y124:List Int)).bind fun y127=>(machine_Run.l0 k l1 l2 ([]:List Int) y127 (y127.length:Int) 0 aU aX bA bB aQ t116 t119)) else(none))))=some (r1,r2,r3):=H;have A4:=aM A40;clear A40;replace H:=Option.bind_eq_some_iff.mp H;obtain⟨t121,A50,H⟩:=H;replace H:((some (([(aX.length:Int)]:List Int):List Int)).bind fun y124=>(if t121.length+y124.length<17592186044416 then((some (t121++y124:List Int)).bind fun y127=>(machine_Run.l0 k l1 l2 ([]:List Int) y127 (y127.length:Int) 0 aU aX bA bB aQ t116 t119)) else(none)))=some (r1,r2,r3):=H;have A5:=aM A50;clear A50;obtain⟨y124,Ie⟩:∃y_:List Int,y_=(([(aX.length:Int)]:List Int)):=⟨_,rfl⟩;replace H:(if t121.length+y124.length<17592186044416 then((some (t121++y124:List Int)).bind fun y127=>(machine_Run.l0 k l1 l2 ([]:List Int) y127 (y127.length:Int) 0 aU aX bA bB aQ t116 t119)) else(none))=some (r1,r2,r3):=by first|(rw [Ie];with_reducible exact H)|(have H2_:=(Option.bind_some _ _).symm.trans H;rw [Ie];with_reducible exact H2_)|(have H2_:=(Option.bind_some _ _).symm.trans H;with_reducible exact H2_)|with_reducible exact H|(rw [Ie];exact H)|exact H
 have Ml:=aM Ie;clear Ie
 by_cases c6:t121.length+y124.length<17592186044416
 rotate_left
 ·rw [if_neg c6] at H
  exact absurd H (by simp)
 rw [if_pos c6] at H;have Zx:=aM c6;clear c6;obtain⟨y127,If⟩:∃y_:List Int,y_=(t121++y124):=⟨_,rfl⟩;replace H:(machine_Run.l0 k l1 l2 ([]:List Int) y127 (y127.length:Int) 0 aU aX bA bB aQ t116 t119)=some (r1,r2,r3):=by first|(rw [If];with_reducible exact H)|(have H2_:=(Option.bind_some _ _).symm.trans H;rw [If];with_reducible exact H2_)|(have H2_:=(Option.bind_some _ _).symm.trans H;with_reducible exact H2_)|with_reducible exact H|(rw [If];exact H)|exact H
 have IR:=aM If;clear If;have H':=aM H;clear H;go_enter Try.func22,Try.ntmps22
 try go_wp2_with (first|((with_reducible refine bJ (N:=3) rfl ?_);(try(refine gate_guard (by rfl) ?_;dsimp only));refine box_event ?hg (N:=3) ?hd (cs:=#[.slice bM aU.length bO,.slice bQ aX.length bR,.int .i64 bA,.int .i64 bB,.slice bV aQ.length bS]) (t:=26) ?hr ?_;(case hd=>rfl);(case hg=>rfl);(case hr=>first|(go_simp;done)|(go_simp;rfl));intro eZ hg w7 hbox hb;have cE:=aM (bG (gW HB.out) hb);have cF:=aM (hbox);have cH:=aM ((by rw [hg];exact(bH (gW HB.out)):w.heap.size≤eZ));have cM:=aM ((by rw [hg];exact(bH (gW HB.out)):w.heap.size≤eZ));clear HB;have HB:=cE;have cI:=cF;have GW115:=cH;have Mm:=cM;clear cE cF cH cM;clear hb hbox hg)|((with_reducible refine bI (f:=17) rfl ?_);refine goesL_ (some 15) rfl rfl Try.func17 (by kernel_rfl) rfl #[] rfl (by(try simp only [List.map_toArray,List.map_cons,List.map_nil]);first|done|rfl|(simp only [List.length_drop,List.length_take];rfl)) ?_;(with_reducible refine(machine_Start.calls  t116 t119 _ A4.out).mono ?_);rintro e w8 ⟨v117,rfl,ho0,hb⟩;refine⟨_,rfl,?_⟩;have cE:=aM (bL ho0 (bH (gW HB.out)));have cF:=aM (bF (gB cI.out) hb);have cH:=aM (bG (gW HB.out) hb);clear cI;clear HB;have iF:=cE;have cI:=cF;have HB:=cH;clear cE cF cH;(try clear hb);(try clear hb2);(try clear hk);(try clear hi);(try clear ho0))|((with_reducible refine bJ (N:=9) rfl ?_);(try(refine gate_guard (by rfl) ?_;dsimp only));refine box_event ?hg (N:=9) ?hd (cs:=#[.slice none 0 0,.bool false]) (t:=31) ?hr ?_;(case hd=>rfl);(case hg=>rfl);(case hr=>first|(go_simp;done)|(go_simp;rfl));intro fG hg w9 hbox hb;have cE:=aM (aD (gR iF.out) hb);have cF:=aM (bF (gB cI.out) hb);have cH:=aM (bG (gW HB.out) hb);have cM:=aM (hbox);have dH:=aM ((by rw [hg];exact(bH (gW HB.out)):w.heap.size≤fG));have dN:=aM ((by rw [hg];exact(bH (gW HB.out)):w.heap.size≤fG));have dY:=aM ((by rw [hg];exact Nat.ne_of_lt (bN (g:=eZ) (o:= .cells #[.slice bM aU.length bO,.slice bQ aX.length bR,.int .i64 bA,.int .i64 bB,.slice bV aQ.length bS] 26 (0,0)) (gB cI.out)):eZ≠fG));have fB:=aM ((by rw [hg];exact Nat.ne_of_gt (bN (g:=eZ) (o:= .cells #[.slice bM aU.length bO,.slice bQ aX.length bR,.int .i64 bA,.int .i64 bB,.slice bV aQ.length bS] 26 (0,0)) (gB cI.out)):fG≠eZ));clear iF;clear cI;clear HB;have iF:=cE;have cI:=cF;have HB:=cH;have dL:=cM;have GW120:=dH;have Mn:=dN;have jO:=dY;have nV:=fB;clear cE cF cH cM dH dN dY fB;clear hb hbox hg;obtain⟨rR,rS,BD⟩:=Kd.R_slice iF.out;subst BD;have hnb11:=nV.out;have hnc11:=jO.out;have mU:w9.cell? ⟨fG,0,none⟩=some (.slice none 0 0):=(aG dL.out 0).trans rfl;have mV:w9.cell? ⟨fG,1,none⟩=some (.bool false):=(aG dL.out 1).trans rfl;have mW:=aH dL.out 0;have mX:=aH dL.out 1))
 have cE:Aside0 (Kd.R k43 43 ((w9.setCell ⟨fG,0,none⟩ (.slice rR t116.length rS)).setCell ⟨fG,1,none⟩ (.bool t119)) w.heap.size (fun _=>True) (.slice rR t116.length rS) t116):=⟨by(with_reducible repeat(first|apply aA|apply aB|apply aC));exact Kd.R_mono (aE (p:=⟨fG,1,none⟩) (aE (p:=⟨fG,0,none⟩) (Kd.R_types iF.out dL.out (by decide)) (fun _ hk=>hk.2) (.slice rR t116.length rS)) (fun _ hk=>hk.2) (.bool t119)) (fun _ hk=>trivial)⟩;have cF:Aside0 (((w9.setCell ⟨fG,0,none⟩ (.slice rR t116.length rS)).setCell ⟨fG,1,none⟩ (.bool t119)).heap[eZ]?=some (.cells #[.slice bM aU.length bO,.slice bQ aX.length bR,.int .i64 bA,.int .i64 bB,.slice bV aQ.length bS] 26 (0,0))):=⟨by(with_reducible repeat(first|refine aJ ?_ _|refine aK ?_|refine aI ?_ _));refine blk_far ?_ jO.out _;(with_reducible repeat(first|refine aJ ?_ _|refine aK ?_|refine aI ?_ _));refine blk_far ?_ jO.out _;(with_reducible repeat(first|refine aJ ?_ _|refine aK ?_|refine aI ?_ _));exact cI.out⟩;have cH:Aside0 (((w9.setCell ⟨fG,0,none⟩ (.slice rR t116.length rS)).setCell ⟨fG,1,none⟩ (.bool t119)).heap[fG]?=some (.cells #[.slice rR t116.length rS,.bool t119] 31 (0,0))):=⟨by(with_reducible repeat(first|refine aJ ?_ _|refine aK ?_|refine aI ?_ _));refine blk_put (cs:=#[.slice rR t116.length rS,.bool false]) ?_ 1 _ rfl;(with_reducible repeat(first|refine aJ ?_ _|refine aK ?_|refine aI ?_ _));refine blk_put (cs:=#[.slice none 0 0,.bool false]) ?_ 0 _ rfl;(with_reducible repeat(first|refine aJ ?_ _|refine aK ?_|refine aI ?_ _));exact dL.out⟩;have cM:Aside0 (Below w.heap.size w ((w9.setCell ⟨fG,0,none⟩ (.slice rR t116.length rS)).setCell ⟨fG,1,none⟩ (.bool t119))):=⟨by repeat(first|(with_reducible first|exact HB.out|apply aN|apply aP|apply aO|refine aL ?_ Mm.out|refine aL ?_ Mn.out)|exact HB.out)⟩
 (try clear iF);(try clear cI);(try clear dL);(try clear HB)
 generalize ((w9.setCell ⟨fG,0,none⟩ (.slice rR t116.length rS)).setCell ⟨fG,1,none⟩ (.bool t119))=w13 at cE cF cH cM ⊢;have iF:=cE;have cI:=cF;have dL:=cH;have HB:=cM;clear cE cF cH cM;have cE:=aM (aC iF.out);have cF:=aM (aK cI.out);have cH:=aM (aK dL.out);have cM:=aM (aO HB.out);clear iF cI dL HB;have iF:=cE;have cI:=cF;have dL:=cH;have HB:=cM;clear cE cF cH cM;refine start_ (n:=9) (S:=fun w'=>w'.cell? ⟨eZ,0,none⟩=some (.slice bM aU.length bO)∧w'.cell? ⟨eZ,1,none⟩=some (.slice bQ aX.length bR)∧w'.cell? ⟨eZ,2,none⟩=some (.int .i64 bA)∧w'.cell? ⟨eZ,3,none⟩=some (.int .i64 bB)∧w'.cell? ⟨eZ,4,none⟩=some (.slice bV aQ.length bS)) (ds:= []) #[F,F,F,F,F,F,F,F,F] (by kernel_rfl) rfl rfl ⟨(aG cI.out 0).trans rfl,(aG cI.out 1).trans rfl,(aG cI.out 2).trans rfl,(aG cI.out 3).trans rfl,(aG cI.out 4).trans rfl⟩ (fun hHeld=>?_);refine with_tabW machine_Run.tab2 machine_Run.bits2 (fun HT_ HW_=>?_)
 generalize w13.drew=w14 at iF cI dL HB hHeld ⊢;refine pure_ (i:=0) (N:=some 16) (v:=?_) (a':=?_) #[T,F,F,F,F,F,F,F,F] rfl rfl (any_of HT_.out (by kernel_rfl)) (fun _ _ _ h=>h) (Or.inl ⟨by rfl,?_⟩) ?_ ?_
 rotate_left;(intro w';go_simp;with_reducible rfl);rotate_left;(simp only [pq];rfl)
 refine pure_ (i:=2) (N:=some 18) (v:=?_) (a':=?_) #[T,F,T,F,F,F,F,F,F] rfl rfl (any_of HT_.out (by kernel_rfl)) (fun _ _ _ h=>h) (Or.inl ⟨by rfl,?_⟩) ?_ ?_
 rotate_left;(intro w';go_simp;with_reducible rfl);rotate_left;(simp only [pq];rfl)
 refine pure_ (i:=8) (N:=some 24) (v:=?_) (a':=?_) #[T,F,T,F,F,F,F,F,T] rfl rfl (any_of HT_.out (by kernel_rfl)) (fun _ _ _ h=>h) (Or.inl ⟨by rfl,?_⟩) ?_ ?_
 rotate_left;(intro w';go_simp;with_reducible rfl);rotate_left;(simp only [pq];rfl)
 refine take_ (i:=3) (N:=some 19) (v:=?_) (a':=?_) #[T,F,T,T,F,F,F,F,T] rfl rfl (take_ofW HT_.out HW_.out (by kernel_rfl)) (fun _ _ _ h=>h) (Or.inl ⟨by rfl,?_⟩) hHeld ?_ ?_
 rotate_left
 ·rintro w' ⟨s0,s1,s2,s3,s4⟩
  go_simp
  with_reducible rfl
 rotate_left
 ·simp only [pq]
  rfl
 refine pure_ (i:=4) (N:=some 20) (v:=?_) (a':=?_) #[T,F,T,T,T,F,F,F,T] rfl rfl (any_of HT_.out (by kernel_rfl)) (fun _ _ _ h=>h) (Or.inl ⟨by rfl,?_⟩) ?_ ?_
 rotate_left;(intro w';go_simp;with_reducible rfl);rotate_left;(simp only [pq];rfl)
 refine join_ (σ:=Value×Value) 2 #[T,T,T,T,T,T,F,F,T] (fun s_=> [(17,s_.1),(21,s_.2)]) (fun s_ w'=>(w'.cell? ⟨eZ,0,none⟩=some (.slice bM aU.length bO)∧w'.cell? ⟨eZ,1,none⟩=some (.slice bQ aX.length bR)∧w'.cell? ⟨eZ,2,none⟩=some (.int .i64 bA)∧w'.cell? ⟨eZ,3,none⟩=some (.int .i64 bB)∧w'.cell? ⟨eZ,4,none⟩=some (.slice bV aQ.length bS))∧(Kd.R k43 43 w' w.heap.size (fun _=>True) (.slice rR t116.length rS) t116)∧(Kd.R (Kd.int .i64) 3 w' w.heap.size (fun k_=>some k_≠(s_.2:Value).ownBlock) s_.1 t121)∧(Kd.R (Kd.int .i64) 3 w' w.heap.size (fun k_=>some k_≠(s_.1:Value).ownBlock) s_.2 y124)∧(w'.heap[eZ]?=some (.cells #[.slice bM aU.length bO,.slice bQ aX.length bR,.int .i64 bA,.int .i64 bB,.slice bV aQ.length bS] 26 (0,0)))∧(w'.heap[fG]?=some (.cells #[.slice rR t116.length rS,.bool t119] 31 (0,0)))∧(Below w.heap.size w w')) ?_ ?_
 rotate_left
 ·intro hCont
  refine two_ (i:=1) (j:=5) (Ni:=some 17) (Nj:=some 21) #[T,T,T,T,T,F,F,F,T] #[T,F,T,T,T,T,F,F,T] rfl rfl rfl rfl (two_of HT_.out (by kernel_rfl)) (by decide) (by decide) (fun K hK=>?_) (fun K hK=>?_)
  ·skip
   refine goes_ Try.func34 (by kernel_rfl) rfl #[.slice A2 l2.length c2] (by rfl) rfl rfl (by(try simp only [List.map_toArray,List.map_cons,List.map_nil]);first|done|rfl|(simp only [List.length_drop,List.length_take];rfl)) ?_
   with_reducible refine(slices_Clone_int_int.calls _ _ l2 t121 _ ?side1 ?side2 A5.out).mono ?_
   (case side1=>exact gC (bD HR2.out HB.out))
   (case side2=>exact HC2.out)
   rintro e w15 ⟨v122,rfl,ho0,hb⟩
   refine⟨_,rfl,?_⟩
   have cE:=aM (aD (gR iF.out) hb);have cF:=aM (bL ho0 (bH (gW HB.out)));have cH:=aM (bF (gB cI.out) hb);have cM:=aM (bF (gB dL.out) hb);have dH:=aM (bG (gW HB.out) hb);clear iF cI dL HB;have iF:=cE;have qJ:=cF;have cI:=cH;have dL:=cM;have HB:=dH;clear cE cF cH cM dH
   (try clear hb);(try clear hb2);(try clear hk);(try clear hi);(try clear ho0)
   refine hK.out _ _ ⟨(aG cI.out 0).trans rfl,(aG cI.out 1).trans rfl,(aG cI.out 2).trans rfl,(aG cI.out 3).trans rfl,(aG cI.out 4).trans rfl⟩ (fun hHeld=>?_)
   clear hK K;refine norm_ (a':=?_) ?_ ?_
   rotate_left
   ·show Act.put _ (some 17) _=_
    simp only [pq];rfl
   refine one_ (i:=5) (N:=some 21) #[T,T,T,T,T,T,F,F,T] rfl rfl (one_of HT_.out (by kernel_rfl)) (by decide) (fun K hK=>?_)
   refine Kd.R_lit_step (Kd.int .i64) _ 3 ?hg (N:=21) ?hd (xs:=([(aX.length:Int)]:List Int)) (inner:= [.int .i64 (aX.length:Int)]) (ok:=fun _=>True) (okp:=fun _=>True) ?hr ?hp (fun _ hk=>hk) trivial (Below.refl _ _) (Nat.le_refl _) (by simp) ?_;(case hd=>rfl);(case hg=>rfl);(case hr=>first|(go_simp;done)|(go_simp;rfl));(case hp=>exact(Reps.one (show Kd.M (Kd.int .i64) _ _ _ (aX.length:Int) [.int .i64 (aX.length:Int)] from rfl) (Reps.none _ _)))
   intro v125 w16 ho17 hb hg_ hnew_;clear hg_ hnew_
   (first|rw [←Ml.out] at ho17|(simp only [Int.reduceToNat] at ho17;rw [←Ml.out] at ho17))
   have cE:=aM (aD (gR iF.out) hb);have cF:=aM (bE (gR qJ.out) (Kd.R_base ho17) hb);have cH:=aM (bL (Kd.R_new' ho17 (Kd.R_lt (gR qJ.out))) (bH (gW HB.out)));have cM:=aM (bF (gB cI.out) hb);have dH:=aM (bF (gB dL.out) hb);have dN:=aM (bG (gW HB.out) hb);clear iF qJ cI dL HB;have iF:=cE;have qJ:=cF;have oY:=cH;have cI:=cM;have dL:=dH;have HB:=dN;clear cE cF cH cM dH dN hb ho17;refine hK.out _ _ ⟨(aG cI.out 0).trans rfl,(aG cI.out 1).trans rfl,(aG cI.out 2).trans rfl,(aG cI.out 3).trans rfl,(aG cI.out 4).trans rfl⟩ (fun hHeld=>?_)
   clear hK K;refine norm_ (a':=?_) ?_ ?_
   rotate_left
   ·show Act.put _ (some 21) _=_
    simp only [pq];rfl
   exact norm_ (by simp only [putAll,Act.put,List.setIfInBounds_toArray,List.set_cons_zero,List.set_cons_succ]) (hCont (v122,v125) _ ⟨hHeld,(gR iF.out),(by(with_reducible repeat(first|apply aA|apply aB|apply aC));exact Kd.R_mono qJ.out (fun _ hk=>hk.2)),(by(with_reducible repeat(first|apply aA|apply aB|apply aC));exact Kd.R_mono oY.out (fun _ hk=>hk.2)),(gB cI.out),(gB dL.out),(gW HB.out)⟩)
  ·skip
   refine Kd.R_lit_step (Kd.int .i64) _ 3 ?hg (N:=21) ?hd (xs:=([(aX.length:Int)]:List Int)) (inner:= [.int .i64 (aX.length:Int)]) (ok:=fun _=>True) (okp:=fun _=>True) ?hr ?hp (fun _ hk=>hk) trivial (Below.refl _ _) (Nat.le_refl _) (by simp) ?_;(case hd=>rfl);(case hg=>rfl);(case hr=>first|(go_simp;done)|(go_simp;rfl));(case hp=>exact(Reps.one (show Kd.M (Kd.int .i64) _ _ _ (aX.length:Int) [.int .i64 (aX.length:Int)] from rfl) (Reps.none _ _)))
   intro v125 w15 ho16 hb hg_ hnew_;clear hg_ hnew_
   (first|rw [←Ml.out] at ho16|(simp only [Int.reduceToNat] at ho16;rw [←Ml.out] at ho16))
   have cE:=aM (aD (gR iF.out) hb);have cF:=aM (bL ho16 (bH (gW HB.out)));have cH:=aM (bF (gB cI.out) hb);have cM:=aM (bF (gB dL.out) hb);have dH:=aM (bG (gW HB.out) hb);clear iF cI dL HB;have iF:=cE;have oY:=cF;have cI:=cH;have dL:=cM;have HB:=dH;clear cE cF cH cM dH hb ho16;refine hK.out _ _ ⟨(aG cI.out 0).trans rfl,(aG cI.out 1).trans rfl,(aG cI.out 2).trans rfl,(aG cI.out 3).trans rfl,(aG cI.out 4).trans rfl⟩ (fun hHeld=>?_)
   clear hK K;refine norm_ (a':=?_) ?_ ?_
   rotate_left
   ·show Act.put _ (some 21) _=_
    simp only [pq];rfl
   refine one_ (i:=1) (N:=some 17) #[T,T,T,T,T,T,F,F,T] rfl rfl (one_of HT_.out (by kernel_rfl)) (by decide) (fun K hK=>?_)
   refine goes_ Try.func34 (by kernel_rfl) rfl #[.slice A2 l2.length c2] (by rfl) rfl rfl (by(try simp only [List.map_toArray,List.map_cons,List.map_nil]);first|done|rfl|(simp only [List.length_drop,List.length_take];rfl)) ?_
   with_reducible refine(slices_Clone_int_int.calls _ _ l2 t121 _ ?side1 ?side2 A5.out).mono ?_
   (case side1=>exact gC (bD HR2.out HB.out))
   (case side2=>exact HC2.out)
   rintro e w17 ⟨v122,rfl,ho0,hb⟩
   refine⟨_,rfl,?_⟩
   have cE:=aM (aD (gR iF.out) hb);have cF:=aM (bE (gR oY.out) (Kd.R_base ho0) hb);have cH:=aM (bL (Kd.R_new' ho0 (Kd.R_lt (gR oY.out))) (bH (gW HB.out)));have cM:=aM (bF (gB cI.out) hb);have dH:=aM (bF (gB dL.out) hb);have dN:=aM (bG (gW HB.out) hb);clear iF oY cI dL HB;have iF:=cE;have oY:=cF;have qJ:=cH;have cI:=cM;have dL:=dH;have HB:=dN;clear cE cF cH cM dH dN
   (try clear hb);(try clear hb2);(try clear hk);(try clear hi);(try clear ho0)
   refine hK.out _ _ ⟨(aG cI.out 0).trans rfl,(aG cI.out 1).trans rfl,(aG cI.out 2).trans rfl,(aG cI.out 3).trans rfl,(aG cI.out 4).trans rfl⟩ (fun hHeld=>?_)
   clear hK K;refine norm_ (a':=?_) ?_ ?_
   rotate_left
   ·show Act.put _ (some 17) _=_
    simp only [pq];rfl
   exact norm_ (by simp only [putAll,Act.put,List.setIfInBounds_toArray,List.set_cons_zero,List.set_cons_succ]) (hCont (v122,v125) _ ⟨hHeld,(gR iF.out),(by(with_reducible repeat(first|apply aA|apply aB|apply aC));exact Kd.R_mono qJ.out (fun _ hk=>hk.2)),(by(with_reducible repeat(first|apply aA|apply aB|apply aC));exact Kd.R_mono oY.out (fun _ hk=>hk.2)),(gB cI.out),(gB dL.out),(gW HB.out)⟩)
 rintro⟨v122,v125⟩ w18 ⟨hS_,h0_,h1_,h2_,h3_,h4_,h5_⟩
 have cE:Aside0 (Kd.R k43 43 w18 w.heap.size (fun _=>True) (.slice rR t116.length rS) t116):=⟨h0_⟩;have cF:Aside0 (Kd.R (Kd.int .i64) 3 w18 w.heap.size (fun k_=>some k_≠(v125:Value).ownBlock) v122 t121):=⟨h1_⟩;have cH:Aside0 (Kd.R (Kd.int .i64) 3 w18 w.heap.size (fun k_=>some k_≠(v122:Value).ownBlock) v125 y124):=⟨h2_⟩;have cM:Aside0 (w18.heap[eZ]?=some (.cells #[.slice bM aU.length bO,.slice bQ aX.length bR,.int .i64 bA,.int .i64 bB,.slice bV aQ.length bS] 26 (0,0))):=⟨h3_⟩;have dH:Aside0 (w18.heap[fG]?=some (.cells #[.slice rR t116.length rS,.bool t119] 31 (0,0))):=⟨h4_⟩;have dN:Aside0 (Below w.heap.size w w18):=⟨h5_⟩;clear iF cI dL HB h0_ h1_ h2_ h3_ h4_ h5_;have iF:=cE;have qJ:=cF;have oY:=cH;have cI:=cM;have dL:=dH;have HB:=dN;clear cE cF cH cM dH dN;have hHeld:w18.cell? ⟨eZ,0,none⟩=some (.slice bM aU.length bO)∧w18.cell? ⟨eZ,1,none⟩=some (.slice bQ aX.length bR)∧w18.cell? ⟨eZ,2,none⟩=some (.int .i64 bA)∧w18.cell? ⟨eZ,3,none⟩=some (.int .i64 bB)∧w18.cell? ⟨eZ,4,none⟩=some (.slice bV aQ.length bS):=hS_;obtain⟨pP,pQ,Vk⟩:=Kd.R_slice oY.out
 (first|subst Vk|(injection Vk with f1_ f2_ f3_;have f4_:=f1_.symm;have f5_:=f3_.symm;clear f1_ f2_ f3_;subst f4_;subst f5_))
 refine norm_ (a':=?_) ?_ ?_
 rotate_left
 ·simp only [putAll,Act.put,List.setIfInBounds_toArray,List.set_cons_zero,List.set_cons_succ]
  rfl
 refine one_ (i:=6) (N:=some 22) #[T,T,T,T,T,T,T,F,T] rfl rfl (one_of HT_.out (by kernel_rfl)) (by decide) (fun K hK=>?_)
 refine Kd.R_append_rows_step (Kd.int .i64) (w0:=w) w.heap.size (by rfl) (.tmp 17) (.tmp 21) 32 3 (.int .i64 0) 8 rfl Try.underlying32 info3 rfl (by decide) (by omega) v122 t121 y124 _ _ _ (fun k_=>some k_≠(.slice pP y124.length pQ:Value).ownBlock) (fun _=>False) rfl rfl ?aO ?aR (fun _ _ h=>h) (fun _ h=>h.elim) ?aF ?aB ?aS ?aL ?_
 (case aR=>exact gC (aF oY.out).2.2)
 (case aB=>exact(gW HB.out))
 (case aF=>exact(fun k_ hk=>Kd.fresh' (Kd.R_lt (gR oY.out)) k_ hk))
 (case aO=>exact(gR qJ.out))
 (case aS=>exact(bH (gW HB.out)))
 (case aL=>have:=Zx.out;omega)
 intro v128 w19 ho hb hg hat;rw [←IR.out] at ho;have cE:=aM (blk_grown (gB cI.out) hg (Kd.R_ne qJ.out cI.out (by decide)));have cF:=aM (Kd.R_over' (gR iF.out) (Kd.R_typed (gR qJ.out)) (by decide) hg);have cH:=aM (blk_grown (gB dL.out) hg (Kd.R_ne qJ.out dL.out (by decide)));have cM:=aM (Kd.R_after (ok:=(fun _=>True)) (by(with_reducible repeat(first|apply aA|apply aB|apply aC));exact Kd.R_mono oY.out (fun _ hk=>⟨trivial,hk⟩)) hg hat);have dH:=aM (hb);have dN:=aM (ho);clear cI iF dL oY HB qJ;have cI:=cE;have iF:=cF;have dL:=cH;have oY:=cM;have HB:=dH;have Yj:=dN;clear cE cF cH cM dH dN ho hb hg hat;obtain⟨IS,Fz,IT⟩:=Kd.R_slice Yj.out
 (first|subst IT|(injection IT with f1_ f2_ f3_;have f4_:=f1_.symm;have f5_:=f3_.symm;clear f1_ f2_ f3_;subst f4_;subst f5_))
 refine hK.out _ _ ⟨(aG cI.out 0).trans rfl,(aG cI.out 1).trans rfl,(aG cI.out 2).trans rfl,(aG cI.out 3).trans rfl,(aG cI.out 4).trans rfl⟩ (fun hHeld=>?_)
 clear hK K;refine norm_ (a':=?_) ?_ ?_
 rotate_left
 ·show Act.put _ (some 22) _=_
  simp only [pq];rfl
 refine pure_ (i:=7) (N:=some 23) (v:=?_) (a':=?_) #[T,T,T,T,T,T,T,T,T] rfl rfl (any_of HT_.out (by kernel_rfl)) (fun _ _ _ h=>h) (Or.inl ⟨by rfl,?_⟩) ?_ ?_
 rotate_left;(intro w';go_simp;with_reducible rfl);rotate_left;(simp only [pq];rfl)
 refine done_ (done_of HT_.out (by kernel_rfl)) ?_
 try go_wp2
 go_loopg [6,24] k (fun kq v6 v24 w'=>∃(cB:List Int) (iA:Int) (fH:List (S43)) (fI:Bool) (u121000:Value),v24= .int .i64 iA∧Aside0 (machine_Run.l0 kq l1 l2 cB y127 (y127.length:Int) iA aU aX bA bB aQ fH fI=some (r1,r2,r3))∧Aside0 (kq≤k)∧Aside0 (Kd.R (Kd.int .i64) 3 w' w.heap.size (fun k_=>some k_≠((.slice IS y127.length Fz):Value).ownBlock) v6 cB)∧Aside0 (Kd.R (Kd.int .i64) 3 w' w.heap.size (fun k_=>some k_≠(v6:Value).ownBlock) (.slice IS y127.length Fz) y127)∧Aside0 (Kd.R k43 43 w' w.heap.size (fun _=>True) u121000 fH)∧Aside0 (w'.heap[eZ]?=some (.cells #[(.slice bM aU.length bO),(.slice bQ aX.length bR),.int .i64 bA,.int .i64 bB,(.slice bV aQ.length bS)] 26 (0,0)))∧Aside0 (w'.heap[fG]?=some (.cells #[u121000,.bool fI] 31 (0,0)))∧Aside0 (Below w.heap.size w w'))
 case atStart=>exact⟨(([]:List Int)),(0),(t116),(t119),(.slice rR t116.length rS),(by first|rfl|(simp;done)|(simp [*];done)),H',⟨Nat.le_refl _⟩,⟨by first|exact Kd.R_nil _ _ _ _ _|exact Kd.N_nil _ _ _ _ _|exact Kd.V_nil _ _ _ _ _|exact Kd.Q_nil _ _ _ _ _|exact Kd.S_nil _ _ _ _ _⟩,⟨by(with_reducible repeat(first|apply aA|apply aB|apply aC));exact Kd.R_mono Yj.out (fun _ hk=>(by simp [Value.ownBlock]))⟩,⟨gR iF.out⟩,⟨gB cI.out⟩,⟨gB dL.out⟩,⟨gW HB.out⟩⟩
 case round=>
  clear H'
  (try clear c1);(try clear c2);(try clear p2);(try clear c3);(try clear c6);(try clear c11);(try clear c17);(try clear mU);(try clear mV);(try clear mW);(try clear mX)
  obtain⟨cB,iA,fH,fI,u121000,rfl,HA,HK1,kT,iM,dP,cI,dL,HB⟩:=hrel
  cases gk with
  |zero=>exact absurd HA.out (by simp [machine_Run.l0])
  |succ k1=>
   have H:=HA.out;clear HA;simp only [machine_Run.l0] at H
   by_cases c22:iA<(y127.length:Int)
   ·rw [if_pos c22] at H
    have uO:decide (iA<(y127.length:Int))=true:=decide_eq_true c22;clear c22
    by_cases c23:0≤iA
    rotate_left
    ·rw [if_neg c23] at H
     exact absurd H (by simp)
    rw [if_pos c23] at H;have Da:decide (0≤iA)=true:=decide_eq_true c23;clear c23
    by_cases c24:iA<(y127.length:Int)
    rotate_left
    ·rw [if_neg c24] at H
     exact absurd H (by simp)
    rw [if_pos c24] at H;have Cd:decide (iA<(y127.length:Int))=true:=decide_eq_true c24;clear c24;have HC25:=aM H;clear H;have p130:0≤(iA:Int):=of_decide_eq_true (by first|(with_reducible assumption)|assumption);have q130:iA<(y127.length:Int):=of_decide_eq_true (by first|(with_reducible assumption)|assumption);obtain⟨Cp,e130,Vl⟩:=Kd.at_int (aF iM.out).2.2 iA p130 q130
    cases e130;replace p130:=eq_true p130;replace q130:=eq_true q130
    go_upto_region 5 with(fail)
    go_cut [39] (fun v39 wc=>∃(kq:Nat) (Ga:Bool),v39= .bool Ga∧Aside0 (machine_Run.j1 kq l1 l2 cB iA (rd y127 iA) y127 (y127.length:Int) iA Ga aU aX bA bB aQ fH fI=some (r1,r2,r3))∧Aside0 (kq≤k1)∧Aside0 (Kd.R (Kd.int .i64) 3 wc w.heap.size (fun k_=>some k_≠((.slice (some Cp) y127.length Fz):Value).ownBlock) u6 cB)∧Aside0 (Kd.R (Kd.int .i64) 3 wc w.heap.size (fun k_=>some k_≠(u6:Value).ownBlock) (.slice (some Cp) y127.length Fz) y127)∧Aside0 (Kd.R k43 43 wc w.heap.size (fun _=>True) u121000 fH)∧Aside0 (wc.heap[eZ]?=some (.cells #[(.slice bM aU.length bO),(.slice bQ aX.length bR),.int .i64 bA,.int .i64 bB,(.slice bV aQ.length bS)] 26 (0,0)))∧Aside0 (wc.heap[fG]?=some (.cells #[u121000,.bool fI] 31 (0,0)))∧Aside0 (Below w.heap.size w wc))
    case first=>
     have H:=HC25.out;clear HC25
     by_cases c26:iA<(l2.length:Int)
     ·rw [if_pos c26] at H
      have vF:decide (iA<(l2.length:Int))=true:=decide_eq_true c26;clear c26
      (first|rw [vF]|(simp only [i64_w,i32_w];rw [vF])|skip)
      have H':=aM H;clear H;have hnb27:=jO.out;have hnc27:=nV.out;have qU:wr.cell? ⟨eZ,0,none⟩=some (.slice bM aU.length bO):=(aG cI.out 0).trans rfl;have qV:wr.cell? ⟨eZ,1,none⟩=some (.slice bQ aX.length bR):=(aG cI.out 1).trans rfl;have Dj:wr.cell? ⟨eZ,2,none⟩=some (.int .i64 bA):=(aG cI.out 2).trans rfl;have Dk:wr.cell? ⟨eZ,3,none⟩=some (.int .i64 bB):=(aG cI.out 3).trans rfl;have Dl:wr.cell? ⟨eZ,4,none⟩=some (.slice bV aQ.length bS):=(aG cI.out 4).trans rfl;have qW:=aH cI.out 0;have qX:=aH cI.out 1;have Dm:=aH cI.out 2;have Dn:=aH cI.out 3;have Do:=aH cI.out 4;go_wp2
      go_meet
      case rel=>exact⟨_,(((rd y127 iA)==(aX.length:Int))),(by first|rfl|(simp;done)|(simp [*];done)),H',⟨by have:=HK1.out;first|omega|exact Nat.le_refl _⟩,⟨gR kT.out⟩,⟨gR iM.out⟩,⟨gR dP.out⟩,⟨gB cI.out⟩,⟨gB dL.out⟩,⟨gW HB.out⟩⟩
     ·rw [if_neg c26] at H
      have vF:decide (iA<(l2.length:Int))=false:=decide_eq_false c26;clear c26
      (first|rw [vF]|(simp only [i64_w,i32_w];rw [vF])|skip)
      have H':=aM H;clear H;go_wp2
      go_meet
      case rel=>exact⟨_,(false),(by first|rfl|(simp;done)|(simp [*];done)),H',⟨by have:=HK1.out;first|omega|exact Nat.le_refl _⟩,⟨gR kT.out⟩,⟨gR iM.out⟩,⟨gR dP.out⟩,⟨gB cI.out⟩,⟨gB dL.out⟩,⟨gW HB.out⟩⟩
    case rest=>
     clear HC25
     (try clear c1);(try clear p1);(try clear q1);(try clear hx1);(try clear c2);(try clear p2);(try clear c3);(try clear c6);(try clear c11);(try clear p13);(try clear q13);(try clear hx13);(try clear c17);(try clear c22);(try clear uO);(try clear c23);(try clear Da);(try clear c24);(try clear Cd);(try clear c26);(try clear vF);(try clear c27);(try clear mU);(try clear mV);(try clear qU)
     (try clear qV);(try clear Dj);(try clear Dk);(try clear Dl);(try clear mW);(try clear mX);(try clear qW);(try clear qX);(try clear Dm);(try clear Dn);(try clear Do);(try clear Vl);(try clear p130);(try clear p2);(try clear q130)
     obtain⟨kq,Ga,rfl,HA,HJ24,kT,iM,dP,cI,dL,HB⟩:=hcut
     cases kq with
     |zero=>exact absurd HA.out (by simp [machine_Run.j1])
     |succ Vm=>
      have H:=HA.out;clear HA;simp only [machine_Run.j1] at H
      by_cases c29:Ga=true
      ·subst c29
       have H1:(some (([]:List Int),1,iA))=some (r1,r2,r3):=by rw [if_pos rfl] at H;exact H
       clear H;have H:=H1;clear H1;simp only [Option.some.injEq,Prod.mk.injEq] at H;obtain⟨rfl,rfl,rfl⟩:=H;go_wp2
       go_ret3
       exact⟨_,by first|rfl|(simp [errW_none,errW_some]<;>rfl)|(simp [*,errW_none,errW_some]<;>rfl),by first|exact Kd.R_nil _ _ _ _ _|exact Kd.N_nil _ _ _ _ _|exact Kd.V_nil _ _ _ _ _|exact Kd.Q_nil _ _ _ _ _|exact Kd.S_nil _ _ _ _ _,gW HB.out⟩
      ·replace c29:=Bool.eq_false_iff.mpr c29
       subst c29;have H1:((machine_Feed.f aU aX bA bB aQ l1 fH fI (rd y127 iA)).bind fun qI=>(if qI.2.2.2=0 then(if cB.length+qI.2.2.1.length<17592186044416 then(machine_Run.l0 Vm l1 l2 (cB++qI.2.2.1) y127 (y127.length:Int) (wrap64 (iA+1)) aU aX bA bB aQ qI.1 qI.2.1) else(none)) else(some (([]:List Int),qI.2.2.2,iA))))=some (r1,r2,r3):=by rw [if_neg (show ¬(false=true) by decide)] at H;exact H
       clear H;have H:=H1;clear H1;replace H:=Option.bind_eq_some_iff.mp H;obtain⟨⟨t131,t134,t135,t138⟩,A300,H⟩:=H;replace H:(if t138=0 then(if cB.length+t135.length<17592186044416 then(machine_Run.l0 Vm l1 l2 (cB++t135) y127 (y127.length:Int) (wrap64 (iA+1)) aU aX bA bB aQ t131 t134) else(none)) else(some (([]:List Int),t138,iA)))=some (r1,r2,r3):=H;have A30:=aM A300;clear A300
       by_cases c31:t138=0
       ·rw [if_pos c31] at H
        have Pf:(t138==0)=true:=beq_iff_eq.mpr c31;have Pg:(t138 !=0)=false:=bne_eq_false_iff_eq.mpr c31;clear c31
        by_cases c32:cB.length+t135.length<17592186044416
        rotate_left
        ·rw [if_neg c32] at H
         exact absurd H (by simp)
        rw [if_pos c32] at H;have IU:=aM c32;clear c32;obtain⟨y140,Ig⟩:∃y_:List Int,y_=(cB++t135):=⟨_,rfl⟩;replace H:(machine_Run.l0 Vm l1 l2 y140 y127 (y127.length:Int) (wrap64 (iA+1)) aU aX bA bB aQ t131 t134)=some (r1,r2,r3):=by first|(rw [Ig];with_reducible exact H)|(have H2_:=(Option.bind_some _ _).symm.trans H;rw [Ig];with_reducible exact H2_)|(have H2_:=(Option.bind_some _ _).symm.trans H;with_reducible exact H2_)|with_reducible exact H|(rw [Ig];exact H)|exact H
        have IV:=aM Ig;clear Ig;have H':=aM H;clear H;have hnb33:=jO.out;have hnc33:=nV.out;have qZ:wc.cell? ⟨eZ,0,none⟩=some (.slice bM aU.length bO):=(aG cI.out 0).trans rfl;have rA:wc.cell? ⟨eZ,1,none⟩=some (.slice bQ aX.length bR):=(aG cI.out 1).trans rfl;have wO:wc.cell? ⟨eZ,2,none⟩=some (.int .i64 bA):=(aG cI.out 2).trans rfl;have wP:wc.cell? ⟨eZ,3,none⟩=some (.int .i64 bB):=(aG cI.out 3).trans rfl;have wQ:wc.cell? ⟨eZ,4,none⟩=some (.slice bV aQ.length bS):=(aG cI.out 4).trans rfl;have rB:=aH cI.out 0;have rC:=aH cI.out 1;have wR:=aH cI.out 2;have wS:=aH cI.out 3;have wT:=aH cI.out 4;have mZ:wc.cell? ⟨fG,0,none⟩=some (u121000):=(aG dL.out 0).trans rfl;have mK:wc.cell? ⟨fG,1,none⟩=some (.bool fI):=(aG dL.out 1).trans rfl;have nA:=aH dL.out 0;have nB:=aH dL.out 1;obtain⟨yG,xL,Qr⟩:=Kd.R_slice dP.out;subst Qr
        try go_wp2_with (first|((with_reducible refine bI (f:=23) rfl ?_);refine goesL_ (some 46) rfl rfl Try.func23 (by kernel_rfl) rfl #[.agg #[.slice bM aU.length bO,.slice bQ aX.length bR,.int .i64 bA,.int .i64 bB,.slice bV aQ.length bS],.slice A1 l1.length c1,.agg #[.slice yG fH.length xL,.bool fI],.int .i64 (rd y127 iA)] rfl (by(try simp only [List.map_toArray,List.map_cons,List.map_nil]);first|done|rfl|(simp only [List.length_drop,List.length_take];rfl)) ?_;(with_reducible refine(machine_Feed.calls _ _ aU _ _ aX bA bB _ _ aQ _ _ l1 _ _ fH fI (rd y127 iA) t131 t134 t135 t138 _ ?side1 ?side2 ?side3 ?side4 ?side5 ?side6 ?side7 ?side8 ?side9 ?side10 A30.out).mono ?_);(case side1=>exact gC (bD fN.out HB.out));(case side2=>exact fS.out);(case side3=>exact gC (bD gA.out HB.out));(case side4=>exact gD.out);(case side5=>exact gC (bD eJ.out HB.out));(case side6=>exact gE.out);(case side7=>exact gC (bD HR1.out HB.out));(case side8=>exact HC1.out);(case side9=>exact gC (aF dP.out).2.2);(case side10=>exact(aF dP.out).2.1);rintro e w37 ⟨v132,v136,rfl,ho0,ho1,hb⟩;refine⟨_,rfl,?_⟩;have cE:=aM (bE (gR kT.out) (Kd.R_base ho1) hb);have cF:=aM (bE (gR iM.out) (Kd.R_base ho1) hb);have cH:=aM (bE (gR dP.out) (Kd.R_base ho0) hb);have cM:=aM (bL (Kd.R_new' ho0 (Kd.R_lt (gR dP.out))) (bH (gW HB.out)));have dH:=aM (bL (Kd.R_new' (Kd.R_new' ho1 (Kd.R_lt (gR kT.out))) (Kd.R_lt (gR iM.out))) (bH (gW HB.out)));have dN:=aM (bF (gB cI.out) hb);have dY:=aM (bF (gB dL.out) hb);have fB:=aM (bG (gW HB.out) hb);clear kT;clear iM;clear dP;clear cI;clear dL;clear HB;have kT:=cE;have iM:=cF;have dP:=cH;have lH:=cM;have lI:=dH;have cI:=dN;have dL:=dY;have HB:=fB;clear cE cF cH cM dH dN dY fB;(try clear hb);(try clear hb2);(try clear hk);(try clear hi);(try clear ho0);(try clear ho1))|((with_reducible refine bJ (N:=12) rfl ?_);(try(refine gate_guard (by rfl) ?_;dsimp only));refine box_event ?hg (N:=12) ?hd (cs:=#[.slice none 0 0,.bool false]) (t:=31) ?hr ?_;(case hd=>rfl);(case hg=>rfl);(case hr=>first|(go_simp;done)|(go_simp;rfl));intro fA hg w38 hbox hb;have cE:=aM (aD (gR kT.out) hb);have cF:=aM (aD (gR iM.out) hb);have cH:=aM (aD (gR dP.out) hb);have cM:=aM (aD (gR lH.out) hb);have dH:=aM (aD (gR lI.out) hb);have dN:=aM (bF (gB cI.out) hb);have dY:=aM (bF (gB dL.out) hb);have fB:=aM (bG (gW HB.out) hb);have gO:=aM (hbox);have hJ:=aM ((by rw [hg];exact(bH (gW HB.out)):w.heap.size≤fA));have eS:=aM ((by rw [hg];exact(bH (gW HB.out)):w.heap.size≤fA));have eW:=aM ((by rw [hg];exact Nat.ne_of_lt (bN (g:=eZ) (o:= .cells #[.slice bM aU.length bO,.slice bQ aX.length bR,.int .i64 bA,.int .i64 bB,.slice bV aQ.length bS] 26 (0,0)) (gB cI.out)):eZ≠fA));have fF:=aM ((by rw [hg];exact Nat.ne_of_gt (bN (g:=eZ) (o:= .cells #[.slice bM aU.length bO,.slice bQ aX.length bR,.int .i64 bA,.int .i64 bB,.slice bV aQ.length bS] 26 (0,0)) (gB cI.out)):fA≠eZ));have fL:=aM ((by rw [hg];exact Nat.ne_of_lt (bN (g:=fG) (o:= .cells #[.slice yG fH.length xL,.bool fI] 31 (0,0)) (gB dL.out)):fG≠fA));have iE:=aM ((by rw [hg];exact Nat.ne_of_gt (bN (g:=fG) (o:= .cells #[.slice yG fH.length xL,.bool fI] 31 (0,0)) (gB dL.out)):fA≠fG));clear kT;clear iM;clear dP;clear lH;clear lI;clear cI;clear dL;clear HB;have kT:=cE;have iM:=cF;have dP:=cH;have lH:=cM;have lI:=dH;have cI:=dN;have dL:=dY;have HB:=fB;have iT:=gO;have GW139:=hJ;have Mo:=eS;have qK:=eW;have yI:=fF;have mJ:=fL;have kK:=iE;clear cE cF cH cM dH dN dY fB gO hJ eS eW fF fL iE;clear hb hbox hg;obtain⟨mR,mS,SA⟩:=Kd.R_slice lH.out;subst SA;have hnb40:=yI.out;have hnc40:=qK.out;have hnb41:=kK.out;have hnc41:=mJ.out;have Lb:w38.cell? ⟨fA,0,none⟩=some (.slice none 0 0):=(aG iT.out 0).trans rfl;have Lc:w38.cell? ⟨fA,1,none⟩=some (.bool false):=(aG iT.out 1).trans rfl;have Ld:=aH iT.out 0;have Le:=aH iT.out 1))
        have cE:Aside0 (Kd.R (Kd.int .i64) 3 ((w38.setCell ⟨fA,0,none⟩ (.slice mR t131.length mS)).setCell ⟨fA,1,none⟩ (.bool t134)) w.heap.size (fun k_=>some k_≠(.slice (some Cp) y127.length Fz:Value).ownBlock∧some k_≠(v136:Value).ownBlock) u6 cB):=⟨by(with_reducible repeat(first|apply aA|apply aB|apply aC));exact Kd.R_mono (aE (p:=⟨fA,1,none⟩) (aE (p:=⟨fA,0,none⟩) (Kd.R_types kT.out iT.out (by decide)) (fun _ hk=>hk.2) (.slice mR t131.length mS)) (fun _ hk=>hk.2) (.bool t134)) (fun _ hk=>⟨hk.1.1,hk.1.2⟩)⟩;have cF:Aside0 (Kd.R (Kd.int .i64) 3 ((w38.setCell ⟨fA,0,none⟩ (.slice mR t131.length mS)).setCell ⟨fA,1,none⟩ (.bool t134)) w.heap.size (fun k_=>some k_≠(u6:Value).ownBlock∧some k_≠(v136:Value).ownBlock) (.slice (some Cp) y127.length Fz) y127):=⟨by(with_reducible repeat(first|apply aA|apply aB|apply aC));exact Kd.R_mono (aE (p:=⟨fA,1,none⟩) (aE (p:=⟨fA,0,none⟩) (Kd.R_types iM.out iT.out (by decide)) (fun _ hk=>hk.2) (.slice mR t131.length mS)) (fun _ hk=>hk.2) (.bool t134)) (fun _ hk=>⟨hk.1.1,hk.1.2⟩)⟩;have cH:Aside0 (Kd.R k43 43 ((w38.setCell ⟨fA,0,none⟩ (.slice mR t131.length mS)).setCell ⟨fA,1,none⟩ (.bool t134)) w.heap.size (fun k_=>some k_≠(.slice mR t131.length mS:Value).ownBlock) (.slice yG fH.length xL) fH):=⟨by(with_reducible repeat(first|apply aA|apply aB|apply aC));exact Kd.R_mono (aE (p:=⟨fA,1,none⟩) (aE (p:=⟨fA,0,none⟩) (Kd.R_types dP.out iT.out (by decide)) (fun _ hk=>hk.2) (.slice mR t131.length mS)) (fun _ hk=>hk.2) (.bool t134)) (fun _ hk=>hk.1.2)⟩;have cM:Aside0 (Kd.R k43 43 ((w38.setCell ⟨fA,0,none⟩ (.slice mR t131.length mS)).setCell ⟨fA,1,none⟩ (.bool t134)) w.heap.size (fun k_=>some k_≠(.slice yG fH.length xL:Value).ownBlock) (.slice mR t131.length mS) t131):=⟨by(with_reducible repeat(first|apply aA|apply aB|apply aC));exact Kd.R_mono (aE (p:=⟨fA,1,none⟩) (aE (p:=⟨fA,0,none⟩) (Kd.R_types lH.out iT.out (by decide)) (fun _ hk=>hk.2) (.slice mR t131.length mS)) (fun _ hk=>hk.2) (.bool t134)) (fun _ hk=>hk.1.2)⟩;have dH:Aside0 (Kd.R (Kd.int .i64) 3 ((w38.setCell ⟨fA,0,none⟩ (.slice mR t131.length mS)).setCell ⟨fA,1,none⟩ (.bool t134)) w.heap.size (fun k_=>some k_≠(u6:Value).ownBlock∧some k_≠(.slice (some Cp) y127.length Fz:Value).ownBlock) v136 t135):=⟨by(with_reducible repeat(first|apply aA|apply aB|apply aC));exact Kd.R_mono (aE (p:=⟨fA,1,none⟩) (aE (p:=⟨fA,0,none⟩) (Kd.R_types lI.out iT.out (by decide)) (fun _ hk=>hk.2) (.slice mR t131.length mS)) (fun _ hk=>hk.2) (.bool t134)) (fun _ hk=>⟨hk.1.1.2,hk.1.2⟩)⟩;have dN:Aside0 (((w38.setCell ⟨fA,0,none⟩ (.slice mR t131.length mS)).setCell ⟨fA,1,none⟩ (.bool t134)).heap[eZ]?=some (.cells #[.slice bM aU.length bO,.slice bQ aX.length bR,.int .i64 bA,.int .i64 bB,.slice bV aQ.length bS] 26 (0,0))):=⟨by(with_reducible repeat(first|refine aJ ?_ _|refine aK ?_|refine aI ?_ _));refine blk_far ?_ qK.out _;(with_reducible repeat(first|refine aJ ?_ _|refine aK ?_|refine aI ?_ _));refine blk_far ?_ qK.out _;(with_reducible repeat(first|refine aJ ?_ _|refine aK ?_|refine aI ?_ _));exact cI.out⟩;have dY:Aside0 (((w38.setCell ⟨fA,0,none⟩ (.slice mR t131.length mS)).setCell ⟨fA,1,none⟩ (.bool t134)).heap[fG]?=some (.cells #[.slice yG fH.length xL,.bool fI] 31 (0,0))):=⟨by(with_reducible repeat(first|refine aJ ?_ _|refine aK ?_|refine aI ?_ _));refine blk_far ?_ mJ.out _;(with_reducible repeat(first|refine aJ ?_ _|refine aK ?_|refine aI ?_ _));refine blk_far ?_ mJ.out _;(with_reducible repeat(first|refine aJ ?_ _|refine aK ?_|refine aI ?_ _));exact dL.out⟩;have fB:Aside0 (((w38.setCell ⟨fA,0,none⟩ (.slice mR t131.length mS)).setCell ⟨fA,1,none⟩ (.bool t134)).heap[fA]?=some (.cells #[.slice mR t131.length mS,.bool t134] 31 (0,0))):=⟨by(with_reducible repeat(first|refine aJ ?_ _|refine aK ?_|refine aI ?_ _));refine blk_put (cs:=#[.slice mR t131.length mS,.bool false]) ?_ 1 _ rfl;(with_reducible repeat(first|refine aJ ?_ _|refine aK ?_|refine aI ?_ _));refine blk_put (cs:=#[.slice none 0 0,.bool false]) ?_ 0 _ rfl;(with_reducible repeat(first|refine aJ ?_ _|refine aK ?_|refine aI ?_ _));exact iT.out⟩;have gO:Aside0 (Below w.heap.size w ((w38.setCell ⟨fA,0,none⟩ (.slice mR t131.length mS)).setCell ⟨fA,1,none⟩ (.bool t134))):=⟨by repeat(first|(with_reducible first|exact HB.out|apply aN|apply aP|apply aO|refine aL ?_ Mm.out|refine aL ?_ Mn.out|refine aL ?_ Mo.out)|exact HB.out)⟩
        (try clear kT);(try clear iM);(try clear dP);(try clear lH);(try clear lI);(try clear cI);(try clear dL);(try clear iT);(try clear HB)
        generalize ((w38.setCell ⟨fA,0,none⟩ (.slice mR t131.length mS)).setCell ⟨fA,1,none⟩ (.bool t134))=w43 at cE cF cH cM dH dN dY fB gO ⊢;have kT:=cE;have iM:=cF;have dP:=cH;have lH:=cM;have lI:=dH;have cI:=dN;have dL:=dY;have iT:=fB;have HB:=gO;clear cE cF cH cM dH dN dY fB gO;have cE:=aM (aC kT.out);have cF:=aM (aC iM.out);have cH:=aM (aC dP.out);have cM:=aM (aC lH.out);have dH:=aM (aC lI.out);have dN:=aM (aK cI.out);have dY:=aM (aK dL.out);have fB:=aM (aK iT.out);have gO:=aM (aO HB.out);clear kT iM dP lH lI cI dL iT HB;have kT:=cE;have iM:=cF;have dP:=cH;have lH:=cM;have lI:=dH;have cI:=dN;have dL:=dY;have iT:=fB;have HB:=gO;clear cE cF cH cM dH dN dY fB gO;obtain⟨Zu,Sz,Ta⟩:=Kd.R_slice lI.out
        (first|subst Ta|(injection Ta with f1_ f2_ f3_;have f4_:=f1_.symm;have f5_:=f3_.symm;clear f1_ f2_ f3_;subst f4_;subst f5_))
        refine start_ (n:=6) (S:=fun w'=>w'.cell? ⟨fA,0,none⟩=some (.slice mR t131.length mS)∧w'.cell? ⟨fA,1,none⟩=some (.bool t134)) (ds:= []) #[false,false,false,false,false,false] (by kernel_rfl) rfl rfl ⟨(aG iT.out 0).trans rfl,(aG iT.out 1).trans rfl⟩ (fun hHeld=>?_)
        generalize w43.drew=w44 at kT iM dP lH lI cI dL iT HB hHeld ⊢;refine pure_ (i:=1) (N:=some 55) (v:=?_) (a':=?_) #[false,true,false,false,false,false] rfl rfl (by kernel_rfl) (fun _ _ _ h=>h) (Or.inl ⟨by rfl,?_⟩) ?_ ?_
        rotate_left;(intro w';go_simp;with_reducible rfl);rotate_left;(simp only [pq];rfl)
        refine pure_ (i:=2) (N:=some 56) (v:=?_) (a':=?_) #[false,true,true,false,false,false] rfl rfl (by kernel_rfl) (fun _ _ _ h=>h) (Or.inl ⟨by rfl,?_⟩) ?_ ?_
        rotate_left;(intro w';go_simp;with_reducible rfl);rotate_left;(simp only [pq];rfl)
        refine take_ (i:=0) (N:=some 54) (v:=?_) (a':=?_) #[true,true,true,false,false,false] rfl rfl (by kernel_rfl) (fun _ _ _ h=>h) (Or.inl ⟨by rfl,?_⟩) hHeld ?_ ?_
        rotate_left
        ·rintro w' ⟨s0,s1⟩
         go_simp
         with_reducible rfl
        rotate_left
        ·simp only [pq]
         rfl
        refine one_ (i:=3) (N:=some 57) #[true,true,true,true,false,false] rfl rfl (by kernel_rfl) (by decide) (fun K hK=>?_)
        refine Kd.R_append_rows_step (Kd.int .i64) (w0:=w) w.heap.size (by rfl) (.tmp 55) (.tmp 56) 32 3 (.int .i64 0) 8 rfl Try.underlying32 info3 rfl (by decide) (by omega) u6 cB t135 _ _ _ (fun k_=>some k_≠(.slice (some Cp) y127.length Fz:Value).ownBlock∧some k_≠(.slice Zu t135.length Sz:Value).ownBlock) (fun _=>False) rfl rfl ?aO ?aR (fun _ _ h=>h) (fun _ h=>h.elim) ?aF ?aB ?aS ?aL ?_
        (case aR=>exact gC (aF lI.out).2.2)
        (case aB=>exact(gW HB.out))
        (case aF=>exact(fun k_ hk=>⟨Kd.fresh' (Kd.R_lt (gR iM.out)) k_ hk,Kd.fresh' (Kd.R_lt (gR lI.out)) k_ hk⟩))
        (case aO=>exact(gR kT.out))
        (case aS=>exact(bH (gW HB.out)))
        (case aL=>have:=IU.out;omega)
        intro v141 w45 ho hb hg hat;rw [←IV.out] at ho;have cE:=aM (Kd.R_after (ok:=(fun k_=>some k_≠(.slice Zu t135.length Sz:Value).ownBlock)) (by(with_reducible repeat(first|apply aA|apply aB|apply aC));exact Kd.R_mono iM.out (fun _ hk=>⟨hk.2,hk.1⟩)) hg hat);have cF:=aM (Kd.R_over' (gR dP.out) (Kd.R_typed (gR kT.out)) (by decide) hg);have cH:=aM (blk_grown (gB cI.out) hg (Kd.R_ne kT.out cI.out (by decide)));have cM:=aM (blk_grown (gB dL.out) hg (Kd.R_ne kT.out dL.out (by decide)));have dH:=aM (Kd.R_over' (gR lH.out) (Kd.R_typed (gR kT.out)) (by decide) hg);have dN:=aM (Kd.R_after (ok:=(fun k_=>some k_≠(.slice (some Cp) y127.length Fz:Value).ownBlock)) (by(with_reducible repeat(first|apply aA|apply aB|apply aC));exact Kd.R_mono lI.out (fun _ hk=>⟨hk.2,hk.1⟩)) hg hat);have dY:=aM (blk_grown (gB iT.out) hg (Kd.R_ne kT.out iT.out (by decide)));have fB:=aM (hb);have gO:=aM (ho);clear iM dP cI dL lH lI iT HB kT;have iM:=cE;have dP:=cF;have cI:=cH;have dL:=cM;have lH:=dH;have lI:=dN;have iT:=dY;have HB:=fB;have IW:=gO;clear cE cF cH cM dH dN dY fB gO ho hb hg hat;refine hK.out _ _ ⟨(aG iT.out 0).trans rfl,(aG iT.out 1).trans rfl⟩ (fun hHeld=>?_)
        clear hK K;refine norm_ (a':=?_) ?_ ?_
        rotate_left
        ·show Act.put _ (some 57) _=_
         simp only [pq];rfl
        refine one_ (i:=4) (N:=none) #[true,true,true,true,true,false] rfl rfl (by kernel_rfl) (by decide) (fun K hK=>?_)
        have hs47:w45.cell? ⟨fG,0,none⟩=some (.slice yG fH.length xL):=(aG dL.out 0).trans rfl;have hfs47:=aH dL.out 0;have hns47_0:=jO.out;have hns47_2:=kK.out;have hms47_0:=nV.out;have hms47_2:=mJ.out;have hs48:w45.cell? ⟨fG,1,none⟩=some (.bool fI):=(aG dL.out 1).trans rfl;have hfs48:=aH dL.out 1;have hns48_0:=jO.out;have hns48_2:=kK.out;have hms48_0:=nV.out;have hms48_2:=mJ.out;refine skip_ (w1:=?_) (by rfl) rfl ?_ ?_
        rotate_left
        ·go_simp
         rfl
        refine hK.out _ _ ⟨((cell_far (p:=⟨fG,_,none⟩) kK.out _).trans (((cell_far (p:=⟨fG,_,none⟩) kK.out _).trans (hHeld.1)))),((cell_far (p:=⟨fG,_,none⟩) kK.out _).trans (((cell_far (p:=⟨fG,_,none⟩) kK.out _).trans (hHeld.2))))⟩ (fun hHeld=>?_)
        clear hK K;refine pure_ (i:=5) (N:=some 6) (v:=?_) (a':=?_) #[true,true,true,true,true,true] rfl rfl (by kernel_rfl) (fun _ _ _ h=>h) (Or.inl ⟨by rfl,?_⟩) ?_ ?_
        rotate_left;(intro w';go_simp;with_reducible rfl);rotate_left;(simp only [pq];rfl)
        refine done_ (by kernel_rfl) ?_
        try go_wp2
        go_roundg Vm
        case measure=>have:=HK1.out;have:=HJ24.out;omega
        case rel=>exact⟨(y140),(wrap64 (iA+1)),(t131),(t134),(.slice mR t131.length mS),(by first|rfl|(simp;done)|(simp [*];done)),H',⟨by have:=HK1.out;have:=HJ24.out;omega⟩,⟨by(with_reducible repeat(first|apply aA|apply aB|apply aC));exact Kd.R_mono (aE (p:=⟨fG,1,none⟩) (aE (p:=⟨fG,0,none⟩) (Kd.R_types IW.out dL.out (by decide)) (fun _ hk=>hk.2) (.slice mR t131.length mS)) (fun _ hk=>hk.2) (.bool t134)) (fun _ hk=>hk.1.1)⟩,⟨by(with_reducible repeat(first|apply aA|apply aB|apply aC));exact Kd.R_mono (aE (p:=⟨fG,1,none⟩) (aE (p:=⟨fG,0,none⟩) (Kd.R_types iM.out dL.out (by decide)) (fun _ hk=>hk.2) (.slice mR t131.length mS)) (fun _ hk=>hk.2) (.bool t134)) (fun _ hk=>hk.1.2)⟩,⟨by(with_reducible repeat(first|apply aA|apply aB|apply aC));exact Kd.R_mono (aE (p:=⟨fG,1,none⟩) (aE (p:=⟨fG,0,none⟩) (Kd.R_types lH.out dL.out (by decide)) (fun _ hk=>hk.2) (.slice mR t131.length mS)) (fun _ hk=>hk.2) (.bool t134)) (fun _ hk=>trivial)⟩,⟨by(with_reducible repeat(first|refine aJ ?_ _|refine aK ?_|refine aI ?_ _));refine blk_far ?_ jO.out _;(with_reducible repeat(first|refine aJ ?_ _|refine aK ?_|refine aI ?_ _));refine blk_far ?_ jO.out _;(with_reducible repeat(first|refine aJ ?_ _|refine aK ?_|refine aI ?_ _));exact cI.out⟩,⟨by(with_reducible repeat(first|refine aJ ?_ _|refine aK ?_|refine aI ?_ _));refine blk_put (cs:=#[.slice mR t131.length mS,.bool fI]) ?_ 1 _ rfl;(with_reducible repeat(first|refine aJ ?_ _|refine aK ?_|refine aI ?_ _));refine blk_put (cs:=#[.slice yG fH.length xL,.bool fI]) ?_ 0 _ rfl;(with_reducible repeat(first|refine aJ ?_ _|refine aK ?_|refine aI ?_ _));exact dL.out⟩,⟨by repeat(first|(with_reducible first|exact HB.out|apply aN|apply aP|apply aO|refine aL ?_ Mm.out|refine aL ?_ Mn.out|refine aL ?_ Mo.out)|exact HB.out)⟩⟩
       ·rw [if_neg c31] at H
        have Pf:(t138==0)=false:=beq_eq_false_iff_ne.mpr c31;have Pg:(t138 !=0)=true:=bne_iff_ne.mpr c31;simp only [Option.some.injEq,Prod.mk.injEq] at H;obtain⟨rfl,rfl,rfl⟩:=H;have hnb49:=jO.out;have hnc49:=nV.out;have Ab:wc.cell? ⟨eZ,0,none⟩=some (.slice bM aU.length bO):=(aG cI.out 0).trans rfl;have Ac:wc.cell? ⟨eZ,1,none⟩=some (.slice bQ aX.length bR):=(aG cI.out 1).trans rfl;have Tb:wc.cell? ⟨eZ,2,none⟩=some (.int .i64 bA):=(aG cI.out 2).trans rfl;have Tc:wc.cell? ⟨eZ,3,none⟩=some (.int .i64 bB):=(aG cI.out 3).trans rfl;have Td:wc.cell? ⟨eZ,4,none⟩=some (.slice bV aQ.length bS):=(aG cI.out 4).trans rfl;have Ad:=aH cI.out 0;have Ag:=aH cI.out 1;have Te:=aH cI.out 2;have Tf:=aH cI.out 3;have Tg:=aH cI.out 4;have Az:wc.cell? ⟨fG,0,none⟩=some (u121000):=(aG dL.out 0).trans rfl;have Ba:wc.cell? ⟨fG,1,none⟩=some (.bool fI):=(aG dL.out 1).trans rfl;have Bb:=aH dL.out 0;have Bc:=aH dL.out 1;obtain⟨Vn,sQ,BE⟩:=Kd.R_slice dP.out;subst BE
        go_wp2_with (first|((with_reducible refine bI (f:=23) rfl ?_);refine goesL_ (some 46) rfl rfl Try.func23 (by kernel_rfl) rfl #[.agg #[.slice bM aU.length bO,.slice bQ aX.length bR,.int .i64 bA,.int .i64 bB,.slice bV aQ.length bS],.slice A1 l1.length c1,.agg #[.slice Vn fH.length sQ,.bool fI],.int .i64 (rd y127 iA)] rfl (by(try simp only [List.map_toArray,List.map_cons,List.map_nil]);first|done|rfl|(simp only [List.length_drop,List.length_take];rfl)) ?_;(with_reducible refine(machine_Feed.calls _ _ aU _ _ aX bA bB _ _ aQ _ _ l1 _ _ fH fI (rd y127 iA) t131 t134 t135 t138 _ ?side1 ?side2 ?side3 ?side4 ?side5 ?side6 ?side7 ?side8 ?side9 ?side10 A30.out).mono ?_);(case side1=>exact gC (bD fN.out HB.out));(case side2=>exact fS.out);(case side3=>exact gC (bD gA.out HB.out));(case side4=>exact gD.out);(case side5=>exact gC (bD eJ.out HB.out));(case side6=>exact gE.out);(case side7=>exact gC (bD HR1.out HB.out));(case side8=>exact HC1.out);(case side9=>exact gC (aF dP.out).2.2);(case side10=>exact(aF dP.out).2.1);rintro e w53 ⟨v132,v136,rfl,ho0,ho1,hb⟩;refine⟨_,rfl,?_⟩;have cE:=aM (bE (gR kT.out) (Kd.R_base ho1) hb);have cF:=aM (bE (gR iM.out) (Kd.R_base ho1) hb);have cH:=aM (bE (gR dP.out) (Kd.R_base ho0) hb);have cM:=aM (bL (Kd.R_new' ho0 (Kd.R_lt (gR dP.out))) (bH (gW HB.out)));have dH:=aM (bL (Kd.R_new' (Kd.R_new' ho1 (Kd.R_lt (gR kT.out))) (Kd.R_lt (gR iM.out))) (bH (gW HB.out)));have dN:=aM (bF (gB cI.out) hb);have dY:=aM (bF (gB dL.out) hb);have fB:=aM (bG (gW HB.out) hb);clear kT;clear iM;clear dP;clear cI;clear dL;clear HB;have kT:=cE;have iM:=cF;have dP:=cH;have lH:=cM;have lI:=dH;have cI:=dN;have dL:=dY;have HB:=fB;clear cE cF cH cM dH dN dY fB;(try clear hb);(try clear hb2);(try clear hk);(try clear hi);(try clear ho0);(try clear ho1))|((with_reducible refine bJ (N:=12) rfl ?_);(try(refine gate_guard (by rfl) ?_;dsimp only));refine box_event ?hg (N:=12) ?hd (cs:=#[.slice none 0 0,.bool false]) (t:=31) ?hr ?_;(case hd=>rfl);(case hg=>rfl);(case hr=>first|(go_simp;done)|(go_simp;rfl));intro fA hg w54 hbox hb;have cE:=aM (aD (gR kT.out) hb);have cF:=aM (aD (gR iM.out) hb);have cH:=aM (aD (gR dP.out) hb);have cM:=aM (aD (gR lH.out) hb);have dH:=aM (aD (gR lI.out) hb);have dN:=aM (bF (gB cI.out) hb);have dY:=aM (bF (gB dL.out) hb);have fB:=aM (bG (gW HB.out) hb);have gO:=aM (hbox);have hJ:=aM ((by rw [hg];exact(bH (gW HB.out)):w.heap.size≤fA));have eS:=aM ((by rw [hg];exact(bH (gW HB.out)):w.heap.size≤fA));have eW:=aM ((by rw [hg];exact Nat.ne_of_lt (bN (g:=eZ) (o:= .cells #[.slice bM aU.length bO,.slice bQ aX.length bR,.int .i64 bA,.int .i64 bB,.slice bV aQ.length bS] 26 (0,0)) (gB cI.out)):eZ≠fA));have fF:=aM ((by rw [hg];exact Nat.ne_of_gt (bN (g:=eZ) (o:= .cells #[.slice bM aU.length bO,.slice bQ aX.length bR,.int .i64 bA,.int .i64 bB,.slice bV aQ.length bS] 26 (0,0)) (gB cI.out)):fA≠eZ));have fL:=aM ((by rw [hg];exact Nat.ne_of_lt (bN (g:=fG) (o:= .cells #[.slice Vn fH.length sQ,.bool fI] 31 (0,0)) (gB dL.out)):fG≠fA));have iE:=aM ((by rw [hg];exact Nat.ne_of_gt (bN (g:=fG) (o:= .cells #[.slice Vn fH.length sQ,.bool fI] 31 (0,0)) (gB dL.out)):fA≠fG));clear kT;clear iM;clear dP;clear lH;clear lI;clear cI;clear dL;clear HB;have kT:=cE;have iM:=cF;have dP:=cH;have lH:=cM;have lI:=dH;have cI:=dN;have dL:=dY;have HB:=fB;have iT:=gO;have GW139:=hJ;have Mo:=eS;have qK:=eW;have yI:=fF;have mJ:=fL;have kK:=iE;clear cE cF cH cM dH dN dY fB gO hJ eS eW fF fL iE;clear hb hbox hg;obtain⟨VY,VZ,SC⟩:=Kd.R_slice lH.out;subst SC;have hnb56:=yI.out;have hnc56:=qK.out;have hnb57:=kK.out;have hnc57:=mJ.out;have Vo:w54.cell? ⟨fA,0,none⟩=some (.slice none 0 0):=(aG iT.out 0).trans rfl;have Vp:w54.cell? ⟨fA,1,none⟩=some (.bool false):=(aG iT.out 1).trans rfl;have Vq:=aH iT.out 0;have Vr:=aH iT.out 1))
        go_ret3
        exact⟨_,by first|rfl|(simp [errW_none,errW_some]<;>rfl)|(simp [*,errW_none,errW_some]<;>rfl),by first|exact Kd.R_nil _ _ _ _ _|exact Kd.N_nil _ _ _ _ _|exact Kd.V_nil _ _ _ _ _|exact Kd.Q_nil _ _ _ _ _|exact Kd.S_nil _ _ _ _ _,by repeat(first|(with_reducible first|exact HB.out|apply aN|apply aP|apply aO|refine aL ?_ Mm.out|refine aL ?_ Mn.out|refine aL ?_ Mo.out)|exact HB.out)⟩
   ·rw [if_neg c22] at H
    have uO:decide (iA<(y127.length:Int))=false:=decide_eq_false c22;clear c22;simp only [Option.some.injEq,Prod.mk.injEq] at H;obtain⟨rfl,rfl,rfl⟩:=H;go_wp2
    go_ret3
    exact⟨_,by first|rfl|(simp [errW_none,errW_some]<;>rfl)|(simp [*,errW_none,errW_some]<;>rfl),by(with_reducible repeat(first|apply aA|apply aB|apply aC));exact Kd.R_mono kT.out (fun _ hk=>trivial),gW HB.out⟩
attribute [local go_sem] max2_int min2_int max_two min_two max_three min_three max_four min_four   -- for this text's walks alone
set_option linter.unusedVariables false
set_option linter.unusedSimpArgs false
def regletlaw16_awake.f (k:Nat)  :Option (Bool):=(some (([(⟨#[97]⟩:ByteArray)]:List ByteArray):List ByteArray)).bind fun y145=>(if 1≤2706490160679 then((some (List.replicate 1 z72:List (S72))).bind fun y148=>((some (([(⟨0,(([(⟨true,0⟩:S43),(⟨false,0⟩:S43)]:List (S43)))⟩:S35),(⟨0,([]:List (S43))⟩:S35)]:List (S35)):List (S35))).bind fun y154=>((some (([(([0,1]:List Int))]:List (List Int)):List (List Int))).bind fun y161=>((machine_Run.f k y145 y148 0 0 y154 y161 (([0,0]:List Int))).bind fun jG=>((machine_Start.f).bind fun iU=>((machine_Feed.f y145 y148 0 0 y154 y161 iU.1 iU.2 0).bind fun eV=>((machine_Run.f k y145 y148 0 0 y154 y161 (([1]:List Int))).bind fun gL=>(if jG.2.1=0 then((regletref13_SameInts.f k jG.1 (([0,0,1]:List Int))).bind fun t196=>(if t196=true then(if eV.2.2.2=0 then((regletref13_SameInts.f k eV.2.2.1 (([0]:List Int))).bind fun t200=>(if t200=true then((machine_Start.f).bind fun eO=>((regletref16_Same.f k eV.1 eV.2.1 eO.1 eO.2).bind fun t205=>(if t205=true then(if gL.2.1=1 then(if gL.2.2=0 then((machine_Right.f y145 y148 0 0 y154 y161).bind fun t206=>(if t206=true then((machine_Right.f y145 y148 0 0 y154 ([]:List (List Int))).bind fun t207=>(some (!t207))) else(none))) else(none)) else(none)) else(none)))) else(none))) else(none)) else(none))) else(none))))))))) else(none))
theorem regletlaw16_awake.mono:∀k,LeO (regletlaw16_awake.f k) (regletlaw16_awake.f (k+1)):=by
 intro  k
 unfold regletlaw16_awake.f
 repeat' first
  |(with_reducible exact machine_Run.mono _ _ _ _ _ _ _ _)
  |(with_reducible exact regletref13_SameInts.mono _ _ _)
  |(with_reducible exact regletref16_Same.mono _ _ _ _ _)
  |(with_reducible exact LeO.refl _)
  |(with_reducible exact LeO.none _)
  |(with_reducible refine LeO.ite ?_ ?_)
  |(with_reducible refine LeO.bind ?_ (fun _=>?_))
  |exact machine_Run.mono _ _ _ _ _ _ _ _
  |exact regletref13_SameInts.mono _ _ _
  |exact regletref16_Same.mono _ _ _ _ _
  |exact LeO.none _
  |refine LeO.ite ?_ ?_
  |refine LeO.bind ?_ (fun _=>?_)
def regletlaw16_awake.T4:Bool×List (List Nat×List Nat):=(true,[([],[]),([],[]),([],[]),([0,1,2,2],[0,1,2]),([3],[3]),([4],[4]),([4],[4]),([4],[4]),([],[]),([8,5,3,0,1,2,3,4,5,8],[5,8]),([6,9,0,1,2,3,4,5,6,8,9],[6]),([7,10,0,1,2,3,4,5,6,7,8,9,10],[7])])
def regletlaw16_awake.B4:List Nat:= [0,0,0,7,15,31,31,31,0,319,895,2047]
theorem regletlaw16_awake.tab4:rtab .any (opsOf Try.f10 4)=regletlaw16_awake.T4:=by kernel_rfl
theorem regletlaw16_awake.bits4:waitsOk regletlaw16_awake.T4.2 regletlaw16_awake.B4=true:=by kernel_rfl
def regletlaw16_awake.T6:Bool×List (List Nat×List Nat):=(true,[([],[]),([0],[0]),([1],[1]),([2],[2]),([2],[2]),([3,4,2,2],[2,3,4]),([2,5],[2,5]),([6,5],[6]),([7],[7]),([8,7],[7,8]),([7,9],[7,9]),([10,7],[10]),([11],[11]),([11],[11]),([12,13,11,11],[11,12,13]),([11,14],[11,14]),([15,14],[15]),([16],[16]),([16,16],[16]),([17,18,18,16],[16,17,18]),([16,19],[16,19]),([20,19],[20]),([21],[21]),([22,21],[21,22]),([21,23],[21,23]),([24,21],[24]),([25],[25]),([26,25],[25,26]),([25,27],[25,27]),([28,25],[28]),([29],[29]),([29],[29]),([30,31,29,29],[29,30,31]),([29,32],[29,32]),([33,32],[33]),([34],[34]),([35,34,34],[34,35]),([36,34],[34,36]),([34,37],[34,37]),([38,36,0,1,2,3,4,5,6,7,8,9,10,11,12,13,14,15,16,17,18,19,20,21,22,23,24,25,26,27,28,29,30,31,32,33,34,35,36,37,38],[38])])
def regletlaw16_awake.B6:List Nat:= [0,1,3,7,7,31,63,127,255,511,1023,2047,4095,4095,16383,32767,65535,131071,131071,524287,1048575,2097151,4194303,8388607,16777215,33554431,67108863,134217727,268435455,536870911,1073741823,1073741823,4294967295,8589934591,17179869183,34359738367,68719476735,137438953471,274877906943,549755813887]
theorem regletlaw16_awake.tab6:rtab .any (opsOf Try.f10 6)=regletlaw16_awake.T6:=by kernel_rfl
theorem regletlaw16_awake.bits6:waitsOk regletlaw16_awake.T6.2 regletlaw16_awake.B6=true:=by kernel_rfl
set_option maxHeartbeats 8000000 in
set_option maxRecDepth 100000 in
theorem regletlaw16_awake.calls (k:Nat)  (r:Bool) (w:World) (h:regletlaw16_awake.f k  =some r):
 Calls Try.prog 10 #[] w fun e w'=>e= .returned (.bool r)∧Below w.heap.size w w':=by
 have hu43:=Try.underlying43;have hu35:=Try.underlying35;have hu26:=Try.underlying26;have hu31:=Try.underlying31;have HB:=aM (Below.refl w.heap.size w);have H:((some (([(⟨#[97]⟩:ByteArray)]:List ByteArray):List ByteArray)).bind fun y145=>(if 1≤2706490160679 then((some (List.replicate 1 z72:List (S72))).bind fun y148=>((some (([(⟨0,(([(⟨true,0⟩:S43),(⟨false,0⟩:S43)]:List (S43)))⟩:S35),(⟨0,([]:List (S43))⟩:S35)]:List (S35)):List (S35))).bind fun y154=>((some (([(([0,1]:List Int))]:List (List Int)):List (List Int))).bind fun y161=>((machine_Run.f k y145 y148 0 0 y154 y161 (([0,0]:List Int))).bind fun jG=>((machine_Start.f).bind fun iU=>((machine_Feed.f y145 y148 0 0 y154 y161 iU.1 iU.2 0).bind fun eV=>((machine_Run.f k y145 y148 0 0 y154 y161 (([1]:List Int))).bind fun gL=>(if jG.2.1=0 then((regletref13_SameInts.f k jG.1 (([0,0,1]:List Int))).bind fun t196=>(if t196=true then(if eV.2.2.2=0 then((regletref13_SameInts.f k eV.2.2.1 (([0]:List Int))).bind fun t200=>(if t200=true then((machine_Start.f).bind fun eO=>((regletref16_Same.f k eV.1 eV.2.1 eO.1 eO.2).bind fun t205=>(if t205=true then(if gL.2.1=1 then(if gL.2.2=0 then((machine_Right.f y145 y148 0 0 y154 y161).bind fun t206=>(if t206=true then((machine_Right.f y145 y148 0 0 y154 ([]:List (List Int))).bind fun t207=>(some (!t207))) else(none))) else(none)) else(none)) else(none)))) else(none))) else(none)) else(none))) else(none))))))))) else(none)))=some r:=h;clear h;obtain⟨y145,Ih⟩:∃y_:List ByteArray,y_=(([(⟨#[97]⟩:ByteArray)]:List ByteArray)):=⟨_,rfl⟩;replace H:(if 1≤2706490160679 then((some (List.replicate 1 z72:List (S72))).bind fun y148=>((some (([(⟨0,(([(⟨true,0⟩:S43),(⟨false,0⟩:S43)]:List (S43)))⟩:S35),(⟨0,([]:List (S43))⟩:S35)]:List (S35)):List (S35))).bind fun y154=>((some (([(([0,1]:List Int))]:List (List Int)):List (List Int))).bind fun y161=>((machine_Run.f k y145 y148 0 0 y154 y161 (([0,0]:List Int))).bind fun jG=>((machine_Start.f).bind fun iU=>((machine_Feed.f y145 y148 0 0 y154 y161 iU.1 iU.2 0).bind fun eV=>((machine_Run.f k y145 y148 0 0 y154 y161 (([1]:List Int))).bind fun gL=>(if jG.2.1=0 then((regletref13_SameInts.f k jG.1 (([0,0,1]:List Int))).bind fun t196=>(if t196=true then(if eV.2.2.2=0 then((regletref13_SameInts.f k eV.2.2.1 (([0]:List Int))).bind fun t200=>(if t200=true then((machine_Start.f).bind fun eO=>((regletref16_Same.f k eV.1 eV.2.1 eO.1 eO.2).bind fun t205=>(if t205=true then(if gL.2.1=1 then(if gL.2.2=0 then((machine_Right.f y145 y148 0 0 y154 y161).bind fun t206=>(if t206=true then((machine_Right.f y145 y148 0 0 y154 ([]:List (List Int))).bind fun t207=>(some (!t207))) else(none))) else(none)) else(none)) else(none)))) else(none))) else(none)) else(none))) else(none))))))))) else(none))=some r:=by first|(rw [Ih];with_reducible exact H)|(have H2_:=(Option.bind_some _ _).symm.trans H;rw [Ih];with_reducible exact H2_)|(have H2_:=(Option.bind_some _ _).symm.trans H;with_reducible exact H2_)|with_reducible exact H|(rw [Ih];exact H)|exact H
 have Yk:=aM Ih;clear Ih
 by_cases c1:1≤2706490160679
 rotate_left
 ·rw [if_neg c1] at H
  exact absurd H (by simp)
 rw [if_pos c1] at H;have WA:=eq_true c1;have WB:decide (1≤2706490160679)=true:=decide_eq_true c1;clear c1;obtain⟨y148,Ii⟩:∃y_:List (S72),y_=(List.replicate 1 z72):=⟨_,rfl⟩;replace H:((some (([(⟨0,(([(⟨true,0⟩:S43),(⟨false,0⟩:S43)]:List (S43)))⟩:S35),(⟨0,([]:List (S43))⟩:S35)]:List (S35)):List (S35))).bind fun y154=>((some (([(([0,1]:List Int))]:List (List Int)):List (List Int))).bind fun y161=>((machine_Run.f k y145 y148 0 0 y154 y161 (([0,0]:List Int))).bind fun jG=>((machine_Start.f).bind fun iU=>((machine_Feed.f y145 y148 0 0 y154 y161 iU.1 iU.2 0).bind fun eV=>((machine_Run.f k y145 y148 0 0 y154 y161 (([1]:List Int))).bind fun gL=>(if jG.2.1=0 then((regletref13_SameInts.f k jG.1 (([0,0,1]:List Int))).bind fun t196=>(if t196=true then(if eV.2.2.2=0 then((regletref13_SameInts.f k eV.2.2.1 (([0]:List Int))).bind fun t200=>(if t200=true then((machine_Start.f).bind fun eO=>((regletref16_Same.f k eV.1 eV.2.1 eO.1 eO.2).bind fun t205=>(if t205=true then(if gL.2.1=1 then(if gL.2.2=0 then((machine_Right.f y145 y148 0 0 y154 y161).bind fun t206=>(if t206=true then((machine_Right.f y145 y148 0 0 y154 ([]:List (List Int))).bind fun t207=>(some (!t207))) else(none))) else(none)) else(none)) else(none)))) else(none))) else(none)) else(none))) else(none))))))))=some r:=by first|(rw [Ii];with_reducible exact H)|(have H2_:=(Option.bind_some _ _).symm.trans H;rw [Ii];with_reducible exact H2_)|(have H2_:=(Option.bind_some _ _).symm.trans H;with_reducible exact H2_)|with_reducible exact H|(rw [Ii];exact H)|exact H
 have Yl:=aM Ii;clear Ii;obtain⟨y151,Ij⟩:∃y_:List (S43),y_=(([(⟨true,0⟩:S43),(⟨false,0⟩:S43)]:List (S43))):=⟨_,rfl⟩;replace H:((some (([(⟨0,y151⟩:S35),(⟨0,([]:List (S43))⟩:S35)]:List (S35)):List (S35))).bind fun y154=>((some (([(([0,1]:List Int))]:List (List Int)):List (List Int))).bind fun y161=>((machine_Run.f k y145 y148 0 0 y154 y161 (([0,0]:List Int))).bind fun jG=>((machine_Start.f).bind fun iU=>((machine_Feed.f y145 y148 0 0 y154 y161 iU.1 iU.2 0).bind fun eV=>((machine_Run.f k y145 y148 0 0 y154 y161 (([1]:List Int))).bind fun gL=>(if jG.2.1=0 then((regletref13_SameInts.f k jG.1 (([0,0,1]:List Int))).bind fun t196=>(if t196=true then(if eV.2.2.2=0 then((regletref13_SameInts.f k eV.2.2.1 (([0]:List Int))).bind fun t200=>(if t200=true then((machine_Start.f).bind fun eO=>((regletref16_Same.f k eV.1 eV.2.1 eO.1 eO.2).bind fun t205=>(if t205=true then(if gL.2.1=1 then(if gL.2.2=0 then((machine_Right.f y145 y148 0 0 y154 y161).bind fun t206=>(if t206=true then((machine_Right.f y145 y148 0 0 y154 ([]:List (List Int))).bind fun t207=>(some (!t207))) else(none))) else(none)) else(none)) else(none)))) else(none))) else(none)) else(none))) else(none))))))))=some r:=by first|(rw [Ij];with_reducible exact H)|(have H2_:=(Option.bind_some _ _).symm.trans H;rw [Ij];with_reducible exact H2_)|(have H2_:=(Option.bind_some _ _).symm.trans H;with_reducible exact H2_)|with_reducible exact H|(rw [Ij];exact H)|exact H
 have Ym:=aM Ij;clear Ij;obtain⟨y154,Ik⟩:∃y_:List (S35),y_=(([(⟨0,y151⟩:S35),(⟨0,([]:List (S43))⟩:S35)]:List (S35))):=⟨_,rfl⟩;replace H:((some (([(([0,1]:List Int))]:List (List Int)):List (List Int))).bind fun y161=>((machine_Run.f k y145 y148 0 0 y154 y161 (([0,0]:List Int))).bind fun jG=>((machine_Start.f).bind fun iU=>((machine_Feed.f y145 y148 0 0 y154 y161 iU.1 iU.2 0).bind fun eV=>((machine_Run.f k y145 y148 0 0 y154 y161 (([1]:List Int))).bind fun gL=>(if jG.2.1=0 then((regletref13_SameInts.f k jG.1 (([0,0,1]:List Int))).bind fun t196=>(if t196=true then(if eV.2.2.2=0 then((regletref13_SameInts.f k eV.2.2.1 (([0]:List Int))).bind fun t200=>(if t200=true then((machine_Start.f).bind fun eO=>((regletref16_Same.f k eV.1 eV.2.1 eO.1 eO.2).bind fun t205=>(if t205=true then(if gL.2.1=1 then(if gL.2.2=0 then((machine_Right.f y145 y148 0 0 y154 y161).bind fun t206=>(if t206=true then((machine_Right.f y145 y148 0 0 y154 ([]:List (List Int))).bind fun t207=>(some (!t207))) else(none))) else(none)) else(none)) else(none)))) else(none))) else(none)) else(none))) else(none)))))))=some r:=by first|(rw [Ik];with_reducible exact H)|(have H2_:=(Option.bind_some _ _).symm.trans H;rw [Ik];with_reducible exact H2_)|(have H2_:=(Option.bind_some _ _).symm.trans H;with_reducible exact H2_)|with_reducible exact H|(rw [Ik];exact H)|exact H
 have Yn:=aM Ik;clear Ik;obtain⟨y158,Il⟩:∃y_:List Int,y_=(([0,1]:List Int)):=⟨_,rfl⟩;replace H:((some (([y158]:List (List Int)):List (List Int))).bind fun y161=>((machine_Run.f k y145 y148 0 0 y154 y161 (([0,0]:List Int))).bind fun jG=>((machine_Start.f).bind fun iU=>((machine_Feed.f y145 y148 0 0 y154 y161 iU.1 iU.2 0).bind fun eV=>((machine_Run.f k y145 y148 0 0 y154 y161 (([1]:List Int))).bind fun gL=>(if jG.2.1=0 then((regletref13_SameInts.f k jG.1 (([0,0,1]:List Int))).bind fun t196=>(if t196=true then(if eV.2.2.2=0 then((regletref13_SameInts.f k eV.2.2.1 (([0]:List Int))).bind fun t200=>(if t200=true then((machine_Start.f).bind fun eO=>((regletref16_Same.f k eV.1 eV.2.1 eO.1 eO.2).bind fun t205=>(if t205=true then(if gL.2.1=1 then(if gL.2.2=0 then((machine_Right.f y145 y148 0 0 y154 y161).bind fun t206=>(if t206=true then((machine_Right.f y145 y148 0 0 y154 ([]:List (List Int))).bind fun t207=>(some (!t207))) else(none))) else(none)) else(none)) else(none)))) else(none))) else(none)) else(none))) else(none)))))))=some r:=by first|(rw [Il];with_reducible exact H)|(have H2_:=(Option.bind_some _ _).symm.trans H;rw [Il];with_reducible exact H2_)|(have H2_:=(Option.bind_some _ _).symm.trans H;with_reducible exact H2_)|with_reducible exact H|(rw [Il];exact H)|exact H
 have Yo:=aM Il;clear Il;obtain⟨y161,Im⟩:∃y_:List (List Int),y_=(([y158]:List (List Int))):=⟨_,rfl⟩;replace H:((machine_Run.f k y145 y148 0 0 y154 y161 (([0,0]:List Int))).bind fun jG=>((machine_Start.f).bind fun iU=>((machine_Feed.f y145 y148 0 0 y154 y161 iU.1 iU.2 0).bind fun eV=>((machine_Run.f k y145 y148 0 0 y154 y161 (([1]:List Int))).bind fun gL=>(if jG.2.1=0 then((regletref13_SameInts.f k jG.1 (([0,0,1]:List Int))).bind fun t196=>(if t196=true then(if eV.2.2.2=0 then((regletref13_SameInts.f k eV.2.2.1 (([0]:List Int))).bind fun t200=>(if t200=true then((machine_Start.f).bind fun eO=>((regletref16_Same.f k eV.1 eV.2.1 eO.1 eO.2).bind fun t205=>(if t205=true then(if gL.2.1=1 then(if gL.2.2=0 then((machine_Right.f y145 y148 0 0 y154 y161).bind fun t206=>(if t206=true then((machine_Right.f y145 y148 0 0 y154 ([]:List (List Int))).bind fun t207=>(some (!t207))) else(none))) else(none)) else(none)) else(none)))) else(none))) else(none)) else(none))) else(none))))))=some r:=by first|(rw [Im];with_reducible exact H)|(have H2_:=(Option.bind_some _ _).symm.trans H;rw [Im];with_reducible exact H2_)|(have H2_:=(Option.bind_some _ _).symm.trans H;with_reducible exact H2_)|with_reducible exact H|(rw [Im];exact H)|exact H
 have Yp:=aM Im;clear Im;obtain⟨y164,In⟩:∃y_:List Int,y_=(([0,0]:List Int)):=⟨_,rfl⟩;replace H:((machine_Run.f k y145 y148 0 0 y154 y161 y164).bind fun jG=>((machine_Start.f).bind fun iU=>((machine_Feed.f y145 y148 0 0 y154 y161 iU.1 iU.2 0).bind fun eV=>((machine_Run.f k y145 y148 0 0 y154 y161 (([1]:List Int))).bind fun gL=>(if jG.2.1=0 then((regletref13_SameInts.f k jG.1 (([0,0,1]:List Int))).bind fun t196=>(if t196=true then(if eV.2.2.2=0 then((regletref13_SameInts.f k eV.2.2.1 (([0]:List Int))).bind fun t200=>(if t200=true then((machine_Start.f).bind fun eO=>((regletref16_Same.f k eV.1 eV.2.1 eO.1 eO.2).bind fun t205=>(if t205=true then(if gL.2.1=1 then(if gL.2.2=0 then((machine_Right.f y145 y148 0 0 y154 y161).bind fun t206=>(if t206=true then((machine_Right.f y145 y148 0 0 y154 ([]:List (List Int))).bind fun t207=>(some (!t207))) else(none))) else(none)) else(none)) else(none)))) else(none))) else(none)) else(none))) else(none))))))=some r:=by first|(rw [In];with_reducible exact H)|(have H2_:=(Option.bind_some _ _).symm.trans H;rw [In];with_reducible exact H2_)|(have H2_:=(Option.bind_some _ _).symm.trans H;with_reducible exact H2_)|with_reducible exact H|(rw [In];exact H)|exact H
 have Yq:=aM In;clear In;replace H:=Option.bind_eq_some_iff.mp H;obtain⟨⟨t167,t170,t171⟩,A20,H⟩:=H;replace H:((machine_Start.f).bind fun iU=>((machine_Feed.f y145 y148 0 0 y154 y161 iU.1 iU.2 0).bind fun eV=>((machine_Run.f k y145 y148 0 0 y154 y161 (([1]:List Int))).bind fun gL=>(if t170=0 then((regletref13_SameInts.f k t167 (([0,0,1]:List Int))).bind fun t196=>(if t196=true then(if eV.2.2.2=0 then((regletref13_SameInts.f k eV.2.2.1 (([0]:List Int))).bind fun t200=>(if t200=true then((machine_Start.f).bind fun eO=>((regletref16_Same.f k eV.1 eV.2.1 eO.1 eO.2).bind fun t205=>(if t205=true then(if gL.2.1=1 then(if gL.2.2=0 then((machine_Right.f y145 y148 0 0 y154 y161).bind fun t206=>(if t206=true then((machine_Right.f y145 y148 0 0 y154 ([]:List (List Int))).bind fun t207=>(some (!t207))) else(none))) else(none)) else(none)) else(none)))) else(none))) else(none)) else(none))) else(none)))))=some r:=H;have A2:=aM A20;clear A20;replace H:=Option.bind_eq_some_iff.mp H;obtain⟨⟨t172,t175⟩,A30,H⟩:=H;replace H:((machine_Feed.f y145 y148 0 0 y154 y161 t172 t175 0).bind fun eV=>((machine_Run.f k y145 y148 0 0 y154 y161 (([1]:List Int))).bind fun gL=>(if t170=0 then((regletref13_SameInts.f k t167 (([0,0,1]:List Int))).bind fun t196=>(if t196=true then(if eV.2.2.2=0 then((regletref13_SameInts.f k eV.2.2.1 (([0]:List Int))).bind fun t200=>(if t200=true then((machine_Start.f).bind fun eO=>((regletref16_Same.f k eV.1 eV.2.1 eO.1 eO.2).bind fun t205=>(if t205=true then(if gL.2.1=1 then(if gL.2.2=0 then((machine_Right.f y145 y148 0 0 y154 y161).bind fun t206=>(if t206=true then((machine_Right.f y145 y148 0 0 y154 ([]:List (List Int))).bind fun t207=>(some (!t207))) else(none))) else(none)) else(none)) else(none)))) else(none))) else(none)) else(none))) else(none))))=some r:=H;have A3:=aM A30;clear A30;replace H:=Option.bind_eq_some_iff.mp H;obtain⟨⟨t176,t179,t180,t183⟩,A40,H⟩:=H;replace H:((machine_Run.f k y145 y148 0 0 y154 y161 (([1]:List Int))).bind fun gL=>(if t170=0 then((regletref13_SameInts.f k t167 (([0,0,1]:List Int))).bind fun t196=>(if t196=true then(if t183=0 then((regletref13_SameInts.f k t180 (([0]:List Int))).bind fun t200=>(if t200=true then((machine_Start.f).bind fun eO=>((regletref16_Same.f k t176 t179 eO.1 eO.2).bind fun t205=>(if t205=true then(if gL.2.1=1 then(if gL.2.2=0 then((machine_Right.f y145 y148 0 0 y154 y161).bind fun t206=>(if t206=true then((machine_Right.f y145 y148 0 0 y154 ([]:List (List Int))).bind fun t207=>(some (!t207))) else(none))) else(none)) else(none)) else(none)))) else(none))) else(none)) else(none))) else(none)))=some r:=H;have A4:=aM A40;clear A40;obtain⟨y185,Io⟩:∃y_:List Int,y_=(([1]:List Int)):=⟨_,rfl⟩;replace H:((machine_Run.f k y145 y148 0 0 y154 y161 y185).bind fun gL=>(if t170=0 then((regletref13_SameInts.f k t167 (([0,0,1]:List Int))).bind fun t196=>(if t196=true then(if t183=0 then((regletref13_SameInts.f k t180 (([0]:List Int))).bind fun t200=>(if t200=true then((machine_Start.f).bind fun eO=>((regletref16_Same.f k t176 t179 eO.1 eO.2).bind fun t205=>(if t205=true then(if gL.2.1=1 then(if gL.2.2=0 then((machine_Right.f y145 y148 0 0 y154 y161).bind fun t206=>(if t206=true then((machine_Right.f y145 y148 0 0 y154 ([]:List (List Int))).bind fun t207=>(some (!t207))) else(none))) else(none)) else(none)) else(none)))) else(none))) else(none)) else(none))) else(none)))=some r:=by first|(rw [Io];with_reducible exact H)|(have H2_:=(Option.bind_some _ _).symm.trans H;rw [Io];with_reducible exact H2_)|(have H2_:=(Option.bind_some _ _).symm.trans H;with_reducible exact H2_)|with_reducible exact H|(rw [Io];exact H)|exact H
 have Yr:=aM Io;clear Io;replace H:=Option.bind_eq_some_iff.mp H;obtain⟨⟨t188,t191,t192⟩,A50,H⟩:=H;replace H:(if t170=0 then((regletref13_SameInts.f k t167 (([0,0,1]:List Int))).bind fun t196=>(if t196=true then(if t183=0 then((regletref13_SameInts.f k t180 (([0]:List Int))).bind fun t200=>(if t200=true then((machine_Start.f).bind fun eO=>((regletref16_Same.f k t176 t179 eO.1 eO.2).bind fun t205=>(if t205=true then(if t191=1 then(if t192=0 then((machine_Right.f y145 y148 0 0 y154 y161).bind fun t206=>(if t206=true then((machine_Right.f y145 y148 0 0 y154 ([]:List (List Int))).bind fun t207=>(some (!t207))) else(none))) else(none)) else(none)) else(none)))) else(none))) else(none)) else(none))) else(none))=some r:=H;have A5:=aM A50;clear A50
 by_cases c6:t170=0
 rotate_left
 ·rw [if_neg c6] at H
  exact absurd H (by simp)
 rw [if_pos c6] at H;have yT:(t170==0)=true:=beq_iff_eq.mpr c6;have Jk:(t170 !=0)=false:=bne_eq_false_iff_eq.mpr c6;clear c6;obtain⟨y193,Ip⟩:∃y_:List Int,y_=(([0,0,1]:List Int)):=⟨_,rfl⟩;replace H:((regletref13_SameInts.f k t167 y193).bind fun t196=>(if t196=true then(if t183=0 then((regletref13_SameInts.f k t180 (([0]:List Int))).bind fun t200=>(if t200=true then((machine_Start.f).bind fun eO=>((regletref16_Same.f k t176 t179 eO.1 eO.2).bind fun t205=>(if t205=true then(if t191=1 then(if t192=0 then((machine_Right.f y145 y148 0 0 y154 y161).bind fun t206=>(if t206=true then((machine_Right.f y145 y148 0 0 y154 ([]:List (List Int))).bind fun t207=>(some (!t207))) else(none))) else(none)) else(none)) else(none)))) else(none))) else(none)) else(none)))=some r:=by first|(rw [Ip];with_reducible exact H)|(have H2_:=(Option.bind_some _ _).symm.trans H;rw [Ip];with_reducible exact H2_)|(have H2_:=(Option.bind_some _ _).symm.trans H;with_reducible exact H2_)|with_reducible exact H|(rw [Ip];exact H)|exact H
 have Ys:=aM Ip;clear Ip;replace H:=Option.bind_eq_some_iff.mp H;obtain⟨t196,A70,H⟩:=H;replace H:(if t196=true then(if t183=0 then((regletref13_SameInts.f k t180 (([0]:List Int))).bind fun t200=>(if t200=true then((machine_Start.f).bind fun eO=>((regletref16_Same.f k t176 t179 eO.1 eO.2).bind fun t205=>(if t205=true then(if t191=1 then(if t192=0 then((machine_Right.f y145 y148 0 0 y154 y161).bind fun t206=>(if t206=true then((machine_Right.f y145 y148 0 0 y154 ([]:List (List Int))).bind fun t207=>(some (!t207))) else(none))) else(none)) else(none)) else(none)))) else(none))) else(none)) else(none))=some r:=H;have A7:=aM A70;clear A70
 by_cases c8:t196=true
 ·subst c8
  have H1:(if t183=0 then((regletref13_SameInts.f k t180 (([0]:List Int))).bind fun t200=>(if t200=true then((machine_Start.f).bind fun eO=>((regletref16_Same.f k t176 t179 eO.1 eO.2).bind fun t205=>(if t205=true then(if t191=1 then(if t192=0 then((machine_Right.f y145 y148 0 0 y154 y161).bind fun t206=>(if t206=true then((machine_Right.f y145 y148 0 0 y154 ([]:List (List Int))).bind fun t207=>(some (!t207))) else(none))) else(none)) else(none)) else(none)))) else(none))) else(none))=some r:=by rw [if_pos rfl] at H;exact H
  clear H;have H:=H1;clear H1
  by_cases c9:t183=0
  rotate_left
  ·rw [if_neg c9] at H
   exact absurd H (by simp)
  rw [if_pos c9] at H;have WC:(t183==0)=true:=beq_iff_eq.mpr c9;have WD:(t183 !=0)=false:=bne_eq_false_iff_eq.mpr c9;clear c9;obtain⟨y197,Iq⟩:∃y_:List Int,y_=(([0]:List Int)):=⟨_,rfl⟩;replace H:((regletref13_SameInts.f k t180 y197).bind fun t200=>(if t200=true then((machine_Start.f).bind fun eO=>((regletref16_Same.f k t176 t179 eO.1 eO.2).bind fun t205=>(if t205=true then(if t191=1 then(if t192=0 then((machine_Right.f y145 y148 0 0 y154 y161).bind fun t206=>(if t206=true then((machine_Right.f y145 y148 0 0 y154 ([]:List (List Int))).bind fun t207=>(some (!t207))) else(none))) else(none)) else(none)) else(none)))) else(none)))=some r:=by first|(rw [Iq];with_reducible exact H)|(have H2_:=(Option.bind_some _ _).symm.trans H;rw [Iq];with_reducible exact H2_)|(have H2_:=(Option.bind_some _ _).symm.trans H;with_reducible exact H2_)|with_reducible exact H|(rw [Iq];exact H)|exact H
  have Yt:=aM Iq;clear Iq;replace H:=Option.bind_eq_some_iff.mp H;obtain⟨t200,A100,H⟩:=H;replace H:(if t200=true then((machine_Start.f).bind fun eO=>((regletref16_Same.f k t176 t179 eO.1 eO.2).bind fun t205=>(if t205=true then(if t191=1 then(if t192=0 then((machine_Right.f y145 y148 0 0 y154 y161).bind fun t206=>(if t206=true then((machine_Right.f y145 y148 0 0 y154 ([]:List (List Int))).bind fun t207=>(some (!t207))) else(none))) else(none)) else(none)) else(none)))) else(none))=some r:=H;have A10:=aM A100;clear A100
  by_cases c11:t200=true
  ·subst c11
   have H1:((machine_Start.f).bind fun eO=>((regletref16_Same.f k t176 t179 eO.1 eO.2).bind fun t205=>(if t205=true then(if t191=1 then(if t192=0 then((machine_Right.f y145 y148 0 0 y154 y161).bind fun t206=>(if t206=true then((machine_Right.f y145 y148 0 0 y154 ([]:List (List Int))).bind fun t207=>(some (!t207))) else(none))) else(none)) else(none)) else(none))))=some r:=by rw [if_pos rfl] at H;exact H
   clear H;have H:=H1;clear H1;replace H:=Option.bind_eq_some_iff.mp H;obtain⟨⟨t201,t204⟩,A120,H⟩:=H;replace H:((regletref16_Same.f k t176 t179 t201 t204).bind fun t205=>(if t205=true then(if t191=1 then(if t192=0 then((machine_Right.f y145 y148 0 0 y154 y161).bind fun t206=>(if t206=true then((machine_Right.f y145 y148 0 0 y154 ([]:List (List Int))).bind fun t207=>(some (!t207))) else(none))) else(none)) else(none)) else(none)))=some r:=H;have A12:=aM A120;clear A120;replace H:=Option.bind_eq_some_iff.mp H;obtain⟨t205,A130,H⟩:=H;replace H:(if t205=true then(if t191=1 then(if t192=0 then((machine_Right.f y145 y148 0 0 y154 y161).bind fun t206=>(if t206=true then((machine_Right.f y145 y148 0 0 y154 ([]:List (List Int))).bind fun t207=>(some (!t207))) else(none))) else(none)) else(none)) else(none))=some r:=H;have A13:=aM A130;clear A130
   by_cases c14:t205=true
   ·subst c14
    have H1:(if t191=1 then(if t192=0 then((machine_Right.f y145 y148 0 0 y154 y161).bind fun t206=>(if t206=true then((machine_Right.f y145 y148 0 0 y154 ([]:List (List Int))).bind fun t207=>(some (!t207))) else(none))) else(none)) else(none))=some r:=by rw [if_pos rfl] at H;exact H
    clear H;have H:=H1;clear H1
    by_cases c15:t191=1
    rotate_left
    ·rw [if_neg c15] at H
     exact absurd H (by simp)
    rw [if_pos c15] at H;have Ce:(t191==1)=true:=beq_iff_eq.mpr c15;have US:(t191 !=1)=false:=bne_eq_false_iff_eq.mpr c15;clear c15
    by_cases c16:t192=0
    rotate_left
    ·rw [if_neg c16] at H
     exact absurd H (by simp)
    rw [if_pos c16] at H;have Ou:(t192==0)=true:=beq_iff_eq.mpr c16;have UT:(t192 !=0)=false:=bne_eq_false_iff_eq.mpr c16;clear c16;replace H:=Option.bind_eq_some_iff.mp H;obtain⟨t206,A170,H⟩:=H;replace H:(if t206=true then((machine_Right.f y145 y148 0 0 y154 ([]:List (List Int))).bind fun t207=>(some (!t207))) else(none))=some r:=H;have A17:=aM A170;clear A170
    by_cases c18:t206=true
    ·subst c18
     have H1:((machine_Right.f y145 y148 0 0 y154 ([]:List (List Int))).bind fun t207=>(some (!t207)))=some r:=by rw [if_pos rfl] at H;exact H
     clear H;have H:=H1;clear H1;replace H:=Option.bind_eq_some_iff.mp H;obtain⟨t207,A190,H⟩:=H;replace H:(some (!t207))=some r:=H;have A19:=aM A190;clear A190;obtain rfl:=Option.some.inj H;go_enter Try.func10,Try.ntmps10
     try go_wp2_with (first|((with_reducible refine bJ (N:=12) rfl ?_);(try(refine gate_guard (by rfl) ?_;dsimp only));refine Kd.R_lit Kd.string _ 9 ?hg (N:=12) ?hd (xs:=([(⟨#[97]⟩:ByteArray)]:List ByteArray)) (inner:= [.string (⟨#[97]⟩:ByteArray)]) (ok:=fun _=>True) (okp:=fun _=>True) ?hr ?hp (fun _ hk=>hk) trivial (Below.refl _ _) (Nat.le_refl _) (by simp) ?_;(case hd=>rfl);(case hg=>rfl);(case hr=>first|(go_simp;done)|(go_simp;rfl));(case hp=>exact(Reps.one (show Kd.M Kd.string _ _ _ (⟨#[97]⟩:ByteArray) [.string (⟨#[97]⟩:ByteArray)] from rfl) (Reps.none _ _)));intro v146 w20 ho21 hb hg_ hnew_;clear hg_ hnew_;(first|rw [←Yk.out] at ho21|(simp only [Int.reduceToNat] at ho21;rw [←Yk.out] at ho21));have cE:=aM (bL ho21 (bH (gW HB.out)));have cF:=aM (bG (gW HB.out) hb);clear HB;have cS:=cE;have HB:=cF;clear cE cF;clear hb ho21)|((with_reducible refine bJ (N:=13) rfl ?_);(try(refine gate_guard (by rfl) ?_;dsimp only));refine Kd.N_make k72 _ 72 rfl (N':=13) rfl 23 _ _ rfl 1 rfl rfl Try.underlying23 (.agg #[(.string ⟨#[]⟩),(.int .i64 0),(.string ⟨#[]⟩),(.slice none 0 0),(.int .i64 0),(.int .i64 0),(.slice none 0 0)]) 104 info72 rfl (by decide) (by omega) z72 (ok:=fun k_=>w20.heap.size≤k_) (okp:=fun _=>False) (k72_mkF _ _ z72 (Nat.le_refl _) (Kd.F_nil _ _ _) (Nat.le_refl _) (Kd.F_nil _ _ _)) (fun _ hk=>hk.elim) (Nat.le_refl _) (by omega) (by omega) (Below.refl _ _) (Nat.le_refl _) ?_;intro v149 w22 ho23 hb hg_ hnew_;clear hg_ hnew_;(first|rw [←Yl.out] at ho23|(simp only [Int.reduceToNat] at ho23;rw [←Yl.out] at ho23));have cE:=aM (aD (gR cS.out) hb);have cF:=aM (Kd.N_lower (Kd.N_mono (ok':=fun k_=>some k_≠(v146:Value).ownBlock) ho23 (fun k_ hk_=>(Kd.fresh' (Kd.R_lt (gR cS.out)) k_ hk_))) (bH (gW HB.out)));have cH:=aM (bG (gW HB.out) hb);clear cS;clear HB;have cS:=cE;have cV:=cF;have HB:=cH;clear cE cF cH;clear hb ho23)|((with_reducible refine bJ (N:=16) rfl ?_);(try(refine gate_guard (by rfl) ?_;dsimp only));refine Kd.R_lit k43 _ 43 ?hg (N:=16) ?hd (xs:=([(⟨true,0⟩:S43),(⟨false,0⟩:S43)]:List (S43))) (inner:= [.bool true,.int .i64 0,.bool false,.int .i64 0]) (ok:=fun _=>True) (okp:=fun _=>True) ?hr ?hp (fun _ hk=>hk) trivial (Below.refl _ _) (Nat.le_refl _) (by simp) ?_;(case hd=>rfl);(case hg=>rfl);(case hr=>first|(go_simp;done)|(go_simp;rfl));(case hp=>exact(Reps.c2 (show Kd.M k43 _ _ _ (⟨true,0⟩:S43) [.bool true,.int .i64 0] from(k43_mkM _ _ _ (⟨true,0⟩:S43))) (Reps.c2 (show Kd.M k43 _ _ _ (⟨false,0⟩:S43) [.bool false,.int .i64 0] from(k43_mkM _ _ _ (⟨false,0⟩:S43))) (Reps.none _ _))));intro v152 w24 ho25 hb hg_ hnew_;clear hg_ hnew_;(first|rw [←Ym.out] at ho25|(simp only [Int.reduceToNat] at ho25;rw [←Ym.out] at ho25));have cE:=aM (aD (gR cS.out) hb);have cF:=aM (Kd.N_elder' (gN cV.out) (Kd.R_base ho25) hb);have cH:=aM (bL ho25 (bH (gW HB.out)));have cM:=aM (bG (gW HB.out) hb);clear cS;clear cV;clear HB;have cS:=cE;have cV:=cF;have Mp:=cH;have HB:=cM;clear cE cF cH cM;clear hb ho25;obtain⟨IX,IY,SD⟩:=Kd.R_slice Mp.out;subst SD)|((with_reducible refine bJ (N:=19) rfl ?_);(try(refine gate_guard (by rfl) ?_;dsimp only));refine Kd.N_lit k35 _ 35 ?hg (N':=19) ?hd (xs:=([(⟨0,y151⟩:S35),(⟨0,([]:List (S43))⟩:S35)]:List (S35))) (inner:= [.int .i64 0,.slice IX y151.length IY,.int .i64 0,.slice none 0 0]) (ok:=(fun k_=>some k_≠(v146:Value).ownBlock∧some k_≠(v149:Value).ownBlock)) (okp:=(fun k_=>some k_≠(v146:Value).ownBlock∧some k_≠(v149:Value).ownBlock)) ?hr ?hp (fun _ hk=>hk) ((show ∀k_,w24.heap.size≤k_→(fun k_=>some k_≠(v146:Value).ownBlock∧some k_≠(v149:Value).ownBlock) k_ from fun k_ hk=>⟨Kd.fresh' (Kd.R_lt (gR cS.out)) k_ hk,Kd.fresh' (Kd.N_lt (gN cV.out)) k_ hk⟩) _ (Nat.le_refl _)) (Below.refl _ _) (Nat.le_refl _) (by simp) ?_;(case hd=>rfl);(case hg=>rfl);(case hr=>first|(go_simp;done)|(go_simp;rfl));(case hp=>exact(Reps.c2 (show Kd.FK k35 _ _ (⟨0,y151⟩:S35) [.int .i64 0,.slice IX y151.length IY] from(k35_mkF _ _ (⟨0,y151⟩:S35) (aF (Kd.R_mono (ok':=(fun k_=>some k_≠(v146:Value).ownBlock∧some k_≠(v149:Value).ownBlock)) (Kd.R_apart' (Kd.R_apart' (Mp.out) (Kd.R_typed cS.out) (by decide)) (Kd.N_typed cV.out) (by decide)) (fun k_ hk=>⟨hk.1.2,hk.2⟩))).2.1 (Kd.R_F (Kd.R_mono (ok':=(fun k_=>some k_≠(v146:Value).ownBlock∧some k_≠(v149:Value).ownBlock)) (Kd.R_apart' (Kd.R_apart' (Mp.out) (Kd.R_typed cS.out) (by decide)) (Kd.N_typed cV.out) (by decide)) (fun k_ hk=>⟨hk.1.2,hk.2⟩))))) (Reps.c2 (show Kd.FK k35 _ _ (⟨0,([]:List (S43))⟩:S35) [.int .i64 0,.slice none 0 0] from(k35_mkF _ _ (⟨0,([]:List (S43))⟩:S35) (Nat.le_refl _) (Kd.F_nil _ _ _))) (Reps.none _ _))));intro v155 w27 ho28 hb hg_ hnew_;clear hg_ hnew_;(first|rw [←Yn.out] at ho28|(simp only [Int.reduceToNat] at ho28;rw [←Yn.out] at ho28));have cE:=aM (aD (gR cS.out) hb);have cF:=aM (Kd.N_elder' (gN cV.out) (Kd.N_base ho28) hb);have cH:=aM (Kd.N_lower ho28 (bH (gW HB.out)));have cM:=aM (bG (gW HB.out) hb);clear cS;clear cV;clear HB;clear Mp;have cS:=cE;have cV:=cF;have dC:=cH;have HB:=cM;clear cE cF cH cM;clear hb ho28;obtain⟨jA,jB,Zq⟩:=Kd.N_slice dC.out;subst Zq;obtain⟨fV,fW,AZ⟩:=Kd.N_slice cV.out;subst AZ;obtain⟨iG,iH,BF⟩:=Kd.R_slice cS.out;subst BF)|((with_reducible refine bJ (N:=1) rfl ?_);(try(refine gate_guard (by rfl) ?_;dsimp only));refine box_event ?hg (N:=1) ?hd (cs:=#[.slice none 0 0,.slice none 0 0,.int .i64 0,.int .i64 0,.slice none 0 0]) (t:=26) ?hr ?_;(case hd=>rfl);(case hg=>rfl);(case hr=>first|(go_simp;done)|(go_simp;rfl));intro dI hg w32 hbox hb;have cE:=aM (aD (gR cS.out) hb);have cF:=aM (Kd.N_below (Kd.N_elderB (gN cV.out) dI (Nat.le_of_eq hg.symm)) hb);have cH:=aM (Kd.N_below (Kd.N_elderB (gN dC.out) dI (Nat.le_of_eq hg.symm)) hb);have cM:=aM (bG (gW HB.out) hb);have dH:=aM (hbox);have dN:=aM ((by rw [hg];exact(bH (gW HB.out)):w.heap.size≤dI));have dY:=aM ((by rw [hg];exact(bH (gW HB.out)):w.heap.size≤dI));clear cS;clear cV;clear dC;clear HB;have cS:=cE;have cV:=cF;have dC:=cH;have HB:=cM;have bY:=dH;have GW157:=dN;have Mq:=dY;clear cE cF cH cM dH dN dY;clear hb hbox hg;have rE:w32.cell? ⟨dI,0,none⟩=some (.slice none 0 0):=(aG bY.out 0).trans rfl;have rF:w32.cell? ⟨dI,1,none⟩=some (.slice none 0 0):=(aG bY.out 1).trans rfl;have tI:w32.cell? ⟨dI,2,none⟩=some (.int .i64 0):=(aG bY.out 2).trans rfl;have tJ:w32.cell? ⟨dI,3,none⟩=some (.int .i64 0):=(aG bY.out 3).trans rfl;have tK:w32.cell? ⟨dI,4,none⟩=some (.slice none 0 0):=(aG bY.out 4).trans rfl;have rG:=aH bY.out 0;have rH:=aH bY.out 1;have tL:=aH bY.out 2;have tM:=aH bY.out 3;have tN:=aH bY.out 4)|((with_reducible refine bJ (N:=21) rfl ?_);(try(refine gate_guard (by rfl) ?_;dsimp only));refine Kd.R_lit (Kd.int .i64) _ 3 ?hg (N:=21) ?hd (xs:=([0,1]:List Int)) (inner:= [.int .i64 0,.int .i64 1]) (ok:=fun _=>True) (okp:=fun _=>True) ?hr ?hp (fun _ hk=>hk) trivial (Below.refl _ _) (Nat.le_refl _) (by simp) ?_;(case hd=>rfl);(case hg=>rfl);(case hr=>first|(go_simp;done)|(go_simp;rfl));(case hp=>exact(Reps.one (show Kd.M (Kd.int .i64) _ _ _ 0 [.int .i64 0] from rfl) (Reps.one (show Kd.M (Kd.int .i64) _ _ _ 1 [.int .i64 1] from rfl) (Reps.none _ _))));intro v159 w34 ho35 hb hg_ hnew_;clear hg_ hnew_;(first|rw [←Yo.out] at ho35|(simp only [Int.reduceToNat] at ho35;rw [←Yo.out] at ho35));have cE:=aM (aD (by(with_reducible repeat(first|apply aA|apply aB|apply aC));exact(Kd.R_mono (aE (p:=⟨dI,4,none⟩) (aE (p:=⟨dI,3,none⟩) (aE (p:=⟨dI,2,none⟩) (aE (p:=⟨dI,1,none⟩) (aE (p:=⟨dI,0,none⟩) (Kd.R_types cS.out bY.out (by decide)) (fun _ hk=>hk.2) (.slice iG y145.length iH)) (fun _ hk=>hk.2) (.slice fV y148.length fW)) (fun _ hk=>hk.2) (.int .i64 0)) (fun _ hk=>hk.2) (.int .i64 0)) (fun _ hk=>hk.2) (.slice jA y154.length jB)) (fun _ h_=>h_.1))) hb);have cF:=aM (Kd.N_elder' (by(with_reducible repeat(first|apply Kd.N_alloc|apply aY|apply aZ));exact(Kd.N_mono (Kd.N_far (p:=⟨dI,4,none⟩) (Kd.N_far (p:=⟨dI,3,none⟩) (Kd.N_far (p:=⟨dI,2,none⟩) (Kd.N_far (p:=⟨dI,1,none⟩) (Kd.N_far (p:=⟨dI,0,none⟩) (Kd.N_mono cV.out (fun k_ hk=>(⟨hk,hk.2⟩:_∧k_≠dI))) (fun _ hk=>hk.2) (.slice iG y145.length iH)) (fun _ hk=>hk.2) (.slice fV y148.length fW)) (fun _ hk=>hk.2) (.int .i64 0)) (fun _ hk=>hk.2) (.int .i64 0)) (fun _ hk=>hk.2) (.slice jA y154.length jB)) (fun _ h_=>h_.1))) (Kd.R_base ho35) hb);have cH:=aM (Kd.N_elder' (by(with_reducible repeat(first|apply Kd.N_alloc|apply aY|apply aZ));exact(Kd.N_mono (Kd.N_far (p:=⟨dI,4,none⟩) (Kd.N_far (p:=⟨dI,3,none⟩) (Kd.N_far (p:=⟨dI,2,none⟩) (Kd.N_far (p:=⟨dI,1,none⟩) (Kd.N_far (p:=⟨dI,0,none⟩) (Kd.N_mono dC.out (fun k_ hk=>(⟨hk,hk.2⟩:_∧k_≠dI))) (fun _ hk=>hk.2) (.slice iG y145.length iH)) (fun _ hk=>hk.2) (.slice fV y148.length fW)) (fun _ hk=>hk.2) (.int .i64 0)) (fun _ hk=>hk.2) (.int .i64 0)) (fun _ hk=>hk.2) (.slice jA y154.length jB)) (fun _ h_=>h_.1))) (Kd.R_base ho35) hb);have cM:=aM (bL ho35 (bH (by repeat(first|(with_reducible first|exact HB.out|apply aN|apply aP|apply aO|refine aL ?_ Mq.out)|exact HB.out))));have dH:=aM (bF (g:=dI) (o:= .cells #[.slice iG y145.length iH,.slice fV y148.length fW,.int .i64 0,.int .i64 0,.slice jA y154.length jB] 26 (0,0)) (by(with_reducible repeat(first|refine aJ ?_ _|refine aK ?_|refine aI ?_ _));refine blk_put (cs:=#[.slice iG y145.length iH,.slice fV y148.length fW,.int .i64 0,.int .i64 0,.slice none 0 0]) ?_ 4 _ rfl;(with_reducible repeat(first|refine aJ ?_ _|refine aK ?_|refine aI ?_ _));refine blk_put (cs:=#[.slice iG y145.length iH,.slice fV y148.length fW,.int .i64 0,.int .i64 0,.slice none 0 0]) ?_ 3 _ rfl;(with_reducible repeat(first|refine aJ ?_ _|refine aK ?_|refine aI ?_ _));refine blk_put (cs:=#[.slice iG y145.length iH,.slice fV y148.length fW,.int .i64 0,.int .i64 0,.slice none 0 0]) ?_ 2 _ rfl;(with_reducible repeat(first|refine aJ ?_ _|refine aK ?_|refine aI ?_ _));refine blk_put (cs:=#[.slice iG y145.length iH,.slice none 0 0,.int .i64 0,.int .i64 0,.slice none 0 0]) ?_ 1 _ rfl;(with_reducible repeat(first|refine aJ ?_ _|refine aK ?_|refine aI ?_ _));refine blk_put (cs:=#[.slice none 0 0,.slice none 0 0,.int .i64 0,.int .i64 0,.slice none 0 0]) ?_ 0 _ rfl;(with_reducible repeat(first|refine aJ ?_ _|refine aK ?_|refine aI ?_ _));exact bY.out) hb);have dN:=aM (bG (by repeat(first|(with_reducible first|exact HB.out|apply aN|apply aP|apply aO|refine aL ?_ Mq.out)|exact HB.out)) hb);clear cS;clear cV;clear dC;clear bY;clear HB;have cS:=cE;have cV:=cF;have dC:=cH;have Mr:=cM;have bY:=dH;have HB:=dN;clear cE cF cH cM dH dN;clear hb ho35;obtain⟨yG,xL,Qr⟩:=Kd.R_slice Mr.out;subst Qr)|((with_reducible refine bJ (N:=22) rfl ?_);(try(refine gate_guard (by rfl) ?_;dsimp only));refine Kd.N_lit (Kd.slice 3 (Kd.int .i64)) _ 32 ?hg (N':=22) ?hd (xs:=([y158]:List (List Int))) (inner:= [.slice yG y158.length xL]) (ok:=(fun k_=>some k_≠(.slice iG y145.length iH:Value).ownBlock∧some k_≠(.slice fV y148.length fW:Value).ownBlock∧some k_≠(.slice jA y154.length jB:Value).ownBlock∧k_≠dI)) (okp:=(fun k_=>some k_≠(.slice iG y145.length iH:Value).ownBlock∧some k_≠(.slice fV y148.length fW:Value).ownBlock∧some k_≠(.slice jA y154.length jB:Value).ownBlock∧k_≠dI)) ?hr ?hp (fun _ hk=>hk) ((show ∀k_,w34.heap.size≤k_→(fun k_=>some k_≠(.slice iG y145.length iH:Value).ownBlock∧some k_≠(.slice fV y148.length fW:Value).ownBlock∧some k_≠(.slice jA y154.length jB:Value).ownBlock∧k_≠dI) k_ from fun k_ hk=>⟨Kd.fresh' (Kd.R_lt (gR cS.out)) k_ hk,Kd.fresh' (Kd.N_lt (gN cV.out)) k_ hk,Kd.fresh' (Kd.N_lt (gN dC.out)) k_ hk,Kd.freshB (gB bY.out) k_ hk⟩) _ (Nat.le_refl _)) (Below.refl _ _) (Nat.le_refl _) (by simp) ?_;(case hd=>rfl);(case hg=>rfl);(case hr=>first|(go_simp;done)|(go_simp;rfl));(case hp=>exact(Reps.one (show Kd.FK (Kd.slice 3 (Kd.int .i64)) _ _ y158 [.slice yG y158.length xL] from(Kd.FK_slice_mk (aF (Kd.R_mono (ok':=(fun k_=>some k_≠(.slice iG y145.length iH:Value).ownBlock∧some k_≠(.slice fV y148.length fW:Value).ownBlock∧some k_≠(.slice jA y154.length jB:Value).ownBlock∧k_≠dI)) (Kd.R_types (Kd.R_apart' (Kd.R_apart' (Kd.R_apart' (Mr.out) (Kd.R_typed cS.out) (by decide)) (Kd.N_typed cV.out) (by decide)) (Kd.N_typed dC.out) (by decide)) bY.out (by decide)) (fun k_ hk=>⟨hk.1.1.1.2,⟨hk.1.1.2,⟨hk.1.2,hk.2⟩⟩⟩))).2.1 (Kd.R_F (Kd.R_mono (ok':=(fun k_=>some k_≠(.slice iG y145.length iH:Value).ownBlock∧some k_≠(.slice fV y148.length fW:Value).ownBlock∧some k_≠(.slice jA y154.length jB:Value).ownBlock∧k_≠dI)) (Kd.R_types (Kd.R_apart' (Kd.R_apart' (Kd.R_apart' (Mr.out) (Kd.R_typed cS.out) (by decide)) (Kd.N_typed cV.out) (by decide)) (Kd.N_typed dC.out) (by decide)) bY.out (by decide)) (fun k_ hk=>⟨hk.1.1.1.2,⟨hk.1.1.2,⟨hk.1.2,hk.2⟩⟩⟩))))) (Reps.none _ _)));intro v162 w37 ho38 hb hg_ hnew_;clear hg_ hnew_;(first|rw [←Yp.out] at ho38|(simp only [Int.reduceToNat] at ho38;rw [←Yp.out] at ho38));have cE:=aM (aD (gR cS.out) hb);have cF:=aM (Kd.N_elder' (gN cV.out) (Kd.N_base ho38) hb);have cH:=aM (Kd.N_elder' (gN dC.out) (Kd.N_base ho38) hb);have cM:=aM (Kd.N_lower ho38 (bH (gW HB.out)));have dH:=aM (bF (gB bY.out) hb);have dN:=aM (bG (gW HB.out) hb);clear cS;clear cV;clear dC;clear bY;clear HB;clear Mr;have cS:=cE;have cV:=cF;have dC:=cH;have dM:=cM;have bY:=dH;have HB:=dN;clear cE cF cH cM dH dN;clear hb ho38;have zR:w37.cell? ⟨dI,0,none⟩=some (.slice iG y145.length iH):=(aG bY.out 0).trans rfl;have zS:w37.cell? ⟨dI,1,none⟩=some (.slice fV y148.length fW):=(aG bY.out 1).trans rfl;have Dv:w37.cell? ⟨dI,2,none⟩=some (.int .i64 0):=(aG bY.out 2).trans rfl;have Dw:w37.cell? ⟨dI,3,none⟩=some (.int .i64 0):=(aG bY.out 3).trans rfl;have Dx:w37.cell? ⟨dI,4,none⟩=some (.slice jA y154.length jB):=(aG bY.out 4).trans rfl;have zT:=aH bY.out 0;have zU:=aH bY.out 1;have Dy:=aH bY.out 2;have Dz:=aH bY.out 3;have Ea:=aH bY.out 4)|((with_reducible refine bJ (N:=26) rfl ?_);(try(refine gate_guard (by rfl) ?_;dsimp only));refine Kd.R_lit (Kd.int .i64) _ 3 ?hg (N:=26) ?hd (xs:=([0,0]:List Int)) (inner:= [.int .i64 0,.int .i64 0]) (ok:=fun _=>True) (okp:=fun _=>True) ?hr ?hp (fun _ hk=>hk) trivial (Below.refl _ _) (Nat.le_refl _) (by simp) ?_;(case hd=>rfl);(case hg=>rfl);(case hr=>first|(go_simp;done)|(go_simp;rfl));(case hp=>exact(Reps.one (show Kd.M (Kd.int .i64) _ _ _ 0 [.int .i64 0] from rfl) (Reps.one (show Kd.M (Kd.int .i64) _ _ _ 0 [.int .i64 0] from rfl) (Reps.none _ _))));intro v165 w40 ho41 hb hg_ hnew_;clear hg_ hnew_;(first|rw [←Yq.out] at ho41|(simp only [Int.reduceToNat] at ho41;rw [←Yq.out] at ho41));have cE:=aM (aD (gR cS.out) hb);have cF:=aM (Kd.N_elder' (gN cV.out) (Kd.R_base ho41) hb);have cH:=aM (Kd.N_elder' (gN dC.out) (Kd.R_base ho41) hb);have cM:=aM (Kd.N_elder' (gN dM.out) (Kd.R_base ho41) hb);have dH:=aM (bL ho41 (bH (gW HB.out)));have dN:=aM (bF (gB bY.out) hb);have dY:=aM (bG (gW HB.out) hb);clear cS;clear cV;clear dC;clear dM;clear bY;clear HB;have cS:=cE;have cV:=cF;have dC:=cH;have dM:=cM;have dT:=dH;have bY:=dN;have HB:=dY;clear cE cF cH cM dH dN dY;clear hb ho41;obtain⟨yW,yX,SE⟩:=Kd.N_slice dM.out;subst SE;obtain⟨uJ,uK,Pd⟩:=Kd.R_slice dT.out;subst Pd)|((with_reducible refine bI (f:=22) rfl ?_);refine goesL_ (some 27) rfl rfl Try.func22 (by kernel_rfl) rfl #[.agg #[.slice iG y145.length iH,.slice fV y148.length fW,.int .i64 0,.int .i64 0,.slice jA y154.length jB],.slice yW y161.length yX,.slice uJ y164.length uK] rfl (by(try simp only [List.map_toArray,List.map_cons,List.map_nil]);first|done|rfl|(simp only [List.length_drop,List.length_take];rfl)) ?_;(with_reducible refine(machine_Run.calls k _ _ y145 _ _ y148 0 0 _ _ y154 _ _ y161 _ _ y164 t167 t170 t171 _ ?side1 ?side2 ?side3 ?side4 ?side5 ?side6 ?side7 ?side8 ?side9 ?side10 A2.out).mono ?_);(case side1=>exact gC (aF cS.out).2.2);(case side2=>exact(aF cS.out).2.1);(case side3=>exact gC (aT cV.out).2.2);(case side4=>exact(aT cV.out).2.1);(case side5=>exact gC (aT dC.out).2.2);(case side6=>exact(aT dC.out).2.1);(case side7=>exact gC (aT dM.out).2.2);(case side8=>exact(aT dM.out).2.1);(case side9=>exact gC (aF dT.out).2.2);(case side10=>exact(aF dT.out).2.1);rintro e w44 ⟨v168,rfl,ho0,hb⟩;refine⟨_,rfl,?_⟩;have cE:=aM (aD (gR cS.out) hb);have cF:=aM (Kd.N_elder' (gN cV.out) (Kd.R_base ho0) hb);have cH:=aM (Kd.N_elder' (gN dC.out) (Kd.R_base ho0) hb);have cM:=aM (Kd.N_elder' (gN dM.out) (Kd.R_base ho0) hb);have dH:=aM (bE (gR dT.out) (Kd.R_base ho0) hb);have dN:=aM (bL (Kd.R_new' ho0 (Kd.R_lt (gR dT.out))) (bH (gW HB.out)));have dY:=aM (bF (gB bY.out) hb);have fB:=aM (bG (gW HB.out) hb);clear cS;clear cV;clear dC;clear dM;clear dT;clear bY;clear HB;have cS:=cE;have cV:=cF;have dC:=cH;have dM:=cM;have dT:=dH;have dW:=dN;have bY:=dY;have HB:=fB;clear cE cF cH cM dH dN dY fB;(try clear hb);(try clear hb2);(try clear hk);(try clear hi);(try clear ho0)))
     have cE:=aM (aC cS.out);have cF:=aM (aZ cV.out);have cH:=aM (aZ dC.out);have cM:=aM (aZ dM.out);have dH:=aM (aC dT.out);have dN:=aM (aC dW.out);have dY:=aM (aK bY.out);have fB:=aM (aO HB.out);clear cS cV dC dM dT dW bY HB;have cS:=cE;have cV:=cF;have dC:=cH;have dM:=cM;have dT:=dH;have dW:=dN;have bY:=dY;have HB:=fB;clear cE cF cH cM dH dN dY fB;refine start_ (n:=12) (S:=fun w'=>w'.cell? ⟨dI,0,none⟩=some (.slice iG y145.length iH)∧w'.cell? ⟨dI,1,none⟩=some (.slice fV y148.length fW)∧w'.cell? ⟨dI,2,none⟩=some (.int .i64 0)∧w'.cell? ⟨dI,3,none⟩=some (.int .i64 0)∧w'.cell? ⟨dI,4,none⟩=some (.slice jA y154.length jB)) (ds:= []) #[F,F,F,F,F,F,F,F,F,F,F,F] (by kernel_rfl) rfl rfl ⟨(aG bY.out 0).trans rfl,(aG bY.out 1).trans rfl,(aG bY.out 2).trans rfl,(aG bY.out 3).trans rfl,(aG bY.out 4).trans rfl⟩ (fun hHeld=>?_);refine with_tabW regletlaw16_awake.tab4 regletlaw16_awake.bits4 (fun HT_ HW_=>?_)
     generalize w44.drew=w45 at cS cV dC dM dT dW bY HB hHeld ⊢;refine pure_ (i:=1) (N:=some 33) (v:=?_) (a':=?_) #[F,T,F,F,F,F,F,F,F,F,F,F] rfl rfl (any_of HT_.out (by kernel_rfl)) (fun _ _ _ h=>h) (Or.inl ⟨by rfl,?_⟩) ?_ ?_
     rotate_left;(intro w';go_simp;with_reducible rfl);rotate_left;(simp only [pq];rfl)
     refine take_ (i:=0) (N:=some 32) (v:=?_) (a':=?_) #[T,T,F,F,F,F,F,F,F,F,F,F] rfl rfl (take_ofW HT_.out HW_.out (by kernel_rfl)) (fun _ _ _ h=>h) (Or.inl ⟨by rfl,?_⟩) hHeld ?_ ?_
     rotate_left
     ·rintro w' ⟨s0,s1,s2,s3,s4⟩
      go_simp
      with_reducible rfl
     rotate_left
     ·simp only [pq]
      rfl
     refine join_ (σ:=Value×Value×Value×Nat) 3 #[T,T,T,T,T,T,T,T,T,F,F,F] (fun s_=> [(34,.agg #[s_.1,.bool t175]),(35,.tuple #[.agg #[s_.2.1,.bool t179],s_.2.2.1,.int .i64 t183]),(6,.pointer (some ⟨s_.2.2.2,0,none⟩)),(31,.tuple #[.agg #[s_.2.1,.bool t179],s_.2.2.1,.int .i64 t183]),(36,.agg #[s_.2.1,.bool t179]),(37,s_.2.2.1),(38,.int .i64 t183)]) (fun s_ w'=>(w'.cell? ⟨dI,0,none⟩=some (.slice iG y145.length iH)∧w'.cell? ⟨dI,1,none⟩=some (.slice fV y148.length fW)∧w'.cell? ⟨dI,2,none⟩=some (.int .i64 0)∧w'.cell? ⟨dI,3,none⟩=some (.int .i64 0)∧w'.cell? ⟨dI,4,none⟩=some (.slice jA y154.length jB))∧(Kd.R Kd.string 9 w' w.heap.size (fun _=>True) (.slice iG y145.length iH) y145)∧(Kd.N k72 72 w' w.heap.size (fun k_=>some k_≠(.slice iG y145.length iH:Value).ownBlock∧some k_≠(.slice jA y154.length jB:Value).ownBlock∧some k_≠(.slice yW y161.length yX:Value).ownBlock∧some k_≠(.slice uJ y164.length uK:Value).ownBlock∧some k_≠(v168:Value).ownBlock∧some k_≠(s_.1:Value).ownBlock∧some k_≠(s_.2.1:Value).ownBlock∧some k_≠(s_.2.2.1:Value).ownBlock∧k_≠dI∧k_≠s_.2.2.2) (.slice fV y148.length fW) y148)∧(Kd.N k35 35 w' w.heap.size (fun k_=>some k_≠(.slice iG y145.length iH:Value).ownBlock∧some k_≠(.slice fV y148.length fW:Value).ownBlock∧some k_≠(.slice yW y161.length yX:Value).ownBlock∧some k_≠(.slice uJ y164.length uK:Value).ownBlock∧some k_≠(v168:Value).ownBlock∧some k_≠(s_.1:Value).ownBlock∧some k_≠(s_.2.1:Value).ownBlock∧some k_≠(s_.2.2.1:Value).ownBlock∧k_≠dI∧k_≠s_.2.2.2) (.slice jA y154.length jB) y154)∧(Kd.N (Kd.slice 3 (Kd.int .i64)) 32 w' w.heap.size (fun k_=>some k_≠(.slice iG y145.length iH:Value).ownBlock∧some k_≠(.slice fV y148.length fW:Value).ownBlock∧some k_≠(.slice jA y154.length jB:Value).ownBlock∧some k_≠(.slice uJ y164.length uK:Value).ownBlock∧some k_≠(v168:Value).ownBlock∧some k_≠(s_.1:Value).ownBlock∧some k_≠(s_.2.1:Value).ownBlock∧some k_≠(s_.2.2.1:Value).ownBlock∧k_≠dI∧k_≠s_.2.2.2) (.slice yW y161.length yX) y161)∧(Kd.R (Kd.int .i64) 3 w' w.heap.size (fun k_=>some k_≠(v168:Value).ownBlock∧some k_≠(s_.2.2.1:Value).ownBlock) (.slice uJ y164.length uK) y164)∧(Kd.R (Kd.int .i64) 3 w' w.heap.size (fun k_=>some k_≠(.slice uJ y164.length uK:Value).ownBlock∧some k_≠(s_.2.2.1:Value).ownBlock) v168 t167)∧(Kd.R k43 43 w' w.heap.size (fun k_=>some k_≠(s_.2.1:Value).ownBlock) s_.1 t172)∧(Kd.R k43 43 w' w.heap.size (fun k_=>some k_≠(s_.1:Value).ownBlock) s_.2.1 t176)∧(Kd.R (Kd.int .i64) 3 w' w.heap.size (fun k_=>some k_≠(.slice uJ y164.length uK:Value).ownBlock∧some k_≠(v168:Value).ownBlock) s_.2.2.1 t180)∧(w'.heap[dI]?=some (.cells #[.slice iG y145.length iH,.slice fV y148.length fW,.int .i64 0,.int .i64 0,.slice jA y154.length jB] 26 (0,0)))∧(w'.heap[s_.2.2.2]?=some (.cells #[.slice none 0 0,.bool false] 31 (0,0)))∧(w.heap.size≤s_.2.2.2)∧(w.heap.size≤s_.2.2.2)∧(dI≠s_.2.2.2)∧(s_.2.2.2≠dI)∧(Below w.heap.size w w')) ?_ ?_
     rotate_left
     ·intro hCont
      refine two_ (i:=2) (j:=8) (Ni:=some 34) (Nj:=some 6) #[T,T,T,F,F,F,F,F,F,F,F,F] #[T,T,F,F,F,F,F,F,T,F,F,F] rfl rfl rfl rfl (two_of HT_.out (by kernel_rfl)) (by decide) (by decide) (fun K hK=>?_) (fun K hK=>?_)
      ·skip
       refine goes_ Try.func17 (by kernel_rfl) rfl #[] (by rfl) rfl rfl (by(try simp only [List.map_toArray,List.map_cons,List.map_nil]);first|done|rfl|(simp only [List.length_drop,List.length_take];rfl)) ?_
       with_reducible refine(machine_Start.calls  t172 t175 _ A3.out).mono ?_
       rintro e w46 ⟨v173,rfl,ho0,hb⟩
       refine⟨_,rfl,?_⟩
       have cE:=aM (aD (gR cS.out) hb);have cF:=aM (Kd.N_elder' (gN cV.out) (Kd.R_base ho0) hb);have cH:=aM (Kd.N_elder' (gN dC.out) (Kd.R_base ho0) hb);have cM:=aM (Kd.N_elder' (gN dM.out) (Kd.R_base ho0) hb);have dH:=aM (aD (gR dT.out) hb);have dN:=aM (aD (gR dW.out) hb);have dY:=aM (bL ho0 (bH (gW HB.out)));have fB:=aM (bF (gB bY.out) hb);have gO:=aM (bG (gW HB.out) hb);clear cS cV dC dM dT dW bY HB;have cS:=cE;have cV:=cF;have dC:=cH;have dM:=cM;have dT:=dH;have dW:=dN;have eN:=dY;have bY:=fB;have HB:=gO;clear cE cF cH cM dH dN dY fB gO
       (try clear hb);(try clear hb2);(try clear hk);(try clear hi);(try clear ho0)
       obtain⟨IZ,JA,JB⟩:=Kd.R_slice eN.out
       (first|subst JB|(injection JB with f1_ f2_ f3_;have f4_:=f1_.symm;have f5_:=f3_.symm;clear f1_ f2_ f3_;subst f4_;subst f5_))
       refine hK.out _ _ ⟨(aG bY.out 0).trans rfl,(aG bY.out 1).trans rfl,(aG bY.out 2).trans rfl,(aG bY.out 3).trans rfl,(aG bY.out 4).trans rfl⟩ (fun hHeld=>?_)
       clear hK K;refine norm_ (a':=?_) ?_ ?_
       rotate_left
       ·show Act.put _ (some 34) _=_
        simp only [pq];rfl
       refine two_ (i:=3) (j:=8) (Ni:=some 35) (Nj:=some 6) #[T,T,T,T,F,F,F,F,F,F,F,F] #[T,T,T,F,F,F,F,F,T,F,F,F] rfl rfl rfl rfl (two_of HT_.out (by kernel_rfl)) (by decide) (by decide) (fun K hK=>?_) (fun K hK=>?_)
       ·skip
        refine goes_ Try.func23 (by kernel_rfl) rfl #[.agg #[.slice iG y145.length iH,.slice fV y148.length fW,.int .i64 0,.int .i64 0,.slice jA y154.length jB],.slice yW y161.length yX,.agg #[.slice IZ t172.length JA,.bool t175],.int .i64 0] (by rfl) rfl rfl (by(try simp only [List.map_toArray,List.map_cons,List.map_nil]);first|done|rfl|(simp only [List.length_drop,List.length_take];rfl)) ?_
        with_reducible refine(machine_Feed.calls _ _ y145 _ _ y148 0 0 _ _ y154 _ _ y161 _ _ t172 t175 0 t176 t179 t180 t183 _ ?side1 ?side2 ?side3 ?side4 ?side5 ?side6 ?side7 ?side8 ?side9 ?side10 A4.out).mono ?_
        (case side1=>exact gC (aF cS.out).2.2)
        (case side2=>exact(aF cS.out).2.1)
        (case side3=>exact gC (aT cV.out).2.2)
        (case side4=>exact(aT cV.out).2.1)
        (case side5=>exact gC (aT dC.out).2.2)
        (case side6=>exact(aT dC.out).2.1)
        (case side7=>exact gC (aT dM.out).2.2)
        (case side8=>exact(aT dM.out).2.1)
        (case side9=>exact gC (aF eN.out).2.2)
        (case side10=>exact(aF eN.out).2.1)
        rintro e w48 ⟨v177,v181,rfl,ho0,ho1,hb⟩
        refine⟨_,rfl,?_⟩
        have cE:=aM (aD (gR cS.out) hb);have cF:=aM (Kd.N_mono (Kd.N_told (Kd.N_told (Kd.N_old (gN cV.out) hb) (Kd.R_base ho0)) (Kd.R_base ho1)) (fun _ h_=>h_.1));have cH:=aM (Kd.N_mono (Kd.N_told (Kd.N_told (Kd.N_old (gN dC.out) hb) (Kd.R_base ho0)) (Kd.R_base ho1)) (fun _ h_=>h_.1));have cM:=aM (Kd.N_mono (Kd.N_told (Kd.N_told (Kd.N_old (gN dM.out) hb) (Kd.R_base ho0)) (Kd.R_base ho1)) (fun _ h_=>h_.1));have dH:=aM (bE (gR dT.out) (Kd.R_base ho1) hb);have dN:=aM (bE (gR dW.out) (Kd.R_base ho1) hb);have dY:=aM (bE (gR eN.out) (Kd.R_base ho0) hb);have fB:=aM (bL (Kd.R_new' ho0 (Kd.R_lt (gR eN.out))) (bH (gW HB.out)));have gO:=aM (bL (Kd.R_new' (Kd.R_new' ho1 (Kd.R_lt (gR dT.out))) (Kd.R_lt (gR dW.out))) (bH (gW HB.out)));have hJ:=aM (bF (gB bY.out) hb);have eS:=aM (bG (gW HB.out) hb);clear cS cV dC dM dT dW eN bY HB;have cS:=cE;have cV:=cF;have dC:=cH;have dM:=cM;have dT:=dH;have dW:=dN;have eN:=dY;have fX:=fB;have fM:=gO;have bY:=hJ;have HB:=eS;clear cE cF cH cM dH dN dY fB gO hJ eS
        (try clear hb);(try clear hb2);(try clear hk);(try clear hi);(try clear ho0);(try clear ho1)
        refine hK.out _ _ ⟨(aG bY.out 0).trans rfl,(aG bY.out 1).trans rfl,(aG bY.out 2).trans rfl,(aG bY.out 3).trans rfl,(aG bY.out 4).trans rfl⟩ (fun hHeld=>?_)
        clear hK K;refine norm_ (a':=?_) ?_ ?_
        rotate_left
        ·show Act.put _ (some 35) _=_
         simp only [pq];rfl
        refine pure_ (i:=4) (N:=some 31) (v:=?_) (a':=?_) #[T,T,T,T,T,F,F,F,F,F,F,F] rfl rfl (any_of HT_.out (by kernel_rfl)) (fun _ _ _ h=>h) (Or.inl ⟨by rfl,?_⟩) ?_ ?_
        rotate_left;(intro w';go_simp;with_reducible rfl);rotate_left;(simp only [pq];rfl)
        refine pure_ (i:=5) (N:=some 36) (v:=?_) (a':=?_) #[T,T,T,T,T,T,F,F,F,F,F,F] rfl rfl (any_of HT_.out (by kernel_rfl)) (fun _ _ _ h=>h) (Or.inl ⟨by rfl,?_⟩) ?_ ?_
        rotate_left;(intro w';go_simp;with_reducible rfl);rotate_left;(simp only [pq];rfl)
        refine pure_ (i:=6) (N:=some 37) (v:=?_) (a':=?_) #[T,T,T,T,T,T,T,F,F,F,F,F] rfl rfl (any_of HT_.out (by kernel_rfl)) (fun _ _ _ h=>h) (Or.inl ⟨by rfl,?_⟩) ?_ ?_
        rotate_left;(intro w';go_simp;with_reducible rfl);rotate_left;(simp only [pq];rfl)
        refine pure_ (i:=7) (N:=some 38) (v:=?_) (a':=?_) #[T,T,T,T,T,T,T,T,F,F,F,F] rfl rfl (any_of HT_.out (by kernel_rfl)) (fun _ _ _ h=>h) (Or.inl ⟨by rfl,?_⟩) ?_ ?_
        rotate_left;(intro w';go_simp;with_reducible rfl);rotate_left;(simp only [pq];rfl)
        refine one_ (i:=8) (N:=some 6) #[T,T,T,T,T,T,T,T,T,F,F,F] rfl rfl (one_of HT_.out (by kernel_rfl)) (by decide) (fun K hK=>?_)
        refine box_step ?hg (N:=6) ?hd (cs:=#[.slice none 0 0,.bool false]) (t:=31) ?hr ?_;(case hd=>rfl);(case hg=>rfl);(case hr=>first|(go_simp;done)|(go_simp;rfl))
        intro dQ hg w49 hbox hb;have cE:=aM (aD (gR cS.out) hb);have cF:=aM (Kd.N_below (Kd.N_elderB (gN cV.out) dQ (Nat.le_of_eq hg.symm)) hb);have cH:=aM (Kd.N_below (Kd.N_elderB (gN dC.out) dQ (Nat.le_of_eq hg.symm)) hb);have cM:=aM (Kd.N_below (Kd.N_elderB (gN dM.out) dQ (Nat.le_of_eq hg.symm)) hb);have dH:=aM (aD (gR dT.out) hb);have dN:=aM (aD (gR dW.out) hb);have dY:=aM (aD (gR eN.out) hb);have fB:=aM (aD (gR fX.out) hb);have gO:=aM (aD (gR fM.out) hb);have hJ:=aM (bF (gB bY.out) hb);have eS:=aM (bG (gW HB.out) hb);have eW:=aM (hbox);have fF:=aM ((by rw [hg];exact(bH (gW HB.out)):w.heap.size≤dQ));have fL:=aM ((by rw [hg];exact(bH (gW HB.out)):w.heap.size≤dQ));have iE:=aM ((by rw [hg];exact Nat.ne_of_lt (bN (g:=dI) (o:= .cells #[.slice iG y145.length iH,.slice fV y148.length fW,.int .i64 0,.int .i64 0,.slice jA y154.length jB] 26 (0,0)) (gB bY.out)):dI≠dQ));have mP:=aM ((by rw [hg];exact Nat.ne_of_gt (bN (g:=dI) (o:= .cells #[.slice iG y145.length iH,.slice fV y148.length fW,.int .i64 0,.int .i64 0,.slice jA y154.length jB] 26 (0,0)) (gB bY.out)):dQ≠dI));clear cS cV dC dM dT dW eN fX fM bY HB;have cS:=cE;have cV:=cF;have dC:=cH;have dM:=cM;have dT:=dH;have dW:=dN;have eN:=dY;have fX:=fB;have fM:=gO;have bY:=hJ;have HB:=eS;have dU:=eW;have GW184:=fF;have yP:=fL;have eY:=iE;have kL:=mP;clear cE cF cH cM dH dN dY fB gO hJ eS eW fF fL iE mP hb hbox hg;refine hK.out _ _ ⟨(aG bY.out 0).trans rfl,(aG bY.out 1).trans rfl,(aG bY.out 2).trans rfl,(aG bY.out 3).trans rfl,(aG bY.out 4).trans rfl⟩ (fun hHeld=>?_)
        clear hK K;refine norm_ (a':=?_) ?_ ?_
        rotate_left
        ·show Act.put _ (some 6) _=_
         simp only [pq];rfl
        exact norm_ (by simp only [putAll,Act.put,List.setIfInBounds_toArray,List.set_cons_zero,List.set_cons_succ]) (hCont (.slice IZ t172.length JA,v177,v181,dQ) _ ⟨hHeld,(gR cS.out),(by(with_reducible repeat(first|apply Kd.N_alloc|apply aY|apply aZ));exact Kd.N_mono cV.out (fun _ hk=>⟨hk.1.1.1.1.1.1.1.1.1.1.1,⟨hk.1.1.1.1.1.1.1.1.1.2,⟨hk.1.1.1.1.1.1.2,⟨hk.1.1.1.1.1.2,⟨hk.1.1.1.1.2,⟨hk.1.1.1.2,⟨hk.1.1.2,⟨hk.1.2,⟨hk.1.1.1.1.1.1.1.1.2,hk.2⟩⟩⟩⟩⟩⟩⟩⟩⟩)),(by(with_reducible repeat(first|apply Kd.N_alloc|apply aY|apply aZ));exact Kd.N_mono dC.out (fun _ hk=>⟨hk.1.1.1.1.1.1.1.1.1.1,⟨hk.1.1.1.1.1.1.1.1.1.2,⟨hk.1.1.1.1.1.1.2,⟨hk.1.1.1.1.1.2,⟨hk.1.1.1.1.2,⟨hk.1.1.1.2,⟨hk.1.1.2,⟨hk.1.2,⟨hk.1.1.1.1.1.1.1.1.2,hk.2⟩⟩⟩⟩⟩⟩⟩⟩⟩)),(by(with_reducible repeat(first|apply Kd.N_alloc|apply aY|apply aZ));exact Kd.N_mono dM.out (fun _ hk=>⟨hk.1.1.1.1.1.1.1,⟨hk.1.1.1.1.1.1.2.1,⟨hk.1.1.1.1.1.1.2.2.1,⟨hk.1.1.1.1.1.2,⟨hk.1.1.1.1.2,⟨hk.1.1.1.2,⟨hk.1.1.2,⟨hk.1.2,⟨hk.1.1.1.1.1.1.2.2.2,hk.2⟩⟩⟩⟩⟩⟩⟩⟩⟩)),(by(with_reducible repeat(first|apply aA|apply aB|apply aC));exact Kd.R_mono dT.out (fun _ hk=>⟨hk.1.2,hk.2⟩)),(by(with_reducible repeat(first|apply aA|apply aB|apply aC));exact Kd.R_mono dW.out (fun _ hk=>⟨hk.1.2,hk.2⟩)),(by(with_reducible repeat(first|apply aA|apply aB|apply aC));exact Kd.R_mono eN.out (fun _ hk=>hk.2)),(by(with_reducible repeat(first|apply aA|apply aB|apply aC));exact Kd.R_mono fX.out (fun _ hk=>hk.2)),(by(with_reducible repeat(first|apply aA|apply aB|apply aC));exact Kd.R_mono fM.out (fun _ hk=>⟨hk.1.2,hk.2⟩)),(gB bY.out),(gB dU.out),GW184.out,yP.out,eY.out,kL.out,(gW HB.out)⟩)
       ·skip
        refine box_step ?hg (N:=6) ?hd (cs:=#[.slice none 0 0,.bool false]) (t:=31) ?hr ?_;(case hd=>rfl);(case hg=>rfl);(case hr=>first|(go_simp;done)|(go_simp;rfl))
        intro dQ hg w47 hbox hb;have cE:=aM (aD (gR cS.out) hb);have cF:=aM (Kd.N_below (Kd.N_elderB (gN cV.out) dQ (Nat.le_of_eq hg.symm)) hb);have cH:=aM (Kd.N_below (Kd.N_elderB (gN dC.out) dQ (Nat.le_of_eq hg.symm)) hb);have cM:=aM (Kd.N_below (Kd.N_elderB (gN dM.out) dQ (Nat.le_of_eq hg.symm)) hb);have dH:=aM (aD (gR dT.out) hb);have dN:=aM (aD (gR dW.out) hb);have dY:=aM (aD (gR eN.out) hb);have fB:=aM (bF (gB bY.out) hb);have gO:=aM (bG (gW HB.out) hb);have hJ:=aM (hbox);have eS:=aM ((by rw [hg];exact(bH (gW HB.out)):w.heap.size≤dQ));have eW:=aM ((by rw [hg];exact(bH (gW HB.out)):w.heap.size≤dQ));have fF:=aM ((by rw [hg];exact Nat.ne_of_lt (bN (g:=dI) (o:= .cells #[.slice iG y145.length iH,.slice fV y148.length fW,.int .i64 0,.int .i64 0,.slice jA y154.length jB] 26 (0,0)) (gB bY.out)):dI≠dQ));have fL:=aM ((by rw [hg];exact Nat.ne_of_gt (bN (g:=dI) (o:= .cells #[.slice iG y145.length iH,.slice fV y148.length fW,.int .i64 0,.int .i64 0,.slice jA y154.length jB] 26 (0,0)) (gB bY.out)):dQ≠dI));clear cS cV dC dM dT dW eN bY HB;have cS:=cE;have cV:=cF;have dC:=cH;have dM:=cM;have dT:=dH;have dW:=dN;have eN:=dY;have bY:=fB;have HB:=gO;have dU:=hJ;have GW184:=eS;have yP:=eW;have eY:=fF;have kL:=fL;clear cE cF cH cM dH dN dY fB gO hJ eS eW fF fL hb hbox hg;obtain⟨Qw,Ol,Ir⟩:=Kd.R_slice eN.out
        (first|subst Ir|(injection Ir with f1_ f2_ f3_;have f4_:=f1_.symm;have f5_:=f3_.symm;clear f1_ f2_ f3_;subst f4_;subst f5_))
        refine hK.out _ _ ⟨(aG bY.out 0).trans rfl,(aG bY.out 1).trans rfl,(aG bY.out 2).trans rfl,(aG bY.out 3).trans rfl,(aG bY.out 4).trans rfl⟩ (fun hHeld=>?_)
        clear hK K;refine norm_ (a':=?_) ?_ ?_
        rotate_left
        ·show Act.put _ (some 6) _=_
         simp only [pq];rfl
        refine one_ (i:=3) (N:=some 35) #[T,T,T,T,F,F,F,F,T,F,F,F] rfl rfl (one_of HT_.out (by kernel_rfl)) (by decide) (fun K hK=>?_)
        refine goes_ Try.func23 (by kernel_rfl) rfl #[.agg #[.slice iG y145.length iH,.slice fV y148.length fW,.int .i64 0,.int .i64 0,.slice jA y154.length jB],.slice yW y161.length yX,.agg #[.slice Qw t172.length Ol,.bool t175],.int .i64 0] (by rfl) rfl rfl (by(try simp only [List.map_toArray,List.map_cons,List.map_nil]);first|done|rfl|(simp only [List.length_drop,List.length_take];rfl)) ?_
        with_reducible refine(machine_Feed.calls _ _ y145 _ _ y148 0 0 _ _ y154 _ _ y161 _ _ t172 t175 0 t176 t179 t180 t183 _ ?side1 ?side2 ?side3 ?side4 ?side5 ?side6 ?side7 ?side8 ?side9 ?side10 A4.out).mono ?_
        (case side1=>exact gC (aF cS.out).2.2)
        (case side2=>exact(aF cS.out).2.1)
        (case side3=>exact gC (aT cV.out).2.2)
        (case side4=>exact(aT cV.out).2.1)
        (case side5=>exact gC (aT dC.out).2.2)
        (case side6=>exact(aT dC.out).2.1)
        (case side7=>exact gC (aT dM.out).2.2)
        (case side8=>exact(aT dM.out).2.1)
        (case side9=>exact gC (aF eN.out).2.2)
        (case side10=>exact(aF eN.out).2.1)
        rintro e w49 ⟨v177,v181,rfl,ho0,ho1,hb⟩
        refine⟨_,rfl,?_⟩
        have cE:=aM (aD (gR cS.out) hb);have cF:=aM (Kd.N_mono (Kd.N_told (Kd.N_told (Kd.N_old (gN cV.out) hb) (Kd.R_base ho0)) (Kd.R_base ho1)) (fun _ h_=>h_.1));have cH:=aM (Kd.N_mono (Kd.N_told (Kd.N_told (Kd.N_old (gN dC.out) hb) (Kd.R_base ho0)) (Kd.R_base ho1)) (fun _ h_=>h_.1));have cM:=aM (Kd.N_mono (Kd.N_told (Kd.N_told (Kd.N_old (gN dM.out) hb) (Kd.R_base ho0)) (Kd.R_base ho1)) (fun _ h_=>h_.1));have dH:=aM (bE (gR dT.out) (Kd.R_base ho1) hb);have dN:=aM (bE (gR dW.out) (Kd.R_base ho1) hb);have dY:=aM (bE (gR eN.out) (Kd.R_base ho0) hb);have fB:=aM (bL (Kd.R_new' ho0 (Kd.R_lt (gR eN.out))) (bH (gW HB.out)));have gO:=aM (bL (Kd.R_new' (Kd.R_new' ho1 (Kd.R_lt (gR dT.out))) (Kd.R_lt (gR dW.out))) (bH (gW HB.out)));have hJ:=aM (bF (gB bY.out) hb);have eS:=aM (bF (gB dU.out) hb);have eW:=aM (bG (gW HB.out) hb);clear cS cV dC dM dT dW eN bY dU HB;have cS:=cE;have cV:=cF;have dC:=cH;have dM:=cM;have dT:=dH;have dW:=dN;have eN:=dY;have fX:=fB;have fM:=gO;have bY:=hJ;have dU:=eS;have HB:=eW;clear cE cF cH cM dH dN dY fB gO hJ eS eW
        (try clear hb);(try clear hb2);(try clear hk);(try clear hi);(try clear ho0);(try clear ho1)
        refine hK.out _ _ ⟨(aG bY.out 0).trans rfl,(aG bY.out 1).trans rfl,(aG bY.out 2).trans rfl,(aG bY.out 3).trans rfl,(aG bY.out 4).trans rfl⟩ (fun hHeld=>?_)
        clear hK K;refine norm_ (a':=?_) ?_ ?_
        rotate_left
        ·show Act.put _ (some 35) _=_
         simp only [pq];rfl
        refine pure_ (i:=4) (N:=some 31) (v:=?_) (a':=?_) #[T,T,T,T,T,F,F,F,T,F,F,F] rfl rfl (any_of HT_.out (by kernel_rfl)) (fun _ _ _ h=>h) (Or.inl ⟨by rfl,?_⟩) ?_ ?_
        rotate_left;(intro w';go_simp;with_reducible rfl);rotate_left;(simp only [pq];rfl)
        refine pure_ (i:=5) (N:=some 36) (v:=?_) (a':=?_) #[T,T,T,T,T,T,F,F,T,F,F,F] rfl rfl (any_of HT_.out (by kernel_rfl)) (fun _ _ _ h=>h) (Or.inl ⟨by rfl,?_⟩) ?_ ?_
        rotate_left;(intro w';go_simp;with_reducible rfl);rotate_left;(simp only [pq];rfl)
        refine pure_ (i:=6) (N:=some 37) (v:=?_) (a':=?_) #[T,T,T,T,T,T,T,F,T,F,F,F] rfl rfl (any_of HT_.out (by kernel_rfl)) (fun _ _ _ h=>h) (Or.inl ⟨by rfl,?_⟩) ?_ ?_
        rotate_left;(intro w';go_simp;with_reducible rfl);rotate_left;(simp only [pq];rfl)
        refine pure_ (i:=7) (N:=some 38) (v:=?_) (a':=?_) #[T,T,T,T,T,T,T,T,T,F,F,F] rfl rfl (any_of HT_.out (by kernel_rfl)) (fun _ _ _ h=>h) (Or.inl ⟨by rfl,?_⟩) ?_ ?_
        rotate_left;(intro w';go_simp;with_reducible rfl);rotate_left;(simp only [pq];rfl)
        exact norm_ (by simp only [putAll,Act.put,List.setIfInBounds_toArray,List.set_cons_zero,List.set_cons_succ]) (hCont (.slice Qw t172.length Ol,v177,v181,dQ) _ ⟨hHeld,(gR cS.out),(by(with_reducible repeat(first|apply Kd.N_alloc|apply aY|apply aZ));exact Kd.N_mono cV.out (fun _ hk=>⟨hk.1.1.1.1.1.1.1.1.1.1.1,⟨hk.1.1.1.1.1.1.1.1.1.2,⟨hk.1.1.1.1.1.1.2,⟨hk.1.1.1.1.1.2,⟨hk.1.1.1.1.2,⟨hk.1.1.1.2,⟨hk.1.2,⟨hk.2,⟨hk.1.1.1.1.1.1.1.1.2,hk.1.1.2⟩⟩⟩⟩⟩⟩⟩⟩⟩)),(by(with_reducible repeat(first|apply Kd.N_alloc|apply aY|apply aZ));exact Kd.N_mono dC.out (fun _ hk=>⟨hk.1.1.1.1.1.1.1.1.1.1,⟨hk.1.1.1.1.1.1.1.1.1.2,⟨hk.1.1.1.1.1.1.2,⟨hk.1.1.1.1.1.2,⟨hk.1.1.1.1.2,⟨hk.1.1.1.2,⟨hk.1.2,⟨hk.2,⟨hk.1.1.1.1.1.1.1.1.2,hk.1.1.2⟩⟩⟩⟩⟩⟩⟩⟩⟩)),(by(with_reducible repeat(first|apply Kd.N_alloc|apply aY|apply aZ));exact Kd.N_mono dM.out (fun _ hk=>⟨hk.1.1.1.1.1.1.1,⟨hk.1.1.1.1.1.1.2.1,⟨hk.1.1.1.1.1.1.2.2.1,⟨hk.1.1.1.1.1.2,⟨hk.1.1.1.1.2,⟨hk.1.1.1.2,⟨hk.1.2,⟨hk.2,⟨hk.1.1.1.1.1.1.2.2.2,hk.1.1.2⟩⟩⟩⟩⟩⟩⟩⟩⟩)),(by(with_reducible repeat(first|apply aA|apply aB|apply aC));exact Kd.R_mono dT.out (fun _ hk=>⟨hk.1.2,hk.2⟩)),(by(with_reducible repeat(first|apply aA|apply aB|apply aC));exact Kd.R_mono dW.out (fun _ hk=>⟨hk.1.2,hk.2⟩)),(by(with_reducible repeat(first|apply aA|apply aB|apply aC));exact Kd.R_mono eN.out (fun _ hk=>hk.2)),(by(with_reducible repeat(first|apply aA|apply aB|apply aC));exact Kd.R_mono fX.out (fun _ hk=>hk.2)),(by(with_reducible repeat(first|apply aA|apply aB|apply aC));exact Kd.R_mono fM.out (fun _ hk=>⟨hk.1.2,hk.2⟩)),(gB bY.out),(gB dU.out),GW184.out,yP.out,eY.out,kL.out,(gW HB.out)⟩)
      ·skip
       refine box_step ?hg (N:=6) ?hd (cs:=#[.slice none 0 0,.bool false]) (t:=31) ?hr ?_;(case hd=>rfl);(case hg=>rfl);(case hr=>first|(go_simp;done)|(go_simp;rfl))
       intro dQ hg w46 hbox hb;have cE:=aM (aD (gR cS.out) hb);have cF:=aM (Kd.N_below (Kd.N_elderB (gN cV.out) dQ (Nat.le_of_eq hg.symm)) hb);have cH:=aM (Kd.N_below (Kd.N_elderB (gN dC.out) dQ (Nat.le_of_eq hg.symm)) hb);have cM:=aM (Kd.N_below (Kd.N_elderB (gN dM.out) dQ (Nat.le_of_eq hg.symm)) hb);have dH:=aM (aD (gR dT.out) hb);have dN:=aM (aD (gR dW.out) hb);have dY:=aM (bF (gB bY.out) hb);have fB:=aM (bG (gW HB.out) hb);have gO:=aM (hbox);have hJ:=aM ((by rw [hg];exact(bH (gW HB.out)):w.heap.size≤dQ));have eS:=aM ((by rw [hg];exact(bH (gW HB.out)):w.heap.size≤dQ));have eW:=aM ((by rw [hg];exact Nat.ne_of_lt (bN (g:=dI) (o:= .cells #[.slice iG y145.length iH,.slice fV y148.length fW,.int .i64 0,.int .i64 0,.slice jA y154.length jB] 26 (0,0)) (gB bY.out)):dI≠dQ));have fF:=aM ((by rw [hg];exact Nat.ne_of_gt (bN (g:=dI) (o:= .cells #[.slice iG y145.length iH,.slice fV y148.length fW,.int .i64 0,.int .i64 0,.slice jA y154.length jB] 26 (0,0)) (gB bY.out)):dQ≠dI));clear cS cV dC dM dT dW bY HB;have cS:=cE;have cV:=cF;have dC:=cH;have dM:=cM;have dT:=dH;have dW:=dN;have bY:=dY;have HB:=fB;have dU:=gO;have GW184:=hJ;have yP:=eS;have eY:=eW;have kL:=fF;clear cE cF cH cM dH dN dY fB gO hJ eS eW fF hb hbox hg;refine hK.out _ _ ⟨(aG bY.out 0).trans rfl,(aG bY.out 1).trans rfl,(aG bY.out 2).trans rfl,(aG bY.out 3).trans rfl,(aG bY.out 4).trans rfl⟩ (fun hHeld=>?_)
       clear hK K;refine norm_ (a':=?_) ?_ ?_
       rotate_left
       ·show Act.put _ (some 6) _=_
        simp only [pq];rfl
       refine one_ (i:=2) (N:=some 34) #[T,T,T,F,F,F,F,F,T,F,F,F] rfl rfl (one_of HT_.out (by kernel_rfl)) (by decide) (fun K hK=>?_)
       refine goes_ Try.func17 (by kernel_rfl) rfl #[] (by rfl) rfl rfl (by(try simp only [List.map_toArray,List.map_cons,List.map_nil]);first|done|rfl|(simp only [List.length_drop,List.length_take];rfl)) ?_
       with_reducible refine(machine_Start.calls  t172 t175 _ A3.out).mono ?_
       rintro e w47 ⟨v173,rfl,ho0,hb⟩
       refine⟨_,rfl,?_⟩
       have cE:=aM (aD (gR cS.out) hb);have cF:=aM (Kd.N_elder' (gN cV.out) (Kd.R_base ho0) hb);have cH:=aM (Kd.N_elder' (gN dC.out) (Kd.R_base ho0) hb);have cM:=aM (Kd.N_elder' (gN dM.out) (Kd.R_base ho0) hb);have dH:=aM (aD (gR dT.out) hb);have dN:=aM (aD (gR dW.out) hb);have dY:=aM (bL ho0 (bH (gW HB.out)));have fB:=aM (bF (gB bY.out) hb);have gO:=aM (bF (gB dU.out) hb);have hJ:=aM (bG (gW HB.out) hb);clear cS cV dC dM dT dW bY dU HB;have cS:=cE;have cV:=cF;have dC:=cH;have dM:=cM;have dT:=dH;have dW:=dN;have eN:=dY;have bY:=fB;have dU:=gO;have HB:=hJ;clear cE cF cH cM dH dN dY fB gO hJ
       (try clear hb);(try clear hb2);(try clear hk);(try clear hi);(try clear ho0)
       obtain⟨Qw,Ol,Ir⟩:=Kd.R_slice eN.out
       (first|subst Ir|(injection Ir with f1_ f2_ f3_;have f4_:=f1_.symm;have f5_:=f3_.symm;clear f1_ f2_ f3_;subst f4_;subst f5_))
       refine hK.out _ _ ⟨(aG bY.out 0).trans rfl,(aG bY.out 1).trans rfl,(aG bY.out 2).trans rfl,(aG bY.out 3).trans rfl,(aG bY.out 4).trans rfl⟩ (fun hHeld=>?_)
       clear hK K;refine norm_ (a':=?_) ?_ ?_
       rotate_left
       ·show Act.put _ (some 34) _=_
        simp only [pq];rfl
       refine one_ (i:=3) (N:=some 35) #[T,T,T,T,F,F,F,F,T,F,F,F] rfl rfl (one_of HT_.out (by kernel_rfl)) (by decide) (fun K hK=>?_)
       refine goes_ Try.func23 (by kernel_rfl) rfl #[.agg #[.slice iG y145.length iH,.slice fV y148.length fW,.int .i64 0,.int .i64 0,.slice jA y154.length jB],.slice yW y161.length yX,.agg #[.slice Qw t172.length Ol,.bool t175],.int .i64 0] (by rfl) rfl rfl (by(try simp only [List.map_toArray,List.map_cons,List.map_nil]);first|done|rfl|(simp only [List.length_drop,List.length_take];rfl)) ?_
       with_reducible refine(machine_Feed.calls _ _ y145 _ _ y148 0 0 _ _ y154 _ _ y161 _ _ t172 t175 0 t176 t179 t180 t183 _ ?side1 ?side2 ?side3 ?side4 ?side5 ?side6 ?side7 ?side8 ?side9 ?side10 A4.out).mono ?_
       (case side1=>exact gC (aF cS.out).2.2)
       (case side2=>exact(aF cS.out).2.1)
       (case side3=>exact gC (aT cV.out).2.2)
       (case side4=>exact(aT cV.out).2.1)
       (case side5=>exact gC (aT dC.out).2.2)
       (case side6=>exact(aT dC.out).2.1)
       (case side7=>exact gC (aT dM.out).2.2)
       (case side8=>exact(aT dM.out).2.1)
       (case side9=>exact gC (aF eN.out).2.2)
       (case side10=>exact(aF eN.out).2.1)
       rintro e w49 ⟨v177,v181,rfl,ho0,ho1,hb⟩
       refine⟨_,rfl,?_⟩
       have cE:=aM (aD (gR cS.out) hb);have cF:=aM (Kd.N_mono (Kd.N_told (Kd.N_told (Kd.N_old (gN cV.out) hb) (Kd.R_base ho0)) (Kd.R_base ho1)) (fun _ h_=>h_.1));have cH:=aM (Kd.N_mono (Kd.N_told (Kd.N_told (Kd.N_old (gN dC.out) hb) (Kd.R_base ho0)) (Kd.R_base ho1)) (fun _ h_=>h_.1));have cM:=aM (Kd.N_mono (Kd.N_told (Kd.N_told (Kd.N_old (gN dM.out) hb) (Kd.R_base ho0)) (Kd.R_base ho1)) (fun _ h_=>h_.1));have dH:=aM (bE (gR dT.out) (Kd.R_base ho1) hb);have dN:=aM (bE (gR dW.out) (Kd.R_base ho1) hb);have dY:=aM (bE (gR eN.out) (Kd.R_base ho0) hb);have fB:=aM (bL (Kd.R_new' ho0 (Kd.R_lt (gR eN.out))) (bH (gW HB.out)));have gO:=aM (bL (Kd.R_new' (Kd.R_new' ho1 (Kd.R_lt (gR dT.out))) (Kd.R_lt (gR dW.out))) (bH (gW HB.out)));have hJ:=aM (bF (gB bY.out) hb);have eS:=aM (bF (gB dU.out) hb);have eW:=aM (bG (gW HB.out) hb);clear cS cV dC dM dT dW eN bY dU HB;have cS:=cE;have cV:=cF;have dC:=cH;have dM:=cM;have dT:=dH;have dW:=dN;have eN:=dY;have fX:=fB;have fM:=gO;have bY:=hJ;have dU:=eS;have HB:=eW;clear cE cF cH cM dH dN dY fB gO hJ eS eW
       (try clear hb);(try clear hb2);(try clear hk);(try clear hi);(try clear ho0);(try clear ho1)
       refine hK.out _ _ ⟨(aG bY.out 0).trans rfl,(aG bY.out 1).trans rfl,(aG bY.out 2).trans rfl,(aG bY.out 3).trans rfl,(aG bY.out 4).trans rfl⟩ (fun hHeld=>?_)
       clear hK K;refine norm_ (a':=?_) ?_ ?_
       rotate_left
       ·show Act.put _ (some 35) _=_
        simp only [pq];rfl
       refine pure_ (i:=4) (N:=some 31) (v:=?_) (a':=?_) #[T,T,T,T,T,F,F,F,T,F,F,F] rfl rfl (any_of HT_.out (by kernel_rfl)) (fun _ _ _ h=>h) (Or.inl ⟨by rfl,?_⟩) ?_ ?_
       rotate_left;(intro w';go_simp;with_reducible rfl);rotate_left;(simp only [pq];rfl)
       refine pure_ (i:=5) (N:=some 36) (v:=?_) (a':=?_) #[T,T,T,T,T,T,F,F,T,F,F,F] rfl rfl (any_of HT_.out (by kernel_rfl)) (fun _ _ _ h=>h) (Or.inl ⟨by rfl,?_⟩) ?_ ?_
       rotate_left;(intro w';go_simp;with_reducible rfl);rotate_left;(simp only [pq];rfl)
       refine pure_ (i:=6) (N:=some 37) (v:=?_) (a':=?_) #[T,T,T,T,T,T,T,F,T,F,F,F] rfl rfl (any_of HT_.out (by kernel_rfl)) (fun _ _ _ h=>h) (Or.inl ⟨by rfl,?_⟩) ?_ ?_
       rotate_left;(intro w';go_simp;with_reducible rfl);rotate_left;(simp only [pq];rfl)
       refine pure_ (i:=7) (N:=some 38) (v:=?_) (a':=?_) #[T,T,T,T,T,T,T,T,T,F,F,F] rfl rfl (any_of HT_.out (by kernel_rfl)) (fun _ _ _ h=>h) (Or.inl ⟨by rfl,?_⟩) ?_ ?_
       rotate_left;(intro w';go_simp;with_reducible rfl);rotate_left;(simp only [pq];rfl)
       exact norm_ (by simp only [putAll,Act.put,List.setIfInBounds_toArray,List.set_cons_zero,List.set_cons_succ]) (hCont (.slice Qw t172.length Ol,v177,v181,dQ) _ ⟨hHeld,(gR cS.out),(by(with_reducible repeat(first|apply Kd.N_alloc|apply aY|apply aZ));exact Kd.N_mono cV.out (fun _ hk=>⟨hk.1.1.1.1.1.1.1.1.1.1.1,⟨hk.1.1.1.1.1.1.1.1.1.2,⟨hk.1.1.1.1.1.1.2,⟨hk.1.1.1.1.1.2,⟨hk.1.1.1.1.2,⟨hk.1.1.2,⟨hk.1.2,⟨hk.2,⟨hk.1.1.1.1.1.1.1.1.2,hk.1.1.1.2⟩⟩⟩⟩⟩⟩⟩⟩⟩)),(by(with_reducible repeat(first|apply Kd.N_alloc|apply aY|apply aZ));exact Kd.N_mono dC.out (fun _ hk=>⟨hk.1.1.1.1.1.1.1.1.1.1,⟨hk.1.1.1.1.1.1.1.1.1.2,⟨hk.1.1.1.1.1.1.2,⟨hk.1.1.1.1.1.2,⟨hk.1.1.1.1.2,⟨hk.1.1.2,⟨hk.1.2,⟨hk.2,⟨hk.1.1.1.1.1.1.1.1.2,hk.1.1.1.2⟩⟩⟩⟩⟩⟩⟩⟩⟩)),(by(with_reducible repeat(first|apply Kd.N_alloc|apply aY|apply aZ));exact Kd.N_mono dM.out (fun _ hk=>⟨hk.1.1.1.1.1.1.1,⟨hk.1.1.1.1.1.1.2.1,⟨hk.1.1.1.1.1.1.2.2.1,⟨hk.1.1.1.1.1.2,⟨hk.1.1.1.1.2,⟨hk.1.1.2,⟨hk.1.2,⟨hk.2,⟨hk.1.1.1.1.1.1.2.2.2,hk.1.1.1.2⟩⟩⟩⟩⟩⟩⟩⟩⟩)),(by(with_reducible repeat(first|apply aA|apply aB|apply aC));exact Kd.R_mono dT.out (fun _ hk=>⟨hk.1.2,hk.2⟩)),(by(with_reducible repeat(first|apply aA|apply aB|apply aC));exact Kd.R_mono dW.out (fun _ hk=>⟨hk.1.2,hk.2⟩)),(by(with_reducible repeat(first|apply aA|apply aB|apply aC));exact Kd.R_mono eN.out (fun _ hk=>hk.2)),(by(with_reducible repeat(first|apply aA|apply aB|apply aC));exact Kd.R_mono fX.out (fun _ hk=>hk.2)),(by(with_reducible repeat(first|apply aA|apply aB|apply aC));exact Kd.R_mono fM.out (fun _ hk=>⟨hk.1.2,hk.2⟩)),(gB bY.out),(gB dU.out),GW184.out,yP.out,eY.out,kL.out,(gW HB.out)⟩)
     rintro⟨v173,v177,v181,dQ⟩ w50 ⟨hS_,h0_,h1_,h2_,h3_,h4_,h5_,h6_,h7_,h8_,h9_,h10_,h11_,h12_,h13_,h14_,h15_⟩
     have cE:Aside0 (Kd.R Kd.string 9 w50 w.heap.size (fun _=>True) (.slice iG y145.length iH) y145):=⟨h0_⟩;have cF:Aside0 (Kd.N k72 72 w50 w.heap.size (fun k_=>some k_≠(.slice iG y145.length iH:Value).ownBlock∧some k_≠(.slice jA y154.length jB:Value).ownBlock∧some k_≠(.slice yW y161.length yX:Value).ownBlock∧some k_≠(.slice uJ y164.length uK:Value).ownBlock∧some k_≠(v168:Value).ownBlock∧some k_≠(v173:Value).ownBlock∧some k_≠(v177:Value).ownBlock∧some k_≠(v181:Value).ownBlock∧k_≠dI∧k_≠dQ) (.slice fV y148.length fW) y148):=⟨h1_⟩;have cH:Aside0 (Kd.N k35 35 w50 w.heap.size (fun k_=>some k_≠(.slice iG y145.length iH:Value).ownBlock∧some k_≠(.slice fV y148.length fW:Value).ownBlock∧some k_≠(.slice yW y161.length yX:Value).ownBlock∧some k_≠(.slice uJ y164.length uK:Value).ownBlock∧some k_≠(v168:Value).ownBlock∧some k_≠(v173:Value).ownBlock∧some k_≠(v177:Value).ownBlock∧some k_≠(v181:Value).ownBlock∧k_≠dI∧k_≠dQ) (.slice jA y154.length jB) y154):=⟨h2_⟩;have cM:Aside0 (Kd.N (Kd.slice 3 (Kd.int .i64)) 32 w50 w.heap.size (fun k_=>some k_≠(.slice iG y145.length iH:Value).ownBlock∧some k_≠(.slice fV y148.length fW:Value).ownBlock∧some k_≠(.slice jA y154.length jB:Value).ownBlock∧some k_≠(.slice uJ y164.length uK:Value).ownBlock∧some k_≠(v168:Value).ownBlock∧some k_≠(v173:Value).ownBlock∧some k_≠(v177:Value).ownBlock∧some k_≠(v181:Value).ownBlock∧k_≠dI∧k_≠dQ) (.slice yW y161.length yX) y161):=⟨h3_⟩;have dH:Aside0 (Kd.R (Kd.int .i64) 3 w50 w.heap.size (fun k_=>some k_≠(v168:Value).ownBlock∧some k_≠(v181:Value).ownBlock) (.slice uJ y164.length uK) y164):=⟨h4_⟩;have dN:Aside0 (Kd.R (Kd.int .i64) 3 w50 w.heap.size (fun k_=>some k_≠(.slice uJ y164.length uK:Value).ownBlock∧some k_≠(v181:Value).ownBlock) v168 t167):=⟨h5_⟩;have dY:Aside0 (Kd.R k43 43 w50 w.heap.size (fun k_=>some k_≠(v177:Value).ownBlock) v173 t172):=⟨h6_⟩;have fB:Aside0 (Kd.R k43 43 w50 w.heap.size (fun k_=>some k_≠(v173:Value).ownBlock) v177 t176):=⟨h7_⟩;have gO:Aside0 (Kd.R (Kd.int .i64) 3 w50 w.heap.size (fun k_=>some k_≠(.slice uJ y164.length uK:Value).ownBlock∧some k_≠(v168:Value).ownBlock) v181 t180):=⟨h8_⟩;have hJ:Aside0 (w50.heap[dI]?=some (.cells #[.slice iG y145.length iH,.slice fV y148.length fW,.int .i64 0,.int .i64 0,.slice jA y154.length jB] 26 (0,0))):=⟨h9_⟩;have eS:Aside0 (w50.heap[dQ]?=some (.cells #[.slice none 0 0,.bool false] 31 (0,0))):=⟨h10_⟩;have eW:Aside0 (w.heap.size≤dQ):=⟨h11_⟩;have fF:Aside0 (w.heap.size≤dQ):=⟨h12_⟩;have fL:Aside0 (dI≠dQ):=⟨h13_⟩;have iE:Aside0 (dQ≠dI):=⟨h14_⟩;have mP:Aside0 (Below w.heap.size w w50):=⟨h15_⟩;clear cS cV dC dM dT dW bY HB h0_ h1_ h2_ h3_ h4_ h5_ h6_ h7_ h8_ h9_ h10_ h11_ h12_ h13_ h14_ h15_;have cS:=cE;have cV:=cF;have dC:=cH;have dM:=cM;have dT:=dH;have dW:=dN;have eN:=dY;have fX:=fB;have fM:=gO;have bY:=hJ;have dU:=eS;have GW184:=eW;have yP:=fF;have eY:=fL;have kL:=iE;have HB:=mP;clear cE cF cH cM dH dN dY fB gO hJ eS eW fF fL iE mP;have hHeld:w50.cell? ⟨dI,0,none⟩=some (.slice iG y145.length iH)∧w50.cell? ⟨dI,1,none⟩=some (.slice fV y148.length fW)∧w50.cell? ⟨dI,2,none⟩=some (.int .i64 0)∧w50.cell? ⟨dI,3,none⟩=some (.int .i64 0)∧w50.cell? ⟨dI,4,none⟩=some (.slice jA y154.length jB):=hS_;obtain⟨uH,uI,JC⟩:=Kd.R_slice fX.out
     (first|subst JC|(injection JC with f1_ f2_ f3_;have f4_:=f1_.symm;have f5_:=f3_.symm;clear f1_ f2_ f3_;subst f4_;subst f5_))
     refine norm_ (a':=?_) ?_ ?_
     rotate_left
     ·simp only [putAll,Act.put,List.setIfInBounds_toArray,List.set_cons_zero,List.set_cons_succ]
      rfl
     refine one_ (i:=9) (N:=none) #[T,T,T,T,T,T,T,T,T,T,F,F] rfl rfl (one_of HT_.out (by kernel_rfl)) (by decide) (fun K hK=>?_)
     have hs52:w50.cell? ⟨dQ,0,none⟩=some (.slice none 0 0):=(aG dU.out 0).trans rfl;have hfs52:=aH dU.out 0;have hns52_0:=eY.out;have hms52_0:=kL.out;have hs53:w50.cell? ⟨dQ,1,none⟩=some (.bool false):=(aG dU.out 1).trans rfl;have hfs53:=aH dU.out 1;have hns53_0:=eY.out;have hms53_0:=kL.out;refine skip_ (w1:=?_) (by rfl) rfl ?_ ?_
     rotate_left
     ·go_simp
      rfl
     refine hK.out _ _ ⟨((cell_far (p:=⟨dQ,_,none⟩) eY.out _).trans (((cell_far (p:=⟨dQ,_,none⟩) eY.out _).trans (hHeld.1)))),((cell_far (p:=⟨dQ,_,none⟩) eY.out _).trans (((cell_far (p:=⟨dQ,_,none⟩) eY.out _).trans (hHeld.2.1)))),((cell_far (p:=⟨dQ,_,none⟩) eY.out _).trans (((cell_far (p:=⟨dQ,_,none⟩) eY.out _).trans (hHeld.2.2.1)))),((cell_far (p:=⟨dQ,_,none⟩) eY.out _).trans (((cell_far (p:=⟨dQ,_,none⟩) eY.out _).trans (hHeld.2.2.2.1)))),((cell_far (p:=⟨dQ,_,none⟩) eY.out _).trans (((cell_far (p:=⟨dQ,_,none⟩) eY.out _).trans (hHeld.2.2.2.2))))⟩ (fun hHeld=>?_)
     clear hK K;refine pure_ (i:=10) (N:=some 7) (v:=?_) (a':=?_) #[T,T,T,T,T,T,T,T,T,T,T,F] rfl rfl (any_of HT_.out (by kernel_rfl)) (fun _ _ _ h=>h) (Or.inl ⟨by rfl,?_⟩) ?_ ?_
     rotate_left;(intro w';go_simp;with_reducible rfl);rotate_left;(simp only [pq];rfl)
     refine pure_ (i:=11) (N:=some 8) (v:=?_) (a':=?_) #[T,T,T,T,T,T,T,T,T,T,T,T] rfl rfl (any_of HT_.out (by kernel_rfl)) (fun _ _ _ h=>h) (Or.inl ⟨by rfl,?_⟩) ?_ ?_
     rotate_left;(intro w';go_simp;with_reducible rfl);rotate_left;(simp only [pq];rfl)
     refine done_ (done_of HT_.out (by kernel_rfl)) ?_
     have hnb54:=eY.out;have hnc54:=kL.out;have Bh:w50.cell? ⟨dI,0,none⟩=some (.slice iG y145.length iH):=(aG bY.out 0).trans rfl;have Bi:w50.cell? ⟨dI,1,none⟩=some (.slice fV y148.length fW):=(aG bY.out 1).trans rfl;have Bj:w50.cell? ⟨dI,2,none⟩=some (.int .i64 0):=(aG bY.out 2).trans rfl;have Bk:w50.cell? ⟨dI,3,none⟩=some (.int .i64 0):=(aG bY.out 3).trans rfl;have Bl:w50.cell? ⟨dI,4,none⟩=some (.slice jA y154.length jB):=(aG bY.out 4).trans rfl;have Bm:=aH bY.out 0;have Bn:=aH bY.out 1;have Bo:=aH bY.out 2;have Bp:=aH bY.out 3;have Bq:=aH bY.out 4
     try go_wp2_with (first|((with_reducible refine bJ (N:=42) rfl ?_);(try(refine gate_guard (by rfl) ?_;dsimp only));refine Kd.R_lit (Kd.int .i64) _ 3 ?hg (N:=42) ?hd (xs:=([1]:List Int)) (inner:= [.int .i64 1]) (ok:=fun _=>True) (okp:=fun _=>True) ?hr ?hp (fun _ hk=>hk) trivial (Below.refl _ _) (Nat.le_refl _) (by simp) ?_;(case hd=>rfl);(case hg=>rfl);(case hr=>first|(go_simp;done)|(go_simp;rfl));(case hp=>exact(Reps.one (show Kd.M (Kd.int .i64) _ _ _ 1 [.int .i64 1] from rfl) (Reps.none _ _)));intro v186 w56 ho57 hb hg_ hnew_;clear hg_ hnew_;(first|rw [←Yr.out] at ho57|(simp only [Int.reduceToNat] at ho57;rw [←Yr.out] at ho57));have cE:=aM (aD (by(with_reducible repeat(first|apply aA|apply aB|apply aC));exact(Kd.R_mono (aE (p:=⟨dQ,1,none⟩) (aE (p:=⟨dQ,0,none⟩) (Kd.R_types cS.out dU.out (by decide)) (fun _ hk=>hk.2) (.slice uH t176.length uI)) (fun _ hk=>hk.2) (.bool t179)) (fun _ h_=>h_.1))) hb);have cF:=aM (Kd.N_elder' (by(with_reducible repeat(first|apply Kd.N_alloc|apply aY|apply aZ));exact(Kd.N_mono (Kd.N_far (p:=⟨dQ,1,none⟩) (Kd.N_far (p:=⟨dQ,0,none⟩) (Kd.N_mono cV.out (fun k_ hk=>(⟨hk,hk.2.2.2.2.2.2.2.2.2⟩:_∧k_≠dQ))) (fun _ hk=>hk.2) (.slice uH t176.length uI)) (fun _ hk=>hk.2) (.bool t179)) (fun _ h_=>h_.1))) (Kd.R_base ho57) hb);have cH:=aM (Kd.N_elder' (by(with_reducible repeat(first|apply Kd.N_alloc|apply aY|apply aZ));exact(Kd.N_mono (Kd.N_far (p:=⟨dQ,1,none⟩) (Kd.N_far (p:=⟨dQ,0,none⟩) (Kd.N_mono dC.out (fun k_ hk=>(⟨hk,hk.2.2.2.2.2.2.2.2.2⟩:_∧k_≠dQ))) (fun _ hk=>hk.2) (.slice uH t176.length uI)) (fun _ hk=>hk.2) (.bool t179)) (fun _ h_=>h_.1))) (Kd.R_base ho57) hb);have cM:=aM (Kd.N_elder' (by(with_reducible repeat(first|apply Kd.N_alloc|apply aY|apply aZ));exact(Kd.N_mono (Kd.N_far (p:=⟨dQ,1,none⟩) (Kd.N_far (p:=⟨dQ,0,none⟩) (Kd.N_mono dM.out (fun k_ hk=>(⟨hk,hk.2.2.2.2.2.2.2.2.2⟩:_∧k_≠dQ))) (fun _ hk=>hk.2) (.slice uH t176.length uI)) (fun _ hk=>hk.2) (.bool t179)) (fun _ h_=>h_.1))) (Kd.R_base ho57) hb);have dH:=aM (bE (by(with_reducible repeat(first|apply aA|apply aB|apply aC));exact(Kd.R_mono (aE (p:=⟨dQ,1,none⟩) (aE (p:=⟨dQ,0,none⟩) (Kd.R_types dT.out dU.out (by decide)) (fun _ hk=>hk.2) (.slice uH t176.length uI)) (fun _ hk=>hk.2) (.bool t179)) (fun _ h_=>h_.1))) (Kd.R_base ho57) hb);have dN:=aM (bE (by(with_reducible repeat(first|apply aA|apply aB|apply aC));exact(Kd.R_mono (aE (p:=⟨dQ,1,none⟩) (aE (p:=⟨dQ,0,none⟩) (Kd.R_types dW.out dU.out (by decide)) (fun _ hk=>hk.2) (.slice uH t176.length uI)) (fun _ hk=>hk.2) (.bool t179)) (fun _ h_=>h_.1))) (Kd.R_base ho57) hb);have dY:=aM (aD (by(with_reducible repeat(first|apply aA|apply aB|apply aC));exact(Kd.R_mono (aE (p:=⟨dQ,1,none⟩) (aE (p:=⟨dQ,0,none⟩) (Kd.R_types eN.out dU.out (by decide)) (fun _ hk=>hk.2) (.slice uH t176.length uI)) (fun _ hk=>hk.2) (.bool t179)) (fun _ h_=>h_.1))) hb);have fB:=aM (aD (by(with_reducible repeat(first|apply aA|apply aB|apply aC));exact(Kd.R_mono (aE (p:=⟨dQ,1,none⟩) (aE (p:=⟨dQ,0,none⟩) (Kd.R_types fX.out dU.out (by decide)) (fun _ hk=>hk.2) (.slice uH t176.length uI)) (fun _ hk=>hk.2) (.bool t179)) (fun _ h_=>h_.1))) hb);have gO:=aM (bE (by(with_reducible repeat(first|apply aA|apply aB|apply aC));exact(Kd.R_mono (aE (p:=⟨dQ,1,none⟩) (aE (p:=⟨dQ,0,none⟩) (Kd.R_types fM.out dU.out (by decide)) (fun _ hk=>hk.2) (.slice uH t176.length uI)) (fun _ hk=>hk.2) (.bool t179)) (fun _ h_=>h_.1))) (Kd.R_base ho57) hb);have hJ:=aM (bL (Kd.R_new' (Kd.R_new' (Kd.R_new' ho57 (Kd.R_lt (by(with_reducible repeat(first|apply aA|apply aB|apply aC));exact(Kd.R_mono (aE (p:=⟨dQ,1,none⟩) (aE (p:=⟨dQ,0,none⟩) (Kd.R_types dT.out dU.out (by decide)) (fun _ hk=>hk.2) (.slice uH t176.length uI)) (fun _ hk=>hk.2) (.bool t179)) (fun _ h_=>h_.1))))) (Kd.R_lt (by(with_reducible repeat(first|apply aA|apply aB|apply aC));exact(Kd.R_mono (aE (p:=⟨dQ,1,none⟩) (aE (p:=⟨dQ,0,none⟩) (Kd.R_types dW.out dU.out (by decide)) (fun _ hk=>hk.2) (.slice uH t176.length uI)) (fun _ hk=>hk.2) (.bool t179)) (fun _ h_=>h_.1))))) (Kd.R_lt (by(with_reducible repeat(first|apply aA|apply aB|apply aC));exact(Kd.R_mono (aE (p:=⟨dQ,1,none⟩) (aE (p:=⟨dQ,0,none⟩) (Kd.R_types fM.out dU.out (by decide)) (fun _ hk=>hk.2) (.slice uH t176.length uI)) (fun _ hk=>hk.2) (.bool t179)) (fun _ h_=>h_.1))))) (bH (by repeat(first|(with_reducible first|exact HB.out|apply aN|apply aP|apply aO|refine aL ?_ Mq.out|refine aL ?_ yP.out)|exact HB.out))));have eS:=aM (bF (g:=dI) (o:= .cells #[.slice iG y145.length iH,.slice fV y148.length fW,.int .i64 0,.int .i64 0,.slice jA y154.length jB] 26 (0,0)) (by(with_reducible repeat(first|refine aJ ?_ _|refine aK ?_|refine aI ?_ _));refine blk_far ?_ eY.out _;(with_reducible repeat(first|refine aJ ?_ _|refine aK ?_|refine aI ?_ _));refine blk_far ?_ eY.out _;(with_reducible repeat(first|refine aJ ?_ _|refine aK ?_|refine aI ?_ _));exact bY.out) hb);have eW:=aM (bF (g:=dQ) (o:= .cells #[.slice uH t176.length uI,.bool t179] 31 (0,0)) (by(with_reducible repeat(first|refine aJ ?_ _|refine aK ?_|refine aI ?_ _));refine blk_put (cs:=#[.slice uH t176.length uI,.bool false]) ?_ 1 _ rfl;(with_reducible repeat(first|refine aJ ?_ _|refine aK ?_|refine aI ?_ _));refine blk_put (cs:=#[.slice none 0 0,.bool false]) ?_ 0 _ rfl;(with_reducible repeat(first|refine aJ ?_ _|refine aK ?_|refine aI ?_ _));exact dU.out) hb);have fF:=aM (bG (by repeat(first|(with_reducible first|exact HB.out|apply aN|apply aP|apply aO|refine aL ?_ Mq.out|refine aL ?_ yP.out)|exact HB.out)) hb);clear cS;clear cV;clear dC;clear dM;clear dT;clear dW;clear eN;clear fX;clear fM;clear bY;clear dU;clear HB;have cS:=cE;have cV:=cF;have dC:=cH;have dM:=cM;have dT:=dH;have dW:=dN;have eN:=dY;have fX:=fB;have fM:=gO;have iI:=hJ;have bY:=eS;have dU:=eW;have HB:=fF;clear cE cF cH cM dH dN dY fB gO hJ eS eW fF;clear hb ho57;obtain⟨SF,JD,Vs⟩:=Kd.R_slice iI.out;subst Vs)|((with_reducible refine bI (f:=22) rfl ?_);refine goesL_ (some 43) rfl rfl Try.func22 (by kernel_rfl) rfl #[.agg #[.slice iG y145.length iH,.slice fV y148.length fW,.int .i64 0,.int .i64 0,.slice jA y154.length jB],.slice yW y161.length yX,.slice SF y185.length JD] rfl (by(try simp only [List.map_toArray,List.map_cons,List.map_nil]);first|done|rfl|(simp only [List.length_drop,List.length_take];rfl)) ?_;(with_reducible refine(machine_Run.calls k _ _ y145 _ _ y148 0 0 _ _ y154 _ _ y161 _ _ y185 t188 t191 t192 _ ?side1 ?side2 ?side3 ?side4 ?side5 ?side6 ?side7 ?side8 ?side9 ?side10 A5.out).mono ?_);(case side1=>exact gC (aF cS.out).2.2);(case side2=>exact(aF cS.out).2.1);(case side3=>exact gC (aT cV.out).2.2);(case side4=>exact(aT cV.out).2.1);(case side5=>exact gC (aT dC.out).2.2);(case side6=>exact(aT dC.out).2.1);(case side7=>exact gC (aT dM.out).2.2);(case side8=>exact(aT dM.out).2.1);(case side9=>exact gC (aF iI.out).2.2);(case side10=>exact(aF iI.out).2.1);rintro e w59 ⟨v189,rfl,ho0,hb⟩;refine⟨_,rfl,?_⟩;have cE:=aM (aD (gR cS.out) hb);have cF:=aM (Kd.N_elder' (gN cV.out) (Kd.R_base ho0) hb);have cH:=aM (Kd.N_elder' (gN dC.out) (Kd.R_base ho0) hb);have cM:=aM (Kd.N_elder' (gN dM.out) (Kd.R_base ho0) hb);have dH:=aM (bE (gR dT.out) (Kd.R_base ho0) hb);have dN:=aM (bE (gR dW.out) (Kd.R_base ho0) hb);have dY:=aM (aD (gR eN.out) hb);have fB:=aM (aD (gR fX.out) hb);have gO:=aM (bE (gR fM.out) (Kd.R_base ho0) hb);have hJ:=aM (bE (gR iI.out) (Kd.R_base ho0) hb);have eS:=aM (bL (Kd.R_new' (Kd.R_new' (Kd.R_new' (Kd.R_new' ho0 (Kd.R_lt (gR dT.out))) (Kd.R_lt (gR dW.out))) (Kd.R_lt (gR fM.out))) (Kd.R_lt (gR iI.out))) (bH (gW HB.out)));have eW:=aM (bF (gB bY.out) hb);have fF:=aM (bF (gB dU.out) hb);have fL:=aM (bG (gW HB.out) hb);clear cS;clear cV;clear dC;clear dM;clear dT;clear dW;clear eN;clear fX;clear fM;clear iI;clear bY;clear dU;clear HB;have cS:=cE;have cV:=cF;have dC:=cH;have dM:=cM;have dT:=dH;have dW:=dN;have eN:=dY;have fX:=fB;have fM:=gO;have iI:=hJ;have kE:=eS;have bY:=eW;have dU:=fF;have HB:=fL;clear cE cF cH cM dH dN dY fB gO hJ eS eW fF fL;(try clear hb);(try clear hb2);(try clear hk);(try clear hi);(try clear ho0)))
     have cE:=aM (aC cS.out);have cF:=aM (aZ cV.out);have cH:=aM (aZ dC.out);have cM:=aM (aZ dM.out);have dH:=aM (aC dT.out);have dN:=aM (aC dW.out);have dY:=aM (aC eN.out);have fB:=aM (aC fX.out);have gO:=aM (aC fM.out);have hJ:=aM (aC iI.out);have eS:=aM (aC kE.out);have eW:=aM (aK bY.out);have fF:=aM (aK dU.out);have fL:=aM (aO HB.out);clear cS cV dC dM dT dW eN fX fM iI kE bY dU HB;have cS:=cE;have cV:=cF;have dC:=cH;have dM:=cM;have dT:=dH;have dW:=dN;have eN:=dY;have fX:=fB;have fM:=gO;have iI:=hJ;have kE:=eS;have bY:=eW;have dU:=fF;have HB:=fL;clear cE cF cH cM dH dN dY fB gO hJ eS eW fF fL;refine start_ (n:=40) (S:=fun w'=>w'.cell? ⟨dQ,0,none⟩=some (.slice uH t176.length uI)∧w'.cell? ⟨dQ,1,none⟩=some (.bool t179)∧w'.cell? ⟨dI,0,none⟩=some (.slice iG y145.length iH)∧w'.cell? ⟨dI,1,none⟩=some (.slice fV y148.length fW)∧w'.cell? ⟨dI,2,none⟩=some (.int .i64 0)∧w'.cell? ⟨dI,3,none⟩=some (.int .i64 0)∧w'.cell? ⟨dI,4,none⟩=some (.slice jA y154.length jB)) (ds:= []) #[F,F,F,F,F,F,F,F,F,F,F,F,F,F,F,F,F,F,F,F,F,F,F,F,F,F,F,F,F,F,F,F,F,F,F,F,F,F,F,F] (by kernel_rfl) rfl rfl ⟨(aG dU.out 0).trans rfl,(aG dU.out 1).trans rfl,(aG bY.out 0).trans rfl,(aG bY.out 1).trans rfl,(aG bY.out 2).trans rfl,(aG bY.out 3).trans rfl,(aG bY.out 4).trans rfl⟩ (fun hHeld=>?_);refine with_tabW regletlaw16_awake.tab6 regletlaw16_awake.bits6 (fun HT_ HW_=>?_)
     generalize w59.drew=w60 at cS cV dC dM dT dW eN fX fM iI kE bY dU HB hHeld ⊢;refine pure_ (i:=0) (N:=some 47) (v:=?_) (a':=?_) #[T,F,F,F,F,F,F,F,F,F,F,F,F,F,F,F,F,F,F,F,F,F,F,F,F,F,F,F,F,F,F,F,F,F,F,F,F,F,F,F] rfl rfl (any_of HT_.out (by kernel_rfl)) (fun _ _ _ h=>h) (Or.inl ⟨by rfl,?_⟩) ?_ ?_
     rotate_left;(intro w';go_simp;with_reducible rfl);rotate_left;(simp only [pq];rfl)
     refine pure_ (i:=1) (N:=some 48) (v:=?_) (a':=?_) #[T,T,F,F,F,F,F,F,F,F,F,F,F,F,F,F,F,F,F,F,F,F,F,F,F,F,F,F,F,F,F,F,F,F,F,F,F,F,F,F] rfl rfl (any_of HT_.out (by kernel_rfl)) (fun _ _ _ h=>h) (Or.inl ⟨by rfl,?_⟩) ?_ ?_
     rotate_left;(intro w';go_simp;with_reducible rfl);rotate_left;(simp only [pq];rfl)
     refine pure_ (i:=2) (N:=some 49) (v:=?_) (a':=?_) #[T,T,T,F,F,F,F,F,F,F,F,F,F,F,F,F,F,F,F,F,F,F,F,F,F,F,F,F,F,F,F,F,F,F,F,F,F,F,F,F] rfl rfl (any_of HT_.out (by kernel_rfl)) (fun _ _ _ h=>h) (Or.inl ⟨by rfl,?_⟩) ?_ ?_
     rotate_left;(intro w';go_simp;with_reducible rfl);rotate_left;(simp only [pq];rfl)
     refine pure_ (i:=3) (N:=some 50) (v:=?_) (a':=?_) #[T,T,T,T,F,F,F,F,F,F,F,F,F,F,F,F,F,F,F,F,F,F,F,F,F,F,F,F,F,F,F,F,F,F,F,F,F,F,F,F] rfl rfl (any_of HT_.out (by kernel_rfl)) (fun _ _ _ h=>h) (Or.inl ⟨by rfl,?_⟩) ?_ ?_
     rotate_left;(intro w';go_simp;with_reducible rfl);rotate_left;(simp only [pq];rfl)
     refine one_ (i:=4) (N:=some 51) #[T,T,T,T,T,F,F,F,F,F,F,F,F,F,F,F,F,F,F,F,F,F,F,F,F,F,F,F,F,F,F,F,F,F,F,F,F,F,F,F] rfl rfl (one_of HT_.out (by kernel_rfl)) (by decide) (fun K hK=>?_)
     refine Kd.R_lit_step (Kd.int .i64) _ 3 ?hg (N:=51) ?hd (xs:=([0,0,1]:List Int)) (inner:= [.int .i64 0,.int .i64 0,.int .i64 1]) (ok:=fun _=>True) (okp:=fun _=>True) ?hr ?hp (fun _ hk=>hk) trivial (Below.refl _ _) (Nat.le_refl _) (by simp) ?_;(case hd=>rfl);(case hg=>rfl);(case hr=>first|(go_simp;done)|(go_simp;rfl));(case hp=>exact(Reps.one (show Kd.M (Kd.int .i64) _ _ _ 0 [.int .i64 0] from rfl) (Reps.one (show Kd.M (Kd.int .i64) _ _ _ 0 [.int .i64 0] from rfl) (Reps.one (show Kd.M (Kd.int .i64) _ _ _ 1 [.int .i64 1] from rfl) (Reps.none _ _)))))
     intro v194 w61 ho62 hb hg_ hnew_;clear hg_ hnew_
     (first|rw [←Ys.out] at ho62|(simp only [Int.reduceToNat] at ho62;rw [←Ys.out] at ho62))
     have cE:=aM (aD (gR cS.out) hb);have cF:=aM (Kd.N_elder' (gN cV.out) (Kd.R_base ho62) hb);have cH:=aM (Kd.N_elder' (gN dC.out) (Kd.R_base ho62) hb);have cM:=aM (Kd.N_elder' (gN dM.out) (Kd.R_base ho62) hb);have dH:=aM (bE (gR dT.out) (Kd.R_base ho62) hb);have dN:=aM (bE (gR dW.out) (Kd.R_base ho62) hb);have dY:=aM (aD (gR eN.out) hb);have fB:=aM (aD (gR fX.out) hb);have gO:=aM (bE (gR fM.out) (Kd.R_base ho62) hb);have hJ:=aM (bE (gR iI.out) (Kd.R_base ho62) hb);have eS:=aM (bE (gR kE.out) (Kd.R_base ho62) hb);have eW:=aM (bL (Kd.R_new' (Kd.R_new' (Kd.R_new' (Kd.R_new' (Kd.R_new' ho62 (Kd.R_lt (gR dT.out))) (Kd.R_lt (gR dW.out))) (Kd.R_lt (gR fM.out))) (Kd.R_lt (gR iI.out))) (Kd.R_lt (gR kE.out))) (bH (gW HB.out)));have fF:=aM (bF (gB bY.out) hb);have fL:=aM (bF (gB dU.out) hb);have iE:=aM (bG (gW HB.out) hb);clear cS cV dC dM dT dW eN fX fM iI kE bY dU HB;have cS:=cE;have cV:=cF;have dC:=cH;have dM:=cM;have dT:=dH;have dW:=dN;have eN:=dY;have fX:=fB;have fM:=gO;have iI:=hJ;have kE:=eS;have mA:=eW;have bY:=fF;have dU:=fL;have HB:=iE;clear cE cF cH cM dH dN dY fB gO hJ eS eW fF fL iE hb ho62;obtain⟨SG,SH,JE⟩:=Kd.R_slice dW.out
     (first|subst JE|(injection JE with f1_ f2_ f3_;have f4_:=f1_.symm;have f5_:=f3_.symm;clear f1_ f2_ f3_;subst f4_;subst f5_))
     obtain⟨SI,SJ,JF⟩:=Kd.R_slice mA.out
     (first|subst JF|(injection JF with f1_ f2_ f3_;have f4_:=f1_.symm;have f5_:=f3_.symm;clear f1_ f2_ f3_;subst f4_;subst f5_))
     refine hK.out _ _ ⟨(aG dU.out 0).trans rfl,(aG dU.out 1).trans rfl,(aG bY.out 0).trans rfl,(aG bY.out 1).trans rfl,(aG bY.out 2).trans rfl,(aG bY.out 3).trans rfl,(aG bY.out 4).trans rfl⟩ (fun hHeld=>?_)
     clear hK K;refine norm_ (a':=?_) ?_ ?_
     rotate_left
     ·show Act.put _ (some 51) _=_
      simp only [pq];rfl
     refine one_ (i:=5) (N:=some 52) #[T,T,T,T,T,T,F,F,F,F,F,F,F,F,F,F,F,F,F,F,F,F,F,F,F,F,F,F,F,F,F,F,F,F,F,F,F,F,F,F] rfl rfl (one_of HT_.out (by kernel_rfl)) (by decide) (fun K hK=>?_)
     refine goes_ Try.func24 (by kernel_rfl) rfl #[.slice SG t167.length SH,.slice SI y193.length SJ] (by rfl) rfl rfl (by(try simp only [List.map_toArray,List.map_cons,List.map_nil]);first|done|rfl|(simp only [List.length_drop,List.length_take];rfl)) ?_
     with_reducible refine(regletref13_SameInts.calls k _ _ t167 _ _ y193 true _ ?side1 ?side2 ?side3 ?side4 A7.out).mono ?_
     (case side1=>exact gC (aF dW.out).2.2)
     (case side2=>exact(aF dW.out).2.1)
     (case side3=>exact gC (aF mA.out).2.2)
     (case side4=>exact(aF mA.out).2.1)
     rintro e w' ⟨rfl,⟨nd,rfl⟩⟩
     refine⟨_,rfl,?_⟩
     refine hK.out _ _ ⟨(aG dU.out 0).trans rfl,(aG dU.out 1).trans rfl,(aG bY.out 0).trans rfl,(aG bY.out 1).trans rfl,(aG bY.out 2).trans rfl,(aG bY.out 3).trans rfl,(aG bY.out 4).trans rfl⟩ (fun hHeld=>?_)
     clear hK K;refine norm_ (a':=?_) ?_ ?_
     rotate_left
     ·show Act.put _ (some 52) _=_
      simp only [pq];rfl
     refine pure_ (i:=6) (N:=some 53) (v:=?_) (a':=?_) #[T,T,T,T,T,T,T,F,F,F,F,F,F,F,F,F,F,F,F,F,F,F,F,F,F,F,F,F,F,F,F,F,F,F,F,F,F,F,F,F] rfl rfl (any_of HT_.out (by kernel_rfl)) (fun _ _ _ h=>h) (Or.inl ⟨by rfl,?_⟩) ?_ ?_
     rotate_left;(intro w';go_simp;with_reducible rfl);rotate_left;(simp only [pq];rfl)
     refine pure_ (i:=7) (N:=some 54) (v:=?_) (a':=?_) #[T,T,T,T,T,T,T,T,F,F,F,F,F,F,F,F,F,F,F,F,F,F,F,F,F,F,F,F,F,F,F,F,F,F,F,F,F,F,F,F] rfl rfl (any_of HT_.out (by kernel_rfl)) (fun _ _ _ h=>h) (Or.inl ⟨by rfl,?_⟩) ?_ ?_
     rotate_left;(intro w';go_simp;with_reducible rfl);rotate_left;(simp only [pq];rfl)
     refine pure_ (i:=8) (N:=some 55) (v:=?_) (a':=?_) #[T,T,T,T,T,T,T,T,T,F,F,F,F,F,F,F,F,F,F,F,F,F,F,F,F,F,F,F,F,F,F,F,F,F,F,F,F,F,F,F] rfl rfl (any_of HT_.out (by kernel_rfl)) (fun _ _ _ h=>h) (Or.inl ⟨by rfl,?_⟩) ?_ ?_
     rotate_left;(intro w';go_simp;with_reducible rfl);rotate_left;(simp only [pq];rfl)
     refine pure_ (i:=9) (N:=some 56) (v:=?_) (a':=?_) #[T,T,T,T,T,T,T,T,T,T,F,F,F,F,F,F,F,F,F,F,F,F,F,F,F,F,F,F,F,F,F,F,F,F,F,F,F,F,F,F] rfl rfl (any_of HT_.out (by kernel_rfl)) (fun _ _ _ h=>h) (Or.inl ⟨by rfl,?_⟩) ?_ ?_
     rotate_left;(intro w';go_simp;with_reducible rfl);rotate_left;(simp only [pq];rfl)
     refine pure_ (i:=10) (N:=some 57) (v:=?_) (a':=?_) #[T,T,T,T,T,T,T,T,T,T,T,F,F,F,F,F,F,F,F,F,F,F,F,F,F,F,F,F,F,F,F,F,F,F,F,F,F,F,F,F] rfl rfl (any_of HT_.out (by kernel_rfl)) (fun _ _ _ h=>h) (Or.inl ⟨by rfl,?_⟩) ?_ ?_
     rotate_left;(intro w';go_simp;with_reducible rfl);rotate_left;(simp only [pq];rfl)
     refine pure_ (i:=11) (N:=some 58) (v:=?_) (a':=?_) #[T,T,T,T,T,T,T,T,T,T,T,T,F,F,F,F,F,F,F,F,F,F,F,F,F,F,F,F,F,F,F,F,F,F,F,F,F,F,F,F] rfl rfl (any_of HT_.out (by kernel_rfl)) (fun _ _ _ h=>h) (Or.inl ⟨by rfl,?_⟩) ?_ ?_
     rotate_left;(intro w';go_simp;with_reducible rfl);rotate_left;(simp only [pq];rfl)
     refine pure_ (i:=12) (N:=some 59) (v:=?_) (a':=?_) #[T,T,T,T,T,T,T,T,T,T,T,T,T,F,F,F,F,F,F,F,F,F,F,F,F,F,F,F,F,F,F,F,F,F,F,F,F,F,F,F] rfl rfl (any_of HT_.out (by kernel_rfl)) (fun _ _ _ h=>h) (Or.inl ⟨by rfl,?_⟩) ?_ ?_
     rotate_left;(intro w';go_simp;with_reducible rfl);rotate_left;(simp only [pq];rfl)
     refine one_ (i:=13) (N:=some 60) #[T,T,T,T,T,T,T,T,T,T,T,T,T,T,F,F,F,F,F,F,F,F,F,F,F,F,F,F,F,F,F,F,F,F,F,F,F,F,F,F] rfl rfl (one_of HT_.out (by kernel_rfl)) (by decide) (fun K hK=>?_)
     refine Kd.R_lit_step (Kd.int .i64) _ 3 ?hg (N:=60) ?hd (xs:=([0]:List Int)) (inner:= [.int .i64 0]) (ok:=fun _=>True) (okp:=fun _=>True) ?hr ?hp (fun _ hk=>hk) trivial (Below.refl _ _) (Nat.le_refl _) (by simp) ?_;(case hd=>rfl);(case hg=>rfl);(case hr=>first|(go_simp;done)|(go_simp;rfl));(case hp=>exact(Reps.one (show Kd.M (Kd.int .i64) _ _ _ 0 [.int .i64 0] from rfl) (Reps.none _ _)))
     intro v198 w65 ho66 hb hg_ hnew_;clear hg_ hnew_
     (first|rw [←Yt.out] at ho66|(simp only [Int.reduceToNat] at ho66;rw [←Yt.out] at ho66))
     have cE:=aM (aD (gR cS.out) hb);have cF:=aM (Kd.N_elder' (gN cV.out) (Kd.R_base ho66) hb);have cH:=aM (Kd.N_elder' (gN dC.out) (Kd.R_base ho66) hb);have cM:=aM (Kd.N_elder' (gN dM.out) (Kd.R_base ho66) hb);have dH:=aM (bE (gR dT.out) (Kd.R_base ho66) hb);have dN:=aM (bE (gR dW.out) (Kd.R_base ho66) hb);have dY:=aM (aD (gR eN.out) hb);have fB:=aM (aD (gR fX.out) hb);have gO:=aM (bE (gR fM.out) (Kd.R_base ho66) hb);have hJ:=aM (bE (gR iI.out) (Kd.R_base ho66) hb);have eS:=aM (bE (gR kE.out) (Kd.R_base ho66) hb);have eW:=aM (bE (gR mA.out) (Kd.R_base ho66) hb);have fF:=aM (bL (Kd.R_new' (Kd.R_new' (Kd.R_new' (Kd.R_new' (Kd.R_new' (Kd.R_new' ho66 (Kd.R_lt (gR dT.out))) (Kd.R_lt (gR dW.out))) (Kd.R_lt (gR fM.out))) (Kd.R_lt (gR iI.out))) (Kd.R_lt (gR kE.out))) (Kd.R_lt (gR mA.out))) (bH (gW HB.out)));have fL:=aM (bF (gB bY.out) hb);have iE:=aM (bF (gB dU.out) hb);have mP:=aM (bG (gW HB.out) hb);clear cS cV dC dM dT dW eN fX fM iI kE mA bY dU HB;have cS:=cE;have cV:=cF;have dC:=cH;have dM:=cM;have dT:=dH;have dW:=dN;have eN:=dY;have fX:=fB;have fM:=gO;have iI:=hJ;have kE:=eS;have mA:=eW;have oC:=fF;have bY:=fL;have dU:=iE;have HB:=mP;clear cE cF cH cM dH dN dY fB gO hJ eS eW fF fL iE mP hb ho66;obtain⟨SK,SL,JG⟩:=Kd.R_slice fM.out
     (first|subst JG|(injection JG with f1_ f2_ f3_;have f4_:=f1_.symm;have f5_:=f3_.symm;clear f1_ f2_ f3_;subst f4_;subst f5_))
     obtain⟨SM,SN,JH⟩:=Kd.R_slice oC.out
     (first|subst JH|(injection JH with f1_ f2_ f3_;have f4_:=f1_.symm;have f5_:=f3_.symm;clear f1_ f2_ f3_;subst f4_;subst f5_))
     refine hK.out _ _ ⟨(aG dU.out 0).trans rfl,(aG dU.out 1).trans rfl,(aG bY.out 0).trans rfl,(aG bY.out 1).trans rfl,(aG bY.out 2).trans rfl,(aG bY.out 3).trans rfl,(aG bY.out 4).trans rfl⟩ (fun hHeld=>?_)
     clear hK K;refine norm_ (a':=?_) ?_ ?_
     rotate_left
     ·show Act.put _ (some 60) _=_
      simp only [pq];rfl
     refine one_ (i:=14) (N:=some 61) #[T,T,T,T,T,T,T,T,T,T,T,T,T,T,T,F,F,F,F,F,F,F,F,F,F,F,F,F,F,F,F,F,F,F,F,F,F,F,F,F] rfl rfl (one_of HT_.out (by kernel_rfl)) (by decide) (fun K hK=>?_)
     refine goes_ Try.func24 (by kernel_rfl) rfl #[.slice SK t180.length SL,.slice SM y197.length SN] (by rfl) rfl rfl (by(try simp only [List.map_toArray,List.map_cons,List.map_nil]);first|done|rfl|(simp only [List.length_drop,List.length_take];rfl)) ?_
     with_reducible refine(regletref13_SameInts.calls k _ _ t180 _ _ y197 true _ ?side1 ?side2 ?side3 ?side4 A10.out).mono ?_
     (case side1=>exact gC (aF fM.out).2.2)
     (case side2=>exact(aF fM.out).2.1)
     (case side3=>exact gC (aF oC.out).2.2)
     (case side4=>exact(aF oC.out).2.1)
     rintro e w' ⟨rfl,⟨nd,rfl⟩⟩
     refine⟨_,rfl,?_⟩
     refine hK.out _ _ ⟨(aG dU.out 0).trans rfl,(aG dU.out 1).trans rfl,(aG bY.out 0).trans rfl,(aG bY.out 1).trans rfl,(aG bY.out 2).trans rfl,(aG bY.out 3).trans rfl,(aG bY.out 4).trans rfl⟩ (fun hHeld=>?_)
     clear hK K;refine norm_ (a':=?_) ?_ ?_
     rotate_left
     ·show Act.put _ (some 61) _=_
      simp only [pq];rfl
     refine pure_ (i:=15) (N:=some 62) (v:=?_) (a':=?_) #[T,T,T,T,T,T,T,T,T,T,T,T,T,T,T,T,F,F,F,F,F,F,F,F,F,F,F,F,F,F,F,F,F,F,F,F,F,F,F,F] rfl rfl (any_of HT_.out (by kernel_rfl)) (fun _ _ _ h=>h) (Or.inl ⟨by rfl,?_⟩) ?_ ?_
     rotate_left;(intro w';go_simp;with_reducible rfl);rotate_left;(simp only [pq];rfl)
     refine pure_ (i:=16) (N:=some 63) (v:=?_) (a':=?_) #[T,T,T,T,T,T,T,T,T,T,T,T,T,T,T,T,T,F,F,F,F,F,F,F,F,F,F,F,F,F,F,F,F,F,F,F,F,F,F,F] rfl rfl (any_of HT_.out (by kernel_rfl)) (fun _ _ _ h=>h) (Or.inl ⟨by rfl,?_⟩) ?_ ?_
     rotate_left;(intro w';go_simp;with_reducible rfl);rotate_left;(simp only [pq];rfl)
     refine take_ (i:=17) (N:=some 64) (v:=?_) (a':=?_) #[T,T,T,T,T,T,T,T,T,T,T,T,T,T,T,T,T,T,F,F,F,F,F,F,F,F,F,F,F,F,F,F,F,F,F,F,F,F,F,F] rfl rfl (take_ofW HT_.out HW_.out (by kernel_rfl)) (fun _ _ _ h=>h) (Or.inl ⟨by rfl,?_⟩) hHeld ?_ ?_
     rotate_left
     ·rintro w' ⟨s0,s1,s2,s3,s4,s5,s6⟩
      go_simp
      with_reducible rfl
     rotate_left
     ·simp only [pq]
      rfl
     refine one_ (i:=18) (N:=some 65) #[T,T,T,T,T,T,T,T,T,T,T,T,T,T,T,T,T,T,T,F,F,F,F,F,F,F,F,F,F,F,F,F,F,F,F,F,F,F,F,F] rfl rfl (one_of HT_.out (by kernel_rfl)) (by decide) (fun K hK=>?_)
     refine goes_ Try.func17 (by kernel_rfl) rfl #[] (by rfl) rfl rfl (by(try simp only [List.map_toArray,List.map_cons,List.map_nil]);first|done|rfl|(simp only [List.length_drop,List.length_take];rfl)) ?_
     with_reducible refine(machine_Start.calls  t201 t204 _ A12.out).mono ?_
     rintro e w69 ⟨v202,rfl,ho0,hb⟩
     refine⟨_,rfl,?_⟩
     have cE:=aM (aD (gR cS.out) hb);have cF:=aM (Kd.N_elder' (gN cV.out) (Kd.R_base ho0) hb);have cH:=aM (Kd.N_elder' (gN dC.out) (Kd.R_base ho0) hb);have cM:=aM (Kd.N_elder' (gN dM.out) (Kd.R_base ho0) hb);have dH:=aM (aD (gR dT.out) hb);have dN:=aM (aD (gR dW.out) hb);have dY:=aM (bE (gR eN.out) (Kd.R_base ho0) hb);have fB:=aM (bE (gR fX.out) (Kd.R_base ho0) hb);have gO:=aM (aD (gR fM.out) hb);have hJ:=aM (aD (gR iI.out) hb);have eS:=aM (aD (gR kE.out) hb);have eW:=aM (aD (gR mA.out) hb);have fF:=aM (aD (gR oC.out) hb);have fL:=aM (bL (Kd.R_new' (Kd.R_new' ho0 (Kd.R_lt (gR eN.out))) (Kd.R_lt (gR fX.out))) (bH (gW HB.out)));have iE:=aM (bF (gB bY.out) hb);have mP:=aM (bF (gB dU.out) hb);have sR:=aM (bG (gW HB.out) hb);clear cS cV dC dM dT dW eN fX fM iI kE mA oC bY dU HB;have cS:=cE;have cV:=cF;have dC:=cH;have dM:=cM;have dT:=dH;have dW:=dN;have eN:=dY;have fX:=fB;have fM:=gO;have iI:=hJ;have kE:=eS;have mA:=eW;have oC:=fF;have sA:=fL;have bY:=iE;have dU:=mP;have HB:=sR;clear cE cF cH cM dH dN dY fB gO hJ eS eW fF fL iE mP sR
     (try clear hb);(try clear hb2);(try clear hk);(try clear hi);(try clear ho0)
     obtain⟨BG,BH,Vt⟩:=Kd.R_slice sA.out
     (first|subst Vt|(injection Vt with f1_ f2_ f3_;have f4_:=f1_.symm;have f5_:=f3_.symm;clear f1_ f2_ f3_;subst f4_;subst f5_))
     refine hK.out _ _ ⟨(aG dU.out 0).trans rfl,(aG dU.out 1).trans rfl,(aG bY.out 0).trans rfl,(aG bY.out 1).trans rfl,(aG bY.out 2).trans rfl,(aG bY.out 3).trans rfl,(aG bY.out 4).trans rfl⟩ (fun hHeld=>?_)
     clear hK K;refine norm_ (a':=?_) ?_ ?_
     rotate_left
     ·show Act.put _ (some 65) _=_
      simp only [pq];rfl
     refine one_ (i:=19) (N:=some 66) #[T,T,T,T,T,T,T,T,T,T,T,T,T,T,T,T,T,T,T,T,F,F,F,F,F,F,F,F,F,F,F,F,F,F,F,F,F,F,F,F] rfl rfl (one_of HT_.out (by kernel_rfl)) (by decide) (fun K hK=>?_)
     refine goes_ Try.func16 (by kernel_rfl) rfl #[.agg #[.slice uH t176.length uI,.bool t179],.agg #[.slice BG t201.length BH,.bool t204]] (by rfl) rfl rfl (by(try simp only [List.map_toArray,List.map_cons,List.map_nil]);first|done|rfl|(simp only [List.length_drop,List.length_take];rfl)) ?_
     with_reducible refine(regletref16_Same.calls k _ _ t176 t179 _ _ t201 t204 true _ ?side1 ?side2 ?side3 ?side4 A13.out).mono ?_
     (case side1=>exact gC (aF fX.out).2.2)
     (case side2=>exact(aF fX.out).2.1)
     (case side3=>exact gC (aF sA.out).2.2)
     (case side4=>exact(aF sA.out).2.1)
     rintro e w71 ⟨rfl,hb⟩
     refine⟨_,rfl,?_⟩
     have cE:=aM (aD (gR cS.out) hb);have cF:=aM (Kd.N_below (gN cV.out) hb);have cH:=aM (Kd.N_below (gN dC.out) hb);have cM:=aM (Kd.N_below (gN dM.out) hb);have dH:=aM (aD (gR dT.out) hb);have dN:=aM (aD (gR dW.out) hb);have dY:=aM (aD (gR eN.out) hb);have fB:=aM (aD (gR fX.out) hb);have gO:=aM (aD (gR fM.out) hb);have hJ:=aM (aD (gR iI.out) hb);have eS:=aM (aD (gR kE.out) hb);have eW:=aM (aD (gR mA.out) hb);have fF:=aM (aD (gR oC.out) hb);have fL:=aM (aD (gR sA.out) hb);have iE:=aM (bF (gB bY.out) hb);have mP:=aM (bF (gB dU.out) hb);have sR:=aM (bG (gW HB.out) hb);clear cS cV dC dM dT dW eN fX fM iI kE mA oC sA bY dU HB;have cS:=cE;have cV:=cF;have dC:=cH;have dM:=cM;have dT:=dH;have dW:=dN;have eN:=dY;have fX:=fB;have fM:=gO;have iI:=hJ;have kE:=eS;have mA:=eW;have oC:=fF;have sA:=fL;have bY:=iE;have dU:=mP;have HB:=sR;clear cE cF cH cM dH dN dY fB gO hJ eS eW fF fL iE mP sR
     (try clear hb);(try clear hb2);(try clear hk);(try clear hi)
     refine hK.out _ _ ⟨(aG dU.out 0).trans rfl,(aG dU.out 1).trans rfl,(aG bY.out 0).trans rfl,(aG bY.out 1).trans rfl,(aG bY.out 2).trans rfl,(aG bY.out 3).trans rfl,(aG bY.out 4).trans rfl⟩ (fun hHeld=>?_)
     clear hK K;refine norm_ (a':=?_) ?_ ?_
     rotate_left
     ·show Act.put _ (some 66) _=_
      simp only [pq];rfl
     refine pure_ (i:=20) (N:=some 67) (v:=?_) (a':=?_) #[T,T,T,T,T,T,T,T,T,T,T,T,T,T,T,T,T,T,T,T,T,F,F,F,F,F,F,F,F,F,F,F,F,F,F,F,F,F,F,F] rfl rfl (any_of HT_.out (by kernel_rfl)) (fun _ _ _ h=>h) (Or.inl ⟨by rfl,?_⟩) ?_ ?_
     rotate_left;(intro w';go_simp;with_reducible rfl);rotate_left;(simp only [pq];rfl)
     refine pure_ (i:=21) (N:=some 68) (v:=?_) (a':=?_) #[T,T,T,T,T,T,T,T,T,T,T,T,T,T,T,T,T,T,T,T,T,T,F,F,F,F,F,F,F,F,F,F,F,F,F,F,F,F,F,F] rfl rfl (any_of HT_.out (by kernel_rfl)) (fun _ _ _ h=>h) (Or.inl ⟨by rfl,?_⟩) ?_ ?_
     rotate_left;(intro w';go_simp;with_reducible rfl);rotate_left;(simp only [pq];rfl)
     refine pure_ (i:=22) (N:=some 69) (v:=?_) (a':=?_) #[T,T,T,T,T,T,T,T,T,T,T,T,T,T,T,T,T,T,T,T,T,T,T,F,F,F,F,F,F,F,F,F,F,F,F,F,F,F,F,F] rfl rfl (any_of HT_.out (by kernel_rfl)) (fun _ _ _ h=>h) (Or.inl ⟨by rfl,?_⟩) ?_ ?_
     rotate_left;(intro w';go_simp;with_reducible rfl);rotate_left;(simp only [pq];rfl)
     refine pure_ (i:=23) (N:=some 70) (v:=?_) (a':=?_) #[T,T,T,T,T,T,T,T,T,T,T,T,T,T,T,T,T,T,T,T,T,T,T,T,F,F,F,F,F,F,F,F,F,F,F,F,F,F,F,F] rfl rfl (any_of HT_.out (by kernel_rfl)) (fun _ _ _ h=>h) (Or.inl ⟨by rfl,?_⟩) ?_ ?_
     rotate_left;(intro w';go_simp;with_reducible rfl);rotate_left;(simp only [pq];rfl)
     refine pure_ (i:=24) (N:=some 71) (v:=?_) (a':=?_) #[T,T,T,T,T,T,T,T,T,T,T,T,T,T,T,T,T,T,T,T,T,T,T,T,T,F,F,F,F,F,F,F,F,F,F,F,F,F,F,F] rfl rfl (any_of HT_.out (by kernel_rfl)) (fun _ _ _ h=>h) (Or.inl ⟨by rfl,?_⟩) ?_ ?_
     rotate_left;(intro w';go_simp;with_reducible rfl);rotate_left;(simp only [pq];rfl)
     refine pure_ (i:=25) (N:=some 72) (v:=?_) (a':=?_) #[T,T,T,T,T,T,T,T,T,T,T,T,T,T,T,T,T,T,T,T,T,T,T,T,T,T,F,F,F,F,F,F,F,F,F,F,F,F,F,F] rfl rfl (any_of HT_.out (by kernel_rfl)) (fun _ _ _ h=>h) (Or.inl ⟨by rfl,?_⟩) ?_ ?_
     rotate_left;(intro w';go_simp;with_reducible rfl);rotate_left;(simp only [pq];rfl)
     refine pure_ (i:=26) (N:=some 73) (v:=?_) (a':=?_) #[T,T,T,T,T,T,T,T,T,T,T,T,T,T,T,T,T,T,T,T,T,T,T,T,T,T,T,F,F,F,F,F,F,F,F,F,F,F,F,F] rfl rfl (any_of HT_.out (by kernel_rfl)) (fun _ _ _ h=>h) (Or.inl ⟨by rfl,?_⟩) ?_ ?_
     rotate_left;(intro w';go_simp;with_reducible rfl);rotate_left;(simp only [pq];rfl)
     refine pure_ (i:=27) (N:=some 74) (v:=?_) (a':=?_) #[T,T,T,T,T,T,T,T,T,T,T,T,T,T,T,T,T,T,T,T,T,T,T,T,T,T,T,T,F,F,F,F,F,F,F,F,F,F,F,F] rfl rfl (any_of HT_.out (by kernel_rfl)) (fun _ _ _ h=>h) (Or.inl ⟨by rfl,?_⟩) ?_ ?_
     rotate_left;(intro w';go_simp;with_reducible rfl);rotate_left;(simp only [pq];rfl)
     refine pure_ (i:=28) (N:=some 75) (v:=?_) (a':=?_) #[T,T,T,T,T,T,T,T,T,T,T,T,T,T,T,T,T,T,T,T,T,T,T,T,T,T,T,T,T,F,F,F,F,F,F,F,F,F,F,F] rfl rfl (any_of HT_.out (by kernel_rfl)) (fun _ _ _ h=>h) (Or.inl ⟨by rfl,?_⟩) ?_ ?_
     rotate_left;(intro w';go_simp;with_reducible rfl);rotate_left;(simp only [pq];rfl)
     refine pure_ (i:=29) (N:=some 76) (v:=?_) (a':=?_) #[T,T,T,T,T,T,T,T,T,T,T,T,T,T,T,T,T,T,T,T,T,T,T,T,T,T,T,T,T,T,F,F,F,F,F,F,F,F,F,F] rfl rfl (any_of HT_.out (by kernel_rfl)) (fun _ _ _ h=>h) (Or.inl ⟨by rfl,?_⟩) ?_ ?_
     rotate_left;(intro w';go_simp;with_reducible rfl);rotate_left;(simp only [pq];rfl)
     refine pure_ (i:=31) (N:=some 78) (v:=?_) (a':=?_) #[T,T,T,T,T,T,T,T,T,T,T,T,T,T,T,T,T,T,T,T,T,T,T,T,T,T,T,T,T,T,F,T,F,F,F,F,F,F,F,F] rfl rfl (any_of HT_.out (by kernel_rfl)) (fun _ _ _ h=>h) (Or.inl ⟨by rfl,?_⟩) ?_ ?_
     rotate_left;(intro w';go_simp;with_reducible rfl);rotate_left;(simp only [pq];rfl)
     refine take_ (i:=30) (N:=some 77) (v:=?_) (a':=?_) #[T,T,T,T,T,T,T,T,T,T,T,T,T,T,T,T,T,T,T,T,T,T,T,T,T,T,T,T,T,T,T,T,F,F,F,F,F,F,F,F] rfl rfl (take_ofW HT_.out HW_.out (by kernel_rfl)) (fun _ _ _ h=>h) (Or.inl ⟨by rfl,?_⟩) hHeld ?_ ?_
     rotate_left
     ·rintro w' ⟨s0,s1,s2,s3,s4,s5,s6⟩
      go_simp
      with_reducible rfl
     rotate_left
     ·simp only [pq]
      rfl
     refine one_ (i:=32) (N:=some 79) #[T,T,T,T,T,T,T,T,T,T,T,T,T,T,T,T,T,T,T,T,T,T,T,T,T,T,T,T,T,T,T,T,T,F,F,F,F,F,F,F] rfl rfl (one_of HT_.out (by kernel_rfl)) (by decide) (fun K hK=>?_)
     refine goes_ Try.func25 (by kernel_rfl) rfl #[.agg #[.slice iG y145.length iH,.slice fV y148.length fW,.int .i64 0,.int .i64 0,.slice jA y154.length jB],.slice yW y161.length yX] (by rfl) rfl rfl (by(try simp only [List.map_toArray,List.map_cons,List.map_nil]);first|done|rfl|(simp only [List.length_drop,List.length_take];rfl)) ?_
     with_reducible refine(machine_Right.calls _ _ y145 _ _ y148 0 0 _ _ y154 _ _ y161 true _ ?side1 ?side2 ?side3 ?side4 ?side5 ?side6 ?side7 ?side8 A17.out).mono ?_
     (case side1=>exact gC (aF cS.out).2.2)
     (case side2=>exact(aF cS.out).2.1)
     (case side3=>exact gC (aT cV.out).2.2)
     (case side4=>exact(aT cV.out).2.1)
     (case side5=>exact gC (aT dC.out).2.2)
     (case side6=>exact(aT dC.out).2.1)
     (case side7=>exact gC (aT dM.out).2.2)
     (case side8=>exact(aT dM.out).2.1)
     rintro e w72 ⟨rfl,hb⟩
     refine⟨_,rfl,?_⟩
     have cE:=aM (aD (gR cS.out) hb);have cF:=aM (Kd.N_below (gN cV.out) hb);have cH:=aM (Kd.N_below (gN dC.out) hb);have cM:=aM (Kd.N_below (gN dM.out) hb);have dH:=aM (aD (gR dT.out) hb);have dN:=aM (aD (gR dW.out) hb);have dY:=aM (aD (gR eN.out) hb);have fB:=aM (aD (gR fX.out) hb);have gO:=aM (aD (gR fM.out) hb);have hJ:=aM (aD (gR iI.out) hb);have eS:=aM (aD (gR kE.out) hb);have eW:=aM (aD (gR mA.out) hb);have fF:=aM (aD (gR oC.out) hb);have fL:=aM (aD (gR sA.out) hb);have iE:=aM (bF (gB bY.out) hb);have mP:=aM (bF (gB dU.out) hb);have sR:=aM (bG (gW HB.out) hb);clear cS cV dC dM dT dW eN fX fM iI kE mA oC sA bY dU HB;have cS:=cE;have cV:=cF;have dC:=cH;have dM:=cM;have dT:=dH;have dW:=dN;have eN:=dY;have fX:=fB;have fM:=gO;have iI:=hJ;have kE:=eS;have mA:=eW;have oC:=fF;have sA:=fL;have bY:=iE;have dU:=mP;have HB:=sR;clear cE cF cH cM dH dN dY fB gO hJ eS eW fF fL iE mP sR
     (try clear hb);(try clear hb2);(try clear hk);(try clear hi)
     refine hK.out _ _ ⟨(aG dU.out 0).trans rfl,(aG dU.out 1).trans rfl,(aG bY.out 0).trans rfl,(aG bY.out 1).trans rfl,(aG bY.out 2).trans rfl,(aG bY.out 3).trans rfl,(aG bY.out 4).trans rfl⟩ (fun hHeld=>?_)
     clear hK K;refine norm_ (a':=?_) ?_ ?_
     rotate_left
     ·show Act.put _ (some 79) _=_
      simp only [pq];rfl
     refine pure_ (i:=33) (N:=some 80) (v:=?_) (a':=?_) #[T,T,T,T,T,T,T,T,T,T,T,T,T,T,T,T,T,T,T,T,T,T,T,T,T,T,T,T,T,T,T,T,T,T,F,F,F,F,F,F] rfl rfl (any_of HT_.out (by kernel_rfl)) (fun _ _ _ h=>h) (Or.inl ⟨by rfl,?_⟩) ?_ ?_
     rotate_left;(intro w';go_simp;with_reducible rfl);rotate_left;(simp only [pq];rfl)
     refine pure_ (i:=34) (N:=some 81) (v:=?_) (a':=?_) #[T,T,T,T,T,T,T,T,T,T,T,T,T,T,T,T,T,T,T,T,T,T,T,T,T,T,T,T,T,T,T,T,T,T,T,F,F,F,F,F] rfl rfl (any_of HT_.out (by kernel_rfl)) (fun _ _ _ h=>h) (Or.inl ⟨by rfl,?_⟩) ?_ ?_
     rotate_left;(intro w';go_simp;with_reducible rfl);rotate_left;(simp only [pq];rfl)
     refine take_ (i:=35) (N:=some 82) (v:=?_) (a':=?_) #[T,T,T,T,T,T,T,T,T,T,T,T,T,T,T,T,T,T,T,T,T,T,T,T,T,T,T,T,T,T,T,T,T,T,T,T,F,F,F,F] rfl rfl (take_ofW HT_.out HW_.out (by kernel_rfl)) (fun _ _ _ h=>h) (Or.inl ⟨by rfl,?_⟩) hHeld ?_ ?_
     rotate_left
     ·rintro w' ⟨s0,s1,s2,s3,s4,s5,s6⟩
      go_simp
      with_reducible rfl
     rotate_left
     ·simp only [pq]
      rfl
     refine one_ (i:=36) (N:=some 83) #[T,T,T,T,T,T,T,T,T,T,T,T,T,T,T,T,T,T,T,T,T,T,T,T,T,T,T,T,T,T,T,T,T,T,T,T,T,F,F,F] rfl rfl (one_of HT_.out (by kernel_rfl)) (by decide) (fun K hK=>?_)
     refine goes_ Try.func25 (by kernel_rfl) rfl #[.agg #[.slice iG y145.length iH,.slice fV y148.length fW,.int .i64 0,.int .i64 0,.slice jA y154.length jB],.slice none 0 0] (by rfl) rfl rfl (by(try simp only [List.map_toArray,List.map_cons,List.map_nil]);first|done|rfl|(simp only [List.length_drop,List.length_take];rfl)) ?_
     refine(machine_Right.calls _ _ y145 _ _ y148 0 0 _ _ y154 _ _ ([]:List (List Int)) t207 _ ?side1 ?side2 ?side3 ?side4 ?side5 ?side6 ?side7 ?side8 A19.out).mono ?_
     (case side1=>exact gC (aF cS.out).2.2)
     (case side2=>exact(aF cS.out).2.1)
     (case side3=>exact gC (aT cV.out).2.2)
     (case side4=>exact(aT cV.out).2.1)
     (case side5=>exact gC (aT dC.out).2.2)
     (case side6=>exact(aT dC.out).2.1)
     (case side7=>exact Kd.C_nil _ _)
     (case side8=>exact Nat.le_refl _)
     rintro e w73 ⟨rfl,hb⟩
     refine⟨_,rfl,?_⟩
     have cE:=aM (aD (gR cS.out) hb);have cF:=aM (Kd.N_below (gN cV.out) hb);have cH:=aM (Kd.N_below (gN dC.out) hb);have cM:=aM (Kd.N_below (gN dM.out) hb);have dH:=aM (aD (gR dT.out) hb);have dN:=aM (aD (gR dW.out) hb);have dY:=aM (aD (gR eN.out) hb);have fB:=aM (aD (gR fX.out) hb);have gO:=aM (aD (gR fM.out) hb);have hJ:=aM (aD (gR iI.out) hb);have eS:=aM (aD (gR kE.out) hb);have eW:=aM (aD (gR mA.out) hb);have fF:=aM (aD (gR oC.out) hb);have fL:=aM (aD (gR sA.out) hb);have iE:=aM (bF (gB bY.out) hb);have mP:=aM (bF (gB dU.out) hb);have sR:=aM (bG (gW HB.out) hb);clear cS cV dC dM dT dW eN fX fM iI kE mA oC sA bY dU HB;have cS:=cE;have cV:=cF;have dC:=cH;have dM:=cM;have dT:=dH;have dW:=dN;have eN:=dY;have fX:=fB;have fM:=gO;have iI:=hJ;have kE:=eS;have mA:=eW;have oC:=fF;have sA:=fL;have bY:=iE;have dU:=mP;have HB:=sR;clear cE cF cH cM dH dN dY fB gO hJ eS eW fF fL iE mP sR
     (try clear hb);(try clear hb2);(try clear hk);(try clear hi)
     refine hK.out _ _ ⟨(aG dU.out 0).trans rfl,(aG dU.out 1).trans rfl,(aG bY.out 0).trans rfl,(aG bY.out 1).trans rfl,(aG bY.out 2).trans rfl,(aG bY.out 3).trans rfl,(aG bY.out 4).trans rfl⟩ (fun hHeld=>?_)
     clear hK K;refine norm_ (a':=?_) ?_ ?_
     rotate_left
     ·show Act.put _ (some 83) _=_
      simp only [pq];rfl
     refine pure_ (i:=37) (N:=some 84) (v:=?_) (a':=?_) #[T,T,T,T,T,T,T,T,T,T,T,T,T,T,T,T,T,T,T,T,T,T,T,T,T,T,T,T,T,T,T,T,T,T,T,T,T,T,F,F] rfl rfl (any_of HT_.out (by kernel_rfl)) (fun _ _ _ h=>h) (Or.inl ⟨by rfl,?_⟩) ?_ ?_
     rotate_left;(intro w';go_simp;with_reducible rfl);rotate_left;(simp only [pq];rfl)
     refine pure_ (i:=38) (N:=some 85) (v:=?_) (a':=?_) #[T,T,T,T,T,T,T,T,T,T,T,T,T,T,T,T,T,T,T,T,T,T,T,T,T,T,T,T,T,T,T,T,T,T,T,T,T,T,T,F] rfl rfl (any_of HT_.out (by kernel_rfl)) (fun _ _ _ h=>h) (Or.inl ⟨by rfl,?_⟩) ?_ ?_
     rotate_left;(intro w';go_simp;with_reducible rfl);rotate_left;(simp only [pq];rfl)
     refine pure_ (i:=39) (N:=some 0) (v:=?_) (a':=?_) #[T,T,T,T,T,T,T,T,T,T,T,T,T,T,T,T,T,T,T,T,T,T,T,T,T,T,T,T,T,T,T,T,T,T,T,T,T,T,T,T] rfl rfl (any_of HT_.out (by kernel_rfl)) (fun _ _ _ h=>h) (Or.inl ⟨by rfl,?_⟩) ?_ ?_
     rotate_left;(intro w';go_simp;with_reducible rfl);rotate_left;(simp only [pq];rfl)
     refine done_ (done_of HT_.out (by kernel_rfl)) ?_
     try go_wp2
     go_ret
     exact⟨by first|rfl|(simp [errW_none,errW_some]<;>rfl)|(simp [*,errW_none,errW_some]<;>rfl),gW HB.out⟩
    ·replace c18:=Bool.eq_false_iff.mpr c18
     subst c18;have H1:(none)=some r:=by rw [if_neg (show ¬(false=true) by decide)] at H;exact H
     clear H;have H:=H1;clear H1;exact absurd H (by simp)
   ·replace c14:=Bool.eq_false_iff.mpr c14
    subst c14;have H1:(none)=some r:=by rw [if_neg (show ¬(false=true) by decide)] at H;exact H
    clear H;have H:=H1;clear H1;exact absurd H (by simp)
  ·replace c11:=Bool.eq_false_iff.mpr c11
   subst c11;have H1:(none)=some r:=by rw [if_neg (show ¬(false=true) by decide)] at H;exact H
   clear H;have H:=H1;clear H1;exact absurd H (by simp)
 ·replace c8:=Bool.eq_false_iff.mpr c8
  subst c8;have H1:(none)=some r:=by rw [if_neg (show ¬(false=true) by decide)] at H;exact H
  clear H;have H:=H1;clear H1;exact absurd H (by simp)
attribute [local go_sem] max2_int min2_int max_two min_two max_three min_three max_four min_four   -- for this text's walks alone
set_option linter.unusedVariables false
set_option linter.unusedSimpArgs false
def regletlaw16_ran.f (k:Nat) (aU:List ByteArray) (aX:List (S72)) (bA:Int) (bB:Int) (aQ:List (S35)) (l1:List (List Int)) (l2:List Int):Option (Bool):=(machine_Run.f k aU aX bA bB aQ l1 l2).bind fun Cq=>((regletref16_Run.f k aU aX bA bB aQ l1 l2).bind fun sS=>((regletref13_SameInts.f k Cq.1 sS.1).bind fun t323=>(if t323=true then(if Cq.2.1=sS.2.1 then(some (Cq.2.2==sS.2.2)) else(none)) else(none))))
set_option maxHeartbeats 8000000 in
set_option maxRecDepth 100000 in
theorem regletlaw16_ran.calls (k:Nat) (bM:Option Addr) (bO:Nat) (aU:List ByteArray) (bQ:Option Addr) (bR:Nat) (aX:List (S72)) (bA:Int) (bB:Int) (bV:Option Addr) (bS:Nat) (aQ:List (S35)) (A1:Option Addr) (c1:Nat) (l1:List (List Int)) (A2:Option Addr) (c2:Nat) (l2:List Int) (r:Bool) (w:World) (dX:Kd.C Kd.string w bM aU.length aU) (eE:aU.length≤bO) (eF:Kd.C k72 w bQ aX.length aX) (eG:aX.length≤bR) (dZ:Kd.C k35 w bV aQ.length aQ) (eM:aQ.length≤bS) (hr1:Kd.C (Kd.slice 3 (Kd.int .i64)) w A1 l1.length l1) (hc1:l1.length≤c1) (hr2:Kd.C (Kd.int .i64) w A2 l2.length l2) (hc2:l2.length≤c2) (h:regletlaw16_ran.f k aU aX bA bB aQ l1 l2=some r):
 Calls Try.prog 12 #[.agg #[.slice bM aU.length bO,.slice bQ aX.length bR,.int .i64 bA,.int .i64 bB,.slice bV aQ.length bS],.slice A1 l1.length c1,.slice A2 l2.length c2] w fun e w'=>e= .returned (.bool r)∧Below w.heap.size w w':=by
 have hu26:=Try.underlying26;have fN:=aM dX;have fS:=aM eE;clear dX eE;have gA:=aM eF;have gD:=aM eG;clear eF eG;have eJ:=aM dZ;have gE:=aM eM;clear dZ eM;have HR1:=aM hr1;have HC1:=aM hc1;clear hr1 hc1;have HR2:=aM hr2;have HC2:=aM hc2;clear hr2 hc2;have HB:=aM (Below.refl w.heap.size w);have H:((machine_Run.f k aU aX bA bB aQ l1 l2).bind fun Cq=>((regletref16_Run.f k aU aX bA bB aQ l1 l2).bind fun sS=>((regletref13_SameInts.f k Cq.1 sS.1).bind fun t323=>(if t323=true then(if Cq.2.1=sS.2.1 then(some (Cq.2.2==sS.2.2)) else(none)) else(none)))))=some r:=h;clear h;replace H:=Option.bind_eq_some_iff.mp H;obtain⟨⟨t313,t316,t317⟩,A40,H⟩:=H;replace H:((regletref16_Run.f k aU aX bA bB aQ l1 l2).bind fun sS=>((regletref13_SameInts.f k t313 sS.1).bind fun t323=>(if t323=true then(if t316=sS.2.1 then(some (t317==sS.2.2)) else(none)) else(none))))=some r:=H;have A4:=aM A40;clear A40;replace H:=Option.bind_eq_some_iff.mp H;obtain⟨⟨t318,t321,t322⟩,A50,H⟩:=H;replace H:((regletref13_SameInts.f k t313 t318).bind fun t323=>(if t323=true then(if t316=t321 then(some (t317==t322)) else(none)) else(none)))=some r:=H;have A5:=aM A50;clear A50;replace H:=Option.bind_eq_some_iff.mp H;obtain⟨t323,A60,H⟩:=H;replace H:(if t323=true then(if t316=t321 then(some (t317==t322)) else(none)) else(none))=some r:=H;have A6:=aM A60;clear A60
 by_cases c7:t323=true
 ·subst c7
  have H1:(if t316=t321 then(some (t317==t322)) else(none))=some r:=by rw [if_pos rfl] at H;exact H
  clear H;have H:=H1;clear H1
  by_cases c8:t316=t321
  rotate_left
  ·rw [if_neg c8] at H
   exact absurd H (by simp)
  rw [if_pos c8] at H;have WE:(t316==t321)=true:=beq_iff_eq.mpr c8;have WF:(t316 !=t321)=false:=bne_eq_false_iff_eq.mpr c8;clear c8;obtain rfl:=Option.some.inj H;go_enter Try.func12,Try.ntmps12
  go_wp2_with (first|((with_reducible refine bJ (N:=3) rfl ?_);refine box_event ?hg (N:=3) ?hd (cs:=#[.slice bM aU.length bO,.slice bQ aX.length bR,.int .i64 bA,.int .i64 bB,.slice bV aQ.length bS]) (t:=26) ?hr ?_;(case hd=>rfl);(case hg=>rfl);(case hr=>first|(go_simp;done)|(go_simp;rfl));intro sB hg w9 hbox hb;have cE:=aM (bG (gW HB.out) hb);have cF:=aM (hbox);have cH:=aM ((by rw [hg];exact(bH (gW HB.out)):w.heap.size≤sB));have cM:=aM ((by rw [hg];exact(bH (gW HB.out)):w.heap.size≤sB));clear HB;have HB:=cE;have jH:=cF;have GW312:=cH;have UU:=cM;clear cE cF cH cM;clear hb hbox hg;have nM:w9.cell? ⟨sB,0,none⟩=some (.slice bM aU.length bO):=(aG jH.out 0).trans rfl;have nN:w9.cell? ⟨sB,1,none⟩=some (.slice bQ aX.length bR):=(aG jH.out 1).trans rfl;have uA:w9.cell? ⟨sB,2,none⟩=some (.int .i64 bA):=(aG jH.out 2).trans rfl;have uB:w9.cell? ⟨sB,3,none⟩=some (.int .i64 bB):=(aG jH.out 3).trans rfl;have uC:w9.cell? ⟨sB,4,none⟩=some (.slice bV aQ.length bS):=(aG jH.out 4).trans rfl;have nO:=aH jH.out 0;have nP:=aH jH.out 1;have uD:=aH jH.out 2;have uE:=aH jH.out 3;have uF:=aH jH.out 4)|((with_reducible refine bI (f:=22) rfl ?_);refine goesL_ (some 17) rfl rfl Try.func22 (by kernel_rfl) rfl #[.agg #[.slice bM aU.length bO,.slice bQ aX.length bR,.int .i64 bA,.int .i64 bB,.slice bV aQ.length bS],.slice A1 l1.length c1,.slice A2 l2.length c2] rfl (by(try simp only [List.map_toArray,List.map_cons,List.map_nil]);first|done|rfl|(simp only [List.length_drop,List.length_take];rfl)) ?_;(with_reducible refine(machine_Run.calls k _ _ aU _ _ aX bA bB _ _ aQ _ _ l1 _ _ l2 t313 t316 t317 _ ?side1 ?side2 ?side3 ?side4 ?side5 ?side6 ?side7 ?side8 ?side9 ?side10 A4.out).mono ?_);(case side1=>exact gC (bD fN.out HB.out));(case side2=>exact fS.out);(case side3=>exact gC (bD gA.out HB.out));(case side4=>exact gD.out);(case side5=>exact gC (bD eJ.out HB.out));(case side6=>exact gE.out);(case side7=>exact gC (bD HR1.out HB.out));(case side8=>exact HC1.out);(case side9=>exact gC (bD HR2.out HB.out));(case side10=>exact HC2.out);rintro e w11 ⟨v314,rfl,ho0,hb⟩;refine⟨_,rfl,?_⟩;have cE:=aM (bL ho0 (bH (gW HB.out)));have cF:=aM (bF (gB jH.out) hb);have cH:=aM (bG (gW HB.out) hb);clear jH;clear HB;have Cr:=cE;have jH:=cF;have HB:=cH;clear cE cF cH;(try clear hb);(try clear hb2);(try clear hk);(try clear hi);(try clear ho0);have mU:w11.cell? ⟨sB,0,none⟩=some (.slice bM aU.length bO):=(aG jH.out 0).trans rfl;have mV:w11.cell? ⟨sB,1,none⟩=some (.slice bQ aX.length bR):=(aG jH.out 1).trans rfl;have NG:w11.cell? ⟨sB,2,none⟩=some (.int .i64 bA):=(aG jH.out 2).trans rfl;have NH:w11.cell? ⟨sB,3,none⟩=some (.int .i64 bB):=(aG jH.out 3).trans rfl;have NI:w11.cell? ⟨sB,4,none⟩=some (.slice bV aQ.length bS):=(aG jH.out 4).trans rfl;have mW:=aH jH.out 0;have mX:=aH jH.out 1;have NJ:=aH jH.out 2;have NK:=aH jH.out 3;have NL:=aH jH.out 4)|((with_reducible refine bI (f:=28) rfl ?_);refine goesL_ (some 25) rfl rfl Try.func28 (by kernel_rfl) rfl #[.agg #[.slice bM aU.length bO,.slice bQ aX.length bR,.int .i64 bA,.int .i64 bB,.slice bV aQ.length bS],.slice A1 l1.length c1,.slice A2 l2.length c2] rfl (by(try simp only [List.map_toArray,List.map_cons,List.map_nil]);first|done|rfl|(simp only [List.length_drop,List.length_take];rfl)) ?_;(with_reducible refine(regletref16_Run.calls k _ _ aU _ _ aX bA bB _ _ aQ _ _ l1 _ _ l2 t318 t321 t322 _ ?side1 ?side2 ?side3 ?side4 ?side5 ?side6 ?side7 ?side8 ?side9 ?side10 A5.out).mono ?_);(case side1=>exact gC (bD fN.out HB.out));(case side2=>exact fS.out);(case side3=>exact gC (bD gA.out HB.out));(case side4=>exact gD.out);(case side5=>exact gC (bD eJ.out HB.out));(case side6=>exact gE.out);(case side7=>exact gC (bD HR1.out HB.out));(case side8=>exact HC1.out);(case side9=>exact gC (bD HR2.out HB.out));(case side10=>exact HC2.out);rintro e w13 ⟨v319,rfl,ho0,hb⟩;refine⟨_,rfl,?_⟩;have cE:=aM (bE (gR Cr.out) (Kd.R_base ho0) hb);have cF:=aM (bL (Kd.R_new' ho0 (Kd.R_lt (gR Cr.out))) (bH (gW HB.out)));have cH:=aM (bF (gB jH.out) hb);have cM:=aM (bG (gW HB.out) hb);clear Cr;clear jH;clear HB;have Cr:=cE;have Qx:=cF;have jH:=cH;have HB:=cM;clear cE cF cH cM;(try clear hb);(try clear hb2);(try clear hk);(try clear hi);(try clear ho0);obtain⟨CL,Zn,Zo⟩:=Kd.R_slice Cr.out;subst Zo;obtain⟨Cx,jT,BI⟩:=Kd.R_slice Qx.out;subst BI)|((with_reducible refine bI (f:=24) rfl ?_);refine goesL_ (some 31) rfl rfl Try.func24 (by kernel_rfl) rfl #[.slice CL t313.length Zn,.slice Cx t318.length jT] rfl (by(try simp only [List.map_toArray,List.map_cons,List.map_nil]);first|done|rfl|(simp only [List.length_drop,List.length_take];rfl)) ?_;(with_reducible refine(regletref13_SameInts.calls k _ _ t313 _ _ t318 true _ ?side1 ?side2 ?side3 ?side4 A6.out).mono ?_);(case side1=>exact gC (aF Cr.out).2.2);(case side2=>exact(aF Cr.out).2.1);(case side3=>exact gC (aF Qx.out).2.2);(case side4=>exact(aF Qx.out).2.1);rintro e w' ⟨rfl,⟨nd,rfl⟩⟩;refine⟨_,rfl,?_⟩))
  go_ret
  exact⟨by first|rfl|(simp [errW_none,errW_some]<;>rfl)|(simp [*,errW_none,errW_some]<;>rfl),gW HB.out⟩
 ·replace c7:=Bool.eq_false_iff.mpr c7
  subst c7;have H1:(none)=some r:=by rw [if_neg (show ¬(false=true) by decide)] at H;exact H
  clear H;have H:=H1;clear H1;exact absurd H (by simp)
end Go.Proofs.Ytapjfnfengefpaa.P
end

section
namespace Go.Proofs.Ytapjfnfengefpaa.M
open Go.RowKit Go.Proofs.YtapjfnfengefpaaW.PrintWords Go.Proofs.YtapjfnfengefpaaW.PrintLast Go.Proofs.YtapjfnfengefpaaW.PrintMore Go.Proofs.Ytapjfnfengefpaa.P Go.Proofs.Ytapjfnfengefpaa.H
set_option linter.unusedVariables false
set_option linter.unusedSimpArgs false
section
variable {l0:List ByteArray}{l1:List Tok}{a2 a3:Int}{ps:List Prod}{tb:List (List Int)}
theorem mFeed_len {nt:Nat}{ps:List Prod}{tb:List (List Int)}{look:Int}:∀(k:Nat) (st:List Sym) (sp:List Int) (R:Int×List Sym×List Int),mFeed nt ps tb look k st sp=some R→st.length≤10000→sp.length≤10000→R.2.2.length≤10000∧(R.1=0→R.2.1.length≤10000)
 |0,_,_,_,h,_,_=>by simp [mFeed] at h
 |k+1,[],sp,R,h,_,hs=>by
  rw [mFeed] at h;have h:=(Option.some.inj h).symm;subst h;exact⟨hs,fun _=>by simp⟩
 |k+1,x::st,sp,R,h,hl,hs=>by
  rw [mFeed] at h;simp only [List.length_cons] at hl
  split at h
  ·have h:=(Option.some.inj h).symm
   subst h;exact⟨hs,fun _=>by simp only;omega⟩
  ·split at h
   ·have h:=(Option.some.inj h).symm
    subst h;exact⟨hs,fun h=>by simp at h⟩
   ·split at h
    ·rename_i hc
     simp only [Bool.and_eq_true,decide_eq_true_eq] at hc;exact mFeed_len k _ _ R h hc.1 hc.2
    ·have h:=(Option.some.inj h).symm
     subst h;exact⟨by simp,fun h=>by simp at h⟩
theorem mFeedAll_len {nn nt:Nat}{ps:List Prod}{tb:List (List Int)}(st:List Sym) (d:Bool) (look:Int):(mFeedAll nn nt ps tb st d look).1.length≤10000∧(mFeedAll nn nt ps tb st d look).2.2.1.length≤10000:=by
 unfold mFeedAll
 split
 ·rename_i h
  split
  ·simp
  ·obtain⟨R,hR⟩:=mFeed_some (nt:=nt) (ps:=ps) (tb:=tb) (look:=look) 10002 st.reverse [] (by omega) (by simp)
   rw [hR];have ha:st.length≤10000:=by have:=h.2.1;simp only [stAwaits,Bool.and_eq_true,decide_eq_true_eq] at this;exact this.1
   have hl:=mFeed_len 10002 st.reverse [] R hR (by rw [List.length_reverse];exact ha) (by simp);obtain⟨e,s,p⟩:=R;have em:mOut (some (e,s,p))=if e=0 then(s.reverse,false,p,0) else([],true,p,e):=rfl
   rw [em]
   split
   ·rename_i he
    exact⟨by rw [List.length_reverse];exact hl.2 he,hl.1⟩
   ·exact⟨by simp,hl.1⟩
 ·simp
theorem mFeedAll_bad {nn nt:Nat}{ps:List Prod}{tb:List (List Int)}(st:List Sym) (d:Bool) {look:Int}(h:¬(0≤look∧look≤(nt:Int))):mFeedAll nn nt ps tb st d look=([],true,[],1):=by
 unfold mFeedAll
 rw [if_neg (fun hh=>h hh.2.2)]
def mRun (nn nt:Nat) (ps:List Prod) (tb:List (List Int)):List Int→Nat→List Sym→Bool→List Int→List Int×Int×Int
 | [],i,st,d,out=>if(mFeedAll nn nt ps tb st d (nt:Int)).2.2.2=0 then(out++(mFeedAll nn nt ps tb st d (nt:Int)).2.2.1,0,0) else([],(mFeedAll nn nt ps tb st d (nt:Int)).2.2.2,(i:Int))
 |x::rest,i,st,d,out=>
  if x<0∨(nt:Int)≤x then([],1,(i:Int))
  else if(mFeedAll nn nt ps tb st d x).2.2.2=0 then mRun nn nt ps tb rest (i+1) (mFeedAll nn nt ps tb st d x).1 (mFeedAll nn nt ps tb st d x).2.1 (out++(mFeedAll nn nt ps tb st d x).2.2.1)
  else([],(mFeedAll nn nt ps tb st d x).2.2.2,(i:Int))
set_option maxRecDepth 100000 in
theorem len_step {a b c n:Nat}(h:n≤a+c+10000 * (b+1)) (h2:c≤10000):n≤a+10000 * (b+1+1):=by omega
set_option maxRecDepth 100000 in
theorem len_end {a c:Nat}(h2:c≤10000):a+c≤a+10000 * (0+1):=by omega
theorem mRun_len {nn nt:Nat}{ps:List Prod}{tb:List (List Int)}:∀(rest:List Int) (i:Nat) (st:List Sym) (d:Bool) (out:List Int),(mRun nn nt ps tb rest i st d out).1.length≤out.length+10000 * (rest.length+1)
 | [],i,st,d,out=>by
  have hl:=mFeedAll_len (nn:=nn) (nt:=nt) (ps:=ps) (tb:=tb) st d (nt:Int);rw [mRun]
  split
  ·rw [List.length_append,List.length_nil];exact len_end hl.2
  ·simp
 |x::rest,i,st,d,out=>by
  have hl:=mFeedAll_len (nn:=nn) (nt:=nt) (ps:=ps) (tb:=tb) st d x;rw [mRun]
  split
  ·simp
  ·split
   ·have ih:=mRun_len (nn:=nn) (nt:=nt) (ps:=ps) (tb:=tb) rest (i+1) (mFeedAll nn nt ps tb st d x).1 (mFeedAll nn nt ps tb st d x).2.1 (out++(mFeedAll nn nt ps tb st d x).2.2.1)
    rw [List.length_append] at ih;rw [List.length_cons];exact len_step ih hl.2
   ·simp
theorem machRun_l0_ev (hf:Fit l1 ps tb) {l:List Int}(hl:l.length≤1000000):∀(rest pre:List Int) (st:List Sym) (d:Bool) (out:List Int),l=pre++rest→out.length≤10000 * pre.length→
 Ev (fun k=>machine_Run.l0 k tb l out (l++ [(l1.length:Int)]) ((l++ [(l1.length:Int)]).length:Int) (pre.length:Int) l0 l1 a2 a3 ps st d) (mRun l0.length l1.length ps tb rest pre.length st d out)
 | [],pre,st,d,out,e,ho=>by
  rw [List.append_nil] at e;subst e;have hs:=mFeedAll_len (nn:=l0.length) (nt:=l1.length) (ps:=ps) (tb:=tb) st d (l1.length:Int);have er:rd (l++ [(l1.length:Int)]) (l.length:Int)=(l1.length:Int):=getD_mid _ l _ [] _ rfl;have el:(l++ [(l1.length:Int)]).length=l.length+1:=by simp
  refine Ev.step (fun k=>by rw [machine_Run.l0]) (Ev.pos (by rw [el];omega) (Ev.pos (by omega) (Ev.pos (by rw [el];omega) (Ev.neg (by omega) ?_))))
  refine Ev.step (fun k=>by rw [machine_Run.j1]) (Ev.neg (by simp) ?_)
  rw [er];refine Ev.bind0 (machFeed_val hf st d _) ?_
  rw [mRun]
  by_cases h:(mFeedAll l0.length l1.length ps tb st d (l1.length:Int)).2.2.2=0
  ·rw [if_pos h]
   refine Ev.pos h (Ev.pos (by omega) ?_)
   refine Ev.step (fun k=>by rw [machine_Run.l0]) ?_
   refine Ev.neg ?_ (Ev.some rfl)
   rw [wrap64_id (by omega) (by omega),el];omega
  ·rw [if_neg h]
   exact Ev.neg h (Ev.some rfl)
 |x::rest,pre,st,d,out,e,ho=>by
  have hs:=mFeedAll_len (nn:=l0.length) (nt:=l1.length) (ps:=ps) (tb:=tb) st d x;have hlt:pre.length<l.length:=by rw [e];simp
  have el:(l++ [(l1.length:Int)]).length=l.length+1:=by simp
  have er:rd (l++ [(l1.length:Int)]) (pre.length:Int)=x:=by rw [e,List.append_assoc];exact getD_mid _ pre x _ _ rfl
  refine Ev.step (fun k=>by rw [machine_Run.l0]) (Ev.pos (by rw [el];omega) (Ev.pos (by omega) (Ev.pos (by rw [el];omega) (Ev.pos (by omega) ?_))))
  rw [er];rw [mRun]
  by_cases hx:x=(l1.length:Int)
  ·rw [if_pos (.inr (by omega))]
   refine Ev.step (fun k=>by rw [machine_Run.j1]) (Ev.pos (by simp [hx]) (Ev.some rfl))
  ·refine Ev.step (fun k=>by rw [machine_Run.j1]) (Ev.neg (by simp [hx]) (Ev.bind0 (machFeed_val hf st d _) ?_))
   by_cases hb:x<0∨(l1.length:Int)≤x
   ·rw [if_pos hb,mFeedAll_bad st d (by omega)]
    refine Ev.neg (by simp) (Ev.some rfl)
   ·rw [if_neg hb]
    by_cases h:(mFeedAll l0.length l1.length ps tb st d x).2.2.2=0
    ·rw [if_pos h]
     refine Ev.pos h (Ev.pos (by omega) ?_)
     have ih:=machRun_l0_ev hf hl rest (pre++ [x]) (mFeedAll l0.length l1.length ps tb st d x).1 (mFeedAll l0.length l1.length ps tb st d x).2.1 (out++(mFeedAll l0.length l1.length ps tb st d x).2.2.1) (by rw [List.append_assoc];exact e) (by simp only [List.length_append,List.length_singleton];omega);rw [←wrap_next pre x (by omega),show(pre++ [x]).length=pre.length+1 by simp] at ih;exact ih
    ·rw [if_neg h]
     exact Ev.neg h (Ev.some rfl)
theorem machRun_ev (hf:Fit l1 ps tb) {l:List Int}(hl:l.length≤1000000):Ev (fun k=>machine_Run.f k l0 l1 a2 a3 ps tb l) (mRun l0.length l1.length ps tb l 0 [⟨false,0⟩] false []):=by
 refine Ev.congr (fun k=>by rw [machine_Run.f]) ?_
 refine Ev.bind0 (a:=([(⟨false,0⟩:Sym)],false)) rfl ?_
 refine Ev.bind0 (a:=l) (by unfold slices_Clone_int_int.f;rw [if_pos (by omega)]) ?_
 refine Ev.bind0 (a:= [(l1.length:Int)]) rfl ?_
 refine Ev.pos (by rw [List.length_singleton];omega) ?_
 refine Ev.bind0 (a:=l++ [(l1.length:Int)]) rfl ?_
 exact machRun_l0_ev hf hl l [] [⟨false,0⟩] false [] rfl (by simp)
theorem refRun_l0_ev (hf:Fit l1 ps tb) {l:List Int}(hl:l.length≤1000000):∀(rest pre:List Int) (st:List Sym) (d:Bool) (out:List Int),l=pre++rest→out.length≤10000 * pre.length→st.length≤10000→
 Ev (fun k=>regletref16_Run.l0 k tb l out (pre.length:Int) l0 l1 a2 a3 ps st d) (mRun l0.length l1.length ps tb rest pre.length st d out)
 | [],pre,st,d,out,e,ho,hst=>by
  rw [List.append_nil] at e;subst e;have hs:=mFeedAll_len (nn:=l0.length) (nt:=l1.length) (ps:=ps) (tb:=tb) st d (l1.length:Int);refine Ev.step (fun k=>by rw [regletref16_Run.l0]) (Ev.pos (by omega) (Ev.neg (by omega) (Ev.bind (refFeed_ev hf st d _ (by omega)) ?_)))
  rw [mRun]
  by_cases h:(mFeedAll l0.length l1.length ps tb st d (l1.length:Int)).2.2.2=0
  ·rw [if_pos h]
   refine Ev.pos h (Ev.pos (by omega) ?_)
   refine Ev.step (fun k=>by rw [regletref16_Run.l0]) ?_
   refine Ev.neg ?_ (Ev.some rfl)
   rw [wrap64_id (by omega) (by omega)];omega
  ·rw [if_neg h]
   exact Ev.neg h (Ev.some rfl)
 |x::rest,pre,st,d,out,e,ho,hst=>by
  have hs:=mFeedAll_len (nn:=l0.length) (nt:=l1.length) (ps:=ps) (tb:=tb) st d x;have hlt:pre.length<l.length:=by rw [e];simp
  have er:rd l (pre.length:Int)=x:=by rw [e];exact getD_mid _ pre x _ _ rfl
  refine Ev.step (fun k=>by rw [regletref16_Run.l0]) (Ev.pos (by omega) (Ev.pos (by omega) (Ev.pos (by omega) ?_)))
  rw [er];rw [mRun]
  have hj:∀b:Bool,b=decide (x<0∨(l1.length:Int)≤x)→Ev (fun k=>regletref16_Run.j1 k tb l out (pre.length:Int) x b l0 l1 a2 a3 ps st d) (if x<0∨(l1.length:Int)≤x then([],1,(pre.length:Int)) else if(mFeedAll l0.length l1.length ps tb st d x).2.2.2=0 then mRun l0.length l1.length ps tb rest (pre.length+1) (mFeedAll l0.length l1.length ps tb st d x).1 (mFeedAll l0.length l1.length ps tb st d x).2.1 (out++(mFeedAll l0.length l1.length ps tb st d x).2.2.1) else([],(mFeedAll l0.length l1.length ps tb st d x).2.2.2,(pre.length:Int))):=by
   intro b hb;refine Ev.step (fun k=>by rw [regletref16_Run.j1]) ?_
   by_cases hx:x<0∨(l1.length:Int)≤x
   ·rw [if_pos hx]
    exact Ev.pos (by rw [hb];exact decide_eq_true hx) (Ev.some rfl)
   ·rw [if_neg hx]
    refine Ev.neg (by rw [hb,decide_eq_false hx];simp) (Ev.bind (refFeed_ev hf st d _ (by omega)) ?_)
    by_cases h:(mFeedAll l0.length l1.length ps tb st d x).2.2.2=0
    ·rw [if_pos h]
     refine Ev.pos h (Ev.pos (by omega) ?_)
     have ih:=refRun_l0_ev hf hl rest (pre++ [x]) (mFeedAll l0.length l1.length ps tb st d x).1 (mFeedAll l0.length l1.length ps tb st d x).2.1 (out++(mFeedAll l0.length l1.length ps tb st d x).2.2.1) (by rw [List.append_assoc];exact e) (by simp only [List.length_append,List.length_singleton];omega) hs.1;rw [←wrap_next pre x (by omega),show(pre++ [x]).length=pre.length+1 by simp] at ih;exact ih
    ·rw [if_neg h]
     exact Ev.neg h (Ev.some rfl)
  by_cases h0:x<0
  ·exact Ev.pos h0 (hj true (by simp [h0]))
  ·exact Ev.neg h0 (hj _ (by simp [h0]))
theorem refRun_ev (hf:Fit l1 ps tb) {l:List Int}(hl:l.length≤1000000):Ev (fun k=>regletref16_Run.f k l0 l1 a2 a3 ps tb l) (mRun l0.length l1.length ps tb l 0 [⟨false,0⟩] false []):=by
 refine Ev.congr (fun k=>by rw [regletref16_Run.f]) ?_
 refine Ev.bind0 (a:=([(⟨false,0⟩:Sym)],false)) rfl ?_
 exact refRun_l0_ev hf hl l [] [⟨false,0⟩] false [] rfl (by simp) (by simp)
end
end Go.Proofs.Ytapjfnfengefpaa.M
end

section
namespace Go.Proofs.Ytapjfnfengefpaa.M
open Go.RowKit Go.Proofs.YtapjfnfengefpaaW.PrintWords Go.Proofs.YtapjfnfengefpaaW.PrintLast Go.Proofs.YtapjfnfengefpaaW.PrintMore Go.Proofs.Ytapjfnfengefpaa.P Go.Proofs.Ytapjfnfengefpaa.H
theorem awake16_some:regletlaw16_awake.f 40=some true:=by kernel_rfl
theorem awake16_ev:Ev (fun k=>regletlaw16_awake.f k) true:=Ev.of regletlaw16_awake.mono awake16_some
end Go.Proofs.Ytapjfnfengefpaa.M
end

section
namespace Go.Proofs.Ytapjfnfengefpaa.M
open Go.RowKit Go.Proofs.YtapjfnfengefpaaW.PrintWords Go.Proofs.YtapjfnfengefpaaW.PrintLast Go.Proofs.YtapjfnfengefpaaW.PrintMore Go.Proofs.Ytapjfnfengefpaa.P Go.Proofs.Ytapjfnfengefpaa.H
set_option linter.unusedVariables false
set_option linter.unusedSimpArgs false
def rows0 (nn nt:Nat):List (List Bool):=List.replicate nn (none0 nt)
theorem rows0_sh (nn nt:Nat):Sh nn nt (rows0 nn nt):=⟨by simp [rows0],fun r hr=>by rw [List.eq_of_mem_replicate hr];simp [none0]⟩
theorem marks_l0_ev (l0:List ByteArray) (l1:List Tok) (a2 a3:Int) (l4:List Prod) (h0:l0.length≤1000000) (h1:l1.length≤1000000):∀(n:Nat) (out:List (List Bool)),out.length+n=l0.length→Ev (fun k=>regletref13_marks.l0 k out (out.length:Int) l0 l1 a2 a3 l4) (out++rows0 n l1.length)
 |0,out,h=>Ev.step (fun k=>by rw [regletref13_marks.l0]) (Ev.neg (by omega) (Ev.some (by simp [rows0])))
 |n+1,out,h=>by
  have ih:=marks_l0_ev l0 l1 a2 a3 l4 h0 h1 n (out++ [none0 l1.length]) (by simp;omega);rw [←wrap_next out _ (show out.length≤1000000 by omega)] at ih;have e:wrap64 ((l1.length:Int)+1)=((l1.length+1:Nat):Int):=by rw [wrap64_id (by omega) (by omega)];simp
  refine Ev.step (fun k=>by rw [regletref13_marks.l0,e]) (Ev.pos (by omega) (Ev.pos (by omega) (Ev.pos (by omega) (Ev.pos (by omega) ?_))))
  rw [Int.toNat_natCast];exact Ev.val ih (by simp [rows0,List.replicate_succ])
theorem marks_ev (l0:List ByteArray) (l1:List Tok) (a2 a3:Int) (l4:List Prod) (h0:l0.length≤1000000) (h1:l1.length≤1000000):Ev (fun k=>regletref13_marks.f k l0 l1 a2 a3 l4) (rows0 l0.length l1.length):=
 Ev.congr (fun k=>by rw [regletref13_marks.f]) (by simpa using marks_l0_ev l0 l1 a2 a3 l4 h0 h1 l0.length [] (by simp))
def sStep (nt:Nat) (em:List Bool) (m:List (List Bool)) (p:Prod):Bool×List (List Bool):=
 (moreL (m.getD p.f0.toNat []) (bg em m p.f1 (none0 nt)).1,m.set p.f0.toNat (orL (m.getD p.f0.toNat []) (bg em m p.f1 (none0 nt)).1))
theorem none0_length (nt:Nat):(none0 nt).length=nt+1:=by simp [none0]
theorem row_step {nn nt:Nat}{m:List (List Bool)}(hs:Sh nn nt m) {i:Nat}(hi:i<nn) {b:List Bool}(hb:b.length=nt+1):Sh nn nt (m.set i (orL (m.getD i []) b))∧cfs (m.set i (orL (m.getD i []) b))≤cfs m∧(moreL (m.getD i []) b=true→cfs (m.set i (orL (m.getD i []) b))<cfs m):=by
 have hr:=hs.get hi;have h1:=cf_orL (m.getD i []) b (by rw [hr,hb]);have h2:=cfs_set m i (orL (m.getD i []) b) (by rw [hs.1];exact hi) h1.1;exact⟨hs.set i (by rw [orL_length (by rw [hr,hb]),hr]),h2.1,fun h=>h2.2 (h1.2 h)⟩
theorem sStep_good {nn nt:Nat}(em:List Bool) {ps:List Prod}(hps:ps.all (okProd nn nt)=true):Good (Sh nn nt) cfs (sStep nt em) ps:=by
 intro st p hI hp;have hok:=List.all_eq_true.1 hps p hp;have hl:=okProd_left hok;exact row_step hI (by omega) (bg_length em hI p.f1 _ (okProd_right hok) (none0_length nt))
def fst (nn nt:Nat) (em:List Bool) (ps:List Prod):List (List Bool):=gOut (sStep nt em) ps (cfs (rows0 nn nt)) (rows0 nn nt)
theorem fst_sh (nn nt:Nat) (em:List Bool) {ps:List Prod}(hps:ps.all (okProd nn nt)=true):Sh nn nt (fst nn nt em ps):=
 gOut_I (sStep_good em hps) _ _ (rows0_sh nn nt)
theorem refFirst_l1_ev (l0:List ByteArray) (l1:List Tok) (a2 a3:Int) (em:List Bool) (he:em.length=l0.length) (h1:l1.length≤1000):∀(qs pre:List Prod) (m:List (List Bool)) (more:Bool),Sh l0.length l1.length m→qs.all (okProd l0.length l1.length)=true→pre.length+qs.length≤1000000→(∀p∈qs,p.f1.length≤1000000)→Ev (fun k=>regletref13_first.l1 l0 l1 a2 a3 (pre++qs) k m em more (pre.length:Int)) (gIn (sStep l1.length em) qs more m)
 | [],pre,m,more,_,_,_,_=>Ev.step (fun k=>by rw [regletref13_first.l1]) (Ev.neg (by simp) (Ev.some (by simp [gIn])))
 |p::qs,pre,m,more,hs,hok,h3,h4=>by
  simp only [List.length_cons] at h3;simp only [List.all_cons,Bool.and_eq_true] at hok;have ih:=fun m more hs=>refFirst_l1_ev l0 l1 a2 a3 em he h1 qs (pre++ [p]) m more hs hok.2 (by simp;omega) (fun p hp=>h4 p (List.mem_cons_of_mem _ hp))
  simp only [←wrap_next pre _ (show pre.length≤1000000 by omega),List.append_assoc,List.singleton_append] at ih;have hl:=okProd_left hok.1;have hs1:=hs.1;have hb:=bg_length em hs p.f1 _ (okProd_right hok.1) (none0_length l1.length);have hr:=hs.get (i:=p.f0.toNat) (by omega);have hg:=(sStep_good em (ps:= [p]) (by simp [hok.1])) m p hs (by simp);have e:rd_T35 (pre++p::qs) (pre.length:Int)=p:=getD_mid _ pre p qs _ rfl;refine Ev.step (fun k=>by rw [regletref13_first.l1]) ?_
  rw [e];refine Ev.pos (by simp;omega) (Ev.pos (by omega) (Ev.bind (refBegins_ev l0 l1 a2 a3 _ hs he h1 p.f1 (okProd_right hok.1) (h4 p List.mem_cons_self)) (Ev.pos hl.1 (Ev.pos (by omega) (Ev.bind (join_ev (m.getD p.f0.toNat []) (bg em m p.f1 (none0 l1.length)).1 (by rw [hr,hb]) (by omega)) ?_)))))
  refine Ev.val (ih _ _ hg.1) ?_
  rw [gIn]
  congr 1
  show(if(sStep l1.length em m p).1=true then true else more)=_
  cases (sStep l1.length em m p).1<;>rfl
theorem refFirst_l0_ev (l0:List ByteArray) (l1:List Tok) (a2 a3:Int) (l4:List Prod) (h:Small l4) (em:List Bool) (he:em.length=l0.length) (h1:l1.length≤1000) (hok:l4.all (okProd l0.length l1.length)=true):∀(n:Nat) (m:List (List Bool)),Sh l0.length l1.length m→cfs m≤n→Ev (fun k=>regletref13_first.l0 l0 l1 a2 a3 l4 k m em true) (gOut (sStep l1.length em) l4 n m)
 |n,m,hs,hn=>by
  obtain⟨g1,g2,g3⟩:=gIn_good (sStep_good em hok) false m hs;have h5:=refFirst_l1_ev l0 l1 a2 a3 em he h1 l4 [] m false hs hok (by have:=h.1;simpa using this) h.2;simp only [List.nil_append,List.length_nil,Int.natCast_zero] at h5;refine Ev.step (fun k=>by rw [regletref13_first.l0]) (Ev.pos rfl (Ev.bind h5 ?_))
  cases hr:(gIn (sStep l1.length em) l4 false m).1 with
  |false=>
   refine Ev.step (fun k=>by rw [regletref13_first.l0]) (Ev.neg (by simp) (Ev.some ?_))
   cases n<;>simp [gOut,hr]
  |true=>
   have hlt:=(g3 hr).resolve_left (by simp)
   cases n with
   |zero=>omega
   |succ n=>
    refine Ev.val (refFirst_l0_ev l0 l1 a2 a3 l4 h em he h1 hok n _ g1 (by omega)) ?_
    rw [gOut,if_pos hr]
theorem refFirst_ev (l0:List ByteArray) (l1:List Tok) (a2 a3:Int) (l4:List Prod) (h:Small l4) (h0:l0.length≤1000000) (h1:l1.length≤1000) (hok:l4.all (okProd l0.length l1.length)=true):Ev (fun k=>regletref13_first.f k l0 l1 a2 a3 l4) (fst l0.length l1.length (clo false l0.length l4) l4):=by
 refine Ev.congr (fun k=>by rw [regletref13_first.f]) (Ev.bind (marks_ev l0 l1 a2 a3 l4 h0 (by omega)) (Ev.bind (Ev.val (refEmpty_ev l0 l1 a2 a3 l4 h h0) (if_pos hok)) ?_))
 exact refFirst_l0_ev l0 l1 a2 a3 l4 h _ (clo_length l0.length l1.length false hok) h1 hok _ _ (rows0_sh l0.length l1.length) (Nat.le_refl _)
def fAdd (nt:Nat) (em:List Bool) (first:List (List Bool)) (left:Nat) (ys:List Sym) (out:List (List Bool)):List Bool:=
 if(bg em first ys (none0 nt)).2=true then orL (bg em first ys (none0 nt)).1 (out.getD left []) else(bg em first ys (none0 nt)).1
def fIn (nt:Nat) (em:List Bool) (first:List (List Bool)) (left:Nat):List Sym→Bool→List (List Bool)→Bool×List (List Bool)
 | [],g,out=>(g,out)
 |y::ys,g,out=>if y.f0=true then fIn nt em first left ys g out else
  fIn nt em first left ys (moreL (out.getD y.f1.toNat []) (fAdd nt em first left ys out)||g) (out.set y.f1.toNat (orL (out.getD y.f1.toNat []) (fAdd nt em first left ys out)))
def fStep (nt:Nat) (em:List Bool) (first:List (List Bool)) (out:List (List Bool)) (p:Prod):Bool×List (List Bool):=fIn nt em first p.f0.toNat p.f1 false out
theorem fAdd_length {nn nt:Nat}(em:List Bool) {first out:List (List Bool)}(hf:Sh nn nt first) (hs:Sh nn nt out) {left:Nat}(hl:left<nn) {ys:List Sym}(hok:ys.all (okSym nn nt)=true):(fAdd nt em first left ys out).length=nt+1:=by
 have hb:=bg_length em hf ys _ hok (none0_length nt)
 unfold fAdd
 split
 ·rw [orL_length (by rw [hb,hs.get hl]),hb]
 ·exact hb
theorem fIn_good {nn nt:Nat}(em:List Bool) {first:List (List Bool)}(hf:Sh nn nt first) {left:Nat}(hl:left<nn):∀(ys:List Sym) (g:Bool) (out:List (List Bool)),ys.all (okSym nn nt)=true→Sh nn nt out→Sh nn nt (fIn nt em first left ys g out).2∧cfs (fIn nt em first left ys g out).2≤cfs out∧((fIn nt em first left ys g out).1=true→g=true∨cfs (fIn nt em first left ys g out).2<cfs out)
 | [],g,out,_,hs=>⟨hs,Nat.le_refl _,fun h=> .inl h⟩
 |y::ys,g,out,hok,hs=>by
  simp only [List.all_cons,Bool.and_eq_true] at hok
  unfold fIn
  cases hy:y.f0 with
  |true=>rw [if_pos rfl];exact fIn_good em hf hl ys g out hok.2 hs
  |false=>
   rw [if_neg (by simp)];have hb:=okSym_rule hok.1 hy;obtain⟨h1,h2,h3⟩:=row_step hs (i:=y.f1.toNat) (by omega) (fAdd_length em hf hs hl hok.2);obtain⟨h4,h5,h6⟩:=fIn_good em hf hl ys (moreL (out.getD y.f1.toNat []) (fAdd nt em first left ys out)||g) _ hok.2 h1;refine⟨h4,Nat.le_trans h5 h2,fun h=>?_⟩
   rcases h6 h with h7|h7
   ·rcases(Bool.or_eq_true _ _).mp h7 with h8|h8
    ·exact .inr (Nat.lt_of_le_of_lt h5 (h3 h8))
    ·exact .inl h8
   ·exact .inr (Nat.lt_of_lt_of_le h7 h2)
theorem fStep_good {nn nt:Nat}(em:List Bool) {first:List (List Bool)}(hf:Sh nn nt first) {ps:List Prod}(hps:ps.all (okProd nn nt)=true):Good (Sh nn nt) cfs (fStep nt em first) ps:=by
 intro st p hI hp;have hok:=List.all_eq_true.1 hps p hp;have hl:=okProd_left hok;obtain⟨h1,h2,h3⟩:=fIn_good em hf (left:=p.f0.toNat) (by omega) p.f1 false st (okProd_right hok) hI;exact⟨h1,h2,fun h=>(h3 h).resolve_left (by simp)⟩
end Go.Proofs.Ytapjfnfengefpaa.M
end
