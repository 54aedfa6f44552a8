/- Packed texts of this claim: the walks of the functions, and their plain laws; see the claim's last text. -/
import Derived.Test.YtapjfnfengefpaaKMachineOne4
section
namespace Go.Proofs.Ytapjfnfengefpaa.P
open Go.RowKit Go.Proofs.YtapjfnfengefpaaW.PrintWords Go.Proofs.YtapjfnfengefpaaW.PrintLast Go.Proofs.YtapjfnfengefpaaW.PrintMore
attribute [local go_sem] max2_int min2_int max_two min_two max_three min_three max_four min_four   -- for this text's walks alone
set_option linter.unusedVariables false
set_option linter.unusedSimpArgs false
mutual
def machine_Run.l0:Nat→List (List Int)→List Int→List Int→List Int→Int→Int→List ByteArray→List (S72)→Int→Int→List (S35)→List (S43)→Bool→Option (List Int×Int×Int)
 |0,_,_,_,_,_,_,_,_,_,_,_,_,_=>none
 |k+1,x1,x2,x6,x22,x23,x24,x116000,x116001,x116002,x116003,x116004,x121000,x121001=>if x24<x23 then(if 0≤x24 then(if x24<(x22.length:Int) then(if x24<(x2.length:Int) then(machine_Run.j1 k x1 x2 x6 x24 (rd x22 x24) x22 x23 x24 ((rd x22 x24)==(x116001.length:Int)) x116000 x116001 x116002 x116003 x116004 x121000 x121001) else(machine_Run.j1 k x1 x2 x6 x24 (rd x22 x24) x22 x23 x24 false x116000 x116001 x116002 x116003 x116004 x121000 x121001)) else(none)) else(none)) else(some (x6,0,0))
def machine_Run.j1:Nat→List (List Int)→List Int→List Int→Int→Int→List Int→Int→Int→Bool→List ByteArray→List (S72)→Int→Int→List (S35)→List (S43)→Bool→Option (List Int×Int×Int)
 |0,_,_,_,_,_,_,_,_,_,_,_,_,_,_,_,_=>none
 |k+1,x1,x2,x6,x10,x11,x22,x23,x24,x39,x116000,x116001,x116002,x116003,x116004,x121000,x121001=>if x39=true then(some (([]:List Int),1,x10)) else((machine_Feed.f x116000 x116001 x116002 x116003 x116004 x1 x121000 x121001 x11).bind fun bt131=>(if bt131.2.2.2=0 then(if x6.length+bt131.2.2.1.length<17592186044416 then(machine_Run.l0 k x1 x2 (x6++bt131.2.2.1) x22 x23 (wrap64 (x24+1)) x116000 x116001 x116002 x116003 x116004 bt131.1 bt131.2.1) else(none)) else(some (([]:List Int),bt131.2.2.2,x10))))
end
def machine_Run.f (k:Nat) (l0_0:List ByteArray) (l0_1:List (S72)) (a0_2:Int) (a0_3:Int) (l0_4:List (S35)) (l1:List (List Int)) (l2:List Int):Option (List Int×Int×Int):=(machine_Start.f).bind fun bt116=>((slices_Clone_int_int.f l2).bind fun t121=>((some (([(l0_1.length:Int)]:List Int):List Int)).bind fun y124=>(if t121.length+y124.length<17592186044416 then((some (t121++y124:List Int)).bind fun y127=>(machine_Run.l0 k l1 l2 ([]:List Int) y127 (y127.length:Int) 0 l0_0 l0_1 a0_2 a0_3 l0_4 bt116.1 bt116.2)) else(none))))
theorem machine_Run.mono_l:∀k,(∀y0 y1 y2 y3 y4 y5 y6 y7 y8 y9 y10 y11 y12,LeO (machine_Run.l0 k y0 y1 y2 y3 y4 y5 y6 y7 y8 y9 y10 y11 y12) (machine_Run.l0 (k+1) y0 y1 y2 y3 y4 y5 y6 y7 y8 y9 y10 y11 y12))∧(∀y0 y1 y2 y3 y4 y5 y6 y7 y8 y9 y10 y11 y12 y13 y14 y15,LeO (machine_Run.j1 k y0 y1 y2 y3 y4 y5 y6 y7 y8 y9 y10 y11 y12 y13 y14 y15) (machine_Run.j1 (k+1) y0 y1 y2 y3 y4 y5 y6 y7 y8 y9 y10 y11 y12 y13 y14 y15))
 |0=>⟨fun _ _ _ _ _ _ _ _ _ _ _ _ _ r h=>by simp [machine_Run.l0] at h,fun _ _ _ _ _ _ _ _ _ _ _ _ _ _ _ _ r h=>by simp [machine_Run.j1] at h⟩
 |k+1=>by
  obtain⟨ih0,ih1⟩:=machine_Run.mono_l k
  refine⟨?_,?_⟩
  ·intro y0 y1 y2 y3 y4 y5 y6 y7 y8 y9 y10 y11 y12
   unfold machine_Run.l0
   repeat' first
   |(with_reducible exact ih0 _ _ _ _ _ _ _ _ _ _ _ _ _)
   |(with_reducible exact ih1 _ _ _ _ _ _ _ _ _ _ _ _ _ _ _ _)
   |(with_reducible exact LeO.refl _)
   |(with_reducible exact LeO.none _)
   |(with_reducible refine LeO.ite ?_ ?_)
   |(with_reducible refine LeO.bind ?_ (fun _=>?_))
   |exact ih0 _ _ _ _ _ _ _ _ _ _ _ _ _
   |exact ih1 _ _ _ _ _ _ _ _ _ _ _ _ _ _ _ _
   |exact LeO.none _
   |refine LeO.ite ?_ ?_
   |refine LeO.bind ?_ (fun _=>?_)
  ·intro y0 y1 y2 y3 y4 y5 y6 y7 y8 y9 y10 y11 y12 y13 y14 y15
   unfold machine_Run.j1
   repeat' first
   |(with_reducible exact ih0 _ _ _ _ _ _ _ _ _ _ _ _ _)
   |(with_reducible exact ih1 _ _ _ _ _ _ _ _ _ _ _ _ _ _ _ _)
   |(with_reducible exact LeO.refl _)
   |(with_reducible exact LeO.none _)
   |(with_reducible refine LeO.ite ?_ ?_)
   |(with_reducible refine LeO.bind ?_ (fun _=>?_))
   |exact ih0 _ _ _ _ _ _ _ _ _ _ _ _ _
   |exact ih1 _ _ _ _ _ _ _ _ _ _ _ _ _ _ _ _
   |exact LeO.none _
   |refine LeO.ite ?_ ?_
   |refine LeO.bind ?_ (fun _=>?_)
theorem machine_Run.mono:∀a0 a1 a2 a3 a4 a5 a6 k,LeO (machine_Run.f k a0 a1 a2 a3 a4 a5 a6) (machine_Run.f (k+1) a0 a1 a2 a3 a4 a5 a6):=by
 intro a0 a1 a2 a3 a4 a5 a6 k
 obtain⟨ih0,ih1⟩:=machine_Run.mono_l k
 unfold machine_Run.f
 repeat' first
  |(with_reducible exact ih0 _ _ _ _ _ _ _ _ _ _ _ _ _)
  |(with_reducible exact ih1 _ _ _ _ _ _ _ _ _ _ _ _ _ _ _ _)
  |(with_reducible exact LeO.refl _)
  |(with_reducible exact LeO.none _)
  |(with_reducible refine LeO.ite ?_ ?_)
  |(with_reducible refine LeO.bind ?_ (fun _=>?_))
  |exact ih0 _ _ _ _ _ _ _ _ _ _ _ _ _
  |exact ih1 _ _ _ _ _ _ _ _ _ _ _ _ _ _ _ _
  |exact LeO.none _
  |refine LeO.ite ?_ ?_
  |refine LeO.bind ?_ (fun _=>?_)
def machine_Run.T2:Bool×List (List Nat×List Nat):=(true,[([],[]),([0],[0]),([],[]),([2],[2]),([3],[3]),([4],[4]),([1,5,1],[1,5]),([6],[6]),([],[])])
def machine_Run.B2:List Nat:= [0,1,0,4,12,28,63,127,0]
theorem machine_Run.tab2:rtab .any (opsOf Try.f22 2)=machine_Run.T2:=by kernel_rfl
theorem machine_Run.bits2:waitsOk machine_Run.T2.2 machine_Run.B2=true:=by kernel_rfl
set_option maxHeartbeats 8000000 in
set_option maxRecDepth 100000 in
theorem machine_Run.calls (k:Nat) (A0_0:Option Addr) (c0_0:Nat) (l0_0:List ByteArray) (A0_1:Option Addr) (c0_1:Nat) (l0_1:List (S72)) (a0_2:Int) (a0_3:Int) (A0_4:Option Addr) (c0_4:Nat) (l0_4:List (S35)) (A1:Option Addr) (c1:Nat) (l1:List (List Int)) (A2:Option Addr) (c2:Nat) (l2:List Int) (r1:List Int) (r2:Int) (r3:Int) (w:World) (hr0_0:Kd.C Kd.string w A0_0 l0_0.length l0_0) (hc0_0:l0_0.length≤c0_0) (hr0_1:Kd.C k72 w A0_1 l0_1.length l0_1) (hc0_1:l0_1.length≤c0_1) (hr0_4:Kd.C k35 w A0_4 l0_4.length l0_4) (hc0_4:l0_4.length≤c0_4) (hr1:Kd.C (Kd.slice 3 (Kd.int .i64)) w A1 l1.length l1) (hc1:l1.length≤c1) (hr2:Kd.C (Kd.int .i64) w A2 l2.length l2) (hc2:l2.length≤c2) (h:machine_Run.f k l0_0 l0_1 a0_2 a0_3 l0_4 l1 l2=some (r1,r2,r3)):
 Calls Try.prog 22 #[.agg #[.slice A0_0 l0_0.length c0_0,.slice A0_1 l0_1.length c0_1,.int .i64 a0_2,.int .i64 a0_3,.slice A0_4 l0_4.length c0_4],.slice A1 l1.length c1,.slice A2 l2.length c2] w fun e w'=>∃v0_:Value,e= .returned (.tuple #[v0_,.int .i64 r2,.int .i64 r3])∧Kd.R (Kd.int .i64) 3 w' w.heap.size (fun _=>True) v0_ r1∧Below w.heap.size w w':=by
 have hu26:=Try.underlying26
 have hu31:=Try.underlying31
 have HR0_0:=aM hr0_0
 have HC0_0:=aM hc0_0
 clear hr0_0 hc0_0
 have HR0_1:=aM hr0_1
 have HC0_1:=aM hc0_1
 clear hr0_1 hc0_1
 have HR0_4:=aM hr0_4
 have HC0_4:=aM hc0_4
 clear hr0_4 hc0_4
 have HR1:=aM hr1
 have HC1:=aM hc1
 clear hr1 hc1
 have HR2:=aM hr2
 have HC2:=aM hc2
 clear hr2 hc2
 have HB:=aM (Below.refl w.heap.size w)
 have H:((machine_Start.f).bind fun bt116=>((slices_Clone_int_int.f l2).bind fun t121=>((some (([(l0_1.length:Int)]:List Int):List Int)).bind fun y124=>(if t121.length+y124.length<17592186044416 then((some (t121++y124:List Int)).bind fun y127=>(machine_Run.l0 k l1 l2 ([]:List Int) y127 (y127.length:Int) 0 l0_0 l0_1 a0_2 a0_3 l0_4 bt116.1 bt116.2)) else(none)))))=some (r1,r2,r3):=h
 clear h
 replace H:=Option.bind_eq_some_iff.mp H
 obtain⟨⟨t116,t119⟩,A40,H⟩:=H
 replace H:((slices_Clone_int_int.f l2).bind fun t121=>((some (([(l0_1.length:Int)]:List Int):List Int)).bind fun y124=>(if t121.length+y124.length<17592186044416 then((some (t121++y124:List Int)).bind fun y127=>(machine_Run.l0 k l1 l2 ([]:List Int) y127 (y127.length:Int) 0 l0_0 l0_1 a0_2 a0_3 l0_4 t116 t119)) else(none))))=some (r1,r2,r3):=H
 have A4:=aM A40
 clear A40
 replace H:=Option.bind_eq_some_iff.mp H
 obtain⟨t121,A50,H⟩:=H
 replace H:((some (([(l0_1.length:Int)]:List Int):List Int)).bind fun y124=>(if t121.length+y124.length<17592186044416 then((some (t121++y124:List Int)).bind fun y127=>(machine_Run.l0 k l1 l2 ([]:List Int) y127 (y127.length:Int) 0 l0_0 l0_1 a0_2 a0_3 l0_4 t116 t119)) else(none)))=some (r1,r2,r3):=H
 have A5:=aM A50
 clear A50
 obtain⟨y124,hy124⟩:∃y_:List Int,y_=(([(l0_1.length:Int)]:List Int)):=⟨_,rfl⟩
 replace H:(if t121.length+y124.length<17592186044416 then((some (t121++y124:List Int)).bind fun y127=>(machine_Run.l0 k l1 l2 ([]:List Int) y127 (y127.length:Int) 0 l0_0 l0_1 a0_2 a0_3 l0_4 t116 t119)) else(none))=some (r1,r2,r3):=by first|(rw [hy124];with_reducible exact H)|(have H2_:=(Option.bind_some _ _).symm.trans H;rw [hy124];with_reducible exact H2_)|(have H2_:=(Option.bind_some _ _).symm.trans H;with_reducible exact H2_)|with_reducible exact H|(rw [hy124];exact H)|exact H
 have Ny124:=aM hy124
 clear hy124
 by_cases c6:t121.length+y124.length<17592186044416
 rotate_left
 ·rw [if_neg c6] at H
  exact absurd H (by simp)
 rw [if_pos c6] at H
 have LMc6:=aM c6
 clear c6
 obtain⟨y127,hy127⟩:∃y_:List Int,y_=(t121++y124):=⟨_,rfl⟩
 replace H:(machine_Run.l0 k l1 l2 ([]:List Int) y127 (y127.length:Int) 0 l0_0 l0_1 a0_2 a0_3 l0_4 t116 t119)=some (r1,r2,r3):=by first|(rw [hy127];with_reducible exact H)|(have H2_:=(Option.bind_some _ _).symm.trans H;rw [hy127];with_reducible exact H2_)|(have H2_:=(Option.bind_some _ _).symm.trans H;with_reducible exact H2_)|with_reducible exact H|(rw [hy127];exact H)|exact H
 have Ny127:=aM hy127
 clear hy127
 have H':=aM H
 clear H
 go_enter Try.func22,Try.ntmps22
 try go_wp2_with (first|((with_reducible refine bJ (N:=3) rfl ?_);(try(refine gate_guard (by rfl) ?_;dsimp only));refine box_event ?hg (N:=3) ?hd (cs:=#[.slice A0_0 l0_0.length c0_0,.slice A0_1 l0_1.length c0_1,.int .i64 a0_2,.int .i64 a0_3,.slice A0_4 l0_4.length c0_4]) (t:=26) ?hr ?_;(case hd=>rfl);(case hg=>rfl);(case hr=>first|(go_simp;done)|(go_simp;rfl));intro gb115 hg w7 hbox hb;have n0_:=aM (bG (by repeat(first|(with_reducible first|exact HB.out|apply aN|apply aP|apply aO)|exact HB.out)) hb);have n1_:=aM (hbox);have n2_:=aM ((by rw [hg];exact(bH (by repeat(first|(with_reducible first|exact HB.out|apply aN|apply aP|apply aO)|exact HB.out))):w.heap.size≤gb115));have n3_:=aM ((by rw [hg];exact(bH (by repeat(first|(with_reducible first|exact HB.out|apply aN|apply aP|apply aO)|exact HB.out))):w.heap.size≤gb115));clear HB;have HB:=n0_;have BK115:=n1_;have GW115:=n2_;have GE115:=n3_;clear n0_ n1_ n2_ n3_;clear hb hbox hg)|((with_reducible refine bI (f:=17) rfl ?_);refine goesL_ (some 15) rfl rfl Try.func17 (by kernel_rfl) rfl #[] rfl (by(try simp only [List.map_toArray,List.map_cons,List.map_nil]);first|done|rfl|(simp only [List.length_drop,List.length_take];rfl)) ?_;(with_reducible refine(machine_Start.calls  t116 t119 _ A4.out).mono ?_);rintro e w8 ⟨v117,rfl,ho0,hb⟩;refine⟨_,rfl,?_⟩;have n0_:=aM (bL ho0 (bH (by repeat(first|(with_reducible first|exact HB.out|apply aN|apply aP|apply aO|refine aL ?_ GE115.out)|exact HB.out))));have n1_:=aM (bF (g:=gb115) (o:= .cells #[.slice A0_0 l0_0.length c0_0,.slice A0_1 l0_1.length c0_1,.int .i64 a0_2,.int .i64 a0_3,.slice A0_4 l0_4.length c0_4] 26 (0,0)) (by(with_reducible repeat(first|refine aJ ?_ _|refine aK ?_|refine aI ?_ _));exact BK115.out) hb);have n2_:=aM (bG (by repeat(first|(with_reducible first|exact HB.out|apply aN|apply aP|apply aO|refine aL ?_ GE115.out)|exact HB.out)) hb);clear BK115;clear HB;have HO118:=n0_;have BK115:=n1_;have HB:=n2_;clear n0_ n1_ n2_;(try clear hb);(try clear hb2);(try clear hk);(try clear hi);(try clear ho0))|((with_reducible refine bJ (N:=9) rfl ?_);(try(refine gate_guard (by rfl) ?_;dsimp only));refine box_event ?hg (N:=9) ?hd (cs:=#[.slice none 0 0,.bool false]) (t:=31) ?hr ?_;(case hd=>rfl);(case hg=>rfl);(case hr=>first|(go_simp;done)|(go_simp;rfl));intro gb120 hg w9 hbox hb;have n0_:=aM (aD (by(with_reducible repeat(first|apply aA|apply aB|apply aC));exact HO118.out) hb);have n1_:=aM (bF (g:=gb115) (o:= .cells #[.slice A0_0 l0_0.length c0_0,.slice A0_1 l0_1.length c0_1,.int .i64 a0_2,.int .i64 a0_3,.slice A0_4 l0_4.length c0_4] 26 (0,0)) (by(with_reducible repeat(first|refine aJ ?_ _|refine aK ?_|refine aI ?_ _));exact BK115.out) hb);have n2_:=aM (bG (by repeat(first|(with_reducible first|exact HB.out|apply aN|apply aP|apply aO|refine aL ?_ GE115.out)|exact HB.out)) hb);have n3_:=aM (hbox);have n4_:=aM ((by rw [hg];exact(bH (by repeat(first|(with_reducible first|exact HB.out|apply aN|apply aP|apply aO|refine aL ?_ GE115.out)|exact HB.out))):w.heap.size≤gb120));have n5_:=aM ((by rw [hg];exact(bH (by repeat(first|(with_reducible first|exact HB.out|apply aN|apply aP|apply aO|refine aL ?_ GE115.out)|exact HB.out))):w.heap.size≤gb120));have n6_:=aM ((by rw [hg];exact Nat.ne_of_lt (bN (g:=gb115) (o:= .cells #[.slice A0_0 l0_0.length c0_0,.slice A0_1 l0_1.length c0_1,.int .i64 a0_2,.int .i64 a0_3,.slice A0_4 l0_4.length c0_4] 26 (0,0)) (by(with_reducible repeat(first|refine aJ ?_ _|refine aK ?_|refine aI ?_ _));exact BK115.out)):gb115≠gb120));have n7_:=aM ((by rw [hg];exact Nat.ne_of_gt (bN (g:=gb115) (o:= .cells #[.slice A0_0 l0_0.length c0_0,.slice A0_1 l0_1.length c0_1,.int .i64 a0_2,.int .i64 a0_3,.slice A0_4 l0_4.length c0_4] 26 (0,0)) (by(with_reducible repeat(first|refine aJ ?_ _|refine aK ?_|refine aI ?_ _));exact BK115.out)):gb120≠gb115));clear HO118;clear BK115;clear HB;have HO118:=n0_;have BK115:=n1_;have HB:=n2_;have BK120:=n3_;have GW120:=n4_;have GE120:=n5_;have NB115_120:=n6_;have NB120_115:=n7_;clear n0_ n1_ n2_ n3_ n4_ n5_ n6_ n7_;clear hb hbox hg;obtain⟨Ao10,co10,eo10⟩:=Kd.R_slice HO118.out;subst eo10;have hnb11:=NB120_115.out;have hnc11:=NB115_120.out;have hcz12_0:w9.cell? ⟨gb120,0,none⟩=some (.slice none 0 0):=(aG BK120.out 0).trans rfl;have hcz12_1:w9.cell? ⟨gb120,1,none⟩=some (.bool false):=(aG BK120.out 1).trans rfl;have hfz12_0:=aH BK120.out 0;have hfz12_1:=aH BK120.out 1))
 have n0_:Aside0 (Kd.R k43 43 ((w9.setCell ⟨gb120,0,none⟩ (.slice Ao10 t116.length co10)).setCell ⟨gb120,1,none⟩ (.bool t119)) w.heap.size (fun _=>True) (.slice Ao10 t116.length co10) t116):=⟨by(with_reducible repeat(first|apply aA|apply aB|apply aC));exact Kd.R_mono (aE (p:=⟨gb120,1,none⟩) (aE (p:=⟨gb120,0,none⟩) (Kd.R_types HO118.out BK120.out (by decide)) (fun _ hk=>hk.2) (.slice Ao10 t116.length co10)) (fun _ hk=>hk.2) (.bool t119)) (fun _ hk=>trivial)⟩
 have n1_:Aside0 (((w9.setCell ⟨gb120,0,none⟩ (.slice Ao10 t116.length co10)).setCell ⟨gb120,1,none⟩ (.bool t119)).heap[gb115]?=some (.cells #[.slice A0_0 l0_0.length c0_0,.slice A0_1 l0_1.length c0_1,.int .i64 a0_2,.int .i64 a0_3,.slice A0_4 l0_4.length c0_4] 26 (0,0))):=⟨by(with_reducible repeat(first|refine aJ ?_ _|refine aK ?_|refine aI ?_ _));refine blk_far ?_ NB115_120.out _;(with_reducible repeat(first|refine aJ ?_ _|refine aK ?_|refine aI ?_ _));refine blk_far ?_ NB115_120.out _;(with_reducible repeat(first|refine aJ ?_ _|refine aK ?_|refine aI ?_ _));exact BK115.out⟩
 have n2_:Aside0 (((w9.setCell ⟨gb120,0,none⟩ (.slice Ao10 t116.length co10)).setCell ⟨gb120,1,none⟩ (.bool t119)).heap[gb120]?=some (.cells #[.slice Ao10 t116.length co10,.bool t119] 31 (0,0))):=⟨by(with_reducible repeat(first|refine aJ ?_ _|refine aK ?_|refine aI ?_ _));refine blk_put (cs:=#[.slice Ao10 t116.length co10,.bool false]) ?_ 1 _ rfl;(with_reducible repeat(first|refine aJ ?_ _|refine aK ?_|refine aI ?_ _));refine blk_put (cs:=#[.slice none 0 0,.bool false]) ?_ 0 _ rfl;(with_reducible repeat(first|refine aJ ?_ _|refine aK ?_|refine aI ?_ _));exact BK120.out⟩
 have n3_:Aside0 (Below w.heap.size w ((w9.setCell ⟨gb120,0,none⟩ (.slice Ao10 t116.length co10)).setCell ⟨gb120,1,none⟩ (.bool t119))):=⟨by repeat(first|(with_reducible first|exact HB.out|apply aN|apply aP|apply aO|refine aL ?_ GE115.out|refine aL ?_ GE120.out)|exact HB.out)⟩
 (try clear HO118);(try clear BK115);(try clear BK120);(try clear HB)
 generalize ((w9.setCell ⟨gb120,0,none⟩ (.slice Ao10 t116.length co10)).setCell ⟨gb120,1,none⟩ (.bool t119))=w13 at n0_ n1_ n2_ n3_ ⊢
 have HO118:=n0_
 have BK115:=n1_
 have BK120:=n2_
 have HB:=n3_
 clear n0_ n1_ n2_ n3_
 have n0_:=aM (aC HO118.out)
 have n1_:=aM (aK BK115.out)
 have n2_:=aM (aK BK120.out)
 have n3_:=aM (aO HB.out)
 clear HO118
 clear BK115
 clear BK120
 clear HB
 have HO118:=n0_
 have BK115:=n1_
 have BK120:=n2_
 have HB:=n3_
 clear n0_ n1_ n2_ n3_
 refine start_ (n:=9) (S:=fun w'=>w'.cell? ⟨gb115,0,none⟩=some (.slice A0_0 l0_0.length c0_0)∧w'.cell? ⟨gb115,1,none⟩=some (.slice A0_1 l0_1.length c0_1)∧w'.cell? ⟨gb115,2,none⟩=some (.int .i64 a0_2)∧w'.cell? ⟨gb115,3,none⟩=some (.int .i64 a0_3)∧w'.cell? ⟨gb115,4,none⟩=some (.slice A0_4 l0_4.length c0_4)) (ds:= []) #[F,F,F,F,F,F,F,F,F] (by kernel_rfl) rfl rfl ⟨(aG BK115.out 0).trans rfl,(aG BK115.out 1).trans rfl,(aG BK115.out 2).trans rfl,(aG BK115.out 3).trans rfl,(aG BK115.out 4).trans rfl⟩ (fun hHeld=>?_);refine with_tabW machine_Run.tab2 machine_Run.bits2 (fun HT_ HW_=>?_)
 generalize w13.drew=w14 at HO118 BK115 BK120 HB hHeld ⊢
 refine pure_ (i:=0) (N:=some 16) (v:=?_) (a':=?_) #[T,F,F,F,F,F,F,F,F] rfl rfl (any_of HT_.out (by kernel_rfl)) (fun _ _ _ h=>h) (Or.inl ⟨by rfl,?_⟩) ?_ ?_
 rotate_left;(intro w';go_simp;with_reducible rfl);rotate_left;(simp only [pq];rfl)
 refine pure_ (i:=2) (N:=some 18) (v:=?_) (a':=?_) #[T,F,T,F,F,F,F,F,F] rfl rfl (any_of HT_.out (by kernel_rfl)) (fun _ _ _ h=>h) (Or.inl ⟨by rfl,?_⟩) ?_ ?_
 rotate_left;(intro w';go_simp;with_reducible rfl);rotate_left;(simp only [pq];rfl)
 refine pure_ (i:=8) (N:=some 24) (v:=?_) (a':=?_) #[T,F,T,F,F,F,F,F,T] rfl rfl (any_of HT_.out (by kernel_rfl)) (fun _ _ _ h=>h) (Or.inl ⟨by rfl,?_⟩) ?_ ?_
 rotate_left;(intro w';go_simp;with_reducible rfl);rotate_left;(simp only [pq];rfl)
 refine take_ (i:=3) (N:=some 19) (v:=?_) (a':=?_) #[T,F,T,T,F,F,F,F,T] rfl rfl (take_ofW HT_.out HW_.out (by kernel_rfl)) (fun _ _ _ h=>h) (Or.inl ⟨by rfl,?_⟩) hHeld ?_ ?_
 rotate_left
 ·rintro w' ⟨s0,s1,s2,s3,s4⟩
  go_simp
  with_reducible rfl
 rotate_left
 ·simp only [pq]
  rfl
 refine pure_ (i:=4) (N:=some 20) (v:=?_) (a':=?_) #[T,F,T,T,T,F,F,F,T] rfl rfl (any_of HT_.out (by kernel_rfl)) (fun _ _ _ h=>h) (Or.inl ⟨by rfl,?_⟩) ?_ ?_
 rotate_left;(intro w';go_simp;with_reducible rfl);rotate_left;(simp only [pq];rfl)
 refine join_ (σ:=Value×Value) 2 #[T,T,T,T,T,T,F,F,T] (fun s_=> [(17,s_.1),(21,s_.2)]) (fun s_ w'=>(w'.cell? ⟨gb115,0,none⟩=some (.slice A0_0 l0_0.length c0_0)∧w'.cell? ⟨gb115,1,none⟩=some (.slice A0_1 l0_1.length c0_1)∧w'.cell? ⟨gb115,2,none⟩=some (.int .i64 a0_2)∧w'.cell? ⟨gb115,3,none⟩=some (.int .i64 a0_3)∧w'.cell? ⟨gb115,4,none⟩=some (.slice A0_4 l0_4.length c0_4))∧(Kd.R k43 43 w' w.heap.size (fun _=>True) (.slice Ao10 t116.length co10) t116)∧(Kd.R (Kd.int .i64) 3 w' w.heap.size (fun k_=>some k_≠(s_.2:Value).ownBlock) s_.1 t121)∧(Kd.R (Kd.int .i64) 3 w' w.heap.size (fun k_=>some k_≠(s_.1:Value).ownBlock) s_.2 y124)∧(w'.heap[gb115]?=some (.cells #[.slice A0_0 l0_0.length c0_0,.slice A0_1 l0_1.length c0_1,.int .i64 a0_2,.int .i64 a0_3,.slice A0_4 l0_4.length c0_4] 26 (0,0)))∧(w'.heap[gb120]?=some (.cells #[.slice Ao10 t116.length co10,.bool t119] 31 (0,0)))∧(Below w.heap.size w w')) ?_ ?_
 rotate_left
 ·intro hCont
  refine two_ (i:=1) (j:=5) (Ni:=some 17) (Nj:=some 21) #[T,T,T,T,T,F,F,F,T] #[T,F,T,T,T,T,F,F,T] rfl rfl rfl rfl (two_of HT_.out (by kernel_rfl)) (by decide) (by decide) (fun K hK=>?_) (fun K hK=>?_)
  ·skip
   refine goes_ Try.func34 (by kernel_rfl) rfl #[.slice A2 l2.length c2] (by rfl) rfl rfl (by(try simp only [List.map_toArray,List.map_cons,List.map_nil]);first|done|rfl|(simp only [List.length_drop,List.length_take];rfl)) ?_
   with_reducible refine(slices_Clone_int_int.calls _ _ l2 t121 _ ?side1 ?side2 A5.out).mono ?_
   (case side1=>repeat(first|exact(bD HR2.out HB.out)|(with_reducible refine Kd.C_alloc ?_ _)|(with_reducible refine Kd.C_drewN ?_ _)|(with_reducible refine Kd.C_drew ?_)))
   (case side2=>exact HC2.out)
   rintro e w15 ⟨v122,rfl,ho0,hb⟩
   refine⟨_,rfl,?_⟩
   have n0_:=aM (aD (by(with_reducible repeat(first|apply aA|apply aB|apply aC));exact HO118.out) hb)
   have n1_:=aM (bL ho0 (bH (by repeat(first|(with_reducible first|exact HB.out|apply aN|apply aP|apply aO|refine aL ?_ GE115.out|refine aL ?_ GE120.out)|exact HB.out))))
   have n2_:=aM (bF (g:=gb115) (o:= .cells #[.slice A0_0 l0_0.length c0_0,.slice A0_1 l0_1.length c0_1,.int .i64 a0_2,.int .i64 a0_3,.slice A0_4 l0_4.length c0_4] 26 (0,0)) (by(with_reducible repeat(first|refine aJ ?_ _|refine aK ?_|refine aI ?_ _));exact BK115.out) hb)
   have n3_:=aM (bF (g:=gb120) (o:= .cells #[.slice Ao10 t116.length co10,.bool t119] 31 (0,0)) (by(with_reducible repeat(first|refine aJ ?_ _|refine aK ?_|refine aI ?_ _));exact BK120.out) hb)
   have n4_:=aM (bG (by repeat(first|(with_reducible first|exact HB.out|apply aN|apply aP|apply aO|refine aL ?_ GE115.out|refine aL ?_ GE120.out)|exact HB.out)) hb)
   clear HO118
   clear BK115
   clear BK120
   clear HB
   have HO118:=n0_
   have HO123:=n1_
   have BK115:=n2_
   have BK120:=n3_
   have HB:=n4_
   clear n0_ n1_ n2_ n3_ n4_
   (try clear hb);(try clear hb2);(try clear hk);(try clear hi);(try clear ho0)
   refine hK.out _ _ ⟨(aG BK115.out 0).trans rfl,(aG BK115.out 1).trans rfl,(aG BK115.out 2).trans rfl,(aG BK115.out 3).trans rfl,(aG BK115.out 4).trans rfl⟩ (fun hHeld=>?_)
   clear hK K
   refine norm_ (a':=?_) ?_ ?_
   rotate_left
   ·show Act.put _ (some 17) _=_
    simp only [pq]
    rfl
   refine one_ (i:=5) (N:=some 21) #[T,T,T,T,T,T,F,F,T] rfl rfl (one_of HT_.out (by kernel_rfl)) (by decide) (fun K hK=>?_)
   refine Kd.R_lit_step (Kd.int .i64) _ 3 ?hg (N:=21) ?hd (xs:=([(l0_1.length:Int)]:List Int)) (inner:= [.int .i64 (l0_1.length:Int)]) (ok:=fun _=>True) (okp:=fun _=>True) ?hr ?hp (fun _ hk=>hk) trivial (Below.refl _ _) (Nat.le_refl _) (by simp) ?_;(case hd=>rfl);(case hg=>rfl);(case hr=>first|(go_simp;done)|(go_simp;rfl));(case hp=>exact(Reps.one (show Kd.M (Kd.int .i64) _ _ _ (l0_1.length:Int) [.int .i64 (l0_1.length:Int)] from rfl) (Reps.none _ _)))
   intro v125 w16 ho17 hb hg_ hnew_
   clear hg_ hnew_
   (first|rw [←Ny124.out] at ho17|(simp only [Int.reduceToNat] at ho17;rw [←Ny124.out] at ho17))
   have n0_:=aM (aD (by(with_reducible repeat(first|apply aA|apply aB|apply aC));exact HO118.out) hb)
   have n1_:=aM (bE (by(with_reducible repeat(first|apply aA|apply aB|apply aC));exact HO123.out) (Kd.R_base ho17) hb)
   have n2_:=aM (bL (Kd.R_new' ho17 (Kd.R_lt (by(with_reducible repeat(first|apply aA|apply aB|apply aC));exact HO123.out))) (bH (by repeat(first|(with_reducible first|exact HB.out|apply aN|apply aP|apply aO|refine aL ?_ GE115.out|refine aL ?_ GE120.out)|exact HB.out))))
   have n3_:=aM (bF (g:=gb115) (o:= .cells #[.slice A0_0 l0_0.length c0_0,.slice A0_1 l0_1.length c0_1,.int .i64 a0_2,.int .i64 a0_3,.slice A0_4 l0_4.length c0_4] 26 (0,0)) (by(with_reducible repeat(first|refine aJ ?_ _|refine aK ?_|refine aI ?_ _));exact BK115.out) hb)
   have n4_:=aM (bF (g:=gb120) (o:= .cells #[.slice Ao10 t116.length co10,.bool t119] 31 (0,0)) (by(with_reducible repeat(first|refine aJ ?_ _|refine aK ?_|refine aI ?_ _));exact BK120.out) hb)
   have n5_:=aM (bG (by repeat(first|(with_reducible first|exact HB.out|apply aN|apply aP|apply aO|refine aL ?_ GE115.out|refine aL ?_ GE120.out)|exact HB.out)) hb)
   clear HO118
   clear HO123
   clear BK115
   clear BK120
   clear HB
   have HO118:=n0_
   have HO123:=n1_
   have HO126:=n2_
   have BK115:=n3_
   have BK120:=n4_
   have HB:=n5_
   clear n0_ n1_ n2_ n3_ n4_ n5_
   clear hb ho17
   refine hK.out _ _ ⟨(aG BK115.out 0).trans rfl,(aG BK115.out 1).trans rfl,(aG BK115.out 2).trans rfl,(aG BK115.out 3).trans rfl,(aG BK115.out 4).trans rfl⟩ (fun hHeld=>?_)
   clear hK K
   refine norm_ (a':=?_) ?_ ?_
   rotate_left
   ·show Act.put _ (some 21) _=_
    simp only [pq]
    rfl
   exact norm_ (by simp only [putAll,Act.put,List.setIfInBounds_toArray,List.set_cons_zero,List.set_cons_succ]) (hCont (v122,v125) _ ⟨hHeld,(by(with_reducible repeat(first|apply aA|apply aB|apply aC));exact HO118.out),(by(with_reducible repeat(first|apply aA|apply aB|apply aC));exact Kd.R_mono HO123.out (fun _ hk=>hk.2)),(by(with_reducible repeat(first|apply aA|apply aB|apply aC));exact Kd.R_mono HO126.out (fun _ hk=>hk.2)),(by(with_reducible repeat(first|refine aJ ?_ _|refine aK ?_|refine aI ?_ _));exact BK115.out),(by(with_reducible repeat(first|refine aJ ?_ _|refine aK ?_|refine aI ?_ _));exact BK120.out),(by repeat(first|(with_reducible first|exact HB.out|apply aN|apply aP|apply aO|refine aL ?_ GE115.out|refine aL ?_ GE120.out)|exact HB.out))⟩)
  ·skip
   refine Kd.R_lit_step (Kd.int .i64) _ 3 ?hg (N:=21) ?hd (xs:=([(l0_1.length:Int)]:List Int)) (inner:= [.int .i64 (l0_1.length:Int)]) (ok:=fun _=>True) (okp:=fun _=>True) ?hr ?hp (fun _ hk=>hk) trivial (Below.refl _ _) (Nat.le_refl _) (by simp) ?_;(case hd=>rfl);(case hg=>rfl);(case hr=>first|(go_simp;done)|(go_simp;rfl));(case hp=>exact(Reps.one (show Kd.M (Kd.int .i64) _ _ _ (l0_1.length:Int) [.int .i64 (l0_1.length:Int)] from rfl) (Reps.none _ _)))
   intro v125 w15 ho16 hb hg_ hnew_
   clear hg_ hnew_
   (first|rw [←Ny124.out] at ho16|(simp only [Int.reduceToNat] at ho16;rw [←Ny124.out] at ho16))
   have n0_:=aM (aD (by(with_reducible repeat(first|apply aA|apply aB|apply aC));exact HO118.out) hb)
   have n1_:=aM (bL ho16 (bH (by repeat(first|(with_reducible first|exact HB.out|apply aN|apply aP|apply aO|refine aL ?_ GE115.out|refine aL ?_ GE120.out)|exact HB.out))))
   have n2_:=aM (bF (g:=gb115) (o:= .cells #[.slice A0_0 l0_0.length c0_0,.slice A0_1 l0_1.length c0_1,.int .i64 a0_2,.int .i64 a0_3,.slice A0_4 l0_4.length c0_4] 26 (0,0)) (by(with_reducible repeat(first|refine aJ ?_ _|refine aK ?_|refine aI ?_ _));exact BK115.out) hb)
   have n3_:=aM (bF (g:=gb120) (o:= .cells #[.slice Ao10 t116.length co10,.bool t119] 31 (0,0)) (by(with_reducible repeat(first|refine aJ ?_ _|refine aK ?_|refine aI ?_ _));exact BK120.out) hb)
   have n4_:=aM (bG (by repeat(first|(with_reducible first|exact HB.out|apply aN|apply aP|apply aO|refine aL ?_ GE115.out|refine aL ?_ GE120.out)|exact HB.out)) hb)
   clear HO118
   clear BK115
   clear BK120
   clear HB
   have HO118:=n0_
   have HO126:=n1_
   have BK115:=n2_
   have BK120:=n3_
   have HB:=n4_
   clear n0_ n1_ n2_ n3_ n4_
   clear hb ho16
   refine hK.out _ _ ⟨(aG BK115.out 0).trans rfl,(aG BK115.out 1).trans rfl,(aG BK115.out 2).trans rfl,(aG BK115.out 3).trans rfl,(aG BK115.out 4).trans rfl⟩ (fun hHeld=>?_)
   clear hK K
   refine norm_ (a':=?_) ?_ ?_
   rotate_left
   ·show Act.put _ (some 21) _=_
    simp only [pq]
    rfl
   refine one_ (i:=1) (N:=some 17) #[T,T,T,T,T,T,F,F,T] rfl rfl (one_of HT_.out (by kernel_rfl)) (by decide) (fun K hK=>?_)
   refine goes_ Try.func34 (by kernel_rfl) rfl #[.slice A2 l2.length c2] (by rfl) rfl rfl (by(try simp only [List.map_toArray,List.map_cons,List.map_nil]);first|done|rfl|(simp only [List.length_drop,List.length_take];rfl)) ?_
   with_reducible refine(slices_Clone_int_int.calls _ _ l2 t121 _ ?side1 ?side2 A5.out).mono ?_
   (case side1=>repeat(first|exact(bD HR2.out HB.out)|(with_reducible refine Kd.C_alloc ?_ _)|(with_reducible refine Kd.C_drewN ?_ _)|(with_reducible refine Kd.C_drew ?_)))
   (case side2=>exact HC2.out)
   rintro e w17 ⟨v122,rfl,ho0,hb⟩
   refine⟨_,rfl,?_⟩
   have n0_:=aM (aD (by(with_reducible repeat(first|apply aA|apply aB|apply aC));exact HO118.out) hb)
   have n1_:=aM (bE (by(with_reducible repeat(first|apply aA|apply aB|apply aC));exact HO126.out) (Kd.R_base ho0) hb)
   have n2_:=aM (bL (Kd.R_new' ho0 (Kd.R_lt (by(with_reducible repeat(first|apply aA|apply aB|apply aC));exact HO126.out))) (bH (by repeat(first|(with_reducible first|exact HB.out|apply aN|apply aP|apply aO|refine aL ?_ GE115.out|refine aL ?_ GE120.out)|exact HB.out))))
   have n3_:=aM (bF (g:=gb115) (o:= .cells #[.slice A0_0 l0_0.length c0_0,.slice A0_1 l0_1.length c0_1,.int .i64 a0_2,.int .i64 a0_3,.slice A0_4 l0_4.length c0_4] 26 (0,0)) (by(with_reducible repeat(first|refine aJ ?_ _|refine aK ?_|refine aI ?_ _));exact BK115.out) hb)
   have n4_:=aM (bF (g:=gb120) (o:= .cells #[.slice Ao10 t116.length co10,.bool t119] 31 (0,0)) (by(with_reducible repeat(first|refine aJ ?_ _|refine aK ?_|refine aI ?_ _));exact BK120.out) hb)
   have n5_:=aM (bG (by repeat(first|(with_reducible first|exact HB.out|apply aN|apply aP|apply aO|refine aL ?_ GE115.out|refine aL ?_ GE120.out)|exact HB.out)) hb)
   clear HO118
   clear HO126
   clear BK115
   clear BK120
   clear HB
   have HO118:=n0_
   have HO126:=n1_
   have HO123:=n2_
   have BK115:=n3_
   have BK120:=n4_
   have HB:=n5_
   clear n0_ n1_ n2_ n3_ n4_ n5_
   (try clear hb);(try clear hb2);(try clear hk);(try clear hi);(try clear ho0)
   refine hK.out _ _ ⟨(aG BK115.out 0).trans rfl,(aG BK115.out 1).trans rfl,(aG BK115.out 2).trans rfl,(aG BK115.out 3).trans rfl,(aG BK115.out 4).trans rfl⟩ (fun hHeld=>?_)
   clear hK K
   refine norm_ (a':=?_) ?_ ?_
   rotate_left
   ·show Act.put _ (some 17) _=_
    simp only [pq]
    rfl
   exact norm_ (by simp only [putAll,Act.put,List.setIfInBounds_toArray,List.set_cons_zero,List.set_cons_succ]) (hCont (v122,v125) _ ⟨hHeld,(by(with_reducible repeat(first|apply aA|apply aB|apply aC));exact HO118.out),(by(with_reducible repeat(first|apply aA|apply aB|apply aC));exact Kd.R_mono HO123.out (fun _ hk=>hk.2)),(by(with_reducible repeat(first|apply aA|apply aB|apply aC));exact Kd.R_mono HO126.out (fun _ hk=>hk.2)),(by(with_reducible repeat(first|refine aJ ?_ _|refine aK ?_|refine aI ?_ _));exact BK115.out),(by(with_reducible repeat(first|refine aJ ?_ _|refine aK ?_|refine aI ?_ _));exact BK120.out),(by repeat(first|(with_reducible first|exact HB.out|apply aN|apply aP|apply aO|refine aL ?_ GE115.out|refine aL ?_ GE120.out)|exact HB.out))⟩)
 rintro⟨v122,v125⟩ w18 ⟨hS_,h0_,h1_,h2_,h3_,h4_,h5_⟩
 have n0_:Aside0 (Kd.R k43 43 w18 w.heap.size (fun _=>True) (.slice Ao10 t116.length co10) t116):=⟨h0_⟩
 have n1_:Aside0 (Kd.R (Kd.int .i64) 3 w18 w.heap.size (fun k_=>some k_≠(v125:Value).ownBlock) v122 t121):=⟨h1_⟩
 have n2_:Aside0 (Kd.R (Kd.int .i64) 3 w18 w.heap.size (fun k_=>some k_≠(v122:Value).ownBlock) v125 y124):=⟨h2_⟩
 have n3_:Aside0 (w18.heap[gb115]?=some (.cells #[.slice A0_0 l0_0.length c0_0,.slice A0_1 l0_1.length c0_1,.int .i64 a0_2,.int .i64 a0_3,.slice A0_4 l0_4.length c0_4] 26 (0,0))):=⟨h3_⟩
 have n4_:Aside0 (w18.heap[gb120]?=some (.cells #[.slice Ao10 t116.length co10,.bool t119] 31 (0,0))):=⟨h4_⟩
 have n5_:Aside0 (Below w.heap.size w w18):=⟨h5_⟩
 clear HO118
 clear BK115
 clear BK120
 clear HB
 clear h0_ h1_ h2_ h3_ h4_ h5_
 have HO118:=n0_
 have HO123:=n1_
 have HO126:=n2_
 have BK115:=n3_
 have BK120:=n4_
 have HB:=n5_
 clear n0_ n1_ n2_ n3_ n4_ n5_
 have hHeld:w18.cell? ⟨gb115,0,none⟩=some (.slice A0_0 l0_0.length c0_0)∧w18.cell? ⟨gb115,1,none⟩=some (.slice A0_1 l0_1.length c0_1)∧w18.cell? ⟨gb115,2,none⟩=some (.int .i64 a0_2)∧w18.cell? ⟨gb115,3,none⟩=some (.int .i64 a0_3)∧w18.cell? ⟨gb115,4,none⟩=some (.slice A0_4 l0_4.length c0_4):=hS_
 obtain⟨Ao20,co20,eo20⟩:=Kd.R_slice HO126.out
 (first|subst eo20|(injection eo20 with f1_ f2_ f3_;have f4_:=f1_.symm;have f5_:=f3_.symm;clear f1_ f2_ f3_;subst f4_;subst f5_))
 refine norm_ (a':=?_) ?_ ?_
 rotate_left
 ·simp only [putAll,Act.put,List.setIfInBounds_toArray,List.set_cons_zero,List.set_cons_succ]
  rfl
 refine one_ (i:=6) (N:=some 22) #[T,T,T,T,T,T,T,F,T] rfl rfl (one_of HT_.out (by kernel_rfl)) (by decide) (fun K hK=>?_)
 refine Kd.R_append_rows_step (Kd.int .i64) (w0:=w) w.heap.size (by rfl) (.tmp 17) (.tmp 21) 32 3 (.int .i64 0) 8 rfl Try.underlying32 info3 rfl (by decide) (by omega) v122 t121 y124 _ _ _ (fun k_=>some k_≠(.slice Ao20 y124.length co20:Value).ownBlock) (fun _=>False) rfl rfl ?aO ?aR (fun _ _ h=>h) (fun _ h=>h.elim) ?aF ?aB ?aS ?aL ?_
 (case aR=>repeat(first|exact(aF HO126.out).2.2|(with_reducible refine Kd.C_alloc ?_ _)|(with_reducible refine Kd.C_drewN ?_ _)|(with_reducible refine Kd.C_drew ?_)))
 (case aB=>exact(by repeat(first|(with_reducible first|exact HB.out|apply aN|apply aP|apply aO|refine aL ?_ GE115.out|refine aL ?_ GE120.out)|exact HB.out)))
 (case aF=>exact(fun k_ hk=>Kd.fresh' (Kd.R_lt (by(with_reducible repeat(first|apply aA|apply aB|apply aC));exact HO126.out)) k_ hk))
 (case aO=>exact(by(with_reducible repeat(first|apply aA|apply aB|apply aC));exact HO123.out))
 (case aS=>exact(bH (by repeat(first|(with_reducible first|exact HB.out|apply aN|apply aP|apply aO|refine aL ?_ GE115.out|refine aL ?_ GE120.out)|exact HB.out))))
 (case aL=>have:=LMc6.out;omega)
 intro v128 w19 ho hb hg hat
 rw [←Ny127.out] at ho
 have n0_:=aM (blk_grown (g:=gb115) (o:= .cells #[.slice A0_0 l0_0.length c0_0,.slice A0_1 l0_1.length c0_1,.int .i64 a0_2,.int .i64 a0_3,.slice A0_4 l0_4.length c0_4] 26 (0,0)) (by(with_reducible repeat(first|refine aJ ?_ _|refine aK ?_|refine aI ?_ _));exact BK115.out) hg (Kd.R_ne HO123.out BK115.out (by decide)))
 have n1_:=aM (Kd.R_over' (by(with_reducible repeat(first|apply aA|apply aB|apply aC));exact HO118.out) (Kd.R_typed (by(with_reducible repeat(first|apply aA|apply aB|apply aC));exact HO123.out)) (by decide) hg)
 have n2_:=aM (blk_grown (g:=gb120) (o:= .cells #[.slice Ao10 t116.length co10,.bool t119] 31 (0,0)) (by(with_reducible repeat(first|refine aJ ?_ _|refine aK ?_|refine aI ?_ _));exact BK120.out) hg (Kd.R_ne HO123.out BK120.out (by decide)))
 have n3_:=aM (Kd.R_after (ok:=(fun _=>True)) (by(with_reducible repeat(first|apply aA|apply aB|apply aC));exact Kd.R_mono HO126.out (fun _ hk=>⟨trivial,hk⟩)) hg hat)
 have n4_:=aM (hb)
 have n5_:=aM (ho)
 clear BK115
 clear HO118
 clear BK120
 clear HO126
 clear HB
 clear HO123
 have BK115:=n0_
 have HO118:=n1_
 have BK120:=n2_
 have HO126:=n3_
 have HB:=n4_
 have HO129:=n5_
 clear n0_ n1_ n2_ n3_ n4_ n5_
 clear ho hb hg hat
 obtain⟨Ao21,co21,eo21⟩:=Kd.R_slice HO129.out
 (first|subst eo21|(injection eo21 with f1_ f2_ f3_;have f4_:=f1_.symm;have f5_:=f3_.symm;clear f1_ f2_ f3_;subst f4_;subst f5_))
 refine hK.out _ _ ⟨(aG BK115.out 0).trans rfl,(aG BK115.out 1).trans rfl,(aG BK115.out 2).trans rfl,(aG BK115.out 3).trans rfl,(aG BK115.out 4).trans rfl⟩ (fun hHeld=>?_)
 clear hK K
 refine norm_ (a':=?_) ?_ ?_
 rotate_left
 ·show Act.put _ (some 22) _=_
  simp only [pq]
  rfl
 refine pure_ (i:=7) (N:=some 23) (v:=?_) (a':=?_) #[T,T,T,T,T,T,T,T,T] rfl rfl (any_of HT_.out (by kernel_rfl)) (fun _ _ _ h=>h) (Or.inl ⟨by rfl,?_⟩) ?_ ?_
 rotate_left;(intro w';go_simp;with_reducible rfl);rotate_left;(simp only [pq];rfl)
 refine done_ (done_of HT_.out (by kernel_rfl)) ?_
 try go_wp2
 go_loopg [6,24] k (fun kq v6 v24 w'=>∃(x6_1:List Int) (x24_1:Int) (x121000_1:List (S43)) (x121001_1:Bool) (u121000:Value),v24= .int .i64 x24_1∧Aside0 (machine_Run.l0 kq l1 l2 x6_1 y127 (y127.length:Int) x24_1 l0_0 l0_1 a0_2 a0_3 l0_4 x121000_1 x121001_1=some (r1,r2,r3))∧Aside0 (kq≤k)∧Aside0 (Kd.R (Kd.int .i64) 3 w' w.heap.size (fun k_=>some k_≠((.slice Ao21 y127.length co21):Value).ownBlock) v6 x6_1)∧Aside0 (Kd.R (Kd.int .i64) 3 w' w.heap.size (fun k_=>some k_≠(v6:Value).ownBlock) (.slice Ao21 y127.length co21) y127)∧Aside0 (Kd.R k43 43 w' w.heap.size (fun _=>True) u121000 x121000_1)∧Aside0 (w'.heap[gb115]?=some (.cells #[(.slice A0_0 l0_0.length c0_0),(.slice A0_1 l0_1.length c0_1),.int .i64 a0_2,.int .i64 a0_3,(.slice A0_4 l0_4.length c0_4)] 26 (0,0)))∧Aside0 (w'.heap[gb120]?=some (.cells #[u121000,.bool x121001_1] 31 (0,0)))∧Aside0 (Below w.heap.size w w'))
 case atStart=>exact⟨(([]:List Int)),(0),(t116),(t119),(.slice Ao10 t116.length co10),(by first|rfl|(simp;done)|(simp [*];done)),H',⟨Nat.le_refl _⟩,⟨by first|exact Kd.R_nil _ _ _ _ _|exact Kd.N_nil _ _ _ _ _|exact Kd.V_nil _ _ _ _ _|exact Kd.Q_nil _ _ _ _ _|exact Kd.S_nil _ _ _ _ _⟩,⟨by(with_reducible repeat(first|apply aA|apply aB|apply aC));exact Kd.R_mono HO129.out (fun _ hk=>(by simp [Value.ownBlock]))⟩,⟨by(with_reducible repeat(first|apply aA|apply aB|apply aC));exact HO118.out⟩,⟨by(with_reducible repeat(first|refine aJ ?_ _|refine aK ?_|refine aI ?_ _));exact BK115.out⟩,⟨by(with_reducible repeat(first|refine aJ ?_ _|refine aK ?_|refine aI ?_ _));exact BK120.out⟩,⟨by repeat(first|(with_reducible first|exact HB.out|apply aN|apply aP|apply aO|refine aL ?_ GE115.out|refine aL ?_ GE120.out)|exact HB.out)⟩⟩
 case round=>
  clear H'
  (try clear c1);(try clear c2);(try clear p2);(try clear c3);(try clear c6);(try clear c11);(try clear c17);(try clear hcz12_0);(try clear hcz12_1);(try clear hfz12_0);(try clear hfz12_1)
  obtain⟨x6_1,x24_1,x121000_1,x121001_1,u121000,rfl,HA,HK1,HO_6,HO_22,HO_121000,BK115,BK120,HB⟩:=hrel
  cases gk with
  |zero=>exact absurd HA.out (by simp [machine_Run.l0])
  |succ k1=>
   have H:=HA.out
   clear HA
   simp only [machine_Run.l0] at H
   by_cases c22:x24_1<(y127.length:Int)
   ·rw [if_pos c22] at H
    have c22b0:decide (x24_1<(y127.length:Int))=true:=decide_eq_true c22
    clear c22
    by_cases c23:0≤x24_1
    rotate_left
    ·rw [if_neg c23] at H
     exact absurd H (by simp)
    rw [if_pos c23] at H
    have c23b0:decide (0≤x24_1)=true:=decide_eq_true c23
    clear c23
    by_cases c24:x24_1<(y127.length:Int)
    rotate_left
    ·rw [if_neg c24] at H
     exact absurd H (by simp)
    rw [if_pos c24] at H
    have c24b0:decide (x24_1<(y127.length:Int))=true:=decide_eq_true c24
    clear c24
    have HC25:=aM H
    clear H
    have p130:0≤(x24_1:Int):=of_decide_eq_true (by first|(with_reducible assumption)|assumption)
    have q130:x24_1<(y127.length:Int):=of_decide_eq_true (by first|(with_reducible assumption)|assumption)
    obtain⟨ad130,e130,hx130_0⟩:=Kd.at_int (aF HO_22.out).2.2 x24_1 p130 q130
    cases e130
    replace p130:=eq_true p130
    replace q130:=eq_true q130
    go_upto_region 5 with(fail)
    go_cut [39] (fun v39 wc=>∃(kq:Nat) (x39_24:Bool),v39= .bool x39_24∧Aside0 (machine_Run.j1 kq l1 l2 x6_1 x24_1 (rd y127 x24_1) y127 (y127.length:Int) x24_1 x39_24 l0_0 l0_1 a0_2 a0_3 l0_4 x121000_1 x121001_1=some (r1,r2,r3))∧Aside0 (kq≤k1)∧Aside0 (Kd.R (Kd.int .i64) 3 wc w.heap.size (fun k_=>some k_≠((.slice (some ad130) y127.length co21):Value).ownBlock) u6 x6_1)∧Aside0 (Kd.R (Kd.int .i64) 3 wc w.heap.size (fun k_=>some k_≠(u6:Value).ownBlock) (.slice (some ad130) y127.length co21) y127)∧Aside0 (Kd.R k43 43 wc w.heap.size (fun _=>True) u121000 x121000_1)∧Aside0 (wc.heap[gb115]?=some (.cells #[(.slice A0_0 l0_0.length c0_0),(.slice A0_1 l0_1.length c0_1),.int .i64 a0_2,.int .i64 a0_3,(.slice A0_4 l0_4.length c0_4)] 26 (0,0)))∧Aside0 (wc.heap[gb120]?=some (.cells #[u121000,.bool x121001_1] 31 (0,0)))∧Aside0 (Below w.heap.size w wc))
    case first=>
     have H:=HC25.out
     clear HC25
     by_cases c26:x24_1<(l2.length:Int)
     ·rw [if_pos c26] at H
      have c26b0:decide (x24_1<(l2.length:Int))=true:=decide_eq_true c26
      clear c26
      (first|rw [c26b0]|(simp only [i64_w,i32_w];rw [c26b0])|skip)
      have H':=aM H
      clear H
      have hnb27:=NB115_120.out
      have hnc27:=NB120_115.out
      have hcz28_0:wr.cell? ⟨gb115,0,none⟩=some (.slice A0_0 l0_0.length c0_0):=(aG BK115.out 0).trans rfl
      have hcz28_1:wr.cell? ⟨gb115,1,none⟩=some (.slice A0_1 l0_1.length c0_1):=(aG BK115.out 1).trans rfl
      have hcz28_2:wr.cell? ⟨gb115,2,none⟩=some (.int .i64 a0_2):=(aG BK115.out 2).trans rfl
      have hcz28_3:wr.cell? ⟨gb115,3,none⟩=some (.int .i64 a0_3):=(aG BK115.out 3).trans rfl
      have hcz28_4:wr.cell? ⟨gb115,4,none⟩=some (.slice A0_4 l0_4.length c0_4):=(aG BK115.out 4).trans rfl
      have hfz28_0:=aH BK115.out 0
      have hfz28_1:=aH BK115.out 1
      have hfz28_2:=aH BK115.out 2
      have hfz28_3:=aH BK115.out 3
      have hfz28_4:=aH BK115.out 4
      go_wp2
      go_meet
      case rel=>exact⟨_,(((rd y127 x24_1)==(l0_1.length:Int))),(by first|rfl|(simp;done)|(simp [*];done)),H',⟨by have:=HK1.out;first|omega|exact Nat.le_refl _⟩,⟨by(with_reducible repeat(first|apply aA|apply aB|apply aC));exact HO_6.out⟩,⟨by(with_reducible repeat(first|apply aA|apply aB|apply aC));exact HO_22.out⟩,⟨by(with_reducible repeat(first|apply aA|apply aB|apply aC));exact HO_121000.out⟩,⟨by(with_reducible repeat(first|refine aJ ?_ _|refine aK ?_|refine aI ?_ _));exact BK115.out⟩,⟨by(with_reducible repeat(first|refine aJ ?_ _|refine aK ?_|refine aI ?_ _));exact BK120.out⟩,⟨by repeat(first|(with_reducible first|exact HB.out|apply aN|apply aP|apply aO|refine aL ?_ GE115.out|refine aL ?_ GE120.out)|exact HB.out)⟩⟩
     ·rw [if_neg c26] at H
      have c26b0:decide (x24_1<(l2.length:Int))=false:=decide_eq_false c26
      clear c26
      (first|rw [c26b0]|(simp only [i64_w,i32_w];rw [c26b0])|skip)
      have H':=aM H
      clear H
      go_wp2
      go_meet
      case rel=>exact⟨_,(false),(by first|rfl|(simp;done)|(simp [*];done)),H',⟨by have:=HK1.out;first|omega|exact Nat.le_refl _⟩,⟨by(with_reducible repeat(first|apply aA|apply aB|apply aC));exact HO_6.out⟩,⟨by(with_reducible repeat(first|apply aA|apply aB|apply aC));exact HO_22.out⟩,⟨by(with_reducible repeat(first|apply aA|apply aB|apply aC));exact HO_121000.out⟩,⟨by(with_reducible repeat(first|refine aJ ?_ _|refine aK ?_|refine aI ?_ _));exact BK115.out⟩,⟨by(with_reducible repeat(first|refine aJ ?_ _|refine aK ?_|refine aI ?_ _));exact BK120.out⟩,⟨by repeat(first|(with_reducible first|exact HB.out|apply aN|apply aP|apply aO|refine aL ?_ GE115.out|refine aL ?_ GE120.out)|exact HB.out)⟩⟩
    case rest=>
     clear HC25
     (try clear c1);(try clear p1);(try clear q1);(try clear hx1);(try clear c2);(try clear p2);(try clear c3);(try clear c6);(try clear c11);(try clear p13);(try clear q13);(try clear hx13);(try clear c17);(try clear c22);(try clear c22b0);(try clear c23);(try clear c23b0);(try clear c24);(try clear c24b0);(try clear c26);(try clear c26b0);(try clear c27);(try clear hcz12_0);(try clear hcz12_1);(try clear hcz28_0)
     (try clear hcz28_1);(try clear hcz28_2);(try clear hcz28_3);(try clear hcz28_4);(try clear hfz12_0);(try clear hfz12_1);(try clear hfz28_0);(try clear hfz28_1);(try clear hfz28_2);(try clear hfz28_3);(try clear hfz28_4);(try clear hx130_0);(try clear p130);(try clear p2);(try clear q130)
     obtain⟨kq,x39_24,rfl,HA,HJ24,HO_6,HO_22,HO_121000,BK115,BK120,HB⟩:=hcut
     cases kq with
     |zero=>exact absurd HA.out (by simp [machine_Run.j1])
     |succ kj24=>
      have H:=HA.out
      clear HA
      simp only [machine_Run.j1] at H
      by_cases c29:x39_24=true
      ·subst c29
       have H1:(some (([]:List Int),1,x24_1))=some (r1,r2,r3):=by rw [if_pos rfl] at H;exact H
       clear H
       have H:=H1
       clear H1
       simp only [Option.some.injEq,Prod.mk.injEq] at H
       obtain⟨rfl,rfl,rfl⟩:=H
       go_wp2
       go_ret3
       exact⟨_,by first|rfl|(simp [errW_none,errW_some]<;>rfl)|(simp [*,errW_none,errW_some]<;>rfl),by first|exact Kd.R_nil _ _ _ _ _|exact Kd.N_nil _ _ _ _ _|exact Kd.V_nil _ _ _ _ _|exact Kd.Q_nil _ _ _ _ _|exact Kd.S_nil _ _ _ _ _,by repeat(first|(with_reducible first|exact HB.out|apply aN|apply aP|apply aO|refine aL ?_ GE115.out|refine aL ?_ GE120.out)|exact HB.out)⟩
      ·replace c29:=Bool.eq_false_iff.mpr c29
       subst c29
       have H1:((machine_Feed.f l0_0 l0_1 a0_2 a0_3 l0_4 l1 x121000_1 x121001_1 (rd y127 x24_1)).bind fun bt131=>(if bt131.2.2.2=0 then(if x6_1.length+bt131.2.2.1.length<17592186044416 then(machine_Run.l0 kj24 l1 l2 (x6_1++bt131.2.2.1) y127 (y127.length:Int) (wrap64 (x24_1+1)) l0_0 l0_1 a0_2 a0_3 l0_4 bt131.1 bt131.2.1) else(none)) else(some (([]:List Int),bt131.2.2.2,x24_1))))=some (r1,r2,r3):=by rw [if_neg (show ¬(false=true) by decide)] at H;exact H
       clear H
       have H:=H1
       clear H1
       replace H:=Option.bind_eq_some_iff.mp H
       obtain⟨⟨t131,t134,t135,t138⟩,A300,H⟩:=H
       replace H:(if t138=0 then(if x6_1.length+t135.length<17592186044416 then(machine_Run.l0 kj24 l1 l2 (x6_1++t135) y127 (y127.length:Int) (wrap64 (x24_1+1)) l0_0 l0_1 a0_2 a0_3 l0_4 t131 t134) else(none)) else(some (([]:List Int),t138,x24_1)))=some (r1,r2,r3):=H
       have A30:=aM A300
       clear A300
       by_cases c31:t138=0
       ·rw [if_pos c31] at H
        have c31b0:(t138==0)=true:=beq_iff_eq.mpr c31
        have c31b1:(t138 !=0)=false:=bne_eq_false_iff_eq.mpr c31
        clear c31
        by_cases c32:x6_1.length+t135.length<17592186044416
        rotate_left
        ·rw [if_neg c32] at H
         exact absurd H (by simp)
        rw [if_pos c32] at H
        have LMc32:=aM c32
        clear c32
        obtain⟨y140,hy140⟩:∃y_:List Int,y_=(x6_1++t135):=⟨_,rfl⟩
        replace H:(machine_Run.l0 kj24 l1 l2 y140 y127 (y127.length:Int) (wrap64 (x24_1+1)) l0_0 l0_1 a0_2 a0_3 l0_4 t131 t134)=some (r1,r2,r3):=by first|(rw [hy140];with_reducible exact H)|(have H2_:=(Option.bind_some _ _).symm.trans H;rw [hy140];with_reducible exact H2_)|(have H2_:=(Option.bind_some _ _).symm.trans H;with_reducible exact H2_)|with_reducible exact H|(rw [hy140];exact H)|exact H
        have Ny140:=aM hy140
        clear hy140
        have H':=aM H
        clear H
        have hnb33:=NB115_120.out
        have hnc33:=NB120_115.out
        have hcz34_0:wc.cell? ⟨gb115,0,none⟩=some (.slice A0_0 l0_0.length c0_0):=(aG BK115.out 0).trans rfl
        have hcz34_1:wc.cell? ⟨gb115,1,none⟩=some (.slice A0_1 l0_1.length c0_1):=(aG BK115.out 1).trans rfl
        have hcz34_2:wc.cell? ⟨gb115,2,none⟩=some (.int .i64 a0_2):=(aG BK115.out 2).trans rfl
        have hcz34_3:wc.cell? ⟨gb115,3,none⟩=some (.int .i64 a0_3):=(aG BK115.out 3).trans rfl
        have hcz34_4:wc.cell? ⟨gb115,4,none⟩=some (.slice A0_4 l0_4.length c0_4):=(aG BK115.out 4).trans rfl
        have hfz34_0:=aH BK115.out 0
        have hfz34_1:=aH BK115.out 1
        have hfz34_2:=aH BK115.out 2
        have hfz34_3:=aH BK115.out 3
        have hfz34_4:=aH BK115.out 4
        have hcz35_0:wc.cell? ⟨gb120,0,none⟩=some (u121000):=(aG BK120.out 0).trans rfl
        have hcz35_1:wc.cell? ⟨gb120,1,none⟩=some (.bool x121001_1):=(aG BK120.out 1).trans rfl
        have hfz35_0:=aH BK120.out 0
        have hfz35_1:=aH BK120.out 1
        obtain⟨Ao36,co36,eo36⟩:=Kd.R_slice HO_121000.out
        subst eo36
        try go_wp2_with (first|((with_reducible refine bI (f:=23) rfl ?_);refine goesL_ (some 46) rfl rfl Try.func23 (by kernel_rfl) rfl #[.agg #[.slice A0_0 l0_0.length c0_0,.slice A0_1 l0_1.length c0_1,.int .i64 a0_2,.int .i64 a0_3,.slice A0_4 l0_4.length c0_4],.slice A1 l1.length c1,.agg #[.slice Ao36 x121000_1.length co36,.bool x121001_1],.int .i64 (rd y127 x24_1)] rfl (by(try simp only [List.map_toArray,List.map_cons,List.map_nil]);first|done|rfl|(simp only [List.length_drop,List.length_take];rfl)) ?_;(with_reducible refine(machine_Feed.calls _ _ l0_0 _ _ l0_1 a0_2 a0_3 _ _ l0_4 _ _ l1 _ _ x121000_1 x121001_1 (rd y127 x24_1) t131 t134 t135 t138 _ ?side1 ?side2 ?side3 ?side4 ?side5 ?side6 ?side7 ?side8 ?side9 ?side10 A30.out).mono ?_);(case side1=>repeat(first|exact(bD HR0_0.out HB.out)|(with_reducible refine Kd.C_alloc ?_ _)|(with_reducible refine Kd.C_drewN ?_ _)|(with_reducible refine Kd.C_drew ?_)));(case side2=>exact HC0_0.out);(case side3=>repeat(first|exact(bD HR0_1.out HB.out)|(with_reducible refine Kd.C_alloc ?_ _)|(with_reducible refine Kd.C_drewN ?_ _)|(with_reducible refine Kd.C_drew ?_)));(case side4=>exact HC0_1.out);(case side5=>repeat(first|exact(bD HR0_4.out HB.out)|(with_reducible refine Kd.C_alloc ?_ _)|(with_reducible refine Kd.C_drewN ?_ _)|(with_reducible refine Kd.C_drew ?_)));(case side6=>exact HC0_4.out);(case side7=>repeat(first|exact(bD HR1.out HB.out)|(with_reducible refine Kd.C_alloc ?_ _)|(with_reducible refine Kd.C_drewN ?_ _)|(with_reducible refine Kd.C_drew ?_)));(case side8=>exact HC1.out);(case side9=>repeat(first|exact(aF HO_121000.out).2.2|(with_reducible refine Kd.C_alloc ?_ _)|(with_reducible refine Kd.C_drewN ?_ _)|(with_reducible refine Kd.C_drew ?_)));(case side10=>exact(aF HO_121000.out).2.1);rintro e w37 ⟨v132,v136,rfl,ho0,ho1,hb⟩;refine⟨_,rfl,?_⟩;have n0_:=aM (bE (by(with_reducible repeat(first|apply aA|apply aB|apply aC));exact HO_6.out) (Kd.R_base ho1) hb);have n1_:=aM (bE (by(with_reducible repeat(first|apply aA|apply aB|apply aC));exact HO_22.out) (Kd.R_base ho1) hb);have n2_:=aM (bE (by(with_reducible repeat(first|apply aA|apply aB|apply aC));exact HO_121000.out) (Kd.R_base ho0) hb);have n3_:=aM (bL (Kd.R_new' ho0 (Kd.R_lt (by(with_reducible repeat(first|apply aA|apply aB|apply aC));exact HO_121000.out))) (bH (by repeat(first|(with_reducible first|exact HB.out|apply aN|apply aP|apply aO|refine aL ?_ GE115.out|refine aL ?_ GE120.out)|exact HB.out))));have n4_:=aM (bL (Kd.R_new' (Kd.R_new' ho1 (Kd.R_lt (by(with_reducible repeat(first|apply aA|apply aB|apply aC));exact HO_6.out))) (Kd.R_lt (by(with_reducible repeat(first|apply aA|apply aB|apply aC));exact HO_22.out))) (bH (by repeat(first|(with_reducible first|exact HB.out|apply aN|apply aP|apply aO|refine aL ?_ GE115.out|refine aL ?_ GE120.out)|exact HB.out))));have n5_:=aM (bF (g:=gb115) (o:= .cells #[.slice A0_0 l0_0.length c0_0,.slice A0_1 l0_1.length c0_1,.int .i64 a0_2,.int .i64 a0_3,.slice A0_4 l0_4.length c0_4] 26 (0,0)) (by(with_reducible repeat(first|refine aJ ?_ _|refine aK ?_|refine aI ?_ _));exact BK115.out) hb);have n6_:=aM (bF (g:=gb120) (o:= .cells #[.slice Ao36 x121000_1.length co36,.bool x121001_1] 31 (0,0)) (by(with_reducible repeat(first|refine aJ ?_ _|refine aK ?_|refine aI ?_ _));exact BK120.out) hb);have n7_:=aM (bG (by repeat(first|(with_reducible first|exact HB.out|apply aN|apply aP|apply aO|refine aL ?_ GE115.out|refine aL ?_ GE120.out)|exact HB.out)) hb);clear HO_6;clear HO_22;clear HO_121000;clear BK115;clear BK120;clear HB;have HO_6:=n0_;have HO_22:=n1_;have HO_121000:=n2_;have HO133:=n3_;have HO137:=n4_;have BK115:=n5_;have BK120:=n6_;have HB:=n7_;clear n0_ n1_ n2_ n3_ n4_ n5_ n6_ n7_;(try clear hb);(try clear hb2);(try clear hk);(try clear hi);(try clear ho0);(try clear ho1))|((with_reducible refine bJ (N:=12) rfl ?_);(try(refine gate_guard (by rfl) ?_;dsimp only));refine box_event ?hg (N:=12) ?hd (cs:=#[.slice none 0 0,.bool false]) (t:=31) ?hr ?_;(case hd=>rfl);(case hg=>rfl);(case hr=>first|(go_simp;done)|(go_simp;rfl));intro gb139 hg w38 hbox hb;have n0_:=aM (aD (by(with_reducible repeat(first|apply aA|apply aB|apply aC));exact HO_6.out) hb);have n1_:=aM (aD (by(with_reducible repeat(first|apply aA|apply aB|apply aC));exact HO_22.out) hb);have n2_:=aM (aD (by(with_reducible repeat(first|apply aA|apply aB|apply aC));exact HO_121000.out) hb);have n3_:=aM (aD (by(with_reducible repeat(first|apply aA|apply aB|apply aC));exact HO133.out) hb);have n4_:=aM (aD (by(with_reducible repeat(first|apply aA|apply aB|apply aC));exact HO137.out) hb);have n5_:=aM (bF (g:=gb115) (o:= .cells #[.slice A0_0 l0_0.length c0_0,.slice A0_1 l0_1.length c0_1,.int .i64 a0_2,.int .i64 a0_3,.slice A0_4 l0_4.length c0_4] 26 (0,0)) (by(with_reducible repeat(first|refine aJ ?_ _|refine aK ?_|refine aI ?_ _));exact BK115.out) hb);have n6_:=aM (bF (g:=gb120) (o:= .cells #[.slice Ao36 x121000_1.length co36,.bool x121001_1] 31 (0,0)) (by(with_reducible repeat(first|refine aJ ?_ _|refine aK ?_|refine aI ?_ _));exact BK120.out) hb);have n7_:=aM (bG (by repeat(first|(with_reducible first|exact HB.out|apply aN|apply aP|apply aO|refine aL ?_ GE115.out|refine aL ?_ GE120.out)|exact HB.out)) hb);have n8_:=aM (hbox);have n9_:=aM ((by rw [hg];exact(bH (by repeat(first|(with_reducible first|exact HB.out|apply aN|apply aP|apply aO|refine aL ?_ GE115.out|refine aL ?_ GE120.out)|exact HB.out))):w.heap.size≤gb139));have n10_:=aM ((by rw [hg];exact(bH (by repeat(first|(with_reducible first|exact HB.out|apply aN|apply aP|apply aO|refine aL ?_ GE115.out|refine aL ?_ GE120.out)|exact HB.out))):w.heap.size≤gb139));have n11_:=aM ((by rw [hg];exact Nat.ne_of_lt (bN (g:=gb115) (o:= .cells #[.slice A0_0 l0_0.length c0_0,.slice A0_1 l0_1.length c0_1,.int .i64 a0_2,.int .i64 a0_3,.slice A0_4 l0_4.length c0_4] 26 (0,0)) (by(with_reducible repeat(first|refine aJ ?_ _|refine aK ?_|refine aI ?_ _));exact BK115.out)):gb115≠gb139));have n12_:=aM ((by rw [hg];exact Nat.ne_of_gt (bN (g:=gb115) (o:= .cells #[.slice A0_0 l0_0.length c0_0,.slice A0_1 l0_1.length c0_1,.int .i64 a0_2,.int .i64 a0_3,.slice A0_4 l0_4.length c0_4] 26 (0,0)) (by(with_reducible repeat(first|refine aJ ?_ _|refine aK ?_|refine aI ?_ _));exact BK115.out)):gb139≠gb115));have n13_:=aM ((by rw [hg];exact Nat.ne_of_lt (bN (g:=gb120) (o:= .cells #[.slice Ao36 x121000_1.length co36,.bool x121001_1] 31 (0,0)) (by(with_reducible repeat(first|refine aJ ?_ _|refine aK ?_|refine aI ?_ _));exact BK120.out)):gb120≠gb139));have n14_:=aM ((by rw [hg];exact Nat.ne_of_gt (bN (g:=gb120) (o:= .cells #[.slice Ao36 x121000_1.length co36,.bool x121001_1] 31 (0,0)) (by(with_reducible repeat(first|refine aJ ?_ _|refine aK ?_|refine aI ?_ _));exact BK120.out)):gb139≠gb120));clear HO_6;clear HO_22;clear HO_121000;clear HO133;clear HO137;clear BK115;clear BK120;clear HB;have HO_6:=n0_;have HO_22:=n1_;have HO_121000:=n2_;have HO133:=n3_;have HO137:=n4_;have BK115:=n5_;have BK120:=n6_;have HB:=n7_;have BK139:=n8_;have GW139:=n9_;have GE139:=n10_;have NB115_139:=n11_;have NB139_115:=n12_;have NB120_139:=n13_;have NB139_120:=n14_;clear n0_ n1_ n2_ n3_ n4_ n5_ n6_ n7_ n8_ n9_ n10_ n11_ n12_ n13_ n14_;clear hb hbox hg;obtain⟨Ao39,co39,eo39⟩:=Kd.R_slice HO133.out;subst eo39;have hnb40:=NB139_115.out;have hnc40:=NB115_139.out;have hnb41:=NB139_120.out;have hnc41:=NB120_139.out;have hcz42_0:w38.cell? ⟨gb139,0,none⟩=some (.slice none 0 0):=(aG BK139.out 0).trans rfl;have hcz42_1:w38.cell? ⟨gb139,1,none⟩=some (.bool false):=(aG BK139.out 1).trans rfl;have hfz42_0:=aH BK139.out 0;have hfz42_1:=aH BK139.out 1))
        have n0_:Aside0 (Kd.R (Kd.int .i64) 3 ((w38.setCell ⟨gb139,0,none⟩ (.slice Ao39 t131.length co39)).setCell ⟨gb139,1,none⟩ (.bool t134)) w.heap.size (fun k_=>some k_≠(.slice (some ad130) y127.length co21:Value).ownBlock∧some k_≠(v136:Value).ownBlock) u6 x6_1):=⟨by(with_reducible repeat(first|apply aA|apply aB|apply aC));exact Kd.R_mono (aE (p:=⟨gb139,1,none⟩) (aE (p:=⟨gb139,0,none⟩) (Kd.R_types HO_6.out BK139.out (by decide)) (fun _ hk=>hk.2) (.slice Ao39 t131.length co39)) (fun _ hk=>hk.2) (.bool t134)) (fun _ hk=>⟨hk.1.1,hk.1.2⟩)⟩
        have n1_:Aside0 (Kd.R (Kd.int .i64) 3 ((w38.setCell ⟨gb139,0,none⟩ (.slice Ao39 t131.length co39)).setCell ⟨gb139,1,none⟩ (.bool t134)) w.heap.size (fun k_=>some k_≠(u6:Value).ownBlock∧some k_≠(v136:Value).ownBlock) (.slice (some ad130) y127.length co21) y127):=⟨by(with_reducible repeat(first|apply aA|apply aB|apply aC));exact Kd.R_mono (aE (p:=⟨gb139,1,none⟩) (aE (p:=⟨gb139,0,none⟩) (Kd.R_types HO_22.out BK139.out (by decide)) (fun _ hk=>hk.2) (.slice Ao39 t131.length co39)) (fun _ hk=>hk.2) (.bool t134)) (fun _ hk=>⟨hk.1.1,hk.1.2⟩)⟩
        have n2_:Aside0 (Kd.R k43 43 ((w38.setCell ⟨gb139,0,none⟩ (.slice Ao39 t131.length co39)).setCell ⟨gb139,1,none⟩ (.bool t134)) w.heap.size (fun k_=>some k_≠(.slice Ao39 t131.length co39:Value).ownBlock) (.slice Ao36 x121000_1.length co36) x121000_1):=⟨by(with_reducible repeat(first|apply aA|apply aB|apply aC));exact Kd.R_mono (aE (p:=⟨gb139,1,none⟩) (aE (p:=⟨gb139,0,none⟩) (Kd.R_types HO_121000.out BK139.out (by decide)) (fun _ hk=>hk.2) (.slice Ao39 t131.length co39)) (fun _ hk=>hk.2) (.bool t134)) (fun _ hk=>hk.1.2)⟩
        have n3_:Aside0 (Kd.R k43 43 ((w38.setCell ⟨gb139,0,none⟩ (.slice Ao39 t131.length co39)).setCell ⟨gb139,1,none⟩ (.bool t134)) w.heap.size (fun k_=>some k_≠(.slice Ao36 x121000_1.length co36:Value).ownBlock) (.slice Ao39 t131.length co39) t131):=⟨by(with_reducible repeat(first|apply aA|apply aB|apply aC));exact Kd.R_mono (aE (p:=⟨gb139,1,none⟩) (aE (p:=⟨gb139,0,none⟩) (Kd.R_types HO133.out BK139.out (by decide)) (fun _ hk=>hk.2) (.slice Ao39 t131.length co39)) (fun _ hk=>hk.2) (.bool t134)) (fun _ hk=>hk.1.2)⟩
        have n4_:Aside0 (Kd.R (Kd.int .i64) 3 ((w38.setCell ⟨gb139,0,none⟩ (.slice Ao39 t131.length co39)).setCell ⟨gb139,1,none⟩ (.bool t134)) w.heap.size (fun k_=>some k_≠(u6:Value).ownBlock∧some k_≠(.slice (some ad130) y127.length co21:Value).ownBlock) v136 t135):=⟨by(with_reducible repeat(first|apply aA|apply aB|apply aC));exact Kd.R_mono (aE (p:=⟨gb139,1,none⟩) (aE (p:=⟨gb139,0,none⟩) (Kd.R_types HO137.out BK139.out (by decide)) (fun _ hk=>hk.2) (.slice Ao39 t131.length co39)) (fun _ hk=>hk.2) (.bool t134)) (fun _ hk=>⟨hk.1.1.2,hk.1.2⟩)⟩
        have n5_:Aside0 (((w38.setCell ⟨gb139,0,none⟩ (.slice Ao39 t131.length co39)).setCell ⟨gb139,1,none⟩ (.bool t134)).heap[gb115]?=some (.cells #[.slice A0_0 l0_0.length c0_0,.slice A0_1 l0_1.length c0_1,.int .i64 a0_2,.int .i64 a0_3,.slice A0_4 l0_4.length c0_4] 26 (0,0))):=⟨by(with_reducible repeat(first|refine aJ ?_ _|refine aK ?_|refine aI ?_ _));refine blk_far ?_ NB115_139.out _;(with_reducible repeat(first|refine aJ ?_ _|refine aK ?_|refine aI ?_ _));refine blk_far ?_ NB115_139.out _;(with_reducible repeat(first|refine aJ ?_ _|refine aK ?_|refine aI ?_ _));exact BK115.out⟩
        have n6_:Aside0 (((w38.setCell ⟨gb139,0,none⟩ (.slice Ao39 t131.length co39)).setCell ⟨gb139,1,none⟩ (.bool t134)).heap[gb120]?=some (.cells #[.slice Ao36 x121000_1.length co36,.bool x121001_1] 31 (0,0))):=⟨by(with_reducible repeat(first|refine aJ ?_ _|refine aK ?_|refine aI ?_ _));refine blk_far ?_ NB120_139.out _;(with_reducible repeat(first|refine aJ ?_ _|refine aK ?_|refine aI ?_ _));refine blk_far ?_ NB120_139.out _;(with_reducible repeat(first|refine aJ ?_ _|refine aK ?_|refine aI ?_ _));exact BK120.out⟩
        have n7_:Aside0 (((w38.setCell ⟨gb139,0,none⟩ (.slice Ao39 t131.length co39)).setCell ⟨gb139,1,none⟩ (.bool t134)).heap[gb139]?=some (.cells #[.slice Ao39 t131.length co39,.bool t134] 31 (0,0))):=⟨by(with_reducible repeat(first|refine aJ ?_ _|refine aK ?_|refine aI ?_ _));refine blk_put (cs:=#[.slice Ao39 t131.length co39,.bool false]) ?_ 1 _ rfl;(with_reducible repeat(first|refine aJ ?_ _|refine aK ?_|refine aI ?_ _));refine blk_put (cs:=#[.slice none 0 0,.bool false]) ?_ 0 _ rfl;(with_reducible repeat(first|refine aJ ?_ _|refine aK ?_|refine aI ?_ _));exact BK139.out⟩
        have n8_:Aside0 (Below w.heap.size w ((w38.setCell ⟨gb139,0,none⟩ (.slice Ao39 t131.length co39)).setCell ⟨gb139,1,none⟩ (.bool t134))):=⟨by repeat(first|(with_reducible first|exact HB.out|apply aN|apply aP|apply aO|refine aL ?_ GE115.out|refine aL ?_ GE120.out|refine aL ?_ GE139.out)|exact HB.out)⟩
        (try clear HO_6);(try clear HO_22);(try clear HO_121000);(try clear HO133);(try clear HO137);(try clear BK115);(try clear BK120);(try clear BK139);(try clear HB)
        generalize ((w38.setCell ⟨gb139,0,none⟩ (.slice Ao39 t131.length co39)).setCell ⟨gb139,1,none⟩ (.bool t134))=w43 at n0_ n1_ n2_ n3_ n4_ n5_ n6_ n7_ n8_ ⊢
        have HO_6:=n0_
        have HO_22:=n1_
        have HO_121000:=n2_
        have HO133:=n3_
        have HO137:=n4_
        have BK115:=n5_
        have BK120:=n6_
        have BK139:=n7_
        have HB:=n8_
        clear n0_ n1_ n2_ n3_ n4_ n5_ n6_ n7_ n8_
        have n0_:=aM (aC HO_6.out)
        have n1_:=aM (aC HO_22.out)
        have n2_:=aM (aC HO_121000.out)
        have n3_:=aM (aC HO133.out)
        have n4_:=aM (aC HO137.out)
        have n5_:=aM (aK BK115.out)
        have n6_:=aM (aK BK120.out)
        have n7_:=aM (aK BK139.out)
        have n8_:=aM (aO HB.out)
        clear HO_6
        clear HO_22
        clear HO_121000
        clear HO133
        clear HO137
        clear BK115
        clear BK120
        clear BK139
        clear HB
        have HO_6:=n0_
        have HO_22:=n1_
        have HO_121000:=n2_
        have HO133:=n3_
        have HO137:=n4_
        have BK115:=n5_
        have BK120:=n6_
        have BK139:=n7_
        have HB:=n8_
        clear n0_ n1_ n2_ n3_ n4_ n5_ n6_ n7_ n8_
        obtain⟨Ao46,co46,eo46⟩:=Kd.R_slice HO137.out
        (first|subst eo46|(injection eo46 with f1_ f2_ f3_;have f4_:=f1_.symm;have f5_:=f3_.symm;clear f1_ f2_ f3_;subst f4_;subst f5_))
        refine start_ (n:=6) (S:=fun w'=>w'.cell? ⟨gb139,0,none⟩=some (.slice Ao39 t131.length co39)∧w'.cell? ⟨gb139,1,none⟩=some (.bool t134)) (ds:= []) #[false,false,false,false,false,false] (by kernel_rfl) rfl rfl ⟨(aG BK139.out 0).trans rfl,(aG BK139.out 1).trans rfl⟩ (fun hHeld=>?_)
        generalize w43.drew=w44 at HO_6 HO_22 HO_121000 HO133 HO137 BK115 BK120 BK139 HB hHeld ⊢
        refine pure_ (i:=1) (N:=some 55) (v:=?_) (a':=?_) #[false,true,false,false,false,false] rfl rfl (by kernel_rfl) (fun _ _ _ h=>h) (Or.inl ⟨by rfl,?_⟩) ?_ ?_
        rotate_left;(intro w';go_simp;with_reducible rfl);rotate_left;(simp only [pq];rfl)
        refine pure_ (i:=2) (N:=some 56) (v:=?_) (a':=?_) #[false,true,true,false,false,false] rfl rfl (by kernel_rfl) (fun _ _ _ h=>h) (Or.inl ⟨by rfl,?_⟩) ?_ ?_
        rotate_left;(intro w';go_simp;with_reducible rfl);rotate_left;(simp only [pq];rfl)
        refine take_ (i:=0) (N:=some 54) (v:=?_) (a':=?_) #[true,true,true,false,false,false] rfl rfl (by kernel_rfl) (fun _ _ _ h=>h) (Or.inl ⟨by rfl,?_⟩) hHeld ?_ ?_
        rotate_left
        ·rintro w' ⟨s0,s1⟩
         go_simp
         with_reducible rfl
        rotate_left
        ·simp only [pq]
         rfl
        refine one_ (i:=3) (N:=some 57) #[true,true,true,true,false,false] rfl rfl (by kernel_rfl) (by decide) (fun K hK=>?_)
        refine Kd.R_append_rows_step (Kd.int .i64) (w0:=w) w.heap.size (by rfl) (.tmp 55) (.tmp 56) 32 3 (.int .i64 0) 8 rfl Try.underlying32 info3 rfl (by decide) (by omega) u6 x6_1 t135 _ _ _ (fun k_=>some k_≠(.slice (some ad130) y127.length co21:Value).ownBlock∧some k_≠(.slice Ao46 t135.length co46:Value).ownBlock) (fun _=>False) rfl rfl ?aO ?aR (fun _ _ h=>h) (fun _ h=>h.elim) ?aF ?aB ?aS ?aL ?_
        (case aR=>repeat(first|exact(aF HO137.out).2.2|(with_reducible refine Kd.C_alloc ?_ _)|(with_reducible refine Kd.C_drewN ?_ _)|(with_reducible refine Kd.C_drew ?_)))
        (case aB=>exact(by repeat(first|(with_reducible first|exact HB.out|apply aN|apply aP|apply aO|refine aL ?_ GE115.out|refine aL ?_ GE120.out|refine aL ?_ GE139.out)|exact HB.out)))
        (case aF=>exact(fun k_ hk=>⟨Kd.fresh' (Kd.R_lt (by(with_reducible repeat(first|apply aA|apply aB|apply aC));exact HO_22.out)) k_ hk,Kd.fresh' (Kd.R_lt (by(with_reducible repeat(first|apply aA|apply aB|apply aC));exact HO137.out)) k_ hk⟩))
        (case aO=>exact(by(with_reducible repeat(first|apply aA|apply aB|apply aC));exact HO_6.out))
        (case aS=>exact(bH (by repeat(first|(with_reducible first|exact HB.out|apply aN|apply aP|apply aO|refine aL ?_ GE115.out|refine aL ?_ GE120.out|refine aL ?_ GE139.out)|exact HB.out))))
        (case aL=>have:=LMc32.out;omega)
        intro v141 w45 ho hb hg hat
        rw [←Ny140.out] at ho
        have n0_:=aM (Kd.R_after (ok:=(fun k_=>some k_≠(.slice Ao46 t135.length co46:Value).ownBlock)) (by(with_reducible repeat(first|apply aA|apply aB|apply aC));exact Kd.R_mono HO_22.out (fun _ hk=>⟨hk.2,hk.1⟩)) hg hat)
        have n1_:=aM (Kd.R_over' (by(with_reducible repeat(first|apply aA|apply aB|apply aC));exact HO_121000.out) (Kd.R_typed (by(with_reducible repeat(first|apply aA|apply aB|apply aC));exact HO_6.out)) (by decide) hg)
        have n2_:=aM (blk_grown (g:=gb115) (o:= .cells #[.slice A0_0 l0_0.length c0_0,.slice A0_1 l0_1.length c0_1,.int .i64 a0_2,.int .i64 a0_3,.slice A0_4 l0_4.length c0_4] 26 (0,0)) (by(with_reducible repeat(first|refine aJ ?_ _|refine aK ?_|refine aI ?_ _));exact BK115.out) hg (Kd.R_ne HO_6.out BK115.out (by decide)))
        have n3_:=aM (blk_grown (g:=gb120) (o:= .cells #[.slice Ao36 x121000_1.length co36,.bool x121001_1] 31 (0,0)) (by(with_reducible repeat(first|refine aJ ?_ _|refine aK ?_|refine aI ?_ _));exact BK120.out) hg (Kd.R_ne HO_6.out BK120.out (by decide)))
        have n4_:=aM (Kd.R_over' (by(with_reducible repeat(first|apply aA|apply aB|apply aC));exact HO133.out) (Kd.R_typed (by(with_reducible repeat(first|apply aA|apply aB|apply aC));exact HO_6.out)) (by decide) hg)
        have n5_:=aM (Kd.R_after (ok:=(fun k_=>some k_≠(.slice (some ad130) y127.length co21:Value).ownBlock)) (by(with_reducible repeat(first|apply aA|apply aB|apply aC));exact Kd.R_mono HO137.out (fun _ hk=>⟨hk.2,hk.1⟩)) hg hat)
        have n6_:=aM (blk_grown (g:=gb139) (o:= .cells #[.slice Ao39 t131.length co39,.bool t134] 31 (0,0)) (by(with_reducible repeat(first|refine aJ ?_ _|refine aK ?_|refine aI ?_ _));exact BK139.out) hg (Kd.R_ne HO_6.out BK139.out (by decide)))
        have n7_:=aM (hb)
        have n8_:=aM (ho)
        clear HO_22
        clear HO_121000
        clear BK115
        clear BK120
        clear HO133
        clear HO137
        clear BK139
        clear HB
        clear HO_6
        have HO_22:=n0_
        have HO_121000:=n1_
        have BK115:=n2_
        have BK120:=n3_
        have HO133:=n4_
        have HO137:=n5_
        have BK139:=n6_
        have HB:=n7_
        have HO142:=n8_
        clear n0_ n1_ n2_ n3_ n4_ n5_ n6_ n7_ n8_
        clear ho hb hg hat
        refine hK.out _ _ ⟨(aG BK139.out 0).trans rfl,(aG BK139.out 1).trans rfl⟩ (fun hHeld=>?_)
        clear hK K
        refine norm_ (a':=?_) ?_ ?_
        rotate_left
        ·show Act.put _ (some 57) _=_
         simp only [pq]
         rfl
        refine one_ (i:=4) (N:=none) #[true,true,true,true,true,false] rfl rfl (by kernel_rfl) (by decide) (fun K hK=>?_)
        have hs47:w45.cell? ⟨gb120,0,none⟩=some (.slice Ao36 x121000_1.length co36):=(aG BK120.out 0).trans rfl
        have hfs47:=aH BK120.out 0
        have hns47_0:=NB115_120.out
        have hns47_2:=NB139_120.out
        have hms47_0:=NB120_115.out
        have hms47_2:=NB120_139.out
        have hs48:w45.cell? ⟨gb120,1,none⟩=some (.bool x121001_1):=(aG BK120.out 1).trans rfl
        have hfs48:=aH BK120.out 1
        have hns48_0:=NB115_120.out
        have hns48_2:=NB139_120.out
        have hms48_0:=NB120_115.out
        have hms48_2:=NB120_139.out
        refine skip_ (w1:=?_) (by rfl) rfl ?_ ?_
        rotate_left
        ·go_simp
         rfl
        refine hK.out _ _ ⟨((cell_far (p:=⟨gb120,_,none⟩) NB139_120.out _).trans (((cell_far (p:=⟨gb120,_,none⟩) NB139_120.out _).trans (hHeld.1)))),((cell_far (p:=⟨gb120,_,none⟩) NB139_120.out _).trans (((cell_far (p:=⟨gb120,_,none⟩) NB139_120.out _).trans (hHeld.2))))⟩ (fun hHeld=>?_)
        clear hK K
        refine pure_ (i:=5) (N:=some 6) (v:=?_) (a':=?_) #[true,true,true,true,true,true] rfl rfl (by kernel_rfl) (fun _ _ _ h=>h) (Or.inl ⟨by rfl,?_⟩) ?_ ?_
        rotate_left;(intro w';go_simp;with_reducible rfl);rotate_left;(simp only [pq];rfl)
        refine done_ (by kernel_rfl) ?_
        try go_wp2
        go_roundg kj24
        case measure=>have:=HK1.out;have:=HJ24.out;omega
        case rel=>exact⟨(y140),(wrap64 (x24_1+1)),(t131),(t134),(.slice Ao39 t131.length co39),(by first|rfl|(simp;done)|(simp [*];done)),H',⟨by have:=HK1.out;have:=HJ24.out;omega⟩,⟨by(with_reducible repeat(first|apply aA|apply aB|apply aC));exact Kd.R_mono (aE (p:=⟨gb120,1,none⟩) (aE (p:=⟨gb120,0,none⟩) (Kd.R_types HO142.out BK120.out (by decide)) (fun _ hk=>hk.2) (.slice Ao39 t131.length co39)) (fun _ hk=>hk.2) (.bool t134)) (fun _ hk=>hk.1.1)⟩,⟨by(with_reducible repeat(first|apply aA|apply aB|apply aC));exact Kd.R_mono (aE (p:=⟨gb120,1,none⟩) (aE (p:=⟨gb120,0,none⟩) (Kd.R_types HO_22.out BK120.out (by decide)) (fun _ hk=>hk.2) (.slice Ao39 t131.length co39)) (fun _ hk=>hk.2) (.bool t134)) (fun _ hk=>hk.1.2)⟩,⟨by(with_reducible repeat(first|apply aA|apply aB|apply aC));exact Kd.R_mono (aE (p:=⟨gb120,1,none⟩) (aE (p:=⟨gb120,0,none⟩) (Kd.R_types HO133.out BK120.out (by decide)) (fun _ hk=>hk.2) (.slice Ao39 t131.length co39)) (fun _ hk=>hk.2) (.bool t134)) (fun _ hk=>trivial)⟩,⟨by(with_reducible repeat(first|refine aJ ?_ _|refine aK ?_|refine aI ?_ _));refine blk_far ?_ NB115_120.out _;(with_reducible repeat(first|refine aJ ?_ _|refine aK ?_|refine aI ?_ _));refine blk_far ?_ NB115_120.out _;(with_reducible repeat(first|refine aJ ?_ _|refine aK ?_|refine aI ?_ _));exact BK115.out⟩,⟨by(with_reducible repeat(first|refine aJ ?_ _|refine aK ?_|refine aI ?_ _));refine blk_put (cs:=#[.slice Ao39 t131.length co39,.bool x121001_1]) ?_ 1 _ rfl;(with_reducible repeat(first|refine aJ ?_ _|refine aK ?_|refine aI ?_ _));refine blk_put (cs:=#[.slice Ao36 x121000_1.length co36,.bool x121001_1]) ?_ 0 _ rfl;(with_reducible repeat(first|refine aJ ?_ _|refine aK ?_|refine aI ?_ _));exact BK120.out⟩,⟨by repeat(first|(with_reducible first|exact HB.out|apply aN|apply aP|apply aO|refine aL ?_ GE115.out|refine aL ?_ GE120.out|refine aL ?_ GE139.out)|exact HB.out)⟩⟩
       ·rw [if_neg c31] at H
        have c31b0:(t138==0)=false:=beq_eq_false_iff_ne.mpr c31
        have c31b1:(t138 !=0)=true:=bne_iff_ne.mpr c31
        simp only [Option.some.injEq,Prod.mk.injEq] at H
        obtain⟨rfl,rfl,rfl⟩:=H
        have hnb49:=NB115_120.out
        have hnc49:=NB120_115.out
        have hcz50_0:wc.cell? ⟨gb115,0,none⟩=some (.slice A0_0 l0_0.length c0_0):=(aG BK115.out 0).trans rfl
        have hcz50_1:wc.cell? ⟨gb115,1,none⟩=some (.slice A0_1 l0_1.length c0_1):=(aG BK115.out 1).trans rfl
        have hcz50_2:wc.cell? ⟨gb115,2,none⟩=some (.int .i64 a0_2):=(aG BK115.out 2).trans rfl
        have hcz50_3:wc.cell? ⟨gb115,3,none⟩=some (.int .i64 a0_3):=(aG BK115.out 3).trans rfl
        have hcz50_4:wc.cell? ⟨gb115,4,none⟩=some (.slice A0_4 l0_4.length c0_4):=(aG BK115.out 4).trans rfl
        have hfz50_0:=aH BK115.out 0
        have hfz50_1:=aH BK115.out 1
        have hfz50_2:=aH BK115.out 2
        have hfz50_3:=aH BK115.out 3
        have hfz50_4:=aH BK115.out 4
        have hcz51_0:wc.cell? ⟨gb120,0,none⟩=some (u121000):=(aG BK120.out 0).trans rfl
        have hcz51_1:wc.cell? ⟨gb120,1,none⟩=some (.bool x121001_1):=(aG BK120.out 1).trans rfl
        have hfz51_0:=aH BK120.out 0
        have hfz51_1:=aH BK120.out 1
        obtain⟨Ao52,co52,eo52⟩:=Kd.R_slice HO_121000.out
        subst eo52
        go_wp2_with (first|((with_reducible refine bI (f:=23) rfl ?_);refine goesL_ (some 46) rfl rfl Try.func23 (by kernel_rfl) rfl #[.agg #[.slice A0_0 l0_0.length c0_0,.slice A0_1 l0_1.length c0_1,.int .i64 a0_2,.int .i64 a0_3,.slice A0_4 l0_4.length c0_4],.slice A1 l1.length c1,.agg #[.slice Ao52 x121000_1.length co52,.bool x121001_1],.int .i64 (rd y127 x24_1)] rfl (by(try simp only [List.map_toArray,List.map_cons,List.map_nil]);first|done|rfl|(simp only [List.length_drop,List.length_take];rfl)) ?_;(with_reducible refine(machine_Feed.calls _ _ l0_0 _ _ l0_1 a0_2 a0_3 _ _ l0_4 _ _ l1 _ _ x121000_1 x121001_1 (rd y127 x24_1) t131 t134 t135 t138 _ ?side1 ?side2 ?side3 ?side4 ?side5 ?side6 ?side7 ?side8 ?side9 ?side10 A30.out).mono ?_);(case side1=>repeat(first|exact(bD HR0_0.out HB.out)|(with_reducible refine Kd.C_alloc ?_ _)|(with_reducible refine Kd.C_drewN ?_ _)|(with_reducible refine Kd.C_drew ?_)));(case side2=>exact HC0_0.out);(case side3=>repeat(first|exact(bD HR0_1.out HB.out)|(with_reducible refine Kd.C_alloc ?_ _)|(with_reducible refine Kd.C_drewN ?_ _)|(with_reducible refine Kd.C_drew ?_)));(case side4=>exact HC0_1.out);(case side5=>repeat(first|exact(bD HR0_4.out HB.out)|(with_reducible refine Kd.C_alloc ?_ _)|(with_reducible refine Kd.C_drewN ?_ _)|(with_reducible refine Kd.C_drew ?_)));(case side6=>exact HC0_4.out);(case side7=>repeat(first|exact(bD HR1.out HB.out)|(with_reducible refine Kd.C_alloc ?_ _)|(with_reducible refine Kd.C_drewN ?_ _)|(with_reducible refine Kd.C_drew ?_)));(case side8=>exact HC1.out);(case side9=>repeat(first|exact(aF HO_121000.out).2.2|(with_reducible refine Kd.C_alloc ?_ _)|(with_reducible refine Kd.C_drewN ?_ _)|(with_reducible refine Kd.C_drew ?_)));(case side10=>exact(aF HO_121000.out).2.1);rintro e w53 ⟨v132,v136,rfl,ho0,ho1,hb⟩;refine⟨_,rfl,?_⟩;have n0_:=aM (bE (by(with_reducible repeat(first|apply aA|apply aB|apply aC));exact HO_6.out) (Kd.R_base ho1) hb);have n1_:=aM (bE (by(with_reducible repeat(first|apply aA|apply aB|apply aC));exact HO_22.out) (Kd.R_base ho1) hb);have n2_:=aM (bE (by(with_reducible repeat(first|apply aA|apply aB|apply aC));exact HO_121000.out) (Kd.R_base ho0) hb);have n3_:=aM (bL (Kd.R_new' ho0 (Kd.R_lt (by(with_reducible repeat(first|apply aA|apply aB|apply aC));exact HO_121000.out))) (bH (by repeat(first|(with_reducible first|exact HB.out|apply aN|apply aP|apply aO|refine aL ?_ GE115.out|refine aL ?_ GE120.out)|exact HB.out))));have n4_:=aM (bL (Kd.R_new' (Kd.R_new' ho1 (Kd.R_lt (by(with_reducible repeat(first|apply aA|apply aB|apply aC));exact HO_6.out))) (Kd.R_lt (by(with_reducible repeat(first|apply aA|apply aB|apply aC));exact HO_22.out))) (bH (by repeat(first|(with_reducible first|exact HB.out|apply aN|apply aP|apply aO|refine aL ?_ GE115.out|refine aL ?_ GE120.out)|exact HB.out))));have n5_:=aM (bF (g:=gb115) (o:= .cells #[.slice A0_0 l0_0.length c0_0,.slice A0_1 l0_1.length c0_1,.int .i64 a0_2,.int .i64 a0_3,.slice A0_4 l0_4.length c0_4] 26 (0,0)) (by(with_reducible repeat(first|refine aJ ?_ _|refine aK ?_|refine aI ?_ _));exact BK115.out) hb);have n6_:=aM (bF (g:=gb120) (o:= .cells #[.slice Ao52 x121000_1.length co52,.bool x121001_1] 31 (0,0)) (by(with_reducible repeat(first|refine aJ ?_ _|refine aK ?_|refine aI ?_ _));exact BK120.out) hb);have n7_:=aM (bG (by repeat(first|(with_reducible first|exact HB.out|apply aN|apply aP|apply aO|refine aL ?_ GE115.out|refine aL ?_ GE120.out)|exact HB.out)) hb);clear HO_6;clear HO_22;clear HO_121000;clear BK115;clear BK120;clear HB;have HO_6:=n0_;have HO_22:=n1_;have HO_121000:=n2_;have HO133:=n3_;have HO137:=n4_;have BK115:=n5_;have BK120:=n6_;have HB:=n7_;clear n0_ n1_ n2_ n3_ n4_ n5_ n6_ n7_;(try clear hb);(try clear hb2);(try clear hk);(try clear hi);(try clear ho0);(try clear ho1))|((with_reducible refine bJ (N:=12) rfl ?_);(try(refine gate_guard (by rfl) ?_;dsimp only));refine box_event ?hg (N:=12) ?hd (cs:=#[.slice none 0 0,.bool false]) (t:=31) ?hr ?_;(case hd=>rfl);(case hg=>rfl);(case hr=>first|(go_simp;done)|(go_simp;rfl));intro gb139 hg w54 hbox hb;have n0_:=aM (aD (by(with_reducible repeat(first|apply aA|apply aB|apply aC));exact HO_6.out) hb);have n1_:=aM (aD (by(with_reducible repeat(first|apply aA|apply aB|apply aC));exact HO_22.out) hb);have n2_:=aM (aD (by(with_reducible repeat(first|apply aA|apply aB|apply aC));exact HO_121000.out) hb);have n3_:=aM (aD (by(with_reducible repeat(first|apply aA|apply aB|apply aC));exact HO133.out) hb);have n4_:=aM (aD (by(with_reducible repeat(first|apply aA|apply aB|apply aC));exact HO137.out) hb);have n5_:=aM (bF (g:=gb115) (o:= .cells #[.slice A0_0 l0_0.length c0_0,.slice A0_1 l0_1.length c0_1,.int .i64 a0_2,.int .i64 a0_3,.slice A0_4 l0_4.length c0_4] 26 (0,0)) (by(with_reducible repeat(first|refine aJ ?_ _|refine aK ?_|refine aI ?_ _));exact BK115.out) hb);have n6_:=aM (bF (g:=gb120) (o:= .cells #[.slice Ao52 x121000_1.length co52,.bool x121001_1] 31 (0,0)) (by(with_reducible repeat(first|refine aJ ?_ _|refine aK ?_|refine aI ?_ _));exact BK120.out) hb);have n7_:=aM (bG (by repeat(first|(with_reducible first|exact HB.out|apply aN|apply aP|apply aO|refine aL ?_ GE115.out|refine aL ?_ GE120.out)|exact HB.out)) hb);have n8_:=aM (hbox);have n9_:=aM ((by rw [hg];exact(bH (by repeat(first|(with_reducible first|exact HB.out|apply aN|apply aP|apply aO|refine aL ?_ GE115.out|refine aL ?_ GE120.out)|exact HB.out))):w.heap.size≤gb139));have n10_:=aM ((by rw [hg];exact(bH (by repeat(first|(with_reducible first|exact HB.out|apply aN|apply aP|apply aO|refine aL ?_ GE115.out|refine aL ?_ GE120.out)|exact HB.out))):w.heap.size≤gb139));have n11_:=aM ((by rw [hg];exact Nat.ne_of_lt (bN (g:=gb115) (o:= .cells #[.slice A0_0 l0_0.length c0_0,.slice A0_1 l0_1.length c0_1,.int .i64 a0_2,.int .i64 a0_3,.slice A0_4 l0_4.length c0_4] 26 (0,0)) (by(with_reducible repeat(first|refine aJ ?_ _|refine aK ?_|refine aI ?_ _));exact BK115.out)):gb115≠gb139));have n12_:=aM ((by rw [hg];exact Nat.ne_of_gt (bN (g:=gb115) (o:= .cells #[.slice A0_0 l0_0.length c0_0,.slice A0_1 l0_1.length c0_1,.int .i64 a0_2,.int .i64 a0_3,.slice A0_4 l0_4.length c0_4] 26 (0,0)) (by(with_reducible repeat(first|refine aJ ?_ _|refine aK ?_|refine aI ?_ _));exact BK115.out)):gb139≠gb115));have n13_:=aM ((by rw [hg];exact Nat.ne_of_lt (bN (g:=gb120) (o:= .cells #[.slice Ao52 x121000_1.length co52,.bool x121001_1] 31 (0,0)) (by(with_reducible repeat(first|refine aJ ?_ _|refine aK ?_|refine aI ?_ _));exact BK120.out)):gb120≠gb139));have n14_:=aM ((by rw [hg];exact Nat.ne_of_gt (bN (g:=gb120) (o:= .cells #[.slice Ao52 x121000_1.length co52,.bool x121001_1] 31 (0,0)) (by(with_reducible repeat(first|refine aJ ?_ _|refine aK ?_|refine aI ?_ _));exact BK120.out)):gb139≠gb120));clear HO_6;clear HO_22;clear HO_121000;clear HO133;clear HO137;clear BK115;clear BK120;clear HB;have HO_6:=n0_;have HO_22:=n1_;have HO_121000:=n2_;have HO133:=n3_;have HO137:=n4_;have BK115:=n5_;have BK120:=n6_;have HB:=n7_;have BK139:=n8_;have GW139:=n9_;have GE139:=n10_;have NB115_139:=n11_;have NB139_115:=n12_;have NB120_139:=n13_;have NB139_120:=n14_;clear n0_ n1_ n2_ n3_ n4_ n5_ n6_ n7_ n8_ n9_ n10_ n11_ n12_ n13_ n14_;clear hb hbox hg;obtain⟨Ao55,co55,eo55⟩:=Kd.R_slice HO133.out;subst eo55;have hnb56:=NB139_115.out;have hnc56:=NB115_139.out;have hnb57:=NB139_120.out;have hnc57:=NB120_139.out;have hcz58_0:w54.cell? ⟨gb139,0,none⟩=some (.slice none 0 0):=(aG BK139.out 0).trans rfl;have hcz58_1:w54.cell? ⟨gb139,1,none⟩=some (.bool false):=(aG BK139.out 1).trans rfl;have hfz58_0:=aH BK139.out 0;have hfz58_1:=aH BK139.out 1))
        go_ret3
        exact⟨_,by first|rfl|(simp [errW_none,errW_some]<;>rfl)|(simp [*,errW_none,errW_some]<;>rfl),by first|exact Kd.R_nil _ _ _ _ _|exact Kd.N_nil _ _ _ _ _|exact Kd.V_nil _ _ _ _ _|exact Kd.Q_nil _ _ _ _ _|exact Kd.S_nil _ _ _ _ _,by repeat(first|(with_reducible first|exact HB.out|apply aN|apply aP|apply aO|refine aL ?_ GE115.out|refine aL ?_ GE120.out|refine aL ?_ GE139.out)|exact HB.out)⟩
   ·rw [if_neg c22] at H
    have c22b0:decide (x24_1<(y127.length:Int))=false:=decide_eq_false c22
    clear c22
    simp only [Option.some.injEq,Prod.mk.injEq] at H
    obtain⟨rfl,rfl,rfl⟩:=H
    go_wp2
    go_ret3
    exact⟨_,by first|rfl|(simp [errW_none,errW_some]<;>rfl)|(simp [*,errW_none,errW_some]<;>rfl),by(with_reducible repeat(first|apply aA|apply aB|apply aC));exact Kd.R_mono HO_6.out (fun _ hk=>trivial),by repeat(first|(with_reducible first|exact HB.out|apply aN|apply aP|apply aO|refine aL ?_ GE115.out|refine aL ?_ GE120.out)|exact HB.out)⟩
end Go.Proofs.Ytapjfnfengefpaa.P
end
