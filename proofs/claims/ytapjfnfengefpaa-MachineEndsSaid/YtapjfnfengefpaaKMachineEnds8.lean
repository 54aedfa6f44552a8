/- Packed texts of this claim: the walks of the functions, and their plain laws; see the claim's last text. -/
import Derived.WalkMore
import Derived.Deep.AppendLies
import Derived.Deep.Cut
import Derived.Deep.CutRange
import Derived.Shelf.Abstract
import Derived.Test.YtapjfnfengefpaaKMachineEnds7
section
namespace Go.Proofs.Ytapjfnfengefpaa.P
open Go.RowKit Go.Proofs.YtapjfnfengefpaaW.PrintWords Go.Proofs.YtapjfnfengefpaaW.PrintLast Go.Proofs.YtapjfnfengefpaaW.PrintMore
attribute [local go_sem] max2_int min2_int max_two min_two max_three min_three max_four min_four   -- for this text's walks alone
set_option linter.unusedVariables false
set_option linter.unusedSimpArgs false
mutual
def regletlaw16_MachineEnds.j1:Nat→Bool→List (List Int)→List Int→Int→List ByteArray→List (S72)→Int→Int→List (S35)→List (S43)→Bool→Option (Bool)
 |0,_,_,_,_,_,_,_,_,_,_,_=>none
 |k+1,x5,x7,x8,x10,x746000,x746001,x746002,x746003,x746004,x757000,x757001=>(machine_Run.f k x746000 x746001 x746002 x746003 x746004 x7 x8).bind fun bt766=>(if x10=0 then((machine_Feed.f x746000 x746001 x746002 x746003 x746004 x7 x757000 x757001 (x746001.length:Int)).bind fun bt771=>(if bt771.2.2.2=0 then((machine_Feed.f x746000 x746001 x746002 x746003 x746004 x7 bt771.1 bt771.2.1 (x746001.length:Int)).bind fun bt780=>(if x5=true then(if bt766.2.1=0 then(if(bt771.1.length:Int)=0 then(if bt780.2.2.2=0 then(some ((bt780.2.2.1.length:Int)==0)) else(none)) else(none)) else(none)) else(none))) else(if x5=true then(if bt766.2.1=bt771.2.2.2 then(some bt771.2.1) else(none)) else(none)))) else(if x5=true then(some (bt766.2.1 !=0)) else(none)))
def regletlaw16_MachineEnds.l0:Nat→Bool→List (List Int)→List Int→Int→Int→List ByteArray→List (S72)→Int→Int→List (S35)→List (S43)→Bool→Option (Bool)
 |0,_,_,_,_,_,_,_,_,_,_,_,_=>none
 |k+1,x5,x7,x8,x10,x11,x746000,x746001,x746002,x746003,x746004,x757000,x757001=>if x11<(x8.length:Int) then(if x10=0 then(if 0≤x11 then((machine_Feed.f x746000 x746001 x746002 x746003 x746004 x7 x757000 x757001 (rd x8 x11)).bind fun bt758=>(regletlaw16_MachineEnds.l0 k x5 x7 x8 bt758.2.2.2 (wrap64 (x11+1)) x746000 x746001 x746002 x746003 x746004 bt758.1 bt758.2.1)) else(none)) else(regletlaw16_MachineEnds.j1 k x5 x7 x8 x10 x746000 x746001 x746002 x746003 x746004 x757000 x757001)) else(regletlaw16_MachineEnds.j1 k x5 x7 x8 x10 x746000 x746001 x746002 x746003 x746004 x757000 x757001)
end
def regletlaw16_MachineEnds.f (k:Nat) (l0:List Int) (l1:List Int):Option (Bool):=(regletlaw16_awake.f k).bind fun t733=>(if t733=true then((regletlaw14_Clear.f k l0).bind fun bt734=>((regletlaw16_table.f k bt734.1 bt734.2.1 bt734.2.2.1 bt734.2.2.2.1 bt734.2.2.2.2 255 0).bind fun t746=>((regletlaw16_tokens.f k l1 (bt734.2.1.length:Int)).bind fun t749=>((machine_Start.f).bind fun bt752=>(regletlaw16_MachineEnds.l0 k t733 t746 t749 0 0 bt734.1 bt734.2.1 bt734.2.2.1 bt734.2.2.2.1 bt734.2.2.2.2 bt752.1 bt752.2))))) else(none))
def regletlaw16_MachineEnds.T12:Bool×List (List Nat×List Nat):=(true,[([],[]),([],[]),([],[]),([],[]),([],[]),([3,4],[3,4]),([5],[5]),([0,1,2,6],[0,1,2,6]),([7],[7]),([8],[8]),([8],[8]),([8],[8]),([9,7,0,1,2,3,4,5,6,7,8,9],[9]),([11,12,0,1,2,3,4,5,6,7,8,9,10,11,12],[11])])
def regletlaw16_MachineEnds.B12:List Nat:= [0,0,0,0,0,24,56,127,255,511,511,511,1023,8191]
theorem regletlaw16_MachineEnds.tab12:rtab .any (opsOf Try.f9 12)=regletlaw16_MachineEnds.T12:=by kernel_rfl
theorem regletlaw16_MachineEnds.bits12:waitsOk regletlaw16_MachineEnds.T12.2 regletlaw16_MachineEnds.B12=true:=by kernel_rfl
set_option maxHeartbeats 8000000 in
set_option maxRecDepth 100000 in
theorem regletlaw16_MachineEnds.calls (k:Nat) (A0:Option Addr) (c0:Nat) (l0:List Int) (A1:Option Addr) (c1:Nat) (l1:List Int) (r:Bool) (w:World) (hr0:Kd.C (Kd.int .u8) w A0 l0.length l0) (hc0:l0.length≤c0) (hr1:Kd.C (Kd.int .u8) w A1 l1.length l1) (hc1:l1.length≤c1) (h:regletlaw16_MachineEnds.f k l0 l1=some r):
 Calls Try.prog 9 #[.slice A0 l0.length c0,.slice A1 l1.length c1] w fun e w'=>e= .returned (.bool r)∧Below w.heap.size w w':=by
 have hu26:=Try.underlying26
 have hu31:=Try.underlying31
 have HR0:=aM hr0
 have HC0:=aM hc0
 clear hr0 hc0
 have HR1:=aM hr1
 have HC1:=aM hc1
 clear hr1 hc1
 have HB:=aM (Below.refl w.heap.size w)
 have H:((regletlaw16_awake.f k).bind fun t733=>(if t733=true then((regletlaw14_Clear.f k l0).bind fun bt734=>((regletlaw16_table.f k bt734.1 bt734.2.1 bt734.2.2.1 bt734.2.2.2.1 bt734.2.2.2.2 255 0).bind fun t746=>((regletlaw16_tokens.f k l1 (bt734.2.1.length:Int)).bind fun t749=>((machine_Start.f).bind fun bt752=>(regletlaw16_MachineEnds.l0 k t733 t746 t749 0 0 bt734.1 bt734.2.1 bt734.2.2.1 bt734.2.2.2.1 bt734.2.2.2.2 bt752.1 bt752.2))))) else(none)))=some r:=h
 clear h
 replace H:=Option.bind_eq_some_iff.mp H
 obtain⟨t733,A30,H⟩:=H
 replace H:(if t733=true then((regletlaw14_Clear.f k l0).bind fun bt734=>((regletlaw16_table.f k bt734.1 bt734.2.1 bt734.2.2.1 bt734.2.2.2.1 bt734.2.2.2.2 255 0).bind fun t746=>((regletlaw16_tokens.f k l1 (bt734.2.1.length:Int)).bind fun t749=>((machine_Start.f).bind fun bt752=>(regletlaw16_MachineEnds.l0 k t733 t746 t749 0 0 bt734.1 bt734.2.1 bt734.2.2.1 bt734.2.2.2.1 bt734.2.2.2.2 bt752.1 bt752.2))))) else(none))=some r:=H
 have A3:=aM A30
 clear A30
 by_cases c4:t733=true
 ·subst c4
  have H1:((regletlaw14_Clear.f k l0).bind fun bt734=>((regletlaw16_table.f k bt734.1 bt734.2.1 bt734.2.2.1 bt734.2.2.2.1 bt734.2.2.2.2 255 0).bind fun t746=>((regletlaw16_tokens.f k l1 (bt734.2.1.length:Int)).bind fun t749=>((machine_Start.f).bind fun bt752=>(regletlaw16_MachineEnds.l0 k true t746 t749 0 0 bt734.1 bt734.2.1 bt734.2.2.1 bt734.2.2.2.1 bt734.2.2.2.2 bt752.1 bt752.2)))))=some r:=by rw [if_pos rfl] at H;exact H
  clear H
  have H:=H1
  clear H1
  replace H:=Option.bind_eq_some_iff.mp H
  obtain⟨⟨t734,t737,t740,t741,t742⟩,A50,H⟩:=H
  replace H:((regletlaw16_table.f k t734 t737 t740 t741 t742 255 0).bind fun t746=>((regletlaw16_tokens.f k l1 (t737.length:Int)).bind fun t749=>((machine_Start.f).bind fun bt752=>(regletlaw16_MachineEnds.l0 k true t746 t749 0 0 t734 t737 t740 t741 t742 bt752.1 bt752.2))))=some r:=H
  have A5:=aM A50
  clear A50
  replace H:=Option.bind_eq_some_iff.mp H
  obtain⟨t746,A60,H⟩:=H
  replace H:((regletlaw16_tokens.f k l1 (t737.length:Int)).bind fun t749=>((machine_Start.f).bind fun bt752=>(regletlaw16_MachineEnds.l0 k true t746 t749 0 0 t734 t737 t740 t741 t742 bt752.1 bt752.2)))=some r:=H
  have A6:=aM A60
  clear A60
  replace H:=Option.bind_eq_some_iff.mp H
  obtain⟨t749,A70,H⟩:=H
  replace H:((machine_Start.f).bind fun bt752=>(regletlaw16_MachineEnds.l0 k true t746 t749 0 0 t734 t737 t740 t741 t742 bt752.1 bt752.2))=some r:=H
  have A7:=aM A70
  clear A70
  replace H:=Option.bind_eq_some_iff.mp H
  obtain⟨⟨t752,t755⟩,A80,H⟩:=H
  replace H:(regletlaw16_MachineEnds.l0 k true t746 t749 0 0 t734 t737 t740 t741 t742 t752 t755)=some r:=H
  have A8:=aM A80
  clear A80
  have HC9:=aM H
  clear H
  go_enter Try.func9,Try.ntmps9
  go_upto_block 0 with(first|((with_reducible refine bI (f:=10) rfl ?_);refine goesL_ (some 21) rfl rfl Try.func10 (by kernel_rfl) rfl #[] rfl (by(try simp only [List.map_toArray,List.map_cons,List.map_nil]);first|done|rfl|(simp only [List.length_drop,List.length_take];rfl)) ?_;(with_reducible refine(regletlaw16_awake.calls k  true _ A3.out).mono ?_);rintro e w10 ⟨rfl,hb⟩;refine⟨_,rfl,?_⟩;have n0_:=aM (bG (by repeat(first|(with_reducible first|exact HB.out|apply aN|apply aP|apply aO)|exact HB.out)) hb);clear HB;have HB:=n0_;clear n0_;(try clear hb);(try clear hb2);(try clear hk);(try clear hi))|((with_reducible refine bI (f:=19) rfl ?_);refine goesL_ (some 25) rfl rfl Try.func19 (by kernel_rfl) rfl #[.slice A0 l0.length c0] rfl (by(try simp only [List.map_toArray,List.map_cons,List.map_nil]);first|done|rfl|(simp only [List.length_drop,List.length_take];rfl)) ?_;(with_reducible refine(regletlaw14_Clear.calls k _ _ l0 t734 t737 t740 t741 t742 _ ?side1 ?side2 A5.out).mono ?_);(case side1=>repeat(first|exact(bD HR0.out HB.out)|(with_reducible refine Kd.C_alloc ?_ _)|(with_reducible refine Kd.C_drewN ?_ _)|(with_reducible refine bC ?_)));(case side2=>exact HC0.out);rintro e w11 ⟨v735,v738,v743,rfl,ho0,ho1,ho2,hb⟩;refine⟨_,rfl,?_⟩;have n0_:=aM (bL ho0 (bH (by repeat(first|(with_reducible first|exact HB.out|apply aN|apply aP|apply aO)|exact HB.out))));have n1_:=aM (bL ho1 (bH (by repeat(first|(with_reducible first|exact HB.out|apply aN|apply aP|apply aO)|exact HB.out))));have n2_:=aM (Kd.S_lower ho2 (bH (by repeat(first|(with_reducible first|exact HB.out|apply aN|apply aP|apply aO)|exact HB.out))));have n3_:=aM (bG (by repeat(first|(with_reducible first|exact HB.out|apply aN|apply aP|apply aO)|exact HB.out)) hb);clear HB;have HO736:=n0_;have HO739:=n1_;have HO744:=n2_;have HB:=n3_;clear n0_ n1_ n2_ n3_;(try clear hb);(try clear hb2);(try clear hk);(try clear hi);(try clear ho0);(try clear ho1);(try clear ho2))|((with_reducible refine bJ (N:=6) rfl ?_);(try(refine gate_guard (by rfl) ?_;dsimp only));refine box_event ?hg (N:=6) ?hd (cs:=#[.slice none 0 0,.slice none 0 0,.int .i64 0,.int .i64 0,.slice none 0 0]) (t:=26) ?hr ?_;(case hd=>rfl);(case hg=>rfl);(case hr=>first|(go_simp;done)|(go_simp;rfl));intro gb745 hg w12 hbox hb;have n0_:=aM (aD (by(with_reducible repeat(first|apply aA|apply aB|apply aC));exact HO736.out) hb);have n1_:=aM (aD (by(with_reducible repeat(first|apply aA|apply aB|apply aC));exact HO739.out) hb);have n2_:=aM (Kd.S_below (by(with_reducible repeat(first|apply Kd.S_alloc|apply aV|apply aW));exact HO744.out) hb);have n3_:=aM (bG (by repeat(first|(with_reducible first|exact HB.out|apply aN|apply aP|apply aO)|exact HB.out)) hb);have n4_:=aM (hbox);have n5_:=aM ((by rw [hg];exact(bH (by repeat(first|(with_reducible first|exact HB.out|apply aN|apply aP|apply aO)|exact HB.out))):w.heap.size≤gb745));have n6_:=aM ((by rw [hg];exact(bH (by repeat(first|(with_reducible first|exact HB.out|apply aN|apply aP|apply aO)|exact HB.out))):w.heap.size≤gb745));clear HO736;clear HO739;clear HO744;clear HB;have HO736:=n0_;have HO739:=n1_;have HO744:=n2_;have HB:=n3_;have BK745:=n4_;have GW745:=n5_;have GE745:=n6_;clear n0_ n1_ n2_ n3_ n4_ n5_ n6_;clear hb hbox hg;obtain⟨Ao13,co13,eo13⟩:=Kd.R_slice HO736.out;subst eo13;have hcz14_0:w12.cell? ⟨gb745,0,none⟩=some (.slice none 0 0):=(aG BK745.out 0).trans rfl;have hcz14_1:w12.cell? ⟨gb745,1,none⟩=some (.slice none 0 0):=(aG BK745.out 1).trans rfl;have hcz14_2:w12.cell? ⟨gb745,2,none⟩=some (.int .i64 0):=(aG BK745.out 2).trans rfl;have hcz14_3:w12.cell? ⟨gb745,3,none⟩=some (.int .i64 0):=(aG BK745.out 3).trans rfl;have hcz14_4:w12.cell? ⟨gb745,4,none⟩=some (.slice none 0 0):=(aG BK745.out 4).trans rfl;have hfz14_0:=aH BK745.out 0;have hfz14_1:=aH BK745.out 1;have hfz14_2:=aH BK745.out 2;have hfz14_3:=aH BK745.out 3;have hfz14_4:=aH BK745.out 4;obtain⟨Ao15,co15,eo15⟩:=Kd.R_slice HO739.out;subst eo15;obtain⟨Ao16,co16,eo16⟩:=Kd.S_slice HO744.out;subst eo16)|((with_reducible refine bI (f:=14) rfl ?_);refine goesL_ (some 27) rfl rfl Try.func14 (by kernel_rfl) rfl #[.agg #[.slice Ao13 t734.length co13,.slice Ao15 t737.length co15,.int .i64 t740,.int .i64 t741,.slice Ao16 t742.length co16],.int .u8 255,.int .u8 0] rfl (by(try simp only [List.map_toArray,List.map_cons,List.map_nil]);first|done|rfl|(simp only [List.length_drop,List.length_take];rfl)) ?_;(with_reducible refine(regletlaw16_table.calls k _ _ t734 _ _ t737 t740 t741 _ _ t742 255 0 t746 _ ?side1 ?side2 ?side3 ?side4 ?side5 ?side6 A6.out).mono ?_);(case side1=>refine(aF (e:=9) (base:=w.heap.size) (ok:=fun k_=>True) (n:=t734.length) (c:=co13) ?_).2.2;exact(by(with_reducible repeat(first|apply aA|apply aB|apply aC));exact(Kd.R_mono (aE (p:=⟨gb745,4,none⟩) (aE (p:=⟨gb745,3,none⟩) (aE (p:=⟨gb745,2,none⟩) (aE (p:=⟨gb745,1,none⟩) (aE (p:=⟨gb745,0,none⟩) (Kd.R_types HO736.out BK745.out (by decide)) (fun _ hk=>hk.2) (.slice Ao13 t734.length co13)) (fun _ hk=>hk.2) (.slice Ao15 t737.length co15)) (fun _ hk=>hk.2) (.int .i64 t740)) (fun _ hk=>hk.2) (.int .i64 t741)) (fun _ hk=>hk.2) (.slice Ao16 t742.length co16)) (fun _ h_=>h_.1))));(case side2=>exact(aF HO736.out).2.1);(case side3=>refine(aF (e:=72) (base:=w.heap.size) (ok:=fun k_=>True) (n:=t737.length) (c:=co15) ?_).2.2;exact(by(with_reducible repeat(first|apply aA|apply aB|apply aC));exact(Kd.R_mono (aE (p:=⟨gb745,4,none⟩) (aE (p:=⟨gb745,3,none⟩) (aE (p:=⟨gb745,2,none⟩) (aE (p:=⟨gb745,1,none⟩) (aE (p:=⟨gb745,0,none⟩) (Kd.R_types HO739.out BK745.out (by decide)) (fun _ hk=>hk.2) (.slice Ao13 t734.length co13)) (fun _ hk=>hk.2) (.slice Ao15 t737.length co15)) (fun _ hk=>hk.2) (.int .i64 t740)) (fun _ hk=>hk.2) (.int .i64 t741)) (fun _ hk=>hk.2) (.slice Ao16 t742.length co16)) (fun _ h_=>h_.1))));(case side4=>exact(aF HO739.out).2.1);(case side5=>refine(Kd.S_reads' (e:=35) (base:=w.heap.size) (ok:=fun k_=>True) (n:=t742.length) (c:=co16) ?_).2.2;exact(by(with_reducible repeat(first|apply Kd.S_alloc|apply aV|apply aW));exact(Kd.S_mono (Kd.S_far (p:=⟨gb745,4,none⟩) (Kd.S_far (p:=⟨gb745,3,none⟩) (Kd.S_far (p:=⟨gb745,2,none⟩) (Kd.S_far (p:=⟨gb745,1,none⟩) (Kd.S_far (p:=⟨gb745,0,none⟩) (Kd.S_types HO744.out BK745.out (by decide)) (fun _ hk=>hk.2) (.slice Ao13 t734.length co13)) (fun _ hk=>hk.2) (.slice Ao15 t737.length co15)) (fun _ hk=>hk.2) (.int .i64 t740)) (fun _ hk=>hk.2) (.int .i64 t741)) (fun _ hk=>hk.2) (.slice Ao16 t742.length co16)) (fun _ h_=>h_.1))));(case side6=>exact(Kd.S_reads' HO744.out).2.1);rintro e w17 ⟨v747,rfl,ho0,hb⟩;refine⟨_,rfl,?_⟩;have n0_:=aM (aD (by(with_reducible repeat(first|apply aA|apply aB|apply aC));exact(Kd.R_mono (aE (p:=⟨gb745,4,none⟩) (aE (p:=⟨gb745,3,none⟩) (aE (p:=⟨gb745,2,none⟩) (aE (p:=⟨gb745,1,none⟩) (aE (p:=⟨gb745,0,none⟩) (Kd.R_types HO736.out BK745.out (by decide)) (fun _ hk=>hk.2) (.slice Ao13 t734.length co13)) (fun _ hk=>hk.2) (.slice Ao15 t737.length co15)) (fun _ hk=>hk.2) (.int .i64 t740)) (fun _ hk=>hk.2) (.int .i64 t741)) (fun _ hk=>hk.2) (.slice Ao16 t742.length co16)) (fun _ h_=>h_.1))) hb);have n1_:=aM (aD (by(with_reducible repeat(first|apply aA|apply aB|apply aC));exact(Kd.R_mono (aE (p:=⟨gb745,4,none⟩) (aE (p:=⟨gb745,3,none⟩) (aE (p:=⟨gb745,2,none⟩) (aE (p:=⟨gb745,1,none⟩) (aE (p:=⟨gb745,0,none⟩) (Kd.R_types HO739.out BK745.out (by decide)) (fun _ hk=>hk.2) (.slice Ao13 t734.length co13)) (fun _ hk=>hk.2) (.slice Ao15 t737.length co15)) (fun _ hk=>hk.2) (.int .i64 t740)) (fun _ hk=>hk.2) (.int .i64 t741)) (fun _ hk=>hk.2) (.slice Ao16 t742.length co16)) (fun _ h_=>h_.1))) hb);have n2_:=aM (Kd.S_below (by(with_reducible repeat(first|apply Kd.S_alloc|apply aV|apply aW));exact(Kd.S_mono (Kd.S_far (p:=⟨gb745,4,none⟩) (Kd.S_far (p:=⟨gb745,3,none⟩) (Kd.S_far (p:=⟨gb745,2,none⟩) (Kd.S_far (p:=⟨gb745,1,none⟩) (Kd.S_far (p:=⟨gb745,0,none⟩) (Kd.S_types HO744.out BK745.out (by decide)) (fun _ hk=>hk.2) (.slice Ao13 t734.length co13)) (fun _ hk=>hk.2) (.slice Ao15 t737.length co15)) (fun _ hk=>hk.2) (.int .i64 t740)) (fun _ hk=>hk.2) (.int .i64 t741)) (fun _ hk=>hk.2) (.slice Ao16 t742.length co16)) (fun _ h_=>h_.1))) hb);have n3_:=aM (Kd.S_lower ho0 (bH (by repeat(first|(with_reducible first|exact HB.out|apply aN|apply aP|apply aO|refine aL ?_ GE745.out)|exact HB.out))));have n4_:=aM (bF (g:=gb745) (o:= .cells #[.slice Ao13 t734.length co13,.slice Ao15 t737.length co15,.int .i64 t740,.int .i64 t741,.slice Ao16 t742.length co16] 26 (0,0)) (by(with_reducible repeat(first|refine aJ ?_ _|refine aK ?_|refine aI ?_ _));refine blk_put (cs:=#[.slice Ao13 t734.length co13,.slice Ao15 t737.length co15,.int .i64 t740,.int .i64 t741,.slice none 0 0]) ?_ 4 _ rfl;(with_reducible repeat(first|refine aJ ?_ _|refine aK ?_|refine aI ?_ _));refine blk_put (cs:=#[.slice Ao13 t734.length co13,.slice Ao15 t737.length co15,.int .i64 t740,.int .i64 0,.slice none 0 0]) ?_ 3 _ rfl;(with_reducible repeat(first|refine aJ ?_ _|refine aK ?_|refine aI ?_ _));refine blk_put (cs:=#[.slice Ao13 t734.length co13,.slice Ao15 t737.length co15,.int .i64 0,.int .i64 0,.slice none 0 0]) ?_ 2 _ rfl;(with_reducible repeat(first|refine aJ ?_ _|refine aK ?_|refine aI ?_ _));refine blk_put (cs:=#[.slice Ao13 t734.length co13,.slice none 0 0,.int .i64 0,.int .i64 0,.slice none 0 0]) ?_ 1 _ rfl;(with_reducible repeat(first|refine aJ ?_ _|refine aK ?_|refine aI ?_ _));refine blk_put (cs:=#[.slice none 0 0,.slice none 0 0,.int .i64 0,.int .i64 0,.slice none 0 0]) ?_ 0 _ rfl;(with_reducible repeat(first|refine aJ ?_ _|refine aK ?_|refine aI ?_ _));exact BK745.out) hb);have n5_:=aM (bG (by repeat(first|(with_reducible first|exact HB.out|apply aN|apply aP|apply aO|refine aL ?_ GE745.out)|exact HB.out)) hb);clear HO736;clear HO739;clear HO744;clear BK745;clear HB;have HO736:=n0_;have HO739:=n1_;have HO744:=n2_;have HO748:=n3_;have BK745:=n4_;have HB:=n5_;clear n0_ n1_ n2_ n3_ n4_ n5_;(try clear hb);(try clear hb2);(try clear hk);(try clear hi);(try clear ho0);have hcz18_0:w17.cell? ⟨gb745,0,none⟩=some (.slice Ao13 t734.length co13):=(aG BK745.out 0).trans rfl;have hcz18_1:w17.cell? ⟨gb745,1,none⟩=some (.slice Ao15 t737.length co15):=(aG BK745.out 1).trans rfl;have hcz18_2:w17.cell? ⟨gb745,2,none⟩=some (.int .i64 t740):=(aG BK745.out 2).trans rfl;have hcz18_3:w17.cell? ⟨gb745,3,none⟩=some (.int .i64 t741):=(aG BK745.out 3).trans rfl;have hcz18_4:w17.cell? ⟨gb745,4,none⟩=some (.slice Ao16 t742.length co16):=(aG BK745.out 4).trans rfl;have hfz18_0:=aH BK745.out 0;have hfz18_1:=aH BK745.out 1;have hfz18_2:=aH BK745.out 2;have hfz18_3:=aH BK745.out 3;have hfz18_4:=aH BK745.out 4)|((with_reducible refine bI (f:=15) rfl ?_);refine goesL_ (some 32) rfl rfl Try.func15 (by kernel_rfl) rfl #[.slice A1 l1.length c1,.int .i64 (t737.length:Int)] rfl (by(try simp only [List.map_toArray,List.map_cons,List.map_nil]);first|done|rfl|(simp only [List.length_drop,List.length_take];rfl)) ?_;(with_reducible refine(regletlaw16_tokens.calls k _ _ l1 (t737.length:Int) t749 _ ?side1 ?side2 A7.out).mono ?_);(case side1=>repeat(first|exact(bD HR1.out HB.out)|(with_reducible refine Kd.C_alloc ?_ _)|(with_reducible refine Kd.C_drewN ?_ _)|(with_reducible refine bC ?_)));(case side2=>exact HC1.out);rintro e w19 ⟨v750,rfl,ho0,hb⟩;refine⟨_,rfl,?_⟩;have n0_:=aM (aD (by(with_reducible repeat(first|apply aA|apply aB|apply aC));exact HO736.out) hb);have n1_:=aM (bE (by(with_reducible repeat(first|apply aA|apply aB|apply aC));exact HO739.out) (Kd.R_base ho0) hb);have n2_:=aM (Kd.S_below (by(with_reducible repeat(first|apply Kd.S_alloc|apply aV|apply aW));exact HO744.out) hb);have n3_:=aM (Kd.S_elder' (by(with_reducible repeat(first|apply Kd.S_alloc|apply aV|apply aW));exact HO748.out) (Kd.R_base ho0) hb);have n4_:=aM (bL ho0 (bH (by repeat(first|(with_reducible first|exact HB.out|apply aN|apply aP|apply aO|refine aL ?_ GE745.out)|exact HB.out))));have n5_:=aM (bF (g:=gb745) (o:= .cells #[.slice Ao13 t734.length co13,.slice Ao15 t737.length co15,.int .i64 t740,.int .i64 t741,.slice Ao16 t742.length co16] 26 (0,0)) (by(with_reducible repeat(first|refine aJ ?_ _|refine aK ?_|refine aI ?_ _));exact BK745.out) hb);have n6_:=aM (bG (by repeat(first|(with_reducible first|exact HB.out|apply aN|apply aP|apply aO|refine aL ?_ GE745.out)|exact HB.out)) hb);clear HO736;clear HO739;clear HO744;clear HO748;clear BK745;clear HB;have HO736:=n0_;have HO739:=n1_;have HO744:=n2_;have HO748:=n3_;have HO751:=n4_;have BK745:=n5_;have HB:=n6_;clear n0_ n1_ n2_ n3_ n4_ n5_ n6_;(try clear hb);(try clear hb2);(try clear hk);(try clear hi);(try clear ho0))|((with_reducible refine bI (f:=17) rfl ?_);refine goesL_ (some 33) rfl rfl Try.func17 (by kernel_rfl) rfl #[] rfl (by(try simp only [List.map_toArray,List.map_cons,List.map_nil]);first|done|rfl|(simp only [List.length_drop,List.length_take];rfl)) ?_;(with_reducible refine(machine_Start.calls  t752 t755 _ A8.out).mono ?_);rintro e w20 ⟨v753,rfl,ho0,hb⟩;refine⟨_,rfl,?_⟩;have n0_:=aM (aD (by(with_reducible repeat(first|apply aA|apply aB|apply aC));exact HO736.out) hb);have n1_:=aM (aD (by(with_reducible repeat(first|apply aA|apply aB|apply aC));exact HO739.out) hb);have n2_:=aM (Kd.S_elder' (by(with_reducible repeat(first|apply Kd.S_alloc|apply aV|apply aW));exact HO744.out) (Kd.R_base ho0) hb);have n3_:=aM (Kd.S_below (by(with_reducible repeat(first|apply Kd.S_alloc|apply aV|apply aW));exact HO748.out) hb);have n4_:=aM (aD (by(with_reducible repeat(first|apply aA|apply aB|apply aC));exact HO751.out) hb);have n5_:=aM (bL ho0 (bH (by repeat(first|(with_reducible first|exact HB.out|apply aN|apply aP|apply aO|refine aL ?_ GE745.out)|exact HB.out))));have n6_:=aM (bF (g:=gb745) (o:= .cells #[.slice Ao13 t734.length co13,.slice Ao15 t737.length co15,.int .i64 t740,.int .i64 t741,.slice Ao16 t742.length co16] 26 (0,0)) (by(with_reducible repeat(first|refine aJ ?_ _|refine aK ?_|refine aI ?_ _));exact BK745.out) hb);have n7_:=aM (bG (by repeat(first|(with_reducible first|exact HB.out|apply aN|apply aP|apply aO|refine aL ?_ GE745.out)|exact HB.out)) hb);clear HO736;clear HO739;clear HO744;clear HO748;clear HO751;clear BK745;clear HB;have HO736:=n0_;have HO739:=n1_;have HO744:=n2_;have HO748:=n3_;have HO751:=n4_;have HO754:=n5_;have BK745:=n6_;have HB:=n7_;clear n0_ n1_ n2_ n3_ n4_ n5_ n6_ n7_;(try clear hb);(try clear hb2);(try clear hk);(try clear hi);(try clear ho0))|((with_reducible refine bJ (N:=9) rfl ?_);(try(refine gate_guard (by rfl) ?_;dsimp only));refine box_event ?hg (N:=9) ?hd (cs:=#[.slice none 0 0,.bool false]) (t:=31) ?hr ?_;(case hd=>rfl);(case hg=>rfl);(case hr=>first|(go_simp;done)|(go_simp;rfl));intro gb756 hg w21 hbox hb;have n0_:=aM (aD (by(with_reducible repeat(first|apply aA|apply aB|apply aC));exact HO736.out) hb);have n1_:=aM (aD (by(with_reducible repeat(first|apply aA|apply aB|apply aC));exact HO739.out) hb);have n2_:=aM (Kd.S_below (by(with_reducible repeat(first|apply Kd.S_alloc|apply aV|apply aW));exact HO744.out) hb);have n3_:=aM (Kd.S_below (by(with_reducible repeat(first|apply Kd.S_alloc|apply aV|apply aW));exact HO748.out) hb);have n4_:=aM (aD (by(with_reducible repeat(first|apply aA|apply aB|apply aC));exact HO751.out) hb);have n5_:=aM (aD (by(with_reducible repeat(first|apply aA|apply aB|apply aC));exact HO754.out) hb);have n6_:=aM (bF (g:=gb745) (o:= .cells #[.slice Ao13 t734.length co13,.slice Ao15 t737.length co15,.int .i64 t740,.int .i64 t741,.slice Ao16 t742.length co16] 26 (0,0)) (by(with_reducible repeat(first|refine aJ ?_ _|refine aK ?_|refine aI ?_ _));exact BK745.out) hb);have n7_:=aM (bG (by repeat(first|(with_reducible first|exact HB.out|apply aN|apply aP|apply aO|refine aL ?_ GE745.out)|exact HB.out)) hb);have n8_:=aM (hbox);have n9_:=aM ((by rw [hg];exact(bH (by repeat(first|(with_reducible first|exact HB.out|apply aN|apply aP|apply aO|refine aL ?_ GE745.out)|exact HB.out))):w.heap.size≤gb756));have n10_:=aM ((by rw [hg];exact(bH (by repeat(first|(with_reducible first|exact HB.out|apply aN|apply aP|apply aO|refine aL ?_ GE745.out)|exact HB.out))):w.heap.size≤gb756));have n11_:=aM ((by rw [hg];exact Nat.ne_of_lt (bN (g:=gb745) (o:= .cells #[.slice Ao13 t734.length co13,.slice Ao15 t737.length co15,.int .i64 t740,.int .i64 t741,.slice Ao16 t742.length co16] 26 (0,0)) (by(with_reducible repeat(first|refine aJ ?_ _|refine aK ?_|refine aI ?_ _));exact BK745.out)):gb745≠gb756));have n12_:=aM ((by rw [hg];exact Nat.ne_of_gt (bN (g:=gb745) (o:= .cells #[.slice Ao13 t734.length co13,.slice Ao15 t737.length co15,.int .i64 t740,.int .i64 t741,.slice Ao16 t742.length co16] 26 (0,0)) (by(with_reducible repeat(first|refine aJ ?_ _|refine aK ?_|refine aI ?_ _));exact BK745.out)):gb756≠gb745));clear HO736;clear HO739;clear HO744;clear HO748;clear HO751;clear HO754;clear BK745;clear HB;have HO736:=n0_;have HO739:=n1_;have HO744:=n2_;have HO748:=n3_;have HO751:=n4_;have HO754:=n5_;have BK745:=n6_;have HB:=n7_;have BK756:=n8_;have GW756:=n9_;have GE756:=n10_;have NB745_756:=n11_;have NB756_745:=n12_;clear n0_ n1_ n2_ n3_ n4_ n5_ n6_ n7_ n8_ n9_ n10_ n11_ n12_;clear hb hbox hg;obtain⟨Ao22,co22,eo22⟩:=Kd.R_slice HO754.out;subst eo22;have hnb23:=NB756_745.out;have hnc23:=NB745_756.out;have hcz24_0:w21.cell? ⟨gb756,0,none⟩=some (.slice none 0 0):=(aG BK756.out 0).trans rfl;have hcz24_1:w21.cell? ⟨gb756,1,none⟩=some (.bool false):=(aG BK756.out 1).trans rfl;have hfz24_0:=aH BK756.out 0;have hfz24_1:=aH BK756.out 1))
  (try simp only [Act.put,List.setIfInBounds_toArray,List.set_cons_zero,List.set_cons_succ])
  go_cut [10] (fun v10 wc=>∃(kq:Nat) (x10_8:Int) (x757000_8:List (S43)) (x757001_8:Bool) (u757000:Value),v10= .int .i64 x10_8∧Aside0 (regletlaw16_MachineEnds.j1 kq true t746 t749 x10_8 t734 t737 t740 t741 t742 x757000_8 x757001_8=some r)∧Aside0 (kq≤k)∧Aside0 (Kd.S (Kd.slice 3 (Kd.int .i64)) 32 wc w.heap.size (fun k_=>some k_≠(v750:Value).ownBlock) v747 t746)∧Aside0 (Kd.R (Kd.int .i64) 3 wc w.heap.size (fun _=>True) v750 t749)∧Aside0 (Kd.R Kd.string 9 wc w.heap.size (fun _=>True) (.slice Ao13 t734.length co13) t734)∧Aside0 (Kd.R k72 72 wc w.heap.size (fun k_=>some k_≠(v750:Value).ownBlock) (.slice Ao15 t737.length co15) t737)∧Aside0 (Kd.S k35 35 wc w.heap.size (fun k_=>some k_≠(u757000:Value).ownBlock) (.slice Ao16 t742.length co16) t742)∧Aside0 (Kd.R k43 43 wc w.heap.size (fun _=>True) u757000 x757000_8)∧Aside0 (wc.heap[gb745]?=some (.cells #[(.slice Ao13 t734.length co13),(.slice Ao15 t737.length co15),.int .i64 t740,.int .i64 t741,(.slice Ao16 t742.length co16)] 26 (0,0)))∧Aside0 (wc.heap[gb756]?=some (.cells #[u757000,.bool x757001_8] 31 (0,0)))∧Aside0 (Below w.heap.size w wc))
  case first=>
   have H:=HC9.out
   clear HC9
   have H':=aM H
   clear H
   go_wp2
   go_loopg [10,11] k (fun kq v10 v11 w'=>∃(x10_1:Int) (x11_1:Int) (x757000_1:List (S43)) (x757001_1:Bool) (u757000:Value),v10= .int .i64 x10_1∧v11= .int .i64 x11_1∧Aside0 (regletlaw16_MachineEnds.l0 kq true t746 t749 x10_1 x11_1 t734 t737 t740 t741 t742 x757000_1 x757001_1=some r)∧Aside0 (kq≤k)∧Aside0 (Kd.S (Kd.slice 3 (Kd.int .i64)) 32 w' w.heap.size (fun k_=>some k_≠(v750:Value).ownBlock) v747 t746)∧Aside0 (Kd.R (Kd.int .i64) 3 w' w.heap.size (fun _=>True) v750 t749)∧Aside0 (Kd.R Kd.string 9 w' w.heap.size (fun _=>True) (.slice Ao13 t734.length co13) t734)∧Aside0 (Kd.R k72 72 w' w.heap.size (fun k_=>some k_≠(v750:Value).ownBlock) (.slice Ao15 t737.length co15) t737)∧Aside0 (Kd.S k35 35 w' w.heap.size (fun k_=>some k_≠(u757000:Value).ownBlock) (.slice Ao16 t742.length co16) t742)∧Aside0 (Kd.R k43 43 w' w.heap.size (fun _=>True) u757000 x757000_1)∧Aside0 (w'.heap[gb745]?=some (.cells #[(.slice Ao13 t734.length co13),(.slice Ao15 t737.length co15),.int .i64 t740,.int .i64 t741,(.slice Ao16 t742.length co16)] 26 (0,0)))∧Aside0 (w'.heap[gb756]?=some (.cells #[u757000,.bool x757001_1] 31 (0,0)))∧Aside0 (Below w.heap.size w w'))
   case atStart=>exact⟨(0),(0),(t752),(t755),(.slice Ao22 t752.length co22),(by first|rfl|(simp;done)|(simp [*];done)),(by first|rfl|(simp;done)|(simp [*];done)),H',⟨Nat.le_refl _⟩,⟨by(with_reducible repeat(first|apply Kd.S_alloc|apply aV|apply aW));exact Kd.S_mono (Kd.S_far (p:=⟨gb756,1,none⟩) (Kd.S_far (p:=⟨gb756,0,none⟩) (Kd.S_types HO748.out BK756.out (by decide)) (fun _ hk=>hk.2) (.slice Ao22 t752.length co22)) (fun _ hk=>hk.2) (.bool t755)) (fun _ hk=>hk.1.2)⟩,⟨by(with_reducible repeat(first|apply aA|apply aB|apply aC));exact Kd.R_mono (aE (p:=⟨gb756,1,none⟩) (aE (p:=⟨gb756,0,none⟩) (Kd.R_types HO751.out BK756.out (by decide)) (fun _ hk=>hk.2) (.slice Ao22 t752.length co22)) (fun _ hk=>hk.2) (.bool t755)) (fun _ hk=>trivial)⟩,⟨by(with_reducible repeat(first|apply aA|apply aB|apply aC));exact Kd.R_mono (aE (p:=⟨gb756,1,none⟩) (aE (p:=⟨gb756,0,none⟩) (Kd.R_types HO736.out BK756.out (by decide)) (fun _ hk=>hk.2) (.slice Ao22 t752.length co22)) (fun _ hk=>hk.2) (.bool t755)) (fun _ hk=>trivial)⟩,⟨by(with_reducible repeat(first|apply aA|apply aB|apply aC));exact Kd.R_mono (aE (p:=⟨gb756,1,none⟩) (aE (p:=⟨gb756,0,none⟩) (Kd.R_types HO739.out BK756.out (by decide)) (fun _ hk=>hk.2) (.slice Ao22 t752.length co22)) (fun _ hk=>hk.2) (.bool t755)) (fun _ hk=>hk.1.2)⟩,⟨by(with_reducible repeat(first|apply Kd.S_alloc|apply aV|apply aW));exact Kd.S_mono (Kd.S_far (p:=⟨gb756,1,none⟩) (Kd.S_far (p:=⟨gb756,0,none⟩) (Kd.S_types HO744.out BK756.out (by decide)) (fun _ hk=>hk.2) (.slice Ao22 t752.length co22)) (fun _ hk=>hk.2) (.bool t755)) (fun _ hk=>hk.1.2)⟩,⟨by(with_reducible repeat(first|apply aA|apply aB|apply aC));exact Kd.R_mono (aE (p:=⟨gb756,1,none⟩) (aE (p:=⟨gb756,0,none⟩) (Kd.R_types HO754.out BK756.out (by decide)) (fun _ hk=>hk.2) (.slice Ao22 t752.length co22)) (fun _ hk=>hk.2) (.bool t755)) (fun _ hk=>trivial)⟩,⟨by(with_reducible repeat(first|refine aJ ?_ _|refine aK ?_|refine aI ?_ _));refine blk_far ?_ NB745_756.out _;(with_reducible repeat(first|refine aJ ?_ _|refine aK ?_|refine aI ?_ _));refine blk_far ?_ NB745_756.out _;(with_reducible repeat(first|refine aJ ?_ _|refine aK ?_|refine aI ?_ _));exact BK745.out⟩,⟨by(with_reducible repeat(first|refine aJ ?_ _|refine aK ?_|refine aI ?_ _));refine blk_put (cs:=#[.slice Ao22 t752.length co22,.bool false]) ?_ 1 _ rfl;(with_reducible repeat(first|refine aJ ?_ _|refine aK ?_|refine aI ?_ _));refine blk_put (cs:=#[.slice none 0 0,.bool false]) ?_ 0 _ rfl;(with_reducible repeat(first|refine aJ ?_ _|refine aK ?_|refine aI ?_ _));exact BK756.out⟩,⟨by repeat(first|(with_reducible first|exact HB.out|apply aN|apply aP|apply aO|refine aL ?_ GE745.out|refine aL ?_ GE756.out)|exact HB.out)⟩⟩
   case round=>
    clear H'
    (try clear c1);(try clear c2);(try clear p2);(try clear c4);(try clear c9);(try clear c10);(try clear c14);(try clear c15);(try clear c17);(try clear c19);(try clear c23);(try clear hcz14_0);(try clear hcz14_1);(try clear hcz14_2);(try clear hcz14_3);(try clear hcz14_4);(try clear hcz18_0);(try clear hcz18_1);(try clear hcz18_2);(try clear hcz18_3);(try clear hcz18_4);(try clear hcz24_0);(try clear hcz24_1)
    (try clear hfz14_0);(try clear hfz14_1);(try clear hfz14_2);(try clear hfz14_3);(try clear hfz14_4);(try clear hfz18_0);(try clear hfz18_1);(try clear hfz18_2);(try clear hfz18_3);(try clear hfz18_4);(try clear hfz24_0);(try clear hfz24_1)
    obtain⟨x10_1,x11_1,x757000_1,x757001_1,u757000,rfl,rfl,HA,HK1,HO_7,HO_8,HO_746000,HO_746001,HO_746004,HO_757000,BK745,BK756,HB⟩:=hrel
    cases gk with
    |zero=>exact absurd HA.out (by simp [regletlaw16_MachineEnds.l0])
    |succ k1=>
     have H:=HA.out
     clear HA
     simp only [regletlaw16_MachineEnds.l0] at H
     by_cases c25:x11_1<(t749.length:Int)
     ·rw [if_pos c25] at H
      have c25b0:decide (x11_1<(t749.length:Int))=true:=decide_eq_true c25
      clear c25
      (first|rw [c25b0]|(simp only [i64_w,i32_w];rw [c25b0])|skip)
      by_cases c26:x10_1=0
      ·rw [if_pos c26] at H
       have c26b0:(x10_1==0)=true:=beq_iff_eq.mpr c26
       have c26b1:(x10_1 !=0)=false:=bne_eq_false_iff_eq.mpr c26
       clear c26
       by_cases c27:0≤x11_1
       rotate_left
       ·rw [if_neg c27] at H
        exact absurd H (by simp)
       rw [if_pos c27] at H
       have c27b0:decide (0≤x11_1)=true:=decide_eq_true c27
       clear c27
       replace H:=Option.bind_eq_some_iff.mp H
       obtain⟨⟨t758,t761,t762,t765⟩,A280,H⟩:=H
       replace H:(regletlaw16_MachineEnds.l0 k1 true t746 t749 t765 (wrap64 (x11_1+1)) t734 t737 t740 t741 t742 t758 t761)=some r:=H
       have A28:=aM A280
       clear A280
       have H':=aM H
       clear H
       obtain⟨Ao29,co29,eo29⟩:=Kd.R_slice HO_8.out
       subst eo29
       try go_wp2
       have n0_:=aM (aW HO_7.out)
       have n1_:=aM (aC HO_8.out)
       have n2_:=aM (aC HO_746000.out)
       have n3_:=aM (aC HO_746001.out)
       have n4_:=aM (aW HO_746004.out)
       have n5_:=aM (aC HO_757000.out)
       have n6_:=aM (aK BK745.out)
       have n7_:=aM (aK BK756.out)
       have n8_:=aM (aO HB.out)
       clear HO_7
       clear HO_8
       clear HO_746000
       clear HO_746001
       clear HO_746004
       clear HO_757000
       clear BK745
       clear BK756
       clear HB
       have HO_7:=n0_
       have HO_8:=n1_
       have HO_746000:=n2_
       have HO_746001:=n3_
       have HO_746004:=n4_
       have HO_757000:=n5_
       have BK745:=n6_
       have BK756:=n7_
       have HB:=n8_
       clear n0_ n1_ n2_ n3_ n4_ n5_ n6_ n7_ n8_
       have p757:0≤(x11_1:Int):=of_decide_eq_true (by first|(with_reducible assumption)|assumption)
       have q757:x11_1<(t749.length:Int):=of_decide_eq_true (by first|(with_reducible assumption)|assumption)
       obtain⟨ad757,e757,hx757_0⟩:=Kd.at_int (aF HO_8.out).2.2 x11_1 p757 q757
       cases e757
       replace p757:=eq_true p757
       replace q757:=eq_true q757
       obtain⟨Ao31,co31,eo31⟩:=Kd.S_slice HO_7.out
       (first|subst eo31|(injection eo31 with f1_ f2_ f3_;have f4_:=f1_.symm;have f5_:=f3_.symm;clear f1_ f2_ f3_;subst f4_;subst f5_))
       obtain⟨Ao32,co32,eo32⟩:=Kd.R_slice HO_757000.out
       (first|subst eo32|(injection eo32 with f1_ f2_ f3_;have f4_:=f1_.symm;have f5_:=f3_.symm;clear f1_ f2_ f3_;subst f4_;subst f5_))
       refine start_ (n:=14) (S:=fun w'=>w'.cell? ⟨gb745,0,none⟩=some (.slice Ao13 t734.length co13)∧w'.cell? ⟨gb745,1,none⟩=some (.slice Ao15 t737.length co15)∧w'.cell? ⟨gb745,2,none⟩=some (.int .i64 t740)∧w'.cell? ⟨gb745,3,none⟩=some (.int .i64 t741)∧w'.cell? ⟨gb745,4,none⟩=some (.slice Ao16 t742.length co16)∧w'.cell? ⟨gb756,0,none⟩=some (.slice Ao32 x757000_1.length co32)∧w'.cell? ⟨gb756,1,none⟩=some (.bool x757001_1)∧w'.cell? (ad757.add (x11_1).toNat)=some (.int .i64 (rd t749 x11_1))) (ds:= [12]) #[F,F,F,F,F,F,F,F,F,F,F,F,F,F] (by kernel_rfl) rfl rfl ⟨(aG BK745.out 0).trans rfl,(aG BK745.out 1).trans rfl,(aG BK745.out 2).trans rfl,(aG BK745.out 3).trans rfl,(aG BK745.out 4).trans rfl,(aG BK756.out 0).trans rfl,(aG BK756.out 1).trans rfl,hx757_0⟩ (fun hHeld=>?_);refine with_tabW regletlaw16_MachineEnds.tab12 regletlaw16_MachineEnds.bits12 (fun HT_ HW_=>?_)
       generalize wr.drew=w30 at HO_7 HO_8 HO_746000 HO_746001 HO_746004 HO_757000 BK745 BK756 HB hx757_0 hHeld ⊢
       refine pure_ (i:=1) (N:=some 46) (v:=?_) (a':=?_) #[F,T,F,F,F,F,F,F,F,F,F,F,F,F] rfl rfl (any_of HT_.out (by kernel_rfl)) (fun _ _ _ h=>h) (Or.inl ⟨by rfl,?_⟩) ?_ ?_
       rotate_left;(intro w';go_simp;with_reducible rfl);rotate_left;(simp only [pq];rfl)
       refine pure_ (i:=3) (N:=some 48) (v:=?_) (a':=?_) #[F,T,F,T,F,F,F,F,F,F,F,F,F,F] rfl rfl (any_of HT_.out (by kernel_rfl)) (fun _ _ _ h=>h) (Or.inl ⟨by rfl,?_⟩) ?_ ?_
       rotate_left;(intro w';go_simp;with_reducible rfl);rotate_left;(simp only [pq];rfl)
       refine pure_ (i:=4) (N:=some 49) (v:=?_) (a':=?_) #[F,T,F,T,T,F,F,F,F,F,F,F,F,F] rfl rfl (any_of HT_.out (by kernel_rfl)) (fun _ _ _ h=>h) (Or.inl ⟨by rfl,?_⟩) ?_ ?_
       rotate_left;(intro w';go_simp;with_reducible rfl);rotate_left;(simp only [pq];rfl)
       refine pure_ (i:=5) (N:=some 50) (v:=?_) (a':=?_) #[F,T,F,T,T,T,F,F,F,F,F,F,F,F] rfl rfl (any_of HT_.out (by kernel_rfl)) (fun _ _ _ h=>h) (Or.inl ⟨by rfl,?_⟩) ?_ ?_
       rotate_left;(intro w';go_simp;with_reducible rfl);rotate_left;(simp only [pq];rfl)
       refine take_ (i:=0) (N:=some 45) (v:=?_) (a':=?_) #[T,T,F,T,T,T,F,F,F,F,F,F,F,F] rfl rfl (take_ofW HT_.out HW_.out (by kernel_rfl)) (fun _ _ _ h=>h) (Or.inl ⟨by rfl,?_⟩) hHeld ?_ ?_
       rotate_left
       ·rintro w' ⟨s0,s1,s2,s3,s4,s5,s6,s7⟩
        go_simp
        with_reducible rfl
       rotate_left
       ·simp only [pq]
        rfl
       refine take_ (i:=2) (N:=some 47) (v:=?_) (a':=?_) #[T,T,T,T,T,T,F,F,F,F,F,F,F,F] rfl rfl (take_ofW HT_.out HW_.out (by kernel_rfl)) (fun _ _ _ h=>h) (Or.inl ⟨by rfl,?_⟩) hHeld ?_ ?_
       rotate_left
       ·rintro w' ⟨s0,s1,s2,s3,s4,s5,s6,s7⟩
        go_simp
        with_reducible rfl
       rotate_left
       ·simp only [pq]
        rfl
       refine take_ (i:=6) (N:=some 51) (v:=?_) (a':=?_) #[T,T,T,T,T,T,T,F,F,F,F,F,F,F] rfl rfl (take_ofW HT_.out HW_.out (by kernel_rfl)) (fun _ _ _ h=>h) (Or.inl ⟨by rfl,?_⟩) hHeld ?_ ?_
       rotate_left
       ·rintro w' ⟨s0,s1,s2,s3,s4,s5,s6,s7⟩
        go_simp
        with_reducible rfl
       rotate_left
       ·simp only [pq]
        rfl
       refine one_ (i:=7) (N:=some 52) #[T,T,T,T,T,T,T,T,F,F,F,F,F,F] rfl rfl (one_of HT_.out (by kernel_rfl)) (by decide) (fun K hK=>?_)
       refine goes_ Try.func23 (by kernel_rfl) rfl #[.agg #[.slice Ao13 t734.length co13,.slice Ao15 t737.length co15,.int .i64 t740,.int .i64 t741,.slice Ao16 t742.length co16],.slice Ao31 t746.length co31,.agg #[.slice Ao32 x757000_1.length co32,.bool x757001_1],.int .i64 (rd t749 x11_1)] (by rfl) rfl rfl (by(try simp only [List.map_toArray,List.map_cons,List.map_nil]);first|done|rfl|(simp only [List.length_drop,List.length_take];rfl)) ?_
       with_reducible refine(machine_Feed.calls _ _ t734 _ _ t737 t740 t741 _ _ t742 _ _ t746 _ _ x757000_1 x757001_1 (rd t749 x11_1) t758 t761 t762 t765 _ ?side1 ?side2 ?side3 ?side4 ?side5 ?side6 ?side7 ?side8 ?side9 ?side10 A28.out).mono ?_
       (case side1=>repeat(first|exact(aF HO_746000.out).2.2|(with_reducible refine Kd.C_alloc ?_ _)|(with_reducible refine Kd.C_drewN ?_ _)|(with_reducible refine bC ?_)))
       (case side2=>exact(aF HO_746000.out).2.1)
       (case side3=>repeat(first|exact(aF HO_746001.out).2.2|(with_reducible refine Kd.C_alloc ?_ _)|(with_reducible refine Kd.C_drewN ?_ _)|(with_reducible refine bC ?_)))
       (case side4=>exact(aF HO_746001.out).2.1)
       (case side5=>repeat(first|exact(Kd.S_reads' HO_746004.out).2.2|(with_reducible refine Kd.C_alloc ?_ _)|(with_reducible refine Kd.C_drewN ?_ _)|(with_reducible refine bC ?_)))
       (case side6=>exact(Kd.S_reads' HO_746004.out).2.1)
       (case side7=>repeat(first|exact(Kd.S_reads' HO_7.out).2.2|(with_reducible refine Kd.C_alloc ?_ _)|(with_reducible refine Kd.C_drewN ?_ _)|(with_reducible refine bC ?_)))
       (case side8=>exact(Kd.S_reads' HO_7.out).2.1)
       (case side9=>repeat(first|exact(aF HO_757000.out).2.2|(with_reducible refine Kd.C_alloc ?_ _)|(with_reducible refine Kd.C_drewN ?_ _)|(with_reducible refine bC ?_)))
       (case side10=>exact(aF HO_757000.out).2.1)
       rintro e w33 ⟨v759,v763,rfl,ho0,ho1,hb⟩
       have HS7_:=(hb.cell (World.block_lt_of_cell? _ _ (hHeld.2.2.2.2.2.2.2))).trans (hHeld.2.2.2.2.2.2.2)
       refine⟨_,rfl,?_⟩
       have n0_:=aM (Kd.S_elder' (by(with_reducible repeat(first|apply Kd.S_alloc|apply aV|apply aW));exact HO_7.out) (Kd.R_base ho1) hb)
       have n1_:=aM (bE (by(with_reducible repeat(first|apply aA|apply aB|apply aC));exact HO_8.out) (Kd.R_base ho1) hb)
       have n2_:=aM (aD (by(with_reducible repeat(first|apply aA|apply aB|apply aC));exact HO_746000.out) hb)
       have n3_:=aM (bE (by(with_reducible repeat(first|apply aA|apply aB|apply aC));exact HO_746001.out) (Kd.R_base ho1) hb)
       have n4_:=aM (Kd.S_elder' (by(with_reducible repeat(first|apply Kd.S_alloc|apply aV|apply aW));exact HO_746004.out) (Kd.R_base ho0) hb)
       have n5_:=aM (bE (by(with_reducible repeat(first|apply aA|apply aB|apply aC));exact HO_757000.out) (Kd.R_base ho0) hb)
       have n6_:=aM (bL (Kd.R_new' ho0 (Kd.R_lt (by(with_reducible repeat(first|apply aA|apply aB|apply aC));exact HO_757000.out))) (bH (by repeat(first|(with_reducible first|exact HB.out|apply aN|apply aP|apply aO|refine aL ?_ GE745.out|refine aL ?_ GE756.out)|exact HB.out))))
       have n7_:=aM (bL (Kd.R_new' ho1 (Kd.R_lt (by(with_reducible repeat(first|apply aA|apply aB|apply aC));exact HO_8.out))) (bH (by repeat(first|(with_reducible first|exact HB.out|apply aN|apply aP|apply aO|refine aL ?_ GE745.out|refine aL ?_ GE756.out)|exact HB.out))))
       have n8_:=aM (bF (g:=gb745) (o:= .cells #[.slice Ao13 t734.length co13,.slice Ao15 t737.length co15,.int .i64 t740,.int .i64 t741,.slice Ao16 t742.length co16] 26 (0,0)) (by(with_reducible repeat(first|refine aJ ?_ _|refine aK ?_|refine aI ?_ _));exact BK745.out) hb)
       have n9_:=aM (bF (g:=gb756) (o:= .cells #[.slice Ao32 x757000_1.length co32,.bool x757001_1] 31 (0,0)) (by(with_reducible repeat(first|refine aJ ?_ _|refine aK ?_|refine aI ?_ _));exact BK756.out) hb)
       have n10_:=aM (bG (by repeat(first|(with_reducible first|exact HB.out|apply aN|apply aP|apply aO|refine aL ?_ GE745.out|refine aL ?_ GE756.out)|exact HB.out)) hb)
       clear HO_7
       clear HO_8
       clear HO_746000
       clear HO_746001
       clear HO_746004
       clear HO_757000
       clear BK745
       clear BK756
       clear HB
       have HO_7:=n0_
       have HO_8:=n1_
       have HO_746000:=n2_
       have HO_746001:=n3_
       have HO_746004:=n4_
       have HO_757000:=n5_
       have HO760:=n6_
       have HO764:=n7_
       have BK745:=n8_
       have BK756:=n9_
       have HB:=n10_
       clear n0_ n1_ n2_ n3_ n4_ n5_ n6_ n7_ n8_ n9_ n10_
       (try clear hb);(try clear hb2);(try clear hk);(try clear hi);(try clear ho0);(try clear ho1)
       obtain⟨Ao34,co34,eo34⟩:=Kd.R_slice HO760.out
       (first|subst eo34|(injection eo34 with f1_ f2_ f3_;have f4_:=f1_.symm;have f5_:=f3_.symm;clear f1_ f2_ f3_;subst f4_;subst f5_))
       refine hK.out _ _ ⟨(aG BK745.out 0).trans rfl,(aG BK745.out 1).trans rfl,(aG BK745.out 2).trans rfl,(aG BK745.out 3).trans rfl,(aG BK745.out 4).trans rfl,(aG BK756.out 0).trans rfl,(aG BK756.out 1).trans rfl,HS7_⟩ (fun hHeld=>?_)
       clear hK K
       refine norm_ (a':=?_) ?_ ?_
       rotate_left
       ·show Act.put _ (some 52) _=_
        simp only [pq]
        rfl
       refine pure_ (i:=8) (N:=some 44) (v:=?_) (a':=?_) #[T,T,T,T,T,T,T,T,T,F,F,F,F,F] rfl rfl (any_of HT_.out (by kernel_rfl)) (fun _ _ _ h=>h) (Or.inl ⟨by rfl,?_⟩) ?_ ?_
       rotate_left;(intro w';go_simp;with_reducible rfl);rotate_left;(simp only [pq];rfl)
       refine pure_ (i:=9) (N:=some 53) (v:=?_) (a':=?_) #[T,T,T,T,T,T,T,T,T,T,F,F,F,F] rfl rfl (any_of HT_.out (by kernel_rfl)) (fun _ _ _ h=>h) (Or.inl ⟨by rfl,?_⟩) ?_ ?_
       rotate_left;(intro w';go_simp;with_reducible rfl);rotate_left;(simp only [pq];rfl)
       refine pure_ (i:=10) (N:=some 54) (v:=?_) (a':=?_) #[T,T,T,T,T,T,T,T,T,T,T,F,F,F] rfl rfl (any_of HT_.out (by kernel_rfl)) (fun _ _ _ h=>h) (Or.inl ⟨by rfl,?_⟩) ?_ ?_
       rotate_left;(intro w';go_simp;with_reducible rfl);rotate_left;(simp only [pq];rfl)
       refine pure_ (i:=11) (N:=some 55) (v:=?_) (a':=?_) #[T,T,T,T,T,T,T,T,T,T,T,T,F,F] rfl rfl (any_of HT_.out (by kernel_rfl)) (fun _ _ _ h=>h) (Or.inl ⟨by rfl,?_⟩) ?_ ?_
       rotate_left;(intro w';go_simp;with_reducible rfl);rotate_left;(simp only [pq];rfl)
       refine last_ (i:=12) (N:=none) #[T,T,T,T,T,T,T,T,T,T,T,T,T,F] rfl rfl (one_of HT_.out (by kernel_rfl)) (by decide) (fun K hK=>?_)
       have hs35:w33.cell? ⟨gb756,0,none⟩=some (.slice Ao32 x757000_1.length co32):=(aG BK756.out 0).trans rfl
       have hfs35:=aH BK756.out 0
       have hns35_0:=NB745_756.out
       have hms35_0:=NB756_745.out
       have hs36:w33.cell? ⟨gb756,1,none⟩=some (.bool x757001_1):=(aG BK756.out 1).trans rfl
       have hfs36:=aH BK756.out 1
       have hns36_0:=NB745_756.out
       have hms36_0:=NB756_745.out
       refine skip_ (w1:=?_) (by rfl) rfl ?_ ?_
       rotate_left
       ·go_simp
        rfl
       refine hK.out _ _ ?_
       clear hK K
       refine pure_ (i:=13) (N:=some 10) (v:=?_) (a':=?_) #[T,T,T,T,T,T,T,T,T,T,T,T,T,T] rfl rfl (any_of HT_.out (by kernel_rfl)) (fun _ _ _ h=>h) (Or.inl ⟨by rfl,?_⟩) ?_ ?_
       rotate_left;(intro w';go_simp;with_reducible rfl);rotate_left;(simp only [pq];rfl)
       refine done_ (done_of HT_.out (by kernel_rfl)) ?_
       try go_wp2
       go_roundg k1
       case measure=>have:=HK1.out;omega
       case rel=>exact⟨(t765),(wrap64 (x11_1+1)),(t758),(t761),(.slice Ao34 t758.length co34),(by first|rfl|(simp;done)|(simp [*];done)),(by first|rfl|(simp;done)|(simp [*];done)),H',⟨by have:=HK1.out;omega⟩,⟨by(with_reducible repeat(first|apply Kd.S_alloc|apply aV|apply aW));exact Kd.S_mono (Kd.S_far (p:=⟨gb756,1,none⟩) (Kd.S_far (p:=⟨gb756,0,none⟩) (Kd.S_types HO_7.out BK756.out (by decide)) (fun _ hk=>hk.2) (.slice Ao34 t758.length co34)) (fun _ hk=>hk.2) (.bool t761)) (fun _ hk=>hk.1.1)⟩,⟨by(with_reducible repeat(first|apply aA|apply aB|apply aC));exact Kd.R_mono (aE (p:=⟨gb756,1,none⟩) (aE (p:=⟨gb756,0,none⟩) (Kd.R_types HO_8.out BK756.out (by decide)) (fun _ hk=>hk.2) (.slice Ao34 t758.length co34)) (fun _ hk=>hk.2) (.bool t761)) (fun _ hk=>trivial)⟩,⟨by(with_reducible repeat(first|apply aA|apply aB|apply aC));exact Kd.R_mono (aE (p:=⟨gb756,1,none⟩) (aE (p:=⟨gb756,0,none⟩) (Kd.R_types HO_746000.out BK756.out (by decide)) (fun _ hk=>hk.2) (.slice Ao34 t758.length co34)) (fun _ hk=>hk.2) (.bool t761)) (fun _ hk=>trivial)⟩,⟨by(with_reducible repeat(first|apply aA|apply aB|apply aC));exact Kd.R_mono (aE (p:=⟨gb756,1,none⟩) (aE (p:=⟨gb756,0,none⟩) (Kd.R_types HO_746001.out BK756.out (by decide)) (fun _ hk=>hk.2) (.slice Ao34 t758.length co34)) (fun _ hk=>hk.2) (.bool t761)) (fun _ hk=>hk.1.1)⟩,⟨by(with_reducible repeat(first|apply Kd.S_alloc|apply aV|apply aW));exact Kd.S_mono (Kd.S_far (p:=⟨gb756,1,none⟩) (Kd.S_far (p:=⟨gb756,0,none⟩) (Kd.S_types HO_746004.out BK756.out (by decide)) (fun _ hk=>hk.2) (.slice Ao34 t758.length co34)) (fun _ hk=>hk.2) (.bool t761)) (fun _ hk=>hk.1.2)⟩,⟨by(with_reducible repeat(first|apply aA|apply aB|apply aC));exact Kd.R_mono (aE (p:=⟨gb756,1,none⟩) (aE (p:=⟨gb756,0,none⟩) (Kd.R_types HO760.out BK756.out (by decide)) (fun _ hk=>hk.2) (.slice Ao34 t758.length co34)) (fun _ hk=>hk.2) (.bool t761)) (fun _ hk=>trivial)⟩,⟨by(with_reducible repeat(first|refine aJ ?_ _|refine aK ?_|refine aI ?_ _));refine blk_far ?_ NB745_756.out _;(with_reducible repeat(first|refine aJ ?_ _|refine aK ?_|refine aI ?_ _));refine blk_far ?_ NB745_756.out _;(with_reducible repeat(first|refine aJ ?_ _|refine aK ?_|refine aI ?_ _));exact BK745.out⟩,⟨by(with_reducible repeat(first|refine aJ ?_ _|refine aK ?_|refine aI ?_ _));refine blk_put (cs:=#[.slice Ao34 t758.length co34,.bool x757001_1]) ?_ 1 _ rfl;(with_reducible repeat(first|refine aJ ?_ _|refine aK ?_|refine aI ?_ _));refine blk_put (cs:=#[.slice Ao32 x757000_1.length co32,.bool x757001_1]) ?_ 0 _ rfl;(with_reducible repeat(first|refine aJ ?_ _|refine aK ?_|refine aI ?_ _));exact BK756.out⟩,⟨by repeat(first|(with_reducible first|exact HB.out|apply aN|apply aP|apply aO|refine aL ?_ GE745.out|refine aL ?_ GE756.out)|exact HB.out)⟩⟩
      ·rw [if_neg c26] at H
       have c26b0:(x10_1==0)=false:=beq_eq_false_iff_ne.mpr c26
       have c26b1:(x10_1 !=0)=true:=bne_iff_ne.mpr c26
       have H':=aM H
       clear H
       obtain⟨Ao37,co37,eo37⟩:=Kd.R_slice HO_8.out
       subst eo37
       go_wp2
       go_meet
       case rel=>exact⟨_,(x10_1),(x757000_1),(x757001_1),(u757000),(by first|rfl|(simp;done)|(simp [*];done)),H',⟨by have:=HK1.out;first|omega|exact Nat.le_refl _⟩,⟨by(with_reducible repeat(first|apply Kd.S_alloc|apply aV|apply aW));exact HO_7.out⟩,⟨by(with_reducible repeat(first|apply aA|apply aB|apply aC));exact HO_8.out⟩,⟨by(with_reducible repeat(first|apply aA|apply aB|apply aC));exact HO_746000.out⟩,⟨by(with_reducible repeat(first|apply aA|apply aB|apply aC));exact HO_746001.out⟩,⟨by(with_reducible repeat(first|apply Kd.S_alloc|apply aV|apply aW));exact HO_746004.out⟩,⟨by(with_reducible repeat(first|apply aA|apply aB|apply aC));exact HO_757000.out⟩,⟨by(with_reducible repeat(first|refine aJ ?_ _|refine aK ?_|refine aI ?_ _));exact BK745.out⟩,⟨by(with_reducible repeat(first|refine aJ ?_ _|refine aK ?_|refine aI ?_ _));exact BK756.out⟩,⟨by repeat(first|(with_reducible first|exact HB.out|apply aN|apply aP|apply aO|refine aL ?_ GE745.out|refine aL ?_ GE756.out)|exact HB.out)⟩⟩
     ·rw [if_neg c25] at H
      have c25b0:decide (x11_1<(t749.length:Int))=false:=decide_eq_false c25
      clear c25
      (first|rw [c25b0]|(simp only [i64_w,i32_w];rw [c25b0])|skip)
      have H':=aM H
      clear H
      obtain⟨Ao38,co38,eo38⟩:=Kd.R_slice HO_8.out
      subst eo38
      go_wp2
      go_meet
      case rel=>exact⟨_,(x10_1),(x757000_1),(x757001_1),(u757000),(by first|rfl|(simp;done)|(simp [*];done)),H',⟨by have:=HK1.out;first|omega|exact Nat.le_refl _⟩,⟨by(with_reducible repeat(first|apply Kd.S_alloc|apply aV|apply aW));exact HO_7.out⟩,⟨by(with_reducible repeat(first|apply aA|apply aB|apply aC));exact HO_8.out⟩,⟨by(with_reducible repeat(first|apply aA|apply aB|apply aC));exact HO_746000.out⟩,⟨by(with_reducible repeat(first|apply aA|apply aB|apply aC));exact HO_746001.out⟩,⟨by(with_reducible repeat(first|apply Kd.S_alloc|apply aV|apply aW));exact HO_746004.out⟩,⟨by(with_reducible repeat(first|apply aA|apply aB|apply aC));exact HO_757000.out⟩,⟨by(with_reducible repeat(first|refine aJ ?_ _|refine aK ?_|refine aI ?_ _));exact BK745.out⟩,⟨by(with_reducible repeat(first|refine aJ ?_ _|refine aK ?_|refine aI ?_ _));exact BK756.out⟩,⟨by repeat(first|(with_reducible first|exact HB.out|apply aN|apply aP|apply aO|refine aL ?_ GE745.out|refine aL ?_ GE756.out)|exact HB.out)⟩⟩
  case rest=>
   clear HC9
   (try clear c1);(try clear c2);(try clear p2);(try clear c4);(try clear p6);(try clear p7);(try clear q7);(try clear hx7);(try clear c9);(try clear c10);(try clear c14);(try clear c15);(try clear c17);(try clear c19);(try clear c23);(try clear c25);(try clear c25b0);(try clear c26);(try clear c26b0);(try clear c26b1);(try clear c27);(try clear c27b0);(try clear hcz14_0);(try clear hcz14_1);(try clear hcz14_2)
   (try clear hcz14_3);(try clear hcz14_4);(try clear hcz18_0);(try clear hcz18_1);(try clear hcz18_2);(try clear hcz18_3);(try clear hcz18_4);(try clear hcz24_0);(try clear hcz24_1);(try clear hfz14_0);(try clear hfz14_1);(try clear hfz14_2);(try clear hfz14_3);(try clear hfz14_4);(try clear hfz18_0);(try clear hfz18_1);(try clear hfz18_2);(try clear hfz18_3);(try clear hfz18_4);(try clear hfz24_0);(try clear hfz24_1)
   (try clear hx757_0);(try clear p2);(try clear p757);(try clear q757)
   obtain⟨kq,x10_8,x757000_8,x757001_8,u757000,rfl,HA,HJ8,HO_7,HO_8,HO_746000,HO_746001,HO_746004,HO_757000,BK745,BK756,HB⟩:=hcut
   cases kq with
   |zero=>exact absurd HA.out (by simp [regletlaw16_MachineEnds.j1])
   |succ kj8=>
    have H:=HA.out
    clear HA
    simp only [regletlaw16_MachineEnds.j1] at H
    replace H:=Option.bind_eq_some_iff.mp H
    obtain⟨⟨t766,t769,t770⟩,A390,H⟩:=H
    replace H:(if x10_8=0 then((machine_Feed.f t734 t737 t740 t741 t742 t746 x757000_8 x757001_8 (t737.length:Int)).bind fun bt771=>(if bt771.2.2.2=0 then((machine_Feed.f t734 t737 t740 t741 t742 t746 bt771.1 bt771.2.1 (t737.length:Int)).bind fun bt780=>(if true=true then(if t769=0 then(if(bt771.1.length:Int)=0 then(if bt780.2.2.2=0 then(some ((bt780.2.2.1.length:Int)==0)) else(none)) else(none)) else(none)) else(none))) else(if true=true then(if t769=bt771.2.2.2 then(some bt771.2.1) else(none)) else(none)))) else(if true=true then(some (t769 !=0)) else(none)))=some r:=H
    have A39:=aM A390
    clear A390
    by_cases c40:x10_8=0
    ·rw [if_pos c40] at H
     have c40b0:(x10_8==0)=true:=beq_iff_eq.mpr c40
     have c40b1:(x10_8 !=0)=false:=bne_eq_false_iff_eq.mpr c40
     clear c40
     replace H:=Option.bind_eq_some_iff.mp H
     obtain⟨⟨t771,t774,t775,t778⟩,A410,H⟩:=H
     replace H:(if t778=0 then((machine_Feed.f t734 t737 t740 t741 t742 t746 t771 t774 (t737.length:Int)).bind fun bt780=>(if true=true then(if t769=0 then(if(t771.length:Int)=0 then(if bt780.2.2.2=0 then(some ((bt780.2.2.1.length:Int)==0)) else(none)) else(none)) else(none)) else(none))) else(if true=true then(if t769=t778 then(some t774) else(none)) else(none)))=some r:=H
     have A41:=aM A410
     clear A410
     by_cases c42:t778=0
     ·rw [if_pos c42] at H
      have c42b0:(t778==0)=true:=beq_iff_eq.mpr c42
      have c42b1:(t778 !=0)=false:=bne_eq_false_iff_eq.mpr c42
      clear c42
      replace H:=Option.bind_eq_some_iff.mp H
      obtain⟨⟨t780,t783,t784,t787⟩,A430,H⟩:=H
      replace H:(if true=true then(if t769=0 then(if(t771.length:Int)=0 then(if t787=0 then(some ((t784.length:Int)==0)) else(none)) else(none)) else(none)) else(none))=some r:=H
      have A43:=aM A430
      clear A430
      have H1:(if t769=0 then(if(t771.length:Int)=0 then(if t787=0 then(some ((t784.length:Int)==0)) else(none)) else(none)) else(none))=some r:=by first|(rw [if_pos rfl] at H;exact H)|simpa using H
      clear H
      have H:=H1
      clear H1
      by_cases c44:t769=0
      rotate_left
      ·rw [if_neg c44] at H
       exact absurd H (by simp)
      rw [if_pos c44] at H
      have c44b0:(t769==0)=true:=beq_iff_eq.mpr c44
      have c44b1:(t769 !=0)=false:=bne_eq_false_iff_eq.mpr c44
      clear c44
      by_cases c45:(t771.length:Int)=0
      rotate_left
      ·rw [if_neg c45] at H
       exact absurd H (by simp)
      rw [if_pos c45] at H
      have c45b0:((t771.length:Int)==0)=true:=beq_iff_eq.mpr c45
      have c45b1:((t771.length:Int) !=0)=false:=bne_eq_false_iff_eq.mpr c45
      clear c45
      by_cases c46:t787=0
      rotate_left
      ·rw [if_neg c46] at H
       exact absurd H (by simp)
      rw [if_pos c46] at H
      have c46b0:(t787==0)=true:=beq_iff_eq.mpr c46
      have c46b1:(t787 !=0)=false:=bne_eq_false_iff_eq.mpr c46
      clear c46
      obtain rfl:=Option.some.inj H
      have hnb47:=NB745_756.out
      have hnc47:=NB756_745.out
      have hcz48_0:wc.cell? ⟨gb745,0,none⟩=some (.slice Ao13 t734.length co13):=(aG BK745.out 0).trans rfl
      have hcz48_1:wc.cell? ⟨gb745,1,none⟩=some (.slice Ao15 t737.length co15):=(aG BK745.out 1).trans rfl
      have hcz48_2:wc.cell? ⟨gb745,2,none⟩=some (.int .i64 t740):=(aG BK745.out 2).trans rfl
      have hcz48_3:wc.cell? ⟨gb745,3,none⟩=some (.int .i64 t741):=(aG BK745.out 3).trans rfl
      have hcz48_4:wc.cell? ⟨gb745,4,none⟩=some (.slice Ao16 t742.length co16):=(aG BK745.out 4).trans rfl
      have hfz48_0:=aH BK745.out 0
      have hfz48_1:=aH BK745.out 1
      have hfz48_2:=aH BK745.out 2
      have hfz48_3:=aH BK745.out 3
      have hfz48_4:=aH BK745.out 4
      obtain⟨Ao49,co49,eo49⟩:=Kd.S_slice HO_7.out
      subst eo49
      obtain⟨Ao50,co50,eo50⟩:=Kd.R_slice HO_8.out
      subst eo50
      go_wp2_with (first|((with_reducible refine bI (f:=22) rfl ?_);refine goesL_ (some 60) rfl rfl Try.func22 (by kernel_rfl) rfl #[.agg #[.slice Ao13 t734.length co13,.slice Ao15 t737.length co15,.int .i64 t740,.int .i64 t741,.slice Ao16 t742.length co16],.slice Ao49 t746.length co49,.slice Ao50 t749.length co50] rfl (by(try simp only [List.map_toArray,List.map_cons,List.map_nil]);first|done|rfl|(simp only [List.length_drop,List.length_take];rfl)) ?_;(with_reducible refine(machine_Run.calls kj8 _ _ t734 _ _ t737 t740 t741 _ _ t742 _ _ t746 _ _ t749 t766 t769 t770 _ ?side1 ?side2 ?side3 ?side4 ?side5 ?side6 ?side7 ?side8 ?side9 ?side10 A39.out).mono ?_);(case side1=>repeat(first|exact(aF HO_746000.out).2.2|(with_reducible refine Kd.C_alloc ?_ _)|(with_reducible refine Kd.C_drewN ?_ _)|(with_reducible refine bC ?_)));(case side2=>exact(aF HO_746000.out).2.1);(case side3=>repeat(first|exact(aF HO_746001.out).2.2|(with_reducible refine Kd.C_alloc ?_ _)|(with_reducible refine Kd.C_drewN ?_ _)|(with_reducible refine bC ?_)));(case side4=>exact(aF HO_746001.out).2.1);(case side5=>repeat(first|exact(Kd.S_reads' HO_746004.out).2.2|(with_reducible refine Kd.C_alloc ?_ _)|(with_reducible refine Kd.C_drewN ?_ _)|(with_reducible refine bC ?_)));(case side6=>exact(Kd.S_reads' HO_746004.out).2.1);(case side7=>repeat(first|exact(Kd.S_reads' HO_7.out).2.2|(with_reducible refine Kd.C_alloc ?_ _)|(with_reducible refine Kd.C_drewN ?_ _)|(with_reducible refine bC ?_)));(case side8=>exact(Kd.S_reads' HO_7.out).2.1);(case side9=>repeat(first|exact(aF HO_8.out).2.2|(with_reducible refine Kd.C_alloc ?_ _)|(with_reducible refine Kd.C_drewN ?_ _)|(with_reducible refine bC ?_)));(case side10=>exact(aF HO_8.out).2.1);rintro e w51 ⟨v767,rfl,ho0,hb⟩;refine⟨_,rfl,?_⟩;have n0_:=aM (Kd.S_elder' (by(with_reducible repeat(first|apply Kd.S_alloc|apply aV|apply aW));exact HO_7.out) (Kd.R_base ho0) hb);have n1_:=aM (bE (by(with_reducible repeat(first|apply aA|apply aB|apply aC));exact HO_8.out) (Kd.R_base ho0) hb);have n2_:=aM (aD (by(with_reducible repeat(first|apply aA|apply aB|apply aC));exact HO_746000.out) hb);have n3_:=aM (bE (by(with_reducible repeat(first|apply aA|apply aB|apply aC));exact HO_746001.out) (Kd.R_base ho0) hb);have n4_:=aM (Kd.S_below (by(with_reducible repeat(first|apply Kd.S_alloc|apply aV|apply aW));exact HO_746004.out) hb);have n5_:=aM (aD (by(with_reducible repeat(first|apply aA|apply aB|apply aC));exact HO_757000.out) hb);have n6_:=aM (bL (Kd.R_new' ho0 (Kd.R_lt (by(with_reducible repeat(first|apply aA|apply aB|apply aC));exact HO_8.out))) (bH (by repeat(first|(with_reducible first|exact HB.out|apply aN|apply aP|apply aO|refine aL ?_ GE745.out|refine aL ?_ GE756.out)|exact HB.out))));have n7_:=aM (bF (g:=gb745) (o:= .cells #[.slice Ao13 t734.length co13,.slice Ao15 t737.length co15,.int .i64 t740,.int .i64 t741,.slice Ao16 t742.length co16] 26 (0,0)) (by(with_reducible repeat(first|refine aJ ?_ _|refine aK ?_|refine aI ?_ _));exact BK745.out) hb);have n8_:=aM (bF (g:=gb756) (o:= .cells #[u757000,.bool x757001_8] 31 (0,0)) (by(with_reducible repeat(first|refine aJ ?_ _|refine aK ?_|refine aI ?_ _));exact BK756.out) hb);have n9_:=aM (bG (by repeat(first|(with_reducible first|exact HB.out|apply aN|apply aP|apply aO|refine aL ?_ GE745.out|refine aL ?_ GE756.out)|exact HB.out)) hb);clear HO_7;clear HO_8;clear HO_746000;clear HO_746001;clear HO_746004;clear HO_757000;clear BK745;clear BK756;clear HB;have HO_7:=n0_;have HO_8:=n1_;have HO_746000:=n2_;have HO_746001:=n3_;have HO_746004:=n4_;have HO_757000:=n5_;have HO768:=n6_;have BK745:=n7_;have BK756:=n8_;have HB:=n9_;clear n0_ n1_ n2_ n3_ n4_ n5_ n6_ n7_ n8_ n9_;(try clear hb);(try clear hb2);(try clear hk);(try clear hi);(try clear ho0);have hcz52_0:w51.cell? ⟨gb745,0,none⟩=some (.slice Ao13 t734.length co13):=(aG BK745.out 0).trans rfl;have hcz52_1:w51.cell? ⟨gb745,1,none⟩=some (.slice Ao15 t737.length co15):=(aG BK745.out 1).trans rfl;have hcz52_2:w51.cell? ⟨gb745,2,none⟩=some (.int .i64 t740):=(aG BK745.out 2).trans rfl;have hcz52_3:w51.cell? ⟨gb745,3,none⟩=some (.int .i64 t741):=(aG BK745.out 3).trans rfl;have hcz52_4:w51.cell? ⟨gb745,4,none⟩=some (.slice Ao16 t742.length co16):=(aG BK745.out 4).trans rfl;have hfz52_0:=aH BK745.out 0;have hfz52_1:=aH BK745.out 1;have hfz52_2:=aH BK745.out 2;have hfz52_3:=aH BK745.out 3;have hfz52_4:=aH BK745.out 4;have hcz53_0:w51.cell? ⟨gb756,0,none⟩=some (u757000):=(aG BK756.out 0).trans rfl;have hcz53_1:w51.cell? ⟨gb756,1,none⟩=some (.bool x757001_8):=(aG BK756.out 1).trans rfl;have hfz53_0:=aH BK756.out 0;have hfz53_1:=aH BK756.out 1;obtain⟨Ao54,co54,eo54⟩:=Kd.R_slice HO_757000.out;subst eo54)|((with_reducible refine bI (f:=23) rfl ?_);refine goesL_ (some 78) rfl rfl Try.func23 (by kernel_rfl) rfl #[.agg #[.slice Ao13 t734.length co13,.slice Ao15 t737.length co15,.int .i64 t740,.int .i64 t741,.slice Ao16 t742.length co16],.slice Ao49 t746.length co49,.agg #[.slice Ao54 x757000_8.length co54,.bool x757001_8],.int .i64 (t737.length:Int)] rfl (by(try simp only [List.map_toArray,List.map_cons,List.map_nil]);first|done|rfl|(simp only [List.length_drop,List.length_take];rfl)) ?_;(with_reducible refine(machine_Feed.calls _ _ t734 _ _ t737 t740 t741 _ _ t742 _ _ t746 _ _ x757000_8 x757001_8 (t737.length:Int) t771 t774 t775 t778 _ ?side1 ?side2 ?side3 ?side4 ?side5 ?side6 ?side7 ?side8 ?side9 ?side10 A41.out).mono ?_);(case side1=>repeat(first|exact(aF HO_746000.out).2.2|(with_reducible refine Kd.C_alloc ?_ _)|(with_reducible refine Kd.C_drewN ?_ _)|(with_reducible refine bC ?_)));(case side2=>exact(aF HO_746000.out).2.1);(case side3=>repeat(first|exact(aF HO_746001.out).2.2|(with_reducible refine Kd.C_alloc ?_ _)|(with_reducible refine Kd.C_drewN ?_ _)|(with_reducible refine bC ?_)));(case side4=>exact(aF HO_746001.out).2.1);(case side5=>repeat(first|exact(Kd.S_reads' HO_746004.out).2.2|(with_reducible refine Kd.C_alloc ?_ _)|(with_reducible refine Kd.C_drewN ?_ _)|(with_reducible refine bC ?_)));(case side6=>exact(Kd.S_reads' HO_746004.out).2.1);(case side7=>repeat(first|exact(Kd.S_reads' HO_7.out).2.2|(with_reducible refine Kd.C_alloc ?_ _)|(with_reducible refine Kd.C_drewN ?_ _)|(with_reducible refine bC ?_)));(case side8=>exact(Kd.S_reads' HO_7.out).2.1);(case side9=>repeat(first|exact(aF HO_757000.out).2.2|(with_reducible refine Kd.C_alloc ?_ _)|(with_reducible refine Kd.C_drewN ?_ _)|(with_reducible refine bC ?_)));(case side10=>exact(aF HO_757000.out).2.1);rintro e w55 ⟨v772,v776,rfl,ho0,ho1,hb⟩;refine⟨_,rfl,?_⟩;have n0_:=aM (Kd.S_elder' (by(with_reducible repeat(first|apply Kd.S_alloc|apply aV|apply aW));exact HO_7.out) (Kd.R_base ho1) hb);have n1_:=aM (bE (by(with_reducible repeat(first|apply aA|apply aB|apply aC));exact HO_8.out) (Kd.R_base ho1) hb);have n2_:=aM (aD (by(with_reducible repeat(first|apply aA|apply aB|apply aC));exact HO_746000.out) hb);have n3_:=aM (bE (by(with_reducible repeat(first|apply aA|apply aB|apply aC));exact HO_746001.out) (Kd.R_base ho1) hb);have n4_:=aM (Kd.S_elder' (by(with_reducible repeat(first|apply Kd.S_alloc|apply aV|apply aW));exact HO_746004.out) (Kd.R_base ho0) hb);have n5_:=aM (bE (by(with_reducible repeat(first|apply aA|apply aB|apply aC));exact HO_757000.out) (Kd.R_base ho0) hb);have n6_:=aM (bE (by(with_reducible repeat(first|apply aA|apply aB|apply aC));exact HO768.out) (Kd.R_base ho1) hb);have n7_:=aM (bL (Kd.R_new' ho0 (Kd.R_lt (by(with_reducible repeat(first|apply aA|apply aB|apply aC));exact HO_757000.out))) (bH (by repeat(first|(with_reducible first|exact HB.out|apply aN|apply aP|apply aO|refine aL ?_ GE745.out|refine aL ?_ GE756.out)|exact HB.out))));have n8_:=aM (bL (Kd.R_new' (Kd.R_new' ho1 (Kd.R_lt (by(with_reducible repeat(first|apply aA|apply aB|apply aC));exact HO_8.out))) (Kd.R_lt (by(with_reducible repeat(first|apply aA|apply aB|apply aC));exact HO768.out))) (bH (by repeat(first|(with_reducible first|exact HB.out|apply aN|apply aP|apply aO|refine aL ?_ GE745.out|refine aL ?_ GE756.out)|exact HB.out))));have n9_:=aM (bF (g:=gb745) (o:= .cells #[.slice Ao13 t734.length co13,.slice Ao15 t737.length co15,.int .i64 t740,.int .i64 t741,.slice Ao16 t742.length co16] 26 (0,0)) (by(with_reducible repeat(first|refine aJ ?_ _|refine aK ?_|refine aI ?_ _));exact BK745.out) hb);have n10_:=aM (bF (g:=gb756) (o:= .cells #[.slice Ao54 x757000_8.length co54,.bool x757001_8] 31 (0,0)) (by(with_reducible repeat(first|refine aJ ?_ _|refine aK ?_|refine aI ?_ _));exact BK756.out) hb);have n11_:=aM (bG (by repeat(first|(with_reducible first|exact HB.out|apply aN|apply aP|apply aO|refine aL ?_ GE745.out|refine aL ?_ GE756.out)|exact HB.out)) hb);clear HO_7;clear HO_8;clear HO_746000;clear HO_746001;clear HO_746004;clear HO_757000;clear HO768;clear BK745;clear BK756;clear HB;have HO_7:=n0_;have HO_8:=n1_;have HO_746000:=n2_;have HO_746001:=n3_;have HO_746004:=n4_;have HO_757000:=n5_;have HO768:=n6_;have HO773:=n7_;have HO777:=n8_;have BK745:=n9_;have BK756:=n10_;have HB:=n11_;clear n0_ n1_ n2_ n3_ n4_ n5_ n6_ n7_ n8_ n9_ n10_ n11_;(try clear hb);(try clear hb2);(try clear hk);(try clear hi);(try clear ho0);(try clear ho1))|((with_reducible refine bJ (N:=15) rfl ?_);(try(refine gate_guard (by rfl) ?_;dsimp only));refine box_event ?hg (N:=15) ?hd (cs:=#[.slice none 0 0,.bool false]) (t:=31) ?hr ?_;(case hd=>rfl);(case hg=>rfl);(case hr=>first|(go_simp;done)|(go_simp;rfl));intro gb779 hg w56 hbox hb;have n0_:=aM (Kd.S_below (by(with_reducible repeat(first|apply Kd.S_alloc|apply aV|apply aW));exact HO_7.out) hb);have n1_:=aM (aD (by(with_reducible repeat(first|apply aA|apply aB|apply aC));exact HO_8.out) hb);have n2_:=aM (aD (by(with_reducible repeat(first|apply aA|apply aB|apply aC));exact HO_746000.out) hb);have n3_:=aM (aD (by(with_reducible repeat(first|apply aA|apply aB|apply aC));exact HO_746001.out) hb);have n4_:=aM (Kd.S_below (by(with_reducible repeat(first|apply Kd.S_alloc|apply aV|apply aW));exact HO_746004.out) hb);have n5_:=aM (aD (by(with_reducible repeat(first|apply aA|apply aB|apply aC));exact HO_757000.out) hb);have n6_:=aM (aD (by(with_reducible repeat(first|apply aA|apply aB|apply aC));exact HO768.out) hb);have n7_:=aM (aD (by(with_reducible repeat(first|apply aA|apply aB|apply aC));exact HO773.out) hb);have n8_:=aM (aD (by(with_reducible repeat(first|apply aA|apply aB|apply aC));exact HO777.out) hb);have n9_:=aM (bF (g:=gb745) (o:= .cells #[.slice Ao13 t734.length co13,.slice Ao15 t737.length co15,.int .i64 t740,.int .i64 t741,.slice Ao16 t742.length co16] 26 (0,0)) (by(with_reducible repeat(first|refine aJ ?_ _|refine aK ?_|refine aI ?_ _));exact BK745.out) hb);have n10_:=aM (bF (g:=gb756) (o:= .cells #[.slice Ao54 x757000_8.length co54,.bool x757001_8] 31 (0,0)) (by(with_reducible repeat(first|refine aJ ?_ _|refine aK ?_|refine aI ?_ _));exact BK756.out) hb);have n11_:=aM (bG (by repeat(first|(with_reducible first|exact HB.out|apply aN|apply aP|apply aO|refine aL ?_ GE745.out|refine aL ?_ GE756.out)|exact HB.out)) hb);have n12_:=aM (hbox);have n13_:=aM ((by rw [hg];exact(bH (by repeat(first|(with_reducible first|exact HB.out|apply aN|apply aP|apply aO|refine aL ?_ GE745.out|refine aL ?_ GE756.out)|exact HB.out))):w.heap.size≤gb779));have n14_:=aM ((by rw [hg];exact(bH (by repeat(first|(with_reducible first|exact HB.out|apply aN|apply aP|apply aO|refine aL ?_ GE745.out|refine aL ?_ GE756.out)|exact HB.out))):w.heap.size≤gb779));have n15_:=aM ((by rw [hg];exact Nat.ne_of_lt (bN (g:=gb745) (o:= .cells #[.slice Ao13 t734.length co13,.slice Ao15 t737.length co15,.int .i64 t740,.int .i64 t741,.slice Ao16 t742.length co16] 26 (0,0)) (by(with_reducible repeat(first|refine aJ ?_ _|refine aK ?_|refine aI ?_ _));exact BK745.out)):gb745≠gb779));have n16_:=aM ((by rw [hg];exact Nat.ne_of_gt (bN (g:=gb745) (o:= .cells #[.slice Ao13 t734.length co13,.slice Ao15 t737.length co15,.int .i64 t740,.int .i64 t741,.slice Ao16 t742.length co16] 26 (0,0)) (by(with_reducible repeat(first|refine aJ ?_ _|refine aK ?_|refine aI ?_ _));exact BK745.out)):gb779≠gb745));have n17_:=aM ((by rw [hg];exact Nat.ne_of_lt (bN (g:=gb756) (o:= .cells #[.slice Ao54 x757000_8.length co54,.bool x757001_8] 31 (0,0)) (by(with_reducible repeat(first|refine aJ ?_ _|refine aK ?_|refine aI ?_ _));exact BK756.out)):gb756≠gb779));have n18_:=aM ((by rw [hg];exact Nat.ne_of_gt (bN (g:=gb756) (o:= .cells #[.slice Ao54 x757000_8.length co54,.bool x757001_8] 31 (0,0)) (by(with_reducible repeat(first|refine aJ ?_ _|refine aK ?_|refine aI ?_ _));exact BK756.out)):gb779≠gb756));clear HO_7;clear HO_8;clear HO_746000;clear HO_746001;clear HO_746004;clear HO_757000;clear HO768;clear HO773;clear HO777;clear BK745;clear BK756;clear HB;have HO_7:=n0_;have HO_8:=n1_;have HO_746000:=n2_;have HO_746001:=n3_;have HO_746004:=n4_;have HO_757000:=n5_;have HO768:=n6_;have HO773:=n7_;have HO777:=n8_;have BK745:=n9_;have BK756:=n10_;have HB:=n11_;have BK779:=n12_;have GW779:=n13_;have GE779:=n14_;have NB745_779:=n15_;have NB779_745:=n16_;have NB756_779:=n17_;have NB779_756:=n18_;clear n0_ n1_ n2_ n3_ n4_ n5_ n6_ n7_ n8_ n9_ n10_ n11_ n12_ n13_ n14_ n15_ n16_ n17_ n18_;clear hb hbox hg;obtain⟨Ao57,co57,eo57⟩:=Kd.R_slice HO773.out;subst eo57;have hnb58:=NB779_745.out;have hnc58:=NB745_779.out;have hnb59:=NB779_756.out;have hnc59:=NB756_779.out;have hcz60_0:w56.cell? ⟨gb779,0,none⟩=some (.slice none 0 0):=(aG BK779.out 0).trans rfl;have hcz60_1:w56.cell? ⟨gb779,1,none⟩=some (.bool false):=(aG BK779.out 1).trans rfl;have hfz60_0:=aH BK779.out 0;have hfz60_1:=aH BK779.out 1;have hcz61_0:w56.cell? ⟨gb745,0,none⟩=some (.slice Ao13 t734.length co13):=(aG BK745.out 0).trans rfl;have hcz61_1:w56.cell? ⟨gb745,1,none⟩=some (.slice Ao15 t737.length co15):=(aG BK745.out 1).trans rfl;have hcz61_2:w56.cell? ⟨gb745,2,none⟩=some (.int .i64 t740):=(aG BK745.out 2).trans rfl;have hcz61_3:w56.cell? ⟨gb745,3,none⟩=some (.int .i64 t741):=(aG BK745.out 3).trans rfl;have hcz61_4:w56.cell? ⟨gb745,4,none⟩=some (.slice Ao16 t742.length co16):=(aG BK745.out 4).trans rfl;have hfz61_0:=aH BK745.out 0;have hfz61_1:=aH BK745.out 1;have hfz61_2:=aH BK745.out 2;have hfz61_3:=aH BK745.out 3;have hfz61_4:=aH BK745.out 4)|((with_reducible refine bI (f:=23) rfl ?_);refine goesL_ (some 101) rfl rfl Try.func23 (by kernel_rfl) rfl #[.agg #[.slice Ao13 t734.length co13,.slice Ao15 t737.length co15,.int .i64 t740,.int .i64 t741,.slice Ao16 t742.length co16],.slice Ao49 t746.length co49,.agg #[.slice Ao57 t771.length co57,.bool t774],.int .i64 (t737.length:Int)] rfl (by(try simp only [List.map_toArray,List.map_cons,List.map_nil]);first|done|rfl|(simp only [List.length_drop,List.length_take];rfl)) ?_;(with_reducible refine(machine_Feed.calls _ _ t734 _ _ t737 t740 t741 _ _ t742 _ _ t746 _ _ t771 t774 (t737.length:Int) t780 t783 t784 t787 _ ?side1 ?side2 ?side3 ?side4 ?side5 ?side6 ?side7 ?side8 ?side9 ?side10 A43.out).mono ?_);(case side1=>refine(aF (e:=9) (base:=w.heap.size) (ok:=fun k_=>True) (n:=t734.length) (c:=co13) ?_).2.2;exact(by(with_reducible repeat(first|apply aA|apply aB|apply aC));exact(Kd.R_mono (aE (p:=⟨gb779,1,none⟩) (aE (p:=⟨gb779,0,none⟩) (Kd.R_types HO_746000.out BK779.out (by decide)) (fun _ hk=>hk.2) (.slice Ao57 t771.length co57)) (fun _ hk=>hk.2) (.bool t774)) (fun _ h_=>h_.1))));(case side2=>exact(aF HO_746000.out).2.1);(case side3=>refine(aF (e:=72) (base:=w.heap.size) (ok:=fun k_=>((some k_≠(.slice Ao50 t749.length co50:Value).ownBlock∧some k_≠(v767:Value).ownBlock)∧some k_≠(v776:Value).ownBlock)) (n:=t737.length) (c:=co15) ?_).2.2;exact(by(with_reducible repeat(first|apply aA|apply aB|apply aC));exact(Kd.R_mono (aE (p:=⟨gb779,1,none⟩) (aE (p:=⟨gb779,0,none⟩) (Kd.R_types HO_746001.out BK779.out (by decide)) (fun _ hk=>hk.2) (.slice Ao57 t771.length co57)) (fun _ hk=>hk.2) (.bool t774)) (fun _ h_=>h_.1))));(case side4=>exact(aF HO_746001.out).2.1);(case side5=>refine(Kd.S_reads' (e:=35) (base:=w.heap.size) (ok:=fun k_=>(some k_≠(.slice Ao54 x757000_8.length co54:Value).ownBlock∧some k_≠(.slice Ao57 t771.length co57:Value).ownBlock)) (n:=t742.length) (c:=co16) ?_).2.2;exact(by(with_reducible repeat(first|apply Kd.S_alloc|apply aV|apply aW));exact(Kd.S_mono (Kd.S_far (p:=⟨gb779,1,none⟩) (Kd.S_far (p:=⟨gb779,0,none⟩) (Kd.S_types HO_746004.out BK779.out (by decide)) (fun _ hk=>hk.2) (.slice Ao57 t771.length co57)) (fun _ hk=>hk.2) (.bool t774)) (fun _ h_=>h_.1))));(case side6=>exact(Kd.S_reads' HO_746004.out).2.1);(case side7=>refine(Kd.S_reads' (e:=32) (base:=w.heap.size) (ok:=fun k_=>((some k_≠(.slice Ao50 t749.length co50:Value).ownBlock∧some k_≠(v767:Value).ownBlock)∧some k_≠(v776:Value).ownBlock)) (n:=t746.length) (c:=co49) ?_).2.2;exact(by(with_reducible repeat(first|apply Kd.S_alloc|apply aV|apply aW));exact(Kd.S_mono (Kd.S_far (p:=⟨gb779,1,none⟩) (Kd.S_far (p:=⟨gb779,0,none⟩) (Kd.S_types HO_7.out BK779.out (by decide)) (fun _ hk=>hk.2) (.slice Ao57 t771.length co57)) (fun _ hk=>hk.2) (.bool t774)) (fun _ h_=>h_.1))));(case side8=>exact(Kd.S_reads' HO_7.out).2.1);(case side9=>refine(aF (e:=43) (base:=w.heap.size) (ok:=fun k_=>(True∧some k_≠(.slice Ao54 x757000_8.length co54:Value).ownBlock)) (n:=t771.length) (c:=co57) ?_).2.2;exact(by(with_reducible repeat(first|apply aA|apply aB|apply aC));exact(Kd.R_mono (aE (p:=⟨gb779,1,none⟩) (aE (p:=⟨gb779,0,none⟩) (Kd.R_types HO773.out BK779.out (by decide)) (fun _ hk=>hk.2) (.slice Ao57 t771.length co57)) (fun _ hk=>hk.2) (.bool t774)) (fun _ h_=>h_.1))));(case side10=>exact(aF HO773.out).2.1);rintro e w62 ⟨v781,v785,rfl,ho0,ho1,hb⟩;refine⟨_,rfl,?_⟩;have n0_:=aM (Kd.S_elder' (by(with_reducible repeat(first|apply Kd.S_alloc|apply aV|apply aW));exact(Kd.S_mono (Kd.S_far (p:=⟨gb779,1,none⟩) (Kd.S_far (p:=⟨gb779,0,none⟩) (Kd.S_types HO_7.out BK779.out (by decide)) (fun _ hk=>hk.2) (.slice Ao57 t771.length co57)) (fun _ hk=>hk.2) (.bool t774)) (fun _ h_=>h_.1))) (Kd.R_base ho1) hb);have n1_:=aM (bE (by(with_reducible repeat(first|apply aA|apply aB|apply aC));exact(Kd.R_mono (aE (p:=⟨gb779,1,none⟩) (aE (p:=⟨gb779,0,none⟩) (Kd.R_types HO_8.out BK779.out (by decide)) (fun _ hk=>hk.2) (.slice Ao57 t771.length co57)) (fun _ hk=>hk.2) (.bool t774)) (fun _ h_=>h_.1))) (Kd.R_base ho1) hb);have n2_:=aM (aD (by(with_reducible repeat(first|apply aA|apply aB|apply aC));exact(Kd.R_mono (aE (p:=⟨gb779,1,none⟩) (aE (p:=⟨gb779,0,none⟩) (Kd.R_types HO_746000.out BK779.out (by decide)) (fun _ hk=>hk.2) (.slice Ao57 t771.length co57)) (fun _ hk=>hk.2) (.bool t774)) (fun _ h_=>h_.1))) hb);have n3_:=aM (bE (by(with_reducible repeat(first|apply aA|apply aB|apply aC));exact(Kd.R_mono (aE (p:=⟨gb779,1,none⟩) (aE (p:=⟨gb779,0,none⟩) (Kd.R_types HO_746001.out BK779.out (by decide)) (fun _ hk=>hk.2) (.slice Ao57 t771.length co57)) (fun _ hk=>hk.2) (.bool t774)) (fun _ h_=>h_.1))) (Kd.R_base ho1) hb);have n4_:=aM (Kd.S_elder' (by(with_reducible repeat(first|apply Kd.S_alloc|apply aV|apply aW));exact(Kd.S_mono (Kd.S_far (p:=⟨gb779,1,none⟩) (Kd.S_far (p:=⟨gb779,0,none⟩) (Kd.S_types HO_746004.out BK779.out (by decide)) (fun _ hk=>hk.2) (.slice Ao57 t771.length co57)) (fun _ hk=>hk.2) (.bool t774)) (fun _ h_=>h_.1))) (Kd.R_base ho0) hb);have n5_:=aM (bE (by(with_reducible repeat(first|apply aA|apply aB|apply aC));exact(Kd.R_mono (aE (p:=⟨gb779,1,none⟩) (aE (p:=⟨gb779,0,none⟩) (Kd.R_types HO_757000.out BK779.out (by decide)) (fun _ hk=>hk.2) (.slice Ao57 t771.length co57)) (fun _ hk=>hk.2) (.bool t774)) (fun _ h_=>h_.1))) (Kd.R_base ho0) hb);have n6_:=aM (bE (by(with_reducible repeat(first|apply aA|apply aB|apply aC));exact(Kd.R_mono (aE (p:=⟨gb779,1,none⟩) (aE (p:=⟨gb779,0,none⟩) (Kd.R_types HO768.out BK779.out (by decide)) (fun _ hk=>hk.2) (.slice Ao57 t771.length co57)) (fun _ hk=>hk.2) (.bool t774)) (fun _ h_=>h_.1))) (Kd.R_base ho1) hb);have n7_:=aM (bE (by(with_reducible repeat(first|apply aA|apply aB|apply aC));exact(Kd.R_mono (aE (p:=⟨gb779,1,none⟩) (aE (p:=⟨gb779,0,none⟩) (Kd.R_types HO773.out BK779.out (by decide)) (fun _ hk=>hk.2) (.slice Ao57 t771.length co57)) (fun _ hk=>hk.2) (.bool t774)) (fun _ h_=>h_.1))) (Kd.R_base ho0) hb);have n8_:=aM (bE (by(with_reducible repeat(first|apply aA|apply aB|apply aC));exact(Kd.R_mono (aE (p:=⟨gb779,1,none⟩) (aE (p:=⟨gb779,0,none⟩) (Kd.R_types HO777.out BK779.out (by decide)) (fun _ hk=>hk.2) (.slice Ao57 t771.length co57)) (fun _ hk=>hk.2) (.bool t774)) (fun _ h_=>h_.1))) (Kd.R_base ho1) hb);have n9_:=aM (bL (Kd.R_new' (Kd.R_new' ho0 (Kd.R_lt (by(with_reducible repeat(first|apply aA|apply aB|apply aC));exact(Kd.R_mono (aE (p:=⟨gb779,1,none⟩) (aE (p:=⟨gb779,0,none⟩) (Kd.R_types HO_757000.out BK779.out (by decide)) (fun _ hk=>hk.2) (.slice Ao57 t771.length co57)) (fun _ hk=>hk.2) (.bool t774)) (fun _ h_=>h_.1))))) (Kd.R_lt (by(with_reducible repeat(first|apply aA|apply aB|apply aC));exact(Kd.R_mono (aE (p:=⟨gb779,1,none⟩) (aE (p:=⟨gb779,0,none⟩) (Kd.R_types HO773.out BK779.out (by decide)) (fun _ hk=>hk.2) (.slice Ao57 t771.length co57)) (fun _ hk=>hk.2) (.bool t774)) (fun _ h_=>h_.1))))) (bH (by repeat(first|(with_reducible first|exact HB.out|apply aN|apply aP|apply aO|refine aL ?_ GE745.out|refine aL ?_ GE756.out|refine aL ?_ GE779.out)|exact HB.out))));have n10_:=aM (bL (Kd.R_new' (Kd.R_new' (Kd.R_new' ho1 (Kd.R_lt (by(with_reducible repeat(first|apply aA|apply aB|apply aC));exact(Kd.R_mono (aE (p:=⟨gb779,1,none⟩) (aE (p:=⟨gb779,0,none⟩) (Kd.R_types HO_8.out BK779.out (by decide)) (fun _ hk=>hk.2) (.slice Ao57 t771.length co57)) (fun _ hk=>hk.2) (.bool t774)) (fun _ h_=>h_.1))))) (Kd.R_lt (by(with_reducible repeat(first|apply aA|apply aB|apply aC));exact(Kd.R_mono (aE (p:=⟨gb779,1,none⟩) (aE (p:=⟨gb779,0,none⟩) (Kd.R_types HO768.out BK779.out (by decide)) (fun _ hk=>hk.2) (.slice Ao57 t771.length co57)) (fun _ hk=>hk.2) (.bool t774)) (fun _ h_=>h_.1))))) (Kd.R_lt (by(with_reducible repeat(first|apply aA|apply aB|apply aC));exact(Kd.R_mono (aE (p:=⟨gb779,1,none⟩) (aE (p:=⟨gb779,0,none⟩) (Kd.R_types HO777.out BK779.out (by decide)) (fun _ hk=>hk.2) (.slice Ao57 t771.length co57)) (fun _ hk=>hk.2) (.bool t774)) (fun _ h_=>h_.1))))) (bH (by repeat(first|(with_reducible first|exact HB.out|apply aN|apply aP|apply aO|refine aL ?_ GE745.out|refine aL ?_ GE756.out|refine aL ?_ GE779.out)|exact HB.out))));have n11_:=aM (bF (g:=gb745) (o:= .cells #[.slice Ao13 t734.length co13,.slice Ao15 t737.length co15,.int .i64 t740,.int .i64 t741,.slice Ao16 t742.length co16] 26 (0,0)) (by(with_reducible repeat(first|refine aJ ?_ _|refine aK ?_|refine aI ?_ _));refine blk_far ?_ NB745_779.out _;(with_reducible repeat(first|refine aJ ?_ _|refine aK ?_|refine aI ?_ _));refine blk_far ?_ NB745_779.out _;(with_reducible repeat(first|refine aJ ?_ _|refine aK ?_|refine aI ?_ _));exact BK745.out) hb);have n12_:=aM (bF (g:=gb756) (o:= .cells #[.slice Ao54 x757000_8.length co54,.bool x757001_8] 31 (0,0)) (by(with_reducible repeat(first|refine aJ ?_ _|refine aK ?_|refine aI ?_ _));refine blk_far ?_ NB756_779.out _;(with_reducible repeat(first|refine aJ ?_ _|refine aK ?_|refine aI ?_ _));refine blk_far ?_ NB756_779.out _;(with_reducible repeat(first|refine aJ ?_ _|refine aK ?_|refine aI ?_ _));exact BK756.out) hb);have n13_:=aM (bF (g:=gb779) (o:= .cells #[.slice Ao57 t771.length co57,.bool t774] 31 (0,0)) (by(with_reducible repeat(first|refine aJ ?_ _|refine aK ?_|refine aI ?_ _));refine blk_put (cs:=#[.slice Ao57 t771.length co57,.bool false]) ?_ 1 _ rfl;(with_reducible repeat(first|refine aJ ?_ _|refine aK ?_|refine aI ?_ _));refine blk_put (cs:=#[.slice none 0 0,.bool false]) ?_ 0 _ rfl;(with_reducible repeat(first|refine aJ ?_ _|refine aK ?_|refine aI ?_ _));exact BK779.out) hb);have n14_:=aM (bG (by repeat(first|(with_reducible first|exact HB.out|apply aN|apply aP|apply aO|refine aL ?_ GE745.out|refine aL ?_ GE756.out|refine aL ?_ GE779.out)|exact HB.out)) hb);clear HO_7;clear HO_8;clear HO_746000;clear HO_746001;clear HO_746004;clear HO_757000;clear HO768;clear HO773;clear HO777;clear BK745;clear BK756;clear BK779;clear HB;have HO_7:=n0_;have HO_8:=n1_;have HO_746000:=n2_;have HO_746001:=n3_;have HO_746004:=n4_;have HO_757000:=n5_;have HO768:=n6_;have HO773:=n7_;have HO777:=n8_;have HO782:=n9_;have HO786:=n10_;have BK745:=n11_;have BK756:=n12_;have BK779:=n13_;have HB:=n14_;clear n0_ n1_ n2_ n3_ n4_ n5_ n6_ n7_ n8_ n9_ n10_ n11_ n12_ n13_ n14_;(try clear hb);(try clear hb2);(try clear hk);(try clear hi);(try clear ho0);(try clear ho1))|((with_reducible refine bJ (N:=18) rfl ?_);(try(refine gate_guard (by rfl) ?_;dsimp only));refine box_event ?hg (N:=18) ?hd (cs:=#[.slice none 0 0,.bool false]) (t:=31) ?hr ?_;(case hd=>rfl);(case hg=>rfl);(case hr=>first|(go_simp;done)|(go_simp;rfl));intro gb788 hg w63 hbox hb;have n0_:=aM (Kd.S_below (by(with_reducible repeat(first|apply Kd.S_alloc|apply aV|apply aW));exact HO_7.out) hb);have n1_:=aM (aD (by(with_reducible repeat(first|apply aA|apply aB|apply aC));exact HO_8.out) hb);have n2_:=aM (aD (by(with_reducible repeat(first|apply aA|apply aB|apply aC));exact HO_746000.out) hb);have n3_:=aM (aD (by(with_reducible repeat(first|apply aA|apply aB|apply aC));exact HO_746001.out) hb);have n4_:=aM (Kd.S_below (by(with_reducible repeat(first|apply Kd.S_alloc|apply aV|apply aW));exact HO_746004.out) hb);have n5_:=aM (aD (by(with_reducible repeat(first|apply aA|apply aB|apply aC));exact HO_757000.out) hb);have n6_:=aM (aD (by(with_reducible repeat(first|apply aA|apply aB|apply aC));exact HO768.out) hb);have n7_:=aM (aD (by(with_reducible repeat(first|apply aA|apply aB|apply aC));exact HO773.out) hb);have n8_:=aM (aD (by(with_reducible repeat(first|apply aA|apply aB|apply aC));exact HO777.out) hb);have n9_:=aM (aD (by(with_reducible repeat(first|apply aA|apply aB|apply aC));exact HO782.out) hb);have n10_:=aM (aD (by(with_reducible repeat(first|apply aA|apply aB|apply aC));exact HO786.out) hb);have n11_:=aM (bF (g:=gb745) (o:= .cells #[.slice Ao13 t734.length co13,.slice Ao15 t737.length co15,.int .i64 t740,.int .i64 t741,.slice Ao16 t742.length co16] 26 (0,0)) (by(with_reducible repeat(first|refine aJ ?_ _|refine aK ?_|refine aI ?_ _));exact BK745.out) hb);have n12_:=aM (bF (g:=gb756) (o:= .cells #[.slice Ao54 x757000_8.length co54,.bool x757001_8] 31 (0,0)) (by(with_reducible repeat(first|refine aJ ?_ _|refine aK ?_|refine aI ?_ _));exact BK756.out) hb);have n13_:=aM (bF (g:=gb779) (o:= .cells #[.slice Ao57 t771.length co57,.bool t774] 31 (0,0)) (by(with_reducible repeat(first|refine aJ ?_ _|refine aK ?_|refine aI ?_ _));exact BK779.out) hb);have n14_:=aM (bG (by repeat(first|(with_reducible first|exact HB.out|apply aN|apply aP|apply aO|refine aL ?_ GE745.out|refine aL ?_ GE756.out|refine aL ?_ GE779.out)|exact HB.out)) hb);have n15_:=aM (hbox);have n16_:=aM ((by rw [hg];exact(bH (by repeat(first|(with_reducible first|exact HB.out|apply aN|apply aP|apply aO|refine aL ?_ GE745.out|refine aL ?_ GE756.out|refine aL ?_ GE779.out)|exact HB.out))):w.heap.size≤gb788));have n17_:=aM ((by rw [hg];exact(bH (by repeat(first|(with_reducible first|exact HB.out|apply aN|apply aP|apply aO|refine aL ?_ GE745.out|refine aL ?_ GE756.out|refine aL ?_ GE779.out)|exact HB.out))):w.heap.size≤gb788));have n18_:=aM ((by rw [hg];exact Nat.ne_of_lt (bN (g:=gb745) (o:= .cells #[.slice Ao13 t734.length co13,.slice Ao15 t737.length co15,.int .i64 t740,.int .i64 t741,.slice Ao16 t742.length co16] 26 (0,0)) (by(with_reducible repeat(first|refine aJ ?_ _|refine aK ?_|refine aI ?_ _));exact BK745.out)):gb745≠gb788));have n19_:=aM ((by rw [hg];exact Nat.ne_of_gt (bN (g:=gb745) (o:= .cells #[.slice Ao13 t734.length co13,.slice Ao15 t737.length co15,.int .i64 t740,.int .i64 t741,.slice Ao16 t742.length co16] 26 (0,0)) (by(with_reducible repeat(first|refine aJ ?_ _|refine aK ?_|refine aI ?_ _));exact BK745.out)):gb788≠gb745));have n20_:=aM ((by rw [hg];exact Nat.ne_of_lt (bN (g:=gb756) (o:= .cells #[.slice Ao54 x757000_8.length co54,.bool x757001_8] 31 (0,0)) (by(with_reducible repeat(first|refine aJ ?_ _|refine aK ?_|refine aI ?_ _));exact BK756.out)):gb756≠gb788));have n21_:=aM ((by rw [hg];exact Nat.ne_of_gt (bN (g:=gb756) (o:= .cells #[.slice Ao54 x757000_8.length co54,.bool x757001_8] 31 (0,0)) (by(with_reducible repeat(first|refine aJ ?_ _|refine aK ?_|refine aI ?_ _));exact BK756.out)):gb788≠gb756));have n22_:=aM ((by rw [hg];exact Nat.ne_of_lt (bN (g:=gb779) (o:= .cells #[.slice Ao57 t771.length co57,.bool t774] 31 (0,0)) (by(with_reducible repeat(first|refine aJ ?_ _|refine aK ?_|refine aI ?_ _));exact BK779.out)):gb779≠gb788));have n23_:=aM ((by rw [hg];exact Nat.ne_of_gt (bN (g:=gb779) (o:= .cells #[.slice Ao57 t771.length co57,.bool t774] 31 (0,0)) (by(with_reducible repeat(first|refine aJ ?_ _|refine aK ?_|refine aI ?_ _));exact BK779.out)):gb788≠gb779));clear HO_7;clear HO_8;clear HO_746000;clear HO_746001;clear HO_746004;clear HO_757000;clear HO768;clear HO773;clear HO777;clear HO782;clear HO786;clear BK745;clear BK756;clear BK779;clear HB;have HO_7:=n0_;have HO_8:=n1_;have HO_746000:=n2_;have HO_746001:=n3_;have HO_746004:=n4_;have HO_757000:=n5_;have HO768:=n6_;have HO773:=n7_;have HO777:=n8_;have HO782:=n9_;have HO786:=n10_;have BK745:=n11_;have BK756:=n12_;have BK779:=n13_;have HB:=n14_;have BK788:=n15_;have GW788:=n16_;have GE788:=n17_;have NB745_788:=n18_;have NB788_745:=n19_;have NB756_788:=n20_;have NB788_756:=n21_;have NB779_788:=n22_;have NB788_779:=n23_;clear n0_ n1_ n2_ n3_ n4_ n5_ n6_ n7_ n8_ n9_ n10_ n11_ n12_ n13_ n14_ n15_ n16_ n17_ n18_ n19_ n20_ n21_ n22_ n23_;clear hb hbox hg;obtain⟨Ao64,co64,eo64⟩:=Kd.R_slice HO782.out;subst eo64;have hnb65:=NB788_745.out;have hnc65:=NB745_788.out;have hnb66:=NB788_756.out;have hnc66:=NB756_788.out;have hnb67:=NB788_779.out;have hnc67:=NB779_788.out;have hcz68_0:w63.cell? ⟨gb788,0,none⟩=some (.slice none 0 0):=(aG BK788.out 0).trans rfl;have hcz68_1:w63.cell? ⟨gb788,1,none⟩=some (.bool false):=(aG BK788.out 1).trans rfl;have hfz68_0:=aH BK788.out 0;have hfz68_1:=aH BK788.out 1;have hcz69_0:w63.cell? ⟨gb779,0,none⟩=some (.slice Ao57 t771.length co57):=(aG BK779.out 0).trans rfl;have hcz69_1:w63.cell? ⟨gb779,1,none⟩=some (.bool t774):=(aG BK779.out 1).trans rfl;have hfz69_0:=aH BK779.out 0;have hfz69_1:=aH BK779.out 1;obtain⟨Ao70,co70,eo70⟩:=Kd.R_slice HO786.out;subst eo70))
      go_ret
      exact⟨by first|rfl|(simp [errW_none,errW_some]<;>rfl)|(simp [*,errW_none,errW_some]<;>rfl),by repeat(first|(with_reducible first|exact HB.out|apply aN|apply aP|apply aO|refine aL ?_ GE745.out|refine aL ?_ GE756.out|refine aL ?_ GE779.out|refine aL ?_ GE788.out)|exact HB.out)⟩
     ·rw [if_neg c42] at H
      have c42b0:(t778==0)=false:=beq_eq_false_iff_ne.mpr c42
      have c42b1:(t778 !=0)=true:=bne_iff_ne.mpr c42
      have H1:(if t769=t778 then(some t774) else(none))=some r:=by first|(rw [if_pos rfl] at H;exact H)|simpa using H
      clear H
      have H:=H1
      clear H1
      by_cases c71:t769=t778
      rotate_left
      ·rw [if_neg c71] at H
       exact absurd H (by simp)
      rw [if_pos c71] at H
      have c71b0:(t769==t778)=true:=beq_iff_eq.mpr c71
      have c71b1:(t769 !=t778)=false:=bne_eq_false_iff_eq.mpr c71
      clear c71
      obtain rfl:=Option.some.inj H
      have hnb72:=NB745_756.out
      have hnc72:=NB756_745.out
      have hcz73_0:wc.cell? ⟨gb745,0,none⟩=some (.slice Ao13 t734.length co13):=(aG BK745.out 0).trans rfl
      have hcz73_1:wc.cell? ⟨gb745,1,none⟩=some (.slice Ao15 t737.length co15):=(aG BK745.out 1).trans rfl
      have hcz73_2:wc.cell? ⟨gb745,2,none⟩=some (.int .i64 t740):=(aG BK745.out 2).trans rfl
      have hcz73_3:wc.cell? ⟨gb745,3,none⟩=some (.int .i64 t741):=(aG BK745.out 3).trans rfl
      have hcz73_4:wc.cell? ⟨gb745,4,none⟩=some (.slice Ao16 t742.length co16):=(aG BK745.out 4).trans rfl
      have hfz73_0:=aH BK745.out 0
      have hfz73_1:=aH BK745.out 1
      have hfz73_2:=aH BK745.out 2
      have hfz73_3:=aH BK745.out 3
      have hfz73_4:=aH BK745.out 4
      obtain⟨Ao74,co74,eo74⟩:=Kd.S_slice HO_7.out
      subst eo74
      obtain⟨Ao75,co75,eo75⟩:=Kd.R_slice HO_8.out
      subst eo75
      go_wp2_with (first|((with_reducible refine bI (f:=22) rfl ?_);refine goesL_ (some 60) rfl rfl Try.func22 (by kernel_rfl) rfl #[.agg #[.slice Ao13 t734.length co13,.slice Ao15 t737.length co15,.int .i64 t740,.int .i64 t741,.slice Ao16 t742.length co16],.slice Ao74 t746.length co74,.slice Ao75 t749.length co75] rfl (by(try simp only [List.map_toArray,List.map_cons,List.map_nil]);first|done|rfl|(simp only [List.length_drop,List.length_take];rfl)) ?_;(with_reducible refine(machine_Run.calls kj8 _ _ t734 _ _ t737 t740 t741 _ _ t742 _ _ t746 _ _ t749 t766 t769 t770 _ ?side1 ?side2 ?side3 ?side4 ?side5 ?side6 ?side7 ?side8 ?side9 ?side10 A39.out).mono ?_);(case side1=>repeat(first|exact(aF HO_746000.out).2.2|(with_reducible refine Kd.C_alloc ?_ _)|(with_reducible refine Kd.C_drewN ?_ _)|(with_reducible refine bC ?_)));(case side2=>exact(aF HO_746000.out).2.1);(case side3=>repeat(first|exact(aF HO_746001.out).2.2|(with_reducible refine Kd.C_alloc ?_ _)|(with_reducible refine Kd.C_drewN ?_ _)|(with_reducible refine bC ?_)));(case side4=>exact(aF HO_746001.out).2.1);(case side5=>repeat(first|exact(Kd.S_reads' HO_746004.out).2.2|(with_reducible refine Kd.C_alloc ?_ _)|(with_reducible refine Kd.C_drewN ?_ _)|(with_reducible refine bC ?_)));(case side6=>exact(Kd.S_reads' HO_746004.out).2.1);(case side7=>repeat(first|exact(Kd.S_reads' HO_7.out).2.2|(with_reducible refine Kd.C_alloc ?_ _)|(with_reducible refine Kd.C_drewN ?_ _)|(with_reducible refine bC ?_)));(case side8=>exact(Kd.S_reads' HO_7.out).2.1);(case side9=>repeat(first|exact(aF HO_8.out).2.2|(with_reducible refine Kd.C_alloc ?_ _)|(with_reducible refine Kd.C_drewN ?_ _)|(with_reducible refine bC ?_)));(case side10=>exact(aF HO_8.out).2.1);rintro e w76 ⟨v767,rfl,ho0,hb⟩;refine⟨_,rfl,?_⟩;have n0_:=aM (Kd.S_elder' (by(with_reducible repeat(first|apply Kd.S_alloc|apply aV|apply aW));exact HO_7.out) (Kd.R_base ho0) hb);have n1_:=aM (bE (by(with_reducible repeat(first|apply aA|apply aB|apply aC));exact HO_8.out) (Kd.R_base ho0) hb);have n2_:=aM (aD (by(with_reducible repeat(first|apply aA|apply aB|apply aC));exact HO_746000.out) hb);have n3_:=aM (bE (by(with_reducible repeat(first|apply aA|apply aB|apply aC));exact HO_746001.out) (Kd.R_base ho0) hb);have n4_:=aM (Kd.S_below (by(with_reducible repeat(first|apply Kd.S_alloc|apply aV|apply aW));exact HO_746004.out) hb);have n5_:=aM (aD (by(with_reducible repeat(first|apply aA|apply aB|apply aC));exact HO_757000.out) hb);have n6_:=aM (bL (Kd.R_new' ho0 (Kd.R_lt (by(with_reducible repeat(first|apply aA|apply aB|apply aC));exact HO_8.out))) (bH (by repeat(first|(with_reducible first|exact HB.out|apply aN|apply aP|apply aO|refine aL ?_ GE745.out|refine aL ?_ GE756.out)|exact HB.out))));have n7_:=aM (bF (g:=gb745) (o:= .cells #[.slice Ao13 t734.length co13,.slice Ao15 t737.length co15,.int .i64 t740,.int .i64 t741,.slice Ao16 t742.length co16] 26 (0,0)) (by(with_reducible repeat(first|refine aJ ?_ _|refine aK ?_|refine aI ?_ _));exact BK745.out) hb);have n8_:=aM (bF (g:=gb756) (o:= .cells #[u757000,.bool x757001_8] 31 (0,0)) (by(with_reducible repeat(first|refine aJ ?_ _|refine aK ?_|refine aI ?_ _));exact BK756.out) hb);have n9_:=aM (bG (by repeat(first|(with_reducible first|exact HB.out|apply aN|apply aP|apply aO|refine aL ?_ GE745.out|refine aL ?_ GE756.out)|exact HB.out)) hb);clear HO_7;clear HO_8;clear HO_746000;clear HO_746001;clear HO_746004;clear HO_757000;clear BK745;clear BK756;clear HB;have HO_7:=n0_;have HO_8:=n1_;have HO_746000:=n2_;have HO_746001:=n3_;have HO_746004:=n4_;have HO_757000:=n5_;have HO768:=n6_;have BK745:=n7_;have BK756:=n8_;have HB:=n9_;clear n0_ n1_ n2_ n3_ n4_ n5_ n6_ n7_ n8_ n9_;(try clear hb);(try clear hb2);(try clear hk);(try clear hi);(try clear ho0);have hcz77_0:w76.cell? ⟨gb745,0,none⟩=some (.slice Ao13 t734.length co13):=(aG BK745.out 0).trans rfl;have hcz77_1:w76.cell? ⟨gb745,1,none⟩=some (.slice Ao15 t737.length co15):=(aG BK745.out 1).trans rfl;have hcz77_2:w76.cell? ⟨gb745,2,none⟩=some (.int .i64 t740):=(aG BK745.out 2).trans rfl;have hcz77_3:w76.cell? ⟨gb745,3,none⟩=some (.int .i64 t741):=(aG BK745.out 3).trans rfl;have hcz77_4:w76.cell? ⟨gb745,4,none⟩=some (.slice Ao16 t742.length co16):=(aG BK745.out 4).trans rfl;have hfz77_0:=aH BK745.out 0;have hfz77_1:=aH BK745.out 1;have hfz77_2:=aH BK745.out 2;have hfz77_3:=aH BK745.out 3;have hfz77_4:=aH BK745.out 4;have hcz78_0:w76.cell? ⟨gb756,0,none⟩=some (u757000):=(aG BK756.out 0).trans rfl;have hcz78_1:w76.cell? ⟨gb756,1,none⟩=some (.bool x757001_8):=(aG BK756.out 1).trans rfl;have hfz78_0:=aH BK756.out 0;have hfz78_1:=aH BK756.out 1;obtain⟨Ao79,co79,eo79⟩:=Kd.R_slice HO_757000.out;subst eo79)|((with_reducible refine bI (f:=23) rfl ?_);refine goesL_ (some 78) rfl rfl Try.func23 (by kernel_rfl) rfl #[.agg #[.slice Ao13 t734.length co13,.slice Ao15 t737.length co15,.int .i64 t740,.int .i64 t741,.slice Ao16 t742.length co16],.slice Ao74 t746.length co74,.agg #[.slice Ao79 x757000_8.length co79,.bool x757001_8],.int .i64 (t737.length:Int)] rfl (by(try simp only [List.map_toArray,List.map_cons,List.map_nil]);first|done|rfl|(simp only [List.length_drop,List.length_take];rfl)) ?_;(with_reducible refine(machine_Feed.calls _ _ t734 _ _ t737 t740 t741 _ _ t742 _ _ t746 _ _ x757000_8 x757001_8 (t737.length:Int) t771 t774 t775 t778 _ ?side1 ?side2 ?side3 ?side4 ?side5 ?side6 ?side7 ?side8 ?side9 ?side10 A41.out).mono ?_);(case side1=>repeat(first|exact(aF HO_746000.out).2.2|(with_reducible refine Kd.C_alloc ?_ _)|(with_reducible refine Kd.C_drewN ?_ _)|(with_reducible refine bC ?_)));(case side2=>exact(aF HO_746000.out).2.1);(case side3=>repeat(first|exact(aF HO_746001.out).2.2|(with_reducible refine Kd.C_alloc ?_ _)|(with_reducible refine Kd.C_drewN ?_ _)|(with_reducible refine bC ?_)));(case side4=>exact(aF HO_746001.out).2.1);(case side5=>repeat(first|exact(Kd.S_reads' HO_746004.out).2.2|(with_reducible refine Kd.C_alloc ?_ _)|(with_reducible refine Kd.C_drewN ?_ _)|(with_reducible refine bC ?_)));(case side6=>exact(Kd.S_reads' HO_746004.out).2.1);(case side7=>repeat(first|exact(Kd.S_reads' HO_7.out).2.2|(with_reducible refine Kd.C_alloc ?_ _)|(with_reducible refine Kd.C_drewN ?_ _)|(with_reducible refine bC ?_)));(case side8=>exact(Kd.S_reads' HO_7.out).2.1);(case side9=>repeat(first|exact(aF HO_757000.out).2.2|(with_reducible refine Kd.C_alloc ?_ _)|(with_reducible refine Kd.C_drewN ?_ _)|(with_reducible refine bC ?_)));(case side10=>exact(aF HO_757000.out).2.1);rintro e w80 ⟨v772,v776,rfl,ho0,ho1,hb⟩;refine⟨_,rfl,?_⟩;have n0_:=aM (Kd.S_elder' (by(with_reducible repeat(first|apply Kd.S_alloc|apply aV|apply aW));exact HO_7.out) (Kd.R_base ho1) hb);have n1_:=aM (bE (by(with_reducible repeat(first|apply aA|apply aB|apply aC));exact HO_8.out) (Kd.R_base ho1) hb);have n2_:=aM (aD (by(with_reducible repeat(first|apply aA|apply aB|apply aC));exact HO_746000.out) hb);have n3_:=aM (bE (by(with_reducible repeat(first|apply aA|apply aB|apply aC));exact HO_746001.out) (Kd.R_base ho1) hb);have n4_:=aM (Kd.S_elder' (by(with_reducible repeat(first|apply Kd.S_alloc|apply aV|apply aW));exact HO_746004.out) (Kd.R_base ho0) hb);have n5_:=aM (bE (by(with_reducible repeat(first|apply aA|apply aB|apply aC));exact HO_757000.out) (Kd.R_base ho0) hb);have n6_:=aM (bE (by(with_reducible repeat(first|apply aA|apply aB|apply aC));exact HO768.out) (Kd.R_base ho1) hb);have n7_:=aM (bL (Kd.R_new' ho0 (Kd.R_lt (by(with_reducible repeat(first|apply aA|apply aB|apply aC));exact HO_757000.out))) (bH (by repeat(first|(with_reducible first|exact HB.out|apply aN|apply aP|apply aO|refine aL ?_ GE745.out|refine aL ?_ GE756.out)|exact HB.out))));have n8_:=aM (bL (Kd.R_new' (Kd.R_new' ho1 (Kd.R_lt (by(with_reducible repeat(first|apply aA|apply aB|apply aC));exact HO_8.out))) (Kd.R_lt (by(with_reducible repeat(first|apply aA|apply aB|apply aC));exact HO768.out))) (bH (by repeat(first|(with_reducible first|exact HB.out|apply aN|apply aP|apply aO|refine aL ?_ GE745.out|refine aL ?_ GE756.out)|exact HB.out))));have n9_:=aM (bF (g:=gb745) (o:= .cells #[.slice Ao13 t734.length co13,.slice Ao15 t737.length co15,.int .i64 t740,.int .i64 t741,.slice Ao16 t742.length co16] 26 (0,0)) (by(with_reducible repeat(first|refine aJ ?_ _|refine aK ?_|refine aI ?_ _));exact BK745.out) hb);have n10_:=aM (bF (g:=gb756) (o:= .cells #[.slice Ao79 x757000_8.length co79,.bool x757001_8] 31 (0,0)) (by(with_reducible repeat(first|refine aJ ?_ _|refine aK ?_|refine aI ?_ _));exact BK756.out) hb);have n11_:=aM (bG (by repeat(first|(with_reducible first|exact HB.out|apply aN|apply aP|apply aO|refine aL ?_ GE745.out|refine aL ?_ GE756.out)|exact HB.out)) hb);clear HO_7;clear HO_8;clear HO_746000;clear HO_746001;clear HO_746004;clear HO_757000;clear HO768;clear BK745;clear BK756;clear HB;have HO_7:=n0_;have HO_8:=n1_;have HO_746000:=n2_;have HO_746001:=n3_;have HO_746004:=n4_;have HO_757000:=n5_;have HO768:=n6_;have HO773:=n7_;have HO777:=n8_;have BK745:=n9_;have BK756:=n10_;have HB:=n11_;clear n0_ n1_ n2_ n3_ n4_ n5_ n6_ n7_ n8_ n9_ n10_ n11_;(try clear hb);(try clear hb2);(try clear hk);(try clear hi);(try clear ho0);(try clear ho1))|((with_reducible refine bJ (N:=15) rfl ?_);(try(refine gate_guard (by rfl) ?_;dsimp only));refine box_event ?hg (N:=15) ?hd (cs:=#[.slice none 0 0,.bool false]) (t:=31) ?hr ?_;(case hd=>rfl);(case hg=>rfl);(case hr=>first|(go_simp;done)|(go_simp;rfl));intro gb779 hg w81 hbox hb;have n0_:=aM (Kd.S_below (by(with_reducible repeat(first|apply Kd.S_alloc|apply aV|apply aW));exact HO_7.out) hb);have n1_:=aM (aD (by(with_reducible repeat(first|apply aA|apply aB|apply aC));exact HO_8.out) hb);have n2_:=aM (aD (by(with_reducible repeat(first|apply aA|apply aB|apply aC));exact HO_746000.out) hb);have n3_:=aM (aD (by(with_reducible repeat(first|apply aA|apply aB|apply aC));exact HO_746001.out) hb);have n4_:=aM (Kd.S_below (by(with_reducible repeat(first|apply Kd.S_alloc|apply aV|apply aW));exact HO_746004.out) hb);have n5_:=aM (aD (by(with_reducible repeat(first|apply aA|apply aB|apply aC));exact HO_757000.out) hb);have n6_:=aM (aD (by(with_reducible repeat(first|apply aA|apply aB|apply aC));exact HO768.out) hb);have n7_:=aM (aD (by(with_reducible repeat(first|apply aA|apply aB|apply aC));exact HO773.out) hb);have n8_:=aM (aD (by(with_reducible repeat(first|apply aA|apply aB|apply aC));exact HO777.out) hb);have n9_:=aM (bF (g:=gb745) (o:= .cells #[.slice Ao13 t734.length co13,.slice Ao15 t737.length co15,.int .i64 t740,.int .i64 t741,.slice Ao16 t742.length co16] 26 (0,0)) (by(with_reducible repeat(first|refine aJ ?_ _|refine aK ?_|refine aI ?_ _));exact BK745.out) hb);have n10_:=aM (bF (g:=gb756) (o:= .cells #[.slice Ao79 x757000_8.length co79,.bool x757001_8] 31 (0,0)) (by(with_reducible repeat(first|refine aJ ?_ _|refine aK ?_|refine aI ?_ _));exact BK756.out) hb);have n11_:=aM (bG (by repeat(first|(with_reducible first|exact HB.out|apply aN|apply aP|apply aO|refine aL ?_ GE745.out|refine aL ?_ GE756.out)|exact HB.out)) hb);have n12_:=aM (hbox);have n13_:=aM ((by rw [hg];exact(bH (by repeat(first|(with_reducible first|exact HB.out|apply aN|apply aP|apply aO|refine aL ?_ GE745.out|refine aL ?_ GE756.out)|exact HB.out))):w.heap.size≤gb779));have n14_:=aM ((by rw [hg];exact(bH (by repeat(first|(with_reducible first|exact HB.out|apply aN|apply aP|apply aO|refine aL ?_ GE745.out|refine aL ?_ GE756.out)|exact HB.out))):w.heap.size≤gb779));have n15_:=aM ((by rw [hg];exact Nat.ne_of_lt (bN (g:=gb745) (o:= .cells #[.slice Ao13 t734.length co13,.slice Ao15 t737.length co15,.int .i64 t740,.int .i64 t741,.slice Ao16 t742.length co16] 26 (0,0)) (by(with_reducible repeat(first|refine aJ ?_ _|refine aK ?_|refine aI ?_ _));exact BK745.out)):gb745≠gb779));have n16_:=aM ((by rw [hg];exact Nat.ne_of_gt (bN (g:=gb745) (o:= .cells #[.slice Ao13 t734.length co13,.slice Ao15 t737.length co15,.int .i64 t740,.int .i64 t741,.slice Ao16 t742.length co16] 26 (0,0)) (by(with_reducible repeat(first|refine aJ ?_ _|refine aK ?_|refine aI ?_ _));exact BK745.out)):gb779≠gb745));have n17_:=aM ((by rw [hg];exact Nat.ne_of_lt (bN (g:=gb756) (o:= .cells #[.slice Ao79 x757000_8.length co79,.bool x757001_8] 31 (0,0)) (by(with_reducible repeat(first|refine aJ ?_ _|refine aK ?_|refine aI ?_ _));exact BK756.out)):gb756≠gb779));have n18_:=aM ((by rw [hg];exact Nat.ne_of_gt (bN (g:=gb756) (o:= .cells #[.slice Ao79 x757000_8.length co79,.bool x757001_8] 31 (0,0)) (by(with_reducible repeat(first|refine aJ ?_ _|refine aK ?_|refine aI ?_ _));exact BK756.out)):gb779≠gb756));clear HO_7;clear HO_8;clear HO_746000;clear HO_746001;clear HO_746004;clear HO_757000;clear HO768;clear HO773;clear HO777;clear BK745;clear BK756;clear HB;have HO_7:=n0_;have HO_8:=n1_;have HO_746000:=n2_;have HO_746001:=n3_;have HO_746004:=n4_;have HO_757000:=n5_;have HO768:=n6_;have HO773:=n7_;have HO777:=n8_;have BK745:=n9_;have BK756:=n10_;have HB:=n11_;have BK779:=n12_;have GW779:=n13_;have GE779:=n14_;have NB745_779:=n15_;have NB779_745:=n16_;have NB756_779:=n17_;have NB779_756:=n18_;clear n0_ n1_ n2_ n3_ n4_ n5_ n6_ n7_ n8_ n9_ n10_ n11_ n12_ n13_ n14_ n15_ n16_ n17_ n18_;clear hb hbox hg;obtain⟨Ao82,co82,eo82⟩:=Kd.R_slice HO773.out;subst eo82;have hnb83:=NB779_745.out;have hnc83:=NB745_779.out;have hnb84:=NB779_756.out;have hnc84:=NB756_779.out;have hcz85_0:w81.cell? ⟨gb779,0,none⟩=some (.slice none 0 0):=(aG BK779.out 0).trans rfl;have hcz85_1:w81.cell? ⟨gb779,1,none⟩=some (.bool false):=(aG BK779.out 1).trans rfl;have hfz85_0:=aH BK779.out 0;have hfz85_1:=aH BK779.out 1))
      go_ret
      exact⟨by first|rfl|(simp [errW_none,errW_some]<;>rfl)|(simp [*,errW_none,errW_some]<;>rfl),by repeat(first|(with_reducible first|exact HB.out|apply aN|apply aP|apply aO|refine aL ?_ GE745.out|refine aL ?_ GE756.out|refine aL ?_ GE779.out)|exact HB.out)⟩
    ·rw [if_neg c40] at H
     have c40b0:(x10_8==0)=false:=beq_eq_false_iff_ne.mpr c40
     have c40b1:(x10_8 !=0)=true:=bne_iff_ne.mpr c40
     have H1:(some (t769 !=0))=some r:=by first|(rw [if_pos rfl] at H;exact H)|simpa using H
     clear H
     have H:=H1
     clear H1
     obtain rfl:=Option.some.inj H
     have hnb86:=NB745_756.out
     have hnc86:=NB756_745.out
     have hcz87_0:wc.cell? ⟨gb745,0,none⟩=some (.slice Ao13 t734.length co13):=(aG BK745.out 0).trans rfl
     have hcz87_1:wc.cell? ⟨gb745,1,none⟩=some (.slice Ao15 t737.length co15):=(aG BK745.out 1).trans rfl
     have hcz87_2:wc.cell? ⟨gb745,2,none⟩=some (.int .i64 t740):=(aG BK745.out 2).trans rfl
     have hcz87_3:wc.cell? ⟨gb745,3,none⟩=some (.int .i64 t741):=(aG BK745.out 3).trans rfl
     have hcz87_4:wc.cell? ⟨gb745,4,none⟩=some (.slice Ao16 t742.length co16):=(aG BK745.out 4).trans rfl
     have hfz87_0:=aH BK745.out 0
     have hfz87_1:=aH BK745.out 1
     have hfz87_2:=aH BK745.out 2
     have hfz87_3:=aH BK745.out 3
     have hfz87_4:=aH BK745.out 4
     obtain⟨Ao88,co88,eo88⟩:=Kd.S_slice HO_7.out
     subst eo88
     obtain⟨Ao89,co89,eo89⟩:=Kd.R_slice HO_8.out
     subst eo89
     go_wp2_with (first|((with_reducible refine bI (f:=22) rfl ?_);refine goesL_ (some 60) rfl rfl Try.func22 (by kernel_rfl) rfl #[.agg #[.slice Ao13 t734.length co13,.slice Ao15 t737.length co15,.int .i64 t740,.int .i64 t741,.slice Ao16 t742.length co16],.slice Ao88 t746.length co88,.slice Ao89 t749.length co89] rfl (by(try simp only [List.map_toArray,List.map_cons,List.map_nil]);first|done|rfl|(simp only [List.length_drop,List.length_take];rfl)) ?_;(with_reducible refine(machine_Run.calls kj8 _ _ t734 _ _ t737 t740 t741 _ _ t742 _ _ t746 _ _ t749 t766 t769 t770 _ ?side1 ?side2 ?side3 ?side4 ?side5 ?side6 ?side7 ?side8 ?side9 ?side10 A39.out).mono ?_);(case side1=>repeat(first|exact(aF HO_746000.out).2.2|(with_reducible refine Kd.C_alloc ?_ _)|(with_reducible refine Kd.C_drewN ?_ _)|(with_reducible refine bC ?_)));(case side2=>exact(aF HO_746000.out).2.1);(case side3=>repeat(first|exact(aF HO_746001.out).2.2|(with_reducible refine Kd.C_alloc ?_ _)|(with_reducible refine Kd.C_drewN ?_ _)|(with_reducible refine bC ?_)));(case side4=>exact(aF HO_746001.out).2.1);(case side5=>repeat(first|exact(Kd.S_reads' HO_746004.out).2.2|(with_reducible refine Kd.C_alloc ?_ _)|(with_reducible refine Kd.C_drewN ?_ _)|(with_reducible refine bC ?_)));(case side6=>exact(Kd.S_reads' HO_746004.out).2.1);(case side7=>repeat(first|exact(Kd.S_reads' HO_7.out).2.2|(with_reducible refine Kd.C_alloc ?_ _)|(with_reducible refine Kd.C_drewN ?_ _)|(with_reducible refine bC ?_)));(case side8=>exact(Kd.S_reads' HO_7.out).2.1);(case side9=>repeat(first|exact(aF HO_8.out).2.2|(with_reducible refine Kd.C_alloc ?_ _)|(with_reducible refine Kd.C_drewN ?_ _)|(with_reducible refine bC ?_)));(case side10=>exact(aF HO_8.out).2.1);rintro e w90 ⟨v767,rfl,ho0,hb⟩;refine⟨_,rfl,?_⟩;have n0_:=aM (Kd.S_elder' (by(with_reducible repeat(first|apply Kd.S_alloc|apply aV|apply aW));exact HO_7.out) (Kd.R_base ho0) hb);have n1_:=aM (bE (by(with_reducible repeat(first|apply aA|apply aB|apply aC));exact HO_8.out) (Kd.R_base ho0) hb);have n2_:=aM (aD (by(with_reducible repeat(first|apply aA|apply aB|apply aC));exact HO_746000.out) hb);have n3_:=aM (bE (by(with_reducible repeat(first|apply aA|apply aB|apply aC));exact HO_746001.out) (Kd.R_base ho0) hb);have n4_:=aM (Kd.S_below (by(with_reducible repeat(first|apply Kd.S_alloc|apply aV|apply aW));exact HO_746004.out) hb);have n5_:=aM (aD (by(with_reducible repeat(first|apply aA|apply aB|apply aC));exact HO_757000.out) hb);have n6_:=aM (bL (Kd.R_new' ho0 (Kd.R_lt (by(with_reducible repeat(first|apply aA|apply aB|apply aC));exact HO_8.out))) (bH (by repeat(first|(with_reducible first|exact HB.out|apply aN|apply aP|apply aO|refine aL ?_ GE745.out|refine aL ?_ GE756.out)|exact HB.out))));have n7_:=aM (bF (g:=gb745) (o:= .cells #[.slice Ao13 t734.length co13,.slice Ao15 t737.length co15,.int .i64 t740,.int .i64 t741,.slice Ao16 t742.length co16] 26 (0,0)) (by(with_reducible repeat(first|refine aJ ?_ _|refine aK ?_|refine aI ?_ _));exact BK745.out) hb);have n8_:=aM (bF (g:=gb756) (o:= .cells #[u757000,.bool x757001_8] 31 (0,0)) (by(with_reducible repeat(first|refine aJ ?_ _|refine aK ?_|refine aI ?_ _));exact BK756.out) hb);have n9_:=aM (bG (by repeat(first|(with_reducible first|exact HB.out|apply aN|apply aP|apply aO|refine aL ?_ GE745.out|refine aL ?_ GE756.out)|exact HB.out)) hb);clear HO_7;clear HO_8;clear HO_746000;clear HO_746001;clear HO_746004;clear HO_757000;clear BK745;clear BK756;clear HB;have HO_7:=n0_;have HO_8:=n1_;have HO_746000:=n2_;have HO_746001:=n3_;have HO_746004:=n4_;have HO_757000:=n5_;have HO768:=n6_;have BK745:=n7_;have BK756:=n8_;have HB:=n9_;clear n0_ n1_ n2_ n3_ n4_ n5_ n6_ n7_ n8_ n9_;(try clear hb);(try clear hb2);(try clear hk);(try clear hi);(try clear ho0)))
     go_ret
     exact⟨by first|rfl|(simp [errW_none,errW_some]<;>rfl)|(simp [*,errW_none,errW_some]<;>rfl),by repeat(first|(with_reducible first|exact HB.out|apply aN|apply aP|apply aO|refine aL ?_ GE745.out|refine aL ?_ GE756.out)|exact HB.out)⟩
 ·replace c4:=Bool.eq_false_iff.mpr c4
  subst c4
  have H1:(none)=some r:=by rw [if_neg (show ¬(false=true) by decide)] at H;exact H
  clear H
  have H:=H1
  clear H1
  exact absurd H (by simp)
def regletlaw16_MachineEnds.Pure:Prop:=∀(l0:List Int) (l1:List Int),l0.length≤maxLen→l0.length * 1≤140737488351232→(∀x∈l0,(Lit.int .u8 x).wf=true)→l1.length≤maxLen→l1.length * 1≤140737488351232→(∀x∈l1,(Lit.int .u8 x).wf=true)→∃k,regletlaw16_MachineEnds.f k l0 l1=some true
theorem regletlaw16_MachineEnds.walk (P:regletlaw16_MachineEnds.Pure) (a0:Option Addr) (len0 cap0:Nat) (z0:List Int) (a1:Option Addr) (len1 cap1:Nat) (z1:List Int) (w:World) (w0:(a0=none∧len0=0∧cap0=0∧z0= [])∨∃x,a0=some x∧len0≤cap0∧cap0≤maxLen∧z0.length=cap0∧(∀i,i<z0.length→w.cell? (x.add i)=some (.int .u8 (z0.getD i 0)))∧∀n∈z0,(Lit.int .u8 n).wf=true) (y0:len0 * 1≤140737488351232) (w1:(a1=none∧len1=0∧cap1=0∧z1= [])∨∃x,a1=some x∧len1≤cap1∧cap1≤maxLen∧z1.length=cap1∧(∀i,i<z1.length→w.cell? (x.add i)=some (.int .u8 (z1.getD i 0)))∧∀n∈z1,(Lit.int .u8 n).wf=true) (y1:len1 * 1≤140737488351232):
 Calls Try.prog 9 #[.slice a0 len0 cap0,.slice a1 len1 cap1] w fun e w'=>e= .returned (.bool true)∧Below w.heap.size w w':=by
 obtain⟨l0,rfl,hr0,hm0,hw0,hc0⟩:=ReadsInt.ofRowC w0
 obtain⟨l1,rfl,hr1,hm1,hw1,hc1⟩:=ReadsInt.ofRowC w1
 obtain⟨k,h⟩:=P l0 l1 hm0 y0 hw0 hm1 y1 hw1
 refine(regletlaw16_MachineEnds.calls k _ _ l0 _ _ l1 true w (Kd.C_of_reads (d:=(0:Int)) (h1:=fun _=>rfl) hr0) hc0 (Kd.C_of_reads (d:=(0:Int)) (h1:=fun _=>rfl) hr1) hc1 h).mono ?_
 rintro e w' ⟨rfl,hd⟩
 exact⟨rfl,hd⟩
end Go.Proofs.Ytapjfnfengefpaa.P
end

section
namespace Go.Proofs.Ytapjfnfengefpaa.P
open Go.RowKit Go.Proofs.YtapjfnfengefpaaW.PrintWords Go.Proofs.YtapjfnfengefpaaW.PrintLast Go.Proofs.YtapjfnfengefpaaW.PrintMore Go.Proofs.Ytapjfnfengefpaa.R
set_option linter.unusedVariables false
set_option linter.unusedSimpArgs false
def oddP (token:Bool) (out:List Bool) (x:S43):Bool:=(x.f0 && !token)||(!x.f0 && !rdOf false out x.f1)
end Go.Proofs.Ytapjfnfengefpaa.P
end

section
namespace Go.Proofs.Ytapjfnfengefpaa.M
open Go.RowKit Go.Proofs.YtapjfnfengefpaaW.PrintWords Go.Proofs.YtapjfnfengefpaaW.PrintLast Go.Proofs.YtapjfnfengefpaaW.PrintMore Go.Proofs.Ytapjfnfengefpaa.P Go.Proofs.Ytapjfnfengefpaa.H
set_option linter.unusedVariables false
set_option linter.unusedSimpArgs false
abbrev Sym:=S43
abbrev Prod:=S35
abbrev Tok:=S72
theorem rdOf_mid {α:Type}(d:α) (p:List α) (x:α) (a:List α) (n:Int) (h:n=p.length):rdOf d (p++x::a) n=x:=by
 subst h;simp [rdOf]
theorem getD_mid {α:Type}(d:α) (p:List α) (x:α) (a:List α) (n:Int) (h:n=p.length):(p++x::a).getD n.toNat d=x:=by
 subst h;simp
theorem set_mid {α:Type}(p:List α) (x v:α) (a:List α) (n:Int) (h:n=p.length):(p++x::a).set n.toNat v=p++v::a:=by
 subst h;simp
theorem wrap_next {α:Type}(p:List α) (v:α) (h:p.length≤1000000):wrap64 ((p.length:Int)+1)=((p++ [v]).length:Int):=by
 rw [wrap64_id (by omega) (by omega)];simp
def orL (a b:List Bool):List Bool:=List.zipWith (· || ·) a b
def moreL:List Bool→List Bool→Bool
 |x::a,y::b=>(y && !x)||moreL a b
 |_,_=>false
theorem orL_length {a b:List Bool}(h:a.length=b.length):(orL a b).length=a.length:=by simp [orL,h]
theorem join_l0_ev:∀(a b pre preb:List Bool) (g:Bool),a.length=b.length→pre.length=preb.length→pre.length+a.length≤1000000→Ev (fun k=>regletref13_join.l0 k (pre++a) (preb++b) g (pre.length:Int)) (g||moreL a b,pre++orL a b)
 | [],[],pre,preb,g,_,h2,_=>by
  refine Ev.step (fun k=>by rw [regletref13_join.l0]) (Ev.neg (by simp) (Ev.some (by simp [moreL,orL])))
 |x::a,y::b,pre,preb,g,h1,h2,h3=>by
  have h1':a.length=b.length:=by simpa using h1
  simp only [List.length_cons] at h3
  have ih:=fun g v=>join_l0_ev a b (pre++ [v]) (preb++ [y]) g h1' (by simp [h2]) (by simp;omega)
  simp only [←wrap_next pre _ (show pre.length≤1000000 by omega),List.append_assoc,List.singleton_append] at ih
  refine Ev.step (fun k=>by rw [regletref13_join.l0]) ?_
  refine Ev.pos (by simp;omega) ?_
  rw [rdOf_mid _ preb y b _ (by rw [h2]),rdOf_mid _ pre x a _ rfl]
  simp only [set_mid _ _ _ _ _ rfl]
  cases g
  ·refine Ev.neg (by simp) (Ev.pos (by omega) (Ev.pos (by simp;omega) ?_))
   cases y<;>cases x
   ·exact Ev.neg (by simp) (Ev.neg (by simp) (Ev.val (ih _ _) (by simp [moreL,orL])))
   ·exact Ev.neg (by simp) (Ev.pos rfl (Ev.val (ih _ _) (by simp [moreL,orL])))
   ·exact Ev.pos rfl (Ev.neg (by simp) (Ev.val (ih _ _) (by simp [moreL,orL])))
   ·exact Ev.pos rfl (Ev.pos rfl (Ev.val (ih _ _) (by simp [moreL,orL])))
  ·refine Ev.pos rfl (Ev.pos (by omega) ?_)
   cases x
   ·exact Ev.neg (by simp) (Ev.pos (by simp;omega) (Ev.val (ih _ _) (by simp [moreL,orL])))
   ·exact Ev.pos rfl (Ev.val (ih _ _) (by simp [moreL,orL]))
theorem join_ev (a b:List Bool) (h1:a.length=b.length) (h2:a.length≤1000000):Ev (fun k=>regletref13_join.f k a b) (moreL a b,orL a b):=by
 exact Ev.congr (fun k=>by rw [regletref13_join.f]) (by simpa using join_l0_ev a b [] [] false h1 rfl (by simpa using h2):Ev (fun k=>regletref13_join.l0 k a b false 0) _)
def idx:Nat→List Bool→List Int
 |_,[]=> []
 |n,x::a=>if x=true then(n:Int)::idx (n+1) a else idx (n+1) a
theorem idx_length:∀(n:Nat) (a:List Bool),(idx n a).length≤a.length
 |_,[]=>by simp [idx]
 |n,x::a=>by have:=idx_length (n+1) a;unfold idx;split<;>simp<;>omega
theorem list_l0_ev:∀(a pre:List Bool) (out:List Int),out.length≤pre.length→pre.length+a.length≤1000000→Ev (fun k=>regletref13_list.l0 k (pre++a) out (pre.length:Int)) (out++idx pre.length a)
 | [],pre,out,_,_=>by
  refine Ev.step (fun k=>by rw [regletref13_list.l0]) (Ev.neg (by simp) (Ev.some (by simp [idx])))
 |x::a,pre,out,h2,h3=>by
  simp only [List.length_cons] at h3
  have ih:=fun out h=>list_l0_ev a (pre++ [x]) out h (by simp;omega)
  simp only [←wrap_next pre _ (show pre.length≤1000000 by omega),List.append_assoc,List.singleton_append] at ih
  refine Ev.step (fun k=>by rw [regletref13_list.l0]) ?_
  refine Ev.pos (by simp;omega) (Ev.pos (by omega) ?_)
  rw [rdOf_mid _ pre x a _ rfl]
  cases x
  ·exact Ev.neg (by simp) (Ev.val (ih out (by simp;omega)) (by simp [idx]))
  ·exact Ev.pos rfl (Ev.pos (by omega) (Ev.val (ih _ (by simp;omega)) (by simp [idx])))
theorem list_ev (a:List Bool) (h2:a.length≤1000000):Ev (fun k=>regletref13_list.f k a) (idx 0 a):=by
 exact Ev.congr (fun k=>by rw [regletref13_list.f]) (by simpa using list_l0_ev a [] [] (by simp) (by simpa using h2):Ev (fun k=>regletref13_list.l0 k a [] 0) _)
def idxs (m:List (List Bool)):List (List Int):=m.map (idx 0)
theorem lists_l0_ev:∀(m pre:List (List Bool)) (out:List (List Int)),out.length=pre.length→pre.length+m.length≤1000000→(∀r∈m,r.length≤1000000)→Ev (fun k=>regletref13_lists.l0 k (pre++m) out (pre.length:Int)) (out++idxs m)
 | [],pre,out,_,_,_=>by
  refine Ev.step (fun k=>by rw [regletref13_lists.l0]) (Ev.neg (by simp) (Ev.some (by simp [idxs])))
 |r::m,pre,out,h2,h3,h4=>by
  simp only [List.length_cons] at h3
  have ih:=lists_l0_ev m (pre++ [r]) (out++ [idx 0 r]) (by simp [h2]) (by simp;omega) (fun r hr=>h4 r (List.mem_cons_of_mem _ hr))
  simp only [←wrap_next pre _ (show pre.length≤1000000 by omega),List.append_assoc,List.singleton_append] at ih
  refine Ev.step (fun k=>by rw [regletref13_lists.l0]) ?_
  refine Ev.pos (by simp;omega) (Ev.pos (by omega) ?_)
  refine Ev.bind (a:=idx 0 r) (Ev.congr (fun k=>congrArg (regletref13_list.f k) (getD_mid _ pre r m _ rfl)) (list_ev r (h4 r List.mem_cons_self))) (Ev.pos (by omega) ?_)
  exact Ev.val ih (by simp [idxs])
theorem lists_ev (m:List (List Bool)) (h2:m.length≤1000000) (h4:∀r∈m,r.length≤1000000):Ev (fun k=>regletref13_lists.f k m) (idxs m):=by
 exact Ev.congr (fun k=>by rw [regletref13_lists.f]) (by simpa using lists_l0_ev m [] [] rfl (by simpa using h2) h4:Ev (fun k=>regletref13_lists.l0 k m [] 0) _)
def Sh (nn nt:Nat) (m:List (List Bool)):Prop:=m.length=nn∧∀r∈m,r.length=nt+1
theorem Sh.get {nn nt:Nat}{m:List (List Bool)}(h:Sh nn nt m) {i:Nat}(hi:i<nn):(m.getD i []).length=nt+1:=by
 have hi':i<m.length:=by rw [h.1];exact hi
 rw [List.getD_eq_getElem?_getD,List.getElem?_eq_getElem hi']
 exact h.2 _ (List.getElem_mem hi')
theorem Sh.set {nn nt:Nat}{m:List (List Bool)}(h:Sh nn nt m) (i:Nat) {r:List Bool}(hr:r.length=nt+1):Sh nn nt (m.set i r):=
 ⟨by rw [List.length_set];exact h.1,fun r' hr'=>by
  rcases List.mem_or_eq_of_mem_set hr' with h1|rfl
  ·exact h.2 _ h1
  ·exact hr⟩
def bg (em:List Bool) (first:List (List Bool)):List Sym→List Bool→List Bool×Bool
 | [],out=>(out,true)
 |x::l,out=>if x.f0=true then(out.set x.f1.toNat true,false) else
  if em.getD x.f1.toNat false=true then bg em first l (orL out (first.getD x.f1.toNat [])) else(orL out (first.getD x.f1.toNat []),false)
theorem bg_length (em:List Bool) {first:List (List Bool)}{nn nt:Nat}(hs:Sh nn nt first):∀(l:List Sym) (out:List Bool),l.all (okSym nn nt)=true→out.length=nt+1→(bg em first l out).1.length=nt+1
 | [],out,_,h=>h
 |x::l,out,hl,h=>by
  simp only [List.all_cons,Bool.and_eq_true] at hl
  unfold bg
  split
  ·simpa using h
  ·rename_i hx
   have hn:x.f1.toNat<nn:=by
    have:=hl.1
    simp only [okSym,hx,if_neg,Bool.and_eq_true,decide_eq_true_eq] at this
    simp at this
    omega
   have ho:(orL out (first.getD x.f1.toNat [])).length=nt+1:=by rw [orL_length (by rw [h,hs.get hn]),h]
   split
   ·exact bg_length em hs l _ hl.2 ho
   ·exact ho
theorem okSym_tok {nn nt:Nat}{x:Sym}(h:okSym nn nt x=true) (hx:x.f0=true):0≤x.f1∧x.f1<(nt:Int):=by
 simp only [okSym,hx,if_pos,Bool.and_eq_true,decide_eq_true_eq] at h;exact h
theorem okSym_rule {nn nt:Nat}{x:Sym}(h:okSym nn nt x=true) (hx:x.f0=false):0≤x.f1∧x.f1<(nn:Int):=by
 simp [okSym,hx] at h;exact h
def none0 (nt:Nat):List Bool:=List.replicate (nt+1) false
theorem refBegins_l0_ev {nn nt:Nat}{em:List Bool}{first:List (List Bool)}(hs:Sh nn nt first) (he:em.length=nn) (hnt:nt≤1000):∀(l pre:List Sym) (out:List Bool),l.all (okSym nn nt)=true→out.length=nt+1→pre.length+l.length≤1000000→Ev (fun k=>regletref13_begins.l0 k (pre++l) first em out (pre.length:Int)) (bg em first l out)
 | [],pre,out,_,_,_=>Ev.step (fun k=>by rw [regletref13_begins.l0]) (Ev.neg (by simp) (Ev.some (by simp [bg])))
 |x::l,pre,out,hl,ho,h3=>by
  simp only [List.all_cons,Bool.and_eq_true] at hl
  simp only [List.length_cons] at h3
  have ih:=fun out ho=>refBegins_l0_ev hs he hnt l (pre++ [x]) out hl.2 ho (by simp;omega)
  simp only [←wrap_next pre _ (show pre.length≤1000000 by omega),List.append_assoc,List.singleton_append] at ih
  have e:rd_T43 (pre++x::l) (pre.length:Int)=x:=getD_mid _ pre x l _ rfl
  refine Ev.step (fun k=>by rw [regletref13_begins.l0]) ?_
  rw [e]
  refine Ev.pos (by simp;omega) (Ev.pos (by omega) ?_)
  cases hx:x.f0 with
  |true=>
   have hb:=okSym_tok hl.1 hx
   exact Ev.pos rfl (Ev.pos hb.1 (Ev.pos (by omega) (Ev.some (by simp [bg,hx]))))
  |false=>
   have hb:=okSym_rule hl.1 hx
   have hr:=hs.get (i:=x.f1.toNat) (by omega)
   have hs1:=hs.1
   refine Ev.neg (by simp) (Ev.pos hb.1 (Ev.pos (by omega) (Ev.bind (join_ev out (first.getD x.f1.toNat []) (by rw [ho,hr]) (by omega)) (Ev.pos (by omega) ?_))))
   have e2:rdOf false em x.f1=em.getD x.f1.toNat false:=rfl
   rw [e2]
   cases hem:em.getD x.f1.toNat false with
   |true=>exact Ev.pos rfl (Ev.val (ih _ (by rw [orL_length (by rw [ho,hr]),ho])) (by rw [bg,hx,if_neg (by simp),hem,if_pos rfl]))
   |false=>exact Ev.neg (by simp) (Ev.some (by rw [bg,hx,if_neg (by simp),hem,if_neg (by simp)]))
theorem refBegins_ev {nn:Nat}(l0:List ByteArray) (l1:List Tok) (a2 a3:Int) (l4:List Prod) {em:List Bool}{first:List (List Bool)}(hs:Sh nn l1.length first) (he:em.length=nn) (hnt:l1.length≤1000) (l:List Sym) (hl:l.all (okSym nn l1.length)=true) (h3:l.length≤1000000):Ev (fun k=>regletref13_begins.f k l0 l1 a2 a3 l4 l first em) (bg em first l (none0 l1.length)):=by
 have h:=refBegins_l0_ev hs he hnt l [] (List.replicate (l1.length+1) false) hl (by simp) (by simpa using h3)
 have e:wrap64 ((l1.length:Int)+1)=((l1.length+1:Nat):Int):=by rw [wrap64_id (by omega) (by omega)];simp
 refine Ev.congr (fun k=>by rw [regletref13_begins.f,e,if_pos (by omega),if_pos (by omega),Int.toNat_natCast]) (by simpa [none0] using h)
def gIn {σ:Type}(stp:σ→Prod→Bool×σ):List Prod→Bool→σ→Bool×σ
 | [],ag,st=>(ag,st)
 |p::ps,ag,st=>gIn stp ps ((stp st p).1||ag) (stp st p).2
def gOut {σ:Type}(stp:σ→Prod→Bool×σ) (ps:List Prod):Nat→σ→σ
 |0,st=>(gIn stp ps false st).2
 |n+1,st=>if(gIn stp ps false st).1=true then gOut stp ps n (gIn stp ps false st).2 else(gIn stp ps false st).2
def Good {σ:Type}(I:σ→Prop) (μ:σ→Nat) (stp:σ→Prod→Bool×σ) (ps:List Prod):Prop:=
 ∀st p,I st→p∈ps→I (stp st p).2∧μ (stp st p).2≤μ st∧((stp st p).1=true→μ (stp st p).2<μ st)
theorem gIn_good {σ:Type}{I:σ→Prop}{μ:σ→Nat}{stp:σ→Prod→Bool×σ}:∀{ps:List Prod},Good I μ stp ps→∀(ag:Bool) (st:σ),I st→I (gIn stp ps ag st).2∧μ (gIn stp ps ag st).2≤μ st∧((gIn stp ps ag st).1=true→ag=true∨μ (gIn stp ps ag st).2<μ st)
 | [],_,ag,st,h=>⟨h,Nat.le_refl _,fun h=> .inl h⟩
 |p::ps,hg,ag,st,h=>by
  obtain⟨h1,h2,h3⟩:=hg st p h List.mem_cons_self
  obtain⟨h4,h5,h6⟩:=gIn_good (fun st p hI hp=>hg st p hI (List.mem_cons_of_mem _ hp)) ((stp st p).1||ag) _ h1
  refine⟨h4,Nat.le_trans h5 h2,fun h=>?_⟩
  rcases h6 h with h7|h7
  ·rcases(Bool.or_eq_true _ _).mp h7 with h8|h8
   ·exact .inr (Nat.lt_of_le_of_lt h5 (h3 h8))
   ·exact .inl h8
  ·exact .inr (Nat.lt_of_lt_of_le h7 h2)
theorem gOut_I {σ:Type}{I:σ→Prop}{μ:σ→Nat}{stp:σ→Prod→Bool×σ}{ps:List Prod}(hg:Good I μ stp ps):∀(n:Nat) (st:σ),I st→I (gOut stp ps n st)
 |0,st,h=>(gIn_good hg false st h).1
 |n+1,st,h=>by
  unfold gOut
  split
  ·exact gOut_I hg n _ (gIn_good hg false st h).1
  ·exact(gIn_good hg false st h).1
def cf:List Bool→Nat
 | []=>0
 |x::a=>(if x=true then 0 else 1)+cf a
theorem cf_orL:∀(a b:List Bool),a.length=b.length→cf (orL a b)≤cf a∧(moreL a b=true→cf (orL a b)<cf a)
 | [],[],_=>by simp [orL,cf,moreL]
 |x::a,y::b,h=>by
  obtain⟨h1,h2⟩:=cf_orL a b (by simpa using h)
  have e:orL (x::a) (y::b)=(x||y)::orL a b:=rfl
  rw [e]
  cases x<;>cases y<;>simp [cf,moreL]<;>first|exact⟨h1,h2⟩|(refine⟨by omega,fun h=>?_⟩;have:=h2 h;omega)|omega
theorem cf_set:∀(a:List Bool) (i:Nat),i<a.length→a.getD i false=false→cf (a.set i true)<cf a
 |x::a,0,_,h=>by
  have:x=false:=by simpa using h
  subst this;simp [cf]
 |x::a,i+1,hi,h=>by
  have:=cf_set a i (by simpa using hi) (by simpa using h)
  simp only [List.set_cons_succ,cf];omega
def cfs:List (List Bool)→Nat
 | []=>0
 |r::m=>cf r+cfs m
theorem cfs_set:∀(m:List (List Bool)) (i:Nat) (r:List Bool),i<m.length→cf r≤cf (m.getD i [])→cfs (m.set i r)≤cfs m∧(cf r<cf (m.getD i [])→cfs (m.set i r)<cfs m)
 |x::m,0,r,_,h=>by
  simp only [List.getD_cons_zero,List.set_cons_zero,cfs] at h ⊢
  omega
 |x::m,i+1,r,hi,h=>by
  have:=cfs_set m i r (by simpa using hi) (by simpa using h)
  simp only [List.getD_cons_succ,List.set_cons_succ,cfs] at h ⊢
  omega
def Small (ps:List Prod):Prop:=ps.length≤1000000∧∀p∈ps,p.f1.length≤1000000
theorem refRight_l1_ev (l0:List ByteArray) (l1:List Tok) (a2 a3:Int) (l4:List Prod) (x3 left:Int) (r:Bool):∀(l pre:List Sym),pre.length+l.length≤1000000→(l.all (okSym l0.length l1.length)=true→Ev (fun k=>regletref13_Right.l0 k (wrap64 (x3+1)) l0 l1 a2 a3 l4) r)→(l.all (okSym l0.length l1.length)=false→r=false)→Ev (fun k=>regletref13_Right.l1 k x3 (pre.length:Int) l0 l1 a2 a3 l4 left (pre++l)) r
 | [],pre,_,h1,_=>Ev.step (fun k=>by rw [regletref13_Right.l1]) (Ev.neg (by simp) (h1 rfl))
 |x::l,pre,h3,h1,h2=>by
  simp only [List.length_cons] at h3
  have ih:=refRight_l1_ev l0 l1 a2 a3 l4 x3 left r l (pre++ [x]) (by simp;omega)
  simp only [←wrap_next pre _ (show pre.length≤1000000 by omega),List.append_assoc,List.singleton_append] at ih
  have e:rd_T43 (pre++x::l) (pre.length:Int)=x:=getD_mid _ pre x l _ rfl
  refine Ev.step (fun k=>by rw [regletref13_Right.l1]) ?_
  rw [e]
  refine Ev.pos (by simp;omega) (Ev.pos (by omega) ?_)
  cases hx:x.f0 with
  |true=>
   refine Ev.pos rfl ?_
   by_cases h0:x.f1<0
   ·exact Ev.pos h0 (Ev.some (h2 (by simp [okSym,hx];omega)).symm)
   ·refine Ev.neg h0 ?_
    by_cases h5:x.f1≥(l1.length:Int)
    ·exact Ev.pos h5 (Ev.some (h2 (by simp [okSym,hx];omega)).symm)
    ·refine Ev.neg h5 (ih (fun h=>h1 ?_) (fun h=>h2 ?_))
     ·simp [okSym,hx, -List.all_eq_true];exact⟨by omega,h⟩
     ·rw [List.all_cons,h,Bool.and_false]
  |false=>
   refine Ev.neg (by simp) ?_
   by_cases h0:x.f1<0
   ·exact Ev.pos h0 (Ev.some (h2 (by simp [okSym,hx];omega)).symm)
   ·refine Ev.neg h0 ?_
    by_cases h5:x.f1≥(l0.length:Int)
    ·exact Ev.pos h5 (Ev.some (h2 (by simp [okSym,hx];omega)).symm)
    ·refine Ev.neg h5 (ih (fun h=>h1 ?_) (fun h=>h2 ?_))
     ·simp [okSym,hx, -List.all_eq_true];exact⟨by omega,h⟩
     ·rw [List.all_cons,h,Bool.and_false]
theorem refRight_l0_ev (l0:List ByteArray) (l1:List Tok) (a2 a3:Int):∀(qs pre:List Prod),pre.length+qs.length≤1000000→(∀p∈qs,p.f1.length≤1000000)→Ev (fun k=>regletref13_Right.l0 k (pre.length:Int) l0 l1 a2 a3 (pre++qs)) (qs.all (okProd l0.length l1.length))
 | [],pre,_,_=>Ev.step (fun k=>by rw [regletref13_Right.l0]) (Ev.neg (by simp) (Ev.some (by simp)))
 |p::qs,pre,h3,h4=>by
  simp only [List.length_cons] at h3
  have ih:=refRight_l0_ev l0 l1 a2 a3 qs (pre++ [p]) (by simp;omega) (fun p hp=>h4 p (List.mem_cons_of_mem _ hp))
  simp only [←wrap_next pre _ (show pre.length≤1000000 by omega),List.append_assoc,List.singleton_append] at ih
  have e:rd_T35 (pre++p::qs) (pre.length:Int)=p:=getD_mid _ pre p qs _ rfl
  refine Ev.step (fun k=>by rw [regletref13_Right.l0]) ?_
  rw [e]
  refine Ev.pos (by simp;omega) (Ev.pos (by omega) ?_)
  by_cases h0:p.f0<0
  ·refine Ev.pos h0 (Ev.step (fun k=>by rw [regletref13_Right.j1]) (Ev.pos rfl (Ev.some ?_)))
   simp [okProd];omega
  ·refine Ev.neg h0 (Ev.step (fun k=>by rw [regletref13_Right.j1]) ?_)
   by_cases h5:p.f0≥(l0.length:Int)
   ·refine Ev.pos (decide_eq_true h5) (Ev.some ?_)
    simp [okProd];omega
   ·refine Ev.neg (by simpa using h5) ?_
    have h:=refRight_l1_ev l0 l1 a2 a3 (pre++p::qs) (pre.length:Int) p.f0 ((p::qs).all (okProd l0.length l1.length)) p.f1 [] (by have:=h4 p List.mem_cons_self;simpa using this) (fun h=>Ev.val ih (by
     have:okProd l0.length l1.length p=true:=by simp only [okProd,h,Bool.and_true,Bool.and_eq_true,decide_eq_true_eq];omega
     rw [List.all_cons,this,Bool.true_and])) (fun h=>by
     have:okProd l0.length l1.length p=false:=by simp only [okProd,h,Bool.and_false]
     rw [List.all_cons,this,Bool.false_and])
    simpa only [List.nil_append,List.length_nil,Int.natCast_zero] using h
theorem refRight_ev (l0:List ByteArray) (l1:List Tok) (a2 a3:Int) (l4:List Prod) (h:Small l4):Ev (fun k=>regletref13_Right.f k l0 l1 a2 a3 l4) (l4.all (okProd l0.length l1.length)):=
 Ev.congr (fun k=>by rw [regletref13_Right.f]) (by simpa only [List.nil_append,List.length_nil,Int.natCast_zero] using refRight_l0_ev l0 l1 a2 a3 l4 [] (by have:=h.1;simpa using this) h.2)
def cNew (token:Bool) (out:List Bool) (p:Prod):Bool:=!(p.f1.any (oddP token out)) && !(out.getD p.f0.toNat false)
def cStep (token:Bool) (out:List Bool) (p:Prod):Bool×List Bool:=(cNew token out p,if cNew token out p=true then out.set p.f0.toNat true else out)
theorem okProd_left {nn nt:Nat}{p:Prod}(h:okProd nn nt p=true):0≤p.f0∧p.f0<(nn:Int):=by
 simp only [okProd,Bool.and_eq_true,decide_eq_true_eq] at h;exact h.1
theorem okProd_right {nn nt:Nat}{p:Prod}(h:okProd nn nt p=true):p.f1.all (okSym nn nt)=true:=by
 simp only [okProd,Bool.and_eq_true,decide_eq_true_eq] at h;exact h.2
theorem cStep_good (nn nt:Nat) (token:Bool) {ps:List Prod}(hps:ps.all (okProd nn nt)=true):Good (fun out:List Bool=>out.length=nn) cf (cStep token) ps:=by
 intro st p hI hp
 have hl:=okProd_left (List.all_eq_true.1 hps p hp)
 unfold cStep
 simp only
 cases hc:cNew token st p with
 |false=>simp [hI]
 |true=>
  have h0:st.getD p.f0.toNat false=false:=by
   simp only [cNew,Bool.and_eq_true,Bool.not_eq_true'] at hc;exact hc.2
  have h:=cf_set st p.f0.toNat (by omega) h0
  simp only [if_true]
  exact⟨by simpa using hI,Nat.le_of_lt h,fun _=>h⟩
def clo (token:Bool) (nn:Nat) (ps:List Prod):List Bool:=gOut (cStep token) ps (cf (List.replicate nn false)) (List.replicate nn false)
theorem clo_length (nn nt:Nat) (token:Bool) {ps:List Prod}(hps:ps.all (okProd nn nt)=true):(clo token nn ps).length=nn:=
 gOut_I (cStep_good nn nt token hps) _ _ (by simp)
theorem any_step (token:Bool) (out:List Bool) (x:Sym) (l:List Sym) (is:Bool):(is && !((x::l).any (oddP token out)))=((is && !(oddP token out x)) && !(l.any (oddP token out))):=by
 cases is<;>simp
theorem refEmpty_l2_ev (l0:List ByteArray) (l1:List Tok) (a2 a3:Int) (l4:List Prod) (out:List Bool) (more:Bool) (x5 left:Int) (hl0:0≤left) (hl1:left<(out.length:Int)) (h50:0≤x5) (h51:x5<(l4.length:Int)) (r:List Bool):∀(l pre:List Sym) (is:Bool),rd_T35 l4 x5=⟨left,pre++l⟩→l.all (okSym out.length l1.length)=true→pre.length+l.length≤1000000→
 Ev (fun k=>regletref13_Empty.l1 k (if((is && !(l.any (oddP false out))) && !(out.getD left.toNat false))=true then out.set left.toNat true else out) (((is && !(l.any (oddP false out))) && !(out.getD left.toNat false))||more) (wrap64 (x5+1)) l0 l1 a2 a3 l4) r→Ev (fun k=>regletref13_Empty.l2 k out more x5 is (pre.length:Int) l0 l1 a2 a3 l4) r
 | [],pre,is,e,_,_,hk=>by
  refine Ev.step (fun k=>by rw [regletref13_Empty.l2]) ?_
  rw [e]
  have e2:rdOf false out left=out.getD left.toNat false:=rfl
  refine Ev.pos h50 (Ev.pos h51 (Ev.neg (by simp) ?_))
  rw [e2]
  cases is with
  |false=>exact Ev.neg (by simp) (by simpa using hk)
  |true=>
   refine Ev.pos rfl (Ev.pos hl0 (Ev.pos hl1 ?_))
   cases ho:out.getD left.toNat false with
   |true=>exact Ev.pos rfl (by rw [ho] at hk;simpa using hk)
   |false=>exact Ev.neg (by simp) (by rw [ho] at hk;simpa using hk)
 |x::l,pre,is,e,hok,h3,hk=>by
  simp only [List.length_cons] at h3
  simp only [List.all_cons,Bool.and_eq_true] at hok
  have ih:=fun is=>refEmpty_l2_ev l0 l1 a2 a3 l4 out more x5 left hl0 hl1 h50 h51 r l (pre++ [x]) is (by rw [List.append_assoc];exact e) hok.2 (by simp;omega)
  simp only [←wrap_next pre _ (show pre.length≤1000000 by omega)] at ih
  rw [any_step] at hk
  have e1:rd_T43 (pre++x::l) (pre.length:Int)=x:=getD_mid _ pre x l _ rfl
  refine Ev.step (fun k=>by rw [regletref13_Empty.l2]) ?_
  rw [e]
  simp only [e1]
  refine Ev.pos h50 (Ev.pos h51 (Ev.pos (by simp;omega) (Ev.pos (by omega) ?_)))
  cases is with
  |false=>exact Ev.neg (by simp) (ih false (by rw [Bool.false_and] at hk;exact hk))
  |true=>
   refine Ev.pos rfl ?_
   have hb:=hok.1
   cases hx:x.f0 with
   |true=>
    have ho:oddP false out x=true:=by simp [oddP,hx]
    rw [ho] at hk
    exact Ev.pos rfl (ih false hk)
   |false=>
    have hb:=okSym_rule hok.1 hx
    have ho:(true && !oddP false out x)=rdOf false out x.f1:=by simp [oddP,hx]
    rw [ho] at hk
    exact Ev.neg (by simp) (Ev.pos hb.1 (Ev.pos hb.2 (ih _ hk)))
theorem refEmpty_l1_ev (l0:List ByteArray) (l1:List Tok) (a2 a3:Int) (r:List Bool):∀(qs pre:List Prod) (out:List Bool) (more:Bool),out.length=l0.length→qs.all (okProd l0.length l1.length)=true→pre.length+qs.length≤1000000→(∀p∈qs,p.f1.length≤1000000)→Ev (fun k=>regletref13_Empty.l0 k (gIn (cStep false) qs more out).2 (gIn (cStep false) qs more out).1 l0 l1 a2 a3 (pre++qs)) r→Ev (fun k=>regletref13_Empty.l1 k out more (pre.length:Int) l0 l1 a2 a3 (pre++qs)) r
 | [],pre,out,more,_,_,_,_,hk=>Ev.step (fun k=>by rw [regletref13_Empty.l1]) (Ev.neg (by simp) (by simpa [gIn] using hk))
 |p::qs,pre,out,more,ho,hok,h3,h4,hk=>by
  simp only [List.length_cons] at h3
  simp only [List.all_cons,Bool.and_eq_true] at hok
  have ih:=fun out more ho=>refEmpty_l1_ev l0 l1 a2 a3 r qs (pre++ [p]) out more ho hok.2 (by simp;omega) (fun p hp=>h4 p (List.mem_cons_of_mem _ hp))
  simp only [←wrap_next pre _ (show pre.length≤1000000 by omega),List.append_assoc,List.singleton_append] at ih
  refine Ev.step (fun k=>by rw [regletref13_Empty.l1]) (Ev.pos (by simp;omega) ?_)
  have hl:=okProd_left hok.1
  have e:rd_T35 (pre++p::qs) (pre.length:Int)=⟨p.f0,[]++p.f1⟩:=getD_mid _ pre p qs _ rfl
  have h:=refEmpty_l2_ev l0 l1 a2 a3 (pre++p::qs) out more (pre.length:Int) p.f0 hl.1 (by omega) (by omega) (by simp;omega) r p.f1 [] true e (by rw [ho];exact okProd_right hok.1) (by have:=h4 p List.mem_cons_self;simpa using this)
  refine h ?_
  rw [gIn] at hk
  have hlen:(cStep false out p).2.length=l0.length:=by unfold cStep;simp only;split<;>simp [ho]
  have h2:=ih _ _ hlen hk
  have e2:((true && !(p.f1.any (oddP false out))) && !(out.getD p.f0.toNat false))=cNew false out p:=by simp [cNew]
  rw [e2]
  exact h2
theorem refEmpty_l0_ev (l0:List ByteArray) (l1:List Tok) (a2 a3:Int) (l4:List Prod) (hs:Small l4) (hok:l4.all (okProd l0.length l1.length)=true):∀(n:Nat) (out:List Bool),out.length=l0.length→cf out≤n→Ev (fun k=>regletref13_Empty.l0 k out true l0 l1 a2 a3 l4) (gOut (cStep false) l4 n out)
 |n,out,ho,hn=>by
  obtain⟨h1,h2,h3⟩:=gIn_good (cStep_good l0.length l1.length false hok) false out ho
  refine Ev.step (fun k=>by rw [regletref13_Empty.l0]) (Ev.pos rfl ?_)
  have h:=refEmpty_l1_ev l0 l1 a2 a3 (gOut (cStep false) l4 n out) l4 [] out false ho hok (by have:=hs.1;simpa using this) hs.2
  simp only [List.nil_append,List.length_nil,Int.natCast_zero] at h
  refine h ?_
  cases hr:(gIn (cStep false) l4 false out).1 with
  |false=>
   refine Ev.step (fun k=>by rw [regletref13_Empty.l0]) (Ev.neg (by simp) (Ev.some ?_))
   cases n<;>simp [gOut,hr]
  |true=>
   have hlt:=(h3 hr).resolve_left (by simp)
   cases n with
   |zero=>omega
   |succ n=>
    refine Ev.val (refEmpty_l0_ev l0 l1 a2 a3 l4 hs hok n _ h1 (by omega)) ?_
    rw [gOut,if_pos hr]
theorem refEmpty_ev (l0:List ByteArray) (l1:List Tok) (a2 a3:Int) (l4:List Prod) (h:Small l4) (hn:l0.length≤1000000):Ev (fun k=>regletref13_Empty.f k l0 l1 a2 a3 l4) (if l4.all (okProd l0.length l1.length)=true then clo false l0.length l4 else []):=by
 refine Ev.congr (fun k=>by rw [regletref13_Empty.f]) (Ev.bind (refRight_ev l0 l1 a2 a3 l4 h) ?_)
 cases hr:l4.all (okProd l0.length l1.length) with
 |false=>exact Ev.neg (by simp) (Ev.some (by simp))
 |true=>
  rw [if_pos rfl]
  refine Ev.pos rfl (Ev.pos (by omega) (Ev.pos (by omega) ?_))
  rw [Int.toNat_natCast]
  exact refEmpty_l0_ev l0 l1 a2 a3 l4 h hr _ _ (by simp) (Nat.le_refl _)
section
variable {l0:List ByteArray}{l1:List Tok}{a2 a3:Int}{ps:List Prod}
variable {tb:List (List Int)}
structure Fit (l1:List Tok) (ps:List Prod) (tb:List (List Int)):Prop where
 small:Small ps
 toks:l1.length≤1000000
 rows:tb.length≤100000000
 row:∀r∈tb,r.length≤100000000
theorem machFeed_val (hf:Fit l1 ps tb) (st:List Sym) (d:Bool) (look:Int):machine_Feed.f l0 l1 a2 a3 ps tb st d look=some (mFeedAll l0.length l1.length ps tb st d look):=by
 unfold machine_Feed.f
 rw [if_pos ⟨by have:=hf.toks;omega,by have:=hf.rows;omega,by have:=hf.small.1;omega,List.all_eq_true.2 (fun p hp=>decide_eq_true (hf.small.2 p hp)),List.all_eq_true.2 (fun r hr=>decide_eq_true (by have:=hf.row r hr;omega))⟩]
end
section
variable {l0:List ByteArray}{l1:List Tok}{a2 a3:Int}{ps:List Prod}{tb:List (List Int)}
theorem mFeed_len {nt:Nat}{ps:List Prod}{tb:List (List Int)}{look:Int}:∀(k:Nat) (st:List Sym) (sp:List Int) (R:Int×List Sym×List Int),mFeed nt ps tb look k st sp=some R→st.length≤10000→sp.length≤10000→R.2.2.length≤10000∧(R.1=0→R.2.1.length≤10000)
 |0,_,_,_,h,_,_=>by simp [mFeed] at h
 |k+1,[],sp,R,h,_,hs=>by
  rw [mFeed] at h
  have h:=(Option.some.inj h).symm
  subst h
  exact⟨hs,fun _=>by simp⟩
 |k+1,x::st,sp,R,h,hl,hs=>by
  rw [mFeed] at h
  simp only [List.length_cons] at hl
  split at h
  ·have h:=(Option.some.inj h).symm
   subst h
   exact⟨hs,fun _=>by simp only;omega⟩
  ·split at h
   ·have h:=(Option.some.inj h).symm
    subst h
    exact⟨hs,fun h=>by simp at h⟩
   ·split at h
    ·rename_i hc
     simp only [Bool.and_eq_true,decide_eq_true_eq] at hc
     exact mFeed_len k _ _ R h hc.1 hc.2
    ·have h:=(Option.some.inj h).symm
     subst h
     exact⟨by simp,fun h=>by simp at h⟩
theorem mFeedAll_len {nn nt:Nat}{ps:List Prod}{tb:List (List Int)}(st:List Sym) (d:Bool) (look:Int):(mFeedAll nn nt ps tb st d look).1.length≤10000∧(mFeedAll nn nt ps tb st d look).2.2.1.length≤10000:=by
 unfold mFeedAll
 split
 ·rename_i h
  split
  ·simp
  ·obtain⟨R,hR⟩:=mFeed_some (nt:=nt) (ps:=ps) (tb:=tb) (look:=look) 10002 st.reverse [] (by omega) (by simp)
   rw [hR]
   have ha:st.length≤10000:=by have:=h.2.1;simp only [stAwaits,Bool.and_eq_true,decide_eq_true_eq] at this;exact this.1
   have hl:=mFeed_len 10002 st.reverse [] R hR (by rw [List.length_reverse];exact ha) (by simp)
   obtain⟨e,s,p⟩:=R
   have em:mOut (some (e,s,p))=if e=0 then(s.reverse,false,p,0) else([],true,p,e):=rfl
   rw [em]
   split
   ·rename_i he
    exact⟨by rw [List.length_reverse];exact hl.2 he,hl.1⟩
   ·exact⟨by simp,hl.1⟩
 ·simp
theorem mFeedAll_bad {nn nt:Nat}{ps:List Prod}{tb:List (List Int)}(st:List Sym) (d:Bool) {look:Int}(h:¬(0≤look∧look≤(nt:Int))):mFeedAll nn nt ps tb st d look=([],true,[],1):=by
 unfold mFeedAll
 rw [if_neg (fun hh=>h hh.2.2)]
def mRun (nn nt:Nat) (ps:List Prod) (tb:List (List Int)):List Int→Nat→List Sym→Bool→List Int→List Int×Int×Int
 | [],i,st,d,out=>if(mFeedAll nn nt ps tb st d (nt:Int)).2.2.2=0 then(out++(mFeedAll nn nt ps tb st d (nt:Int)).2.2.1,0,0) else([],(mFeedAll nn nt ps tb st d (nt:Int)).2.2.2,(i:Int))
 |x::rest,i,st,d,out=>
  if x<0∨(nt:Int)≤x then([],1,(i:Int))
  else if(mFeedAll nn nt ps tb st d x).2.2.2=0 then mRun nn nt ps tb rest (i+1) (mFeedAll nn nt ps tb st d x).1 (mFeedAll nn nt ps tb st d x).2.1 (out++(mFeedAll nn nt ps tb st d x).2.2.1)
  else([],(mFeedAll nn nt ps tb st d x).2.2.2,(i:Int))
theorem machRun_l0_ev (hf:Fit l1 ps tb) {l:List Int}(hl:l.length≤1000000):∀(rest pre:List Int) (st:List Sym) (d:Bool) (out:List Int),l=pre++rest→out.length≤10000 * pre.length→
 Ev (fun k=>machine_Run.l0 k tb l out (l++ [(l1.length:Int)]) ((l++ [(l1.length:Int)]).length:Int) (pre.length:Int) l0 l1 a2 a3 ps st d) (mRun l0.length l1.length ps tb rest pre.length st d out)
 | [],pre,st,d,out,e,ho=>by
  rw [List.append_nil] at e
  subst e
  have hs:=mFeedAll_len (nn:=l0.length) (nt:=l1.length) (ps:=ps) (tb:=tb) st d (l1.length:Int)
  have er:rd (l++ [(l1.length:Int)]) (l.length:Int)=(l1.length:Int):=getD_mid _ l _ [] _ rfl
  have el:(l++ [(l1.length:Int)]).length=l.length+1:=by simp
  refine Ev.step (fun k=>by rw [machine_Run.l0]) (Ev.pos (by rw [el];omega) (Ev.pos (by omega) (Ev.pos (by rw [el];omega) (Ev.neg (by omega) ?_))))
  refine Ev.step (fun k=>by rw [machine_Run.j1]) (Ev.neg (by simp) ?_)
  rw [er]
  refine Ev.bind0 (machFeed_val hf st d _) ?_
  rw [mRun]
  by_cases h:(mFeedAll l0.length l1.length ps tb st d (l1.length:Int)).2.2.2=0
  ·rw [if_pos h]
   refine Ev.pos h (Ev.pos (by omega) ?_)
   refine Ev.step (fun k=>by rw [machine_Run.l0]) ?_
   refine Ev.neg ?_ (Ev.some rfl)
   rw [wrap64_id (by omega) (by omega),el]
   omega
  ·rw [if_neg h]
   exact Ev.neg h (Ev.some rfl)
 |x::rest,pre,st,d,out,e,ho=>by
  have hs:=mFeedAll_len (nn:=l0.length) (nt:=l1.length) (ps:=ps) (tb:=tb) st d x
  have hlt:pre.length<l.length:=by rw [e];simp
  have el:(l++ [(l1.length:Int)]).length=l.length+1:=by simp
  have er:rd (l++ [(l1.length:Int)]) (pre.length:Int)=x:=by rw [e,List.append_assoc];exact getD_mid _ pre x _ _ rfl
  refine Ev.step (fun k=>by rw [machine_Run.l0]) (Ev.pos (by rw [el];omega) (Ev.pos (by omega) (Ev.pos (by rw [el];omega) (Ev.pos (by omega) ?_))))
  rw [er]
  rw [mRun]
  by_cases hx:x=(l1.length:Int)
  ·rw [if_pos (.inr (by omega))]
   refine Ev.step (fun k=>by rw [machine_Run.j1]) (Ev.pos (by simp [hx]) (Ev.some rfl))
  ·refine Ev.step (fun k=>by rw [machine_Run.j1]) (Ev.neg (by simp [hx]) (Ev.bind0 (machFeed_val hf st d _) ?_))
   by_cases hb:x<0∨(l1.length:Int)≤x
   ·rw [if_pos hb,mFeedAll_bad st d (by omega)]
    refine Ev.neg (by simp) (Ev.some rfl)
   ·rw [if_neg hb]
    by_cases h:(mFeedAll l0.length l1.length ps tb st d x).2.2.2=0
    ·rw [if_pos h]
     refine Ev.pos h (Ev.pos (by omega) ?_)
     have ih:=machRun_l0_ev hf hl rest (pre++ [x]) (mFeedAll l0.length l1.length ps tb st d x).1 (mFeedAll l0.length l1.length ps tb st d x).2.1 (out++(mFeedAll l0.length l1.length ps tb st d x).2.2.1) (by rw [List.append_assoc];exact e) (by simp only [List.length_append,List.length_singleton];omega)
     rw [←wrap_next pre x (by omega),show(pre++ [x]).length=pre.length+1 by simp] at ih
     exact ih
    ·rw [if_neg h]
     exact Ev.neg h (Ev.some rfl)
theorem machRun_ev (hf:Fit l1 ps tb) {l:List Int}(hl:l.length≤1000000):Ev (fun k=>machine_Run.f k l0 l1 a2 a3 ps tb l) (mRun l0.length l1.length ps tb l 0 [⟨false,0⟩] false []):=by
 refine Ev.congr (fun k=>by rw [machine_Run.f]) ?_
 refine Ev.bind0 (a:=([(⟨false,0⟩:Sym)],false)) rfl ?_
 refine Ev.bind0 (a:=l) (by unfold slices_Clone_int_int.f;rw [if_pos (by omega)]) ?_
 refine Ev.bind0 (a:= [(l1.length:Int)]) rfl ?_
 refine Ev.pos (by rw [List.length_singleton];omega) ?_
 refine Ev.bind0 (a:=l++ [(l1.length:Int)]) rfl ?_
 exact machRun_l0_ev hf hl l [] [⟨false,0⟩] false [] rfl (by simp)
end
end Go.Proofs.Ytapjfnfengefpaa.M
end

section
namespace Go.Proofs.Ytapjfnfengefpaa.M
open Go.RowKit Go.Proofs.YtapjfnfengefpaaW.PrintWords Go.Proofs.YtapjfnfengefpaaW.PrintLast Go.Proofs.YtapjfnfengefpaaW.PrintMore Go.Proofs.Ytapjfnfengefpaa.P Go.Proofs.Ytapjfnfengefpaa.H
theorem awake16_some:regletlaw16_awake.f 40=some true:=by kernel_rfl
theorem awake16_ev:Ev (fun k=>regletlaw16_awake.f k) true:=Ev.of regletlaw16_awake.mono awake16_some
end Go.Proofs.Ytapjfnfengefpaa.M
end

section
namespace Go.Proofs.Ytapjfnfengefpaa.M
open Go.RowKit Go.Proofs.YtapjfnfengefpaaW.PrintWords Go.Proofs.YtapjfnfengefpaaW.PrintLast Go.Proofs.YtapjfnfengefpaaW.PrintMore Go.Proofs.Ytapjfnfengefpaa.P Go.Proofs.Ytapjfnfengefpaa.H
set_option linter.unusedVariables false
set_option linter.unusedSimpArgs false
def rows0 (nn nt:Nat):List (List Bool):=List.replicate nn (none0 nt)
theorem rows0_sh (nn nt:Nat):Sh nn nt (rows0 nn nt):=⟨by simp [rows0],fun r hr=>by rw [List.eq_of_mem_replicate hr];simp [none0]⟩
theorem marks_l0_ev (l0:List ByteArray) (l1:List Tok) (a2 a3:Int) (l4:List Prod) (h0:l0.length≤1000000) (h1:l1.length≤1000000):∀(n:Nat) (out:List (List Bool)),out.length+n=l0.length→Ev (fun k=>regletref13_marks.l0 k out (out.length:Int) l0 l1 a2 a3 l4) (out++rows0 n l1.length)
 |0,out,h=>Ev.step (fun k=>by rw [regletref13_marks.l0]) (Ev.neg (by omega) (Ev.some (by simp [rows0])))
 |n+1,out,h=>by
  have ih:=marks_l0_ev l0 l1 a2 a3 l4 h0 h1 n (out++ [none0 l1.length]) (by simp;omega)
  rw [←wrap_next out _ (show out.length≤1000000 by omega)] at ih
  have e:wrap64 ((l1.length:Int)+1)=((l1.length+1:Nat):Int):=by rw [wrap64_id (by omega) (by omega)];simp
  refine Ev.step (fun k=>by rw [regletref13_marks.l0,e]) (Ev.pos (by omega) (Ev.pos (by omega) (Ev.pos (by omega) (Ev.pos (by omega) ?_))))
  rw [Int.toNat_natCast]
  exact Ev.val ih (by simp [rows0,List.replicate_succ])
theorem marks_ev (l0:List ByteArray) (l1:List Tok) (a2 a3:Int) (l4:List Prod) (h0:l0.length≤1000000) (h1:l1.length≤1000000):Ev (fun k=>regletref13_marks.f k l0 l1 a2 a3 l4) (rows0 l0.length l1.length):=
 Ev.congr (fun k=>by rw [regletref13_marks.f]) (by simpa using marks_l0_ev l0 l1 a2 a3 l4 h0 h1 l0.length [] (by simp))
def sStep (nt:Nat) (em:List Bool) (m:List (List Bool)) (p:Prod):Bool×List (List Bool):=
 (moreL (m.getD p.f0.toNat []) (bg em m p.f1 (none0 nt)).1,m.set p.f0.toNat (orL (m.getD p.f0.toNat []) (bg em m p.f1 (none0 nt)).1))
theorem none0_length (nt:Nat):(none0 nt).length=nt+1:=by simp [none0]
theorem row_step {nn nt:Nat}{m:List (List Bool)}(hs:Sh nn nt m) {i:Nat}(hi:i<nn) {b:List Bool}(hb:b.length=nt+1):Sh nn nt (m.set i (orL (m.getD i []) b))∧cfs (m.set i (orL (m.getD i []) b))≤cfs m∧(moreL (m.getD i []) b=true→cfs (m.set i (orL (m.getD i []) b))<cfs m):=by
 have hr:=hs.get hi
 have h1:=cf_orL (m.getD i []) b (by rw [hr,hb])
 have h2:=cfs_set m i (orL (m.getD i []) b) (by rw [hs.1];exact hi) h1.1
 exact⟨hs.set i (by rw [orL_length (by rw [hr,hb]),hr]),h2.1,fun h=>h2.2 (h1.2 h)⟩
theorem sStep_good {nn nt:Nat}(em:List Bool) {ps:List Prod}(hps:ps.all (okProd nn nt)=true):Good (Sh nn nt) cfs (sStep nt em) ps:=by
 intro st p hI hp
 have hok:=List.all_eq_true.1 hps p hp
 have hl:=okProd_left hok
 exact row_step hI (by omega) (bg_length em hI p.f1 _ (okProd_right hok) (none0_length nt))
def fst (nn nt:Nat) (em:List Bool) (ps:List Prod):List (List Bool):=gOut (sStep nt em) ps (cfs (rows0 nn nt)) (rows0 nn nt)
theorem fst_sh (nn nt:Nat) (em:List Bool) {ps:List Prod}(hps:ps.all (okProd nn nt)=true):Sh nn nt (fst nn nt em ps):=
 gOut_I (sStep_good em hps) _ _ (rows0_sh nn nt)
theorem refFirst_l1_ev (l0:List ByteArray) (l1:List Tok) (a2 a3:Int) (em:List Bool) (he:em.length=l0.length) (h1:l1.length≤1000):∀(qs pre:List Prod) (m:List (List Bool)) (more:Bool),Sh l0.length l1.length m→qs.all (okProd l0.length l1.length)=true→pre.length+qs.length≤1000000→(∀p∈qs,p.f1.length≤1000000)→Ev (fun k=>regletref13_first.l1 l0 l1 a2 a3 (pre++qs) k m em more (pre.length:Int)) (gIn (sStep l1.length em) qs more m)
 | [],pre,m,more,_,_,_,_=>Ev.step (fun k=>by rw [regletref13_first.l1]) (Ev.neg (by simp) (Ev.some (by simp [gIn])))
 |p::qs,pre,m,more,hs,hok,h3,h4=>by
  simp only [List.length_cons] at h3
  simp only [List.all_cons,Bool.and_eq_true] at hok
  have ih:=fun m more hs=>refFirst_l1_ev l0 l1 a2 a3 em he h1 qs (pre++ [p]) m more hs hok.2 (by simp;omega) (fun p hp=>h4 p (List.mem_cons_of_mem _ hp))
  simp only [←wrap_next pre _ (show pre.length≤1000000 by omega),List.append_assoc,List.singleton_append] at ih
  have hl:=okProd_left hok.1
  have hs1:=hs.1
  have hb:=bg_length em hs p.f1 _ (okProd_right hok.1) (none0_length l1.length)
  have hr:=hs.get (i:=p.f0.toNat) (by omega)
  have hg:=(sStep_good em (ps:= [p]) (by simp [hok.1])) m p hs (by simp)
  have e:rd_T35 (pre++p::qs) (pre.length:Int)=p:=getD_mid _ pre p qs _ rfl
  refine Ev.step (fun k=>by rw [regletref13_first.l1]) ?_
  rw [e]
  refine Ev.pos (by simp;omega) (Ev.pos (by omega) (Ev.bind (refBegins_ev l0 l1 a2 a3 _ hs he h1 p.f1 (okProd_right hok.1) (h4 p List.mem_cons_self)) (Ev.pos hl.1 (Ev.pos (by omega) (Ev.bind (join_ev (m.getD p.f0.toNat []) (bg em m p.f1 (none0 l1.length)).1 (by rw [hr,hb]) (by omega)) ?_)))))
  refine Ev.val (ih _ _ hg.1) ?_
  rw [gIn]
  congr 1
  show(if(sStep l1.length em m p).1=true then true else more)=_
  cases (sStep l1.length em m p).1<;>rfl
theorem refFirst_l0_ev (l0:List ByteArray) (l1:List Tok) (a2 a3:Int) (l4:List Prod) (h:Small l4) (em:List Bool) (he:em.length=l0.length) (h1:l1.length≤1000) (hok:l4.all (okProd l0.length l1.length)=true):∀(n:Nat) (m:List (List Bool)),Sh l0.length l1.length m→cfs m≤n→Ev (fun k=>regletref13_first.l0 l0 l1 a2 a3 l4 k m em true) (gOut (sStep l1.length em) l4 n m)
 |n,m,hs,hn=>by
  obtain⟨g1,g2,g3⟩:=gIn_good (sStep_good em hok) false m hs
  have h5:=refFirst_l1_ev l0 l1 a2 a3 em he h1 l4 [] m false hs hok (by have:=h.1;simpa using this) h.2
  simp only [List.nil_append,List.length_nil,Int.natCast_zero] at h5
  refine Ev.step (fun k=>by rw [regletref13_first.l0]) (Ev.pos rfl (Ev.bind h5 ?_))
  cases hr:(gIn (sStep l1.length em) l4 false m).1 with
  |false=>
   refine Ev.step (fun k=>by rw [regletref13_first.l0]) (Ev.neg (by simp) (Ev.some ?_))
   cases n<;>simp [gOut,hr]
  |true=>
   have hlt:=(g3 hr).resolve_left (by simp)
   cases n with
   |zero=>omega
   |succ n=>
    refine Ev.val (refFirst_l0_ev l0 l1 a2 a3 l4 h em he h1 hok n _ g1 (by omega)) ?_
    rw [gOut,if_pos hr]
theorem refFirst_ev (l0:List ByteArray) (l1:List Tok) (a2 a3:Int) (l4:List Prod) (h:Small l4) (h0:l0.length≤1000000) (h1:l1.length≤1000) (hok:l4.all (okProd l0.length l1.length)=true):Ev (fun k=>regletref13_first.f k l0 l1 a2 a3 l4) (fst l0.length l1.length (clo false l0.length l4) l4):=by
 refine Ev.congr (fun k=>by rw [regletref13_first.f]) (Ev.bind (marks_ev l0 l1 a2 a3 l4 h0 (by omega)) (Ev.bind (Ev.val (refEmpty_ev l0 l1 a2 a3 l4 h h0) (if_pos hok)) ?_))
 exact refFirst_l0_ev l0 l1 a2 a3 l4 h _ (clo_length l0.length l1.length false hok) h1 hok _ _ (rows0_sh l0.length l1.length) (Nat.le_refl _)
def fAdd (nt:Nat) (em:List Bool) (first:List (List Bool)) (left:Nat) (ys:List Sym) (out:List (List Bool)):List Bool:=
 if(bg em first ys (none0 nt)).2=true then orL (bg em first ys (none0 nt)).1 (out.getD left []) else(bg em first ys (none0 nt)).1
def fIn (nt:Nat) (em:List Bool) (first:List (List Bool)) (left:Nat):List Sym→Bool→List (List Bool)→Bool×List (List Bool)
 | [],g,out=>(g,out)
 |y::ys,g,out=>if y.f0=true then fIn nt em first left ys g out else
  fIn nt em first left ys (moreL (out.getD y.f1.toNat []) (fAdd nt em first left ys out)||g) (out.set y.f1.toNat (orL (out.getD y.f1.toNat []) (fAdd nt em first left ys out)))
def fStep (nt:Nat) (em:List Bool) (first:List (List Bool)) (out:List (List Bool)) (p:Prod):Bool×List (List Bool):=fIn nt em first p.f0.toNat p.f1 false out
theorem fAdd_length {nn nt:Nat}(em:List Bool) {first out:List (List Bool)}(hf:Sh nn nt first) (hs:Sh nn nt out) {left:Nat}(hl:left<nn) {ys:List Sym}(hok:ys.all (okSym nn nt)=true):(fAdd nt em first left ys out).length=nt+1:=by
 have hb:=bg_length em hf ys _ hok (none0_length nt)
 unfold fAdd
 split
 ·rw [orL_length (by rw [hb,hs.get hl]),hb]
 ·exact hb
theorem fIn_good {nn nt:Nat}(em:List Bool) {first:List (List Bool)}(hf:Sh nn nt first) {left:Nat}(hl:left<nn):∀(ys:List Sym) (g:Bool) (out:List (List Bool)),ys.all (okSym nn nt)=true→Sh nn nt out→Sh nn nt (fIn nt em first left ys g out).2∧cfs (fIn nt em first left ys g out).2≤cfs out∧((fIn nt em first left ys g out).1=true→g=true∨cfs (fIn nt em first left ys g out).2<cfs out)
 | [],g,out,_,hs=>⟨hs,Nat.le_refl _,fun h=> .inl h⟩
 |y::ys,g,out,hok,hs=>by
  simp only [List.all_cons,Bool.and_eq_true] at hok
  unfold fIn
  cases hy:y.f0 with
  |true=>rw [if_pos rfl];exact fIn_good em hf hl ys g out hok.2 hs
  |false=>
   rw [if_neg (by simp)]
   have hb:=okSym_rule hok.1 hy
   obtain⟨h1,h2,h3⟩:=row_step hs (i:=y.f1.toNat) (by omega) (fAdd_length em hf hs hl hok.2)
   obtain⟨h4,h5,h6⟩:=fIn_good em hf hl ys (moreL (out.getD y.f1.toNat []) (fAdd nt em first left ys out)||g) _ hok.2 h1
   refine⟨h4,Nat.le_trans h5 h2,fun h=>?_⟩
   rcases h6 h with h7|h7
   ·rcases(Bool.or_eq_true _ _).mp h7 with h8|h8
    ·exact .inr (Nat.lt_of_le_of_lt h5 (h3 h8))
    ·exact .inl h8
   ·exact .inr (Nat.lt_of_lt_of_le h7 h2)
theorem fStep_good {nn nt:Nat}(em:List Bool) {first:List (List Bool)}(hf:Sh nn nt first) {ps:List Prod}(hps:ps.all (okProd nn nt)=true):Good (Sh nn nt) cfs (fStep nt em first) ps:=by
 intro st p hI hp
 have hok:=List.all_eq_true.1 hps p hp
 have hl:=okProd_left hok
 obtain⟨h1,h2,h3⟩:=fIn_good em hf (left:=p.f0.toNat) (by omega) p.f1 false st (okProd_right hok) hI
 exact⟨h1,h2,fun h=>(h3 h).resolve_left (by simp)⟩
def fol0 (nn nt:Nat):List (List Bool):=if 0<nn then(rows0 nn nt).set 0 ((none0 nt).set nt true) else []
theorem fol0_sh (nn nt:Nat):Sh nn nt (fol0 nn nt):=by
 unfold fol0
 split
 ·exact(rows0_sh nn nt).set 0 (by simp [none0_length])
 ·obtain rfl:nn=0:=by omega
  exact⟨rfl,fun r hr=>by simp at hr⟩
def fol (nn nt:Nat) (em:List Bool) (first:List (List Bool)) (ps:List Prod):List (List Bool):=gOut (fStep nt em first) ps (cfs (fol0 nn nt)) (fol0 nn nt)
theorem fol_sh {nn nt:Nat}(em:List Bool) {first:List (List Bool)}(hf:Sh nn nt first) {ps:List Prod}(hps:ps.all (okProd nn nt)=true):Sh nn nt (fol nn nt em first ps):=
 gOut_I (fStep_good em hf hps) _ _ (fol0_sh nn nt)
theorem refFollowIn_ev (l0:List ByteArray) (l1:List Tok) (a2 a3:Int) (l4:List Prod) {em:List Bool}(he:em.length=l0.length) (hnt:l1.length≤1000) {first:List (List Bool)}(hf:Sh l0.length l1.length first) {left:Int}(hl0:0≤left) (hl1:left<(l0.length:Int)):∀(ys:List Sym) (g:Bool) (out:List (List Bool)),ys.all (okSym l0.length l1.length)=true→ys.length≤1000000→Sh l0.length l1.length out→Ev (fun k=>rFollowIn k l0 l1 a2 a3 l4 first em left ys g out) (fIn l1.length em first left.toNat ys g out)
 | [],g,out,_,_,hs=>Ev.congr (fun k=>by rw [rFollowIn]) (Ev.some (by rw [fIn]))
 |y::ys,g,out,hok,h3,hs=>by
  simp only [List.all_cons,Bool.and_eq_true] at hok
  simp only [List.length_cons] at h3
  refine Ev.congr (fun k=>by rw [rFollowIn]) ?_
  unfold fIn
  cases hy:y.f0 with
  |true=>rw [if_pos rfl];exact Ev.pos rfl (refFollowIn_ev l0 l1 a2 a3 l4 he hnt hf hl0 hl1 ys g out hok.2 (by omega) hs)
  |false=>
   rw [if_neg (by simp)]
   have hb:=okSym_rule hok.1 hy
   have hbl:=bg_length em hf ys _ hok.2 (none0_length l1.length)
   have hn:y.f1.toNat<l0.length:=by omega
   have hrow:=hs.get hn
   have hs1:=hs.1
   have hfl:=fAdd_length em hf hs (left:=left.toNat) (by omega) hok.2
   obtain⟨h1a,_,_⟩:=row_step hs hn hfl
   have hlr:=hs.get (i:=left.toNat) (by omega)
   refine Ev.neg (by simp) (Ev.bind (refBegins_ev l0 l1 a2 a3 l4 hf he hnt ys hok.2 (by omega)) ?_)
   refine Ev.bind (a:=fAdd l1.length em first left.toNat ys out) ?_ ?_
   ·refine Ev.congr (fun k=>by rw [rJoinFrom]) ?_
    unfold fAdd
    cases hem:(bg em first ys (none0 l1.length)).2 with
    |false=>exact Ev.neg (by simp) (Ev.some (by simp))
    |true=>
     refine Ev.pos rfl (Ev.pos hl0 (Ev.pos (by omega) ?_))
     exact Ev.bind (join_ev _ _ (by rw [hbl,hlr]) (by omega)) (Ev.some (by simp))
   ·refine Ev.bind (a:=(moreL (out.getD y.f1.toNat []) (fAdd l1.length em first left.toNat ys out),out.set y.f1.toNat (orL (out.getD y.f1.toNat []) (fAdd l1.length em first left.toNat ys out)))) ?_ ?_
    ·refine Ev.congr (fun k=>by rw [rJoinRow]) (Ev.pos hb.1 (Ev.pos (by omega) ?_))
     exact Ev.bind (join_ev _ _ (by rw [hrow,hfl]) (by omega)) (Ev.some rfl)
    ·refine Ev.val (refFollowIn_ev l0 l1 a2 a3 l4 he hnt hf hl0 hl1 ys _ _ hok.2 (by omega) h1a) ?_
     congr 1
     cases moreL (out.getD y.f1.toNat []) (fAdd l1.length em first left.toNat ys out)<;>rfl
theorem fIn_more (nt:Nat) (em:List Bool) (first:List (List Bool)) (left:Nat):∀(ys:List Sym) (g:Bool) (out:List (List Bool)),fIn nt em first left ys g out=((fIn nt em first left ys false out).1||g,(fIn nt em first left ys false out).2)
 | [],g,out=>by simp [fIn]
 |y::ys,g,out=>by
  unfold fIn
  split
  ·exact fIn_more nt em first left ys g out
  ·rw [fIn_more nt em first left ys (_||g),fIn_more nt em first left ys (_||false)]
   simp [Bool.or_assoc]
theorem refFollowPs_ev (l0:List ByteArray) (l1:List Tok) (a2 a3:Int) (l4:List Prod) {em:List Bool}(he:em.length=l0.length) (hnt:l1.length≤1000) {first:List (List Bool)}(hf:Sh l0.length l1.length first):∀(qs:List Prod) (g:Bool) (out:List (List Bool)),qs.all (okProd l0.length l1.length)=true→(∀p∈qs,p.f1.length≤1000000)→Sh l0.length l1.length out→Ev (fun k=>rFollowPs k l0 l1 a2 a3 l4 first em qs g out) (gIn (fStep l1.length em first) qs g out)
 | [],g,out,_,_,hs=>Ev.congr (fun k=>by rw [rFollowPs]) (Ev.some (by rw [gIn]))
 |p::qs,g,out,hok,h3,hs=>by
  simp only [List.all_cons,Bool.and_eq_true] at hok
  have hl:=okProd_left hok.1
  have hg:=fIn_good em hf (left:=p.f0.toNat) (by omega) p.f1 g out (okProd_right hok.1) hs
  refine Ev.congr (fun k=>by rw [rFollowPs]) (Ev.bind (refFollowIn_ev l0 l1 a2 a3 l4 he hnt hf hl.1 hl.2 p.f1 g out (okProd_right hok.1) (h3 p List.mem_cons_self) hs) ?_)
  refine Ev.val (refFollowPs_ev l0 l1 a2 a3 l4 he hnt hf qs _ _ hok.2 (fun p hp=>h3 p (List.mem_cons_of_mem _ hp)) hg.1) ?_
  rw [gIn,fStep,fIn_more]
theorem refFollowOut_ev (l0:List ByteArray) (l1:List Tok) (a2 a3:Int) (l4:List Prod) (h:Small l4) {em:List Bool}(he:em.length=l0.length) (hnt:l1.length≤1000) {first:List (List Bool)}(hf:Sh l0.length l1.length first) (hok:l4.all (okProd l0.length l1.length)=true):∀(n:Nat) (out:List (List Bool)),Sh l0.length l1.length out→cfs out≤n→∃K,∀kk,K≤kk→∀k,K≤k→rFollowOut kk l0 l1 a2 a3 l4 first em k out true=some (gOut (fStep l1.length em first) l4 n out)
 |n,out,hs,hn=>by
  obtain⟨g1,g2,g3⟩:=gIn_good (fStep_good em hf hok) false out hs
  obtain⟨K1,hK1⟩:=refFollowPs_ev l0 l1 a2 a3 l4 he hnt hf l4 false out hok h.2 hs
  have hK1':∀k,K1≤k→rFollowPs k l0 l1 a2 a3 l4 first em l4 false out=some (gIn (fStep l1.length em first) l4 false out):=hK1
  cases hr:(gIn (fStep l1.length em first) l4 false out).1 with
  |false=>
   refine⟨K1+2,fun kk hkk k hk=>?_⟩
   obtain⟨k',rfl⟩:∃k',k=k'+2:=⟨k - 2,by omega⟩
   rw [rFollowOut,if_pos rfl,hK1' kk (by omega)]
   simp only [Option.bind_some,hr]
   rw [rFollowOut,if_neg (by simp)]
   cases n<;>simp [gOut,hr]
  |true=>
   have hlt:=(g3 hr).resolve_left (by simp)
   cases n with
   |zero=>omega
   |succ n=>
    obtain⟨K2,hK2⟩:=refFollowOut_ev l0 l1 a2 a3 l4 h he hnt hf hok n _ g1 (by omega)
    refine⟨max K1 K2+1,fun kk hkk k hk=>?_⟩
    obtain⟨k',rfl⟩:∃k',k=k'+1:=⟨k - 1,by omega⟩
    rw [rFollowOut,if_pos rfl,hK1' kk (by omega)]
    simp only [Option.bind_some,hr]
    rw [hK2 kk (by omega) k' (by omega),gOut,if_pos hr]
theorem Sh.small {nn nt:Nat}{m:List (List Bool)}(h:Sh nn nt m) (h1:nt≤1000):∀r∈m,r.length≤1000000:=fun r hr=>by rw [h.2 r hr];omega
section
variable (l0:List ByteArray) (l1:List Tok) (a2 a3:Int) (l4:List Prod)
def dFollow (nn nt:Nat) (ps:List Prod):List (List Int):=if ps.all (okProd nn nt)=true then idxs (fol nn nt (clo false nn ps) (fst nn nt (clo false nn ps) ps) ps) else []
def dOf (nn nt:Nat) (ps:List Prod) (l:List Sym):List Int×Bool:=if ps.all (okProd nn nt)=true∧nn≠0∧l.all (okSym nn nt)=true then
 (idx 0 (bg (clo false nn ps) (fst nn nt (clo false nn ps) ps) l (none0 nt)).1,(bg (clo false nn ps) (fst nn nt (clo false nn ps) ps) l (none0 nt)).2) else([],false)
variable (h:Small l4) (h0:l0.length≤1000000) (h1:l1.length≤1000)
include h h0 h1
theorem refFollow_ev:Ev (fun k=>regletref13_Follow.f k l0 l1 a2 a3 l4) (dFollow l0.length l1.length l4):=by
 refine Ev.congr (fun k=>by rw [regletref13_Follow.f,if_pos ⟨by have:=h.1;omega,by rw [List.all_eq_true];intro p hp;have:=h.2 p hp;exact decide_eq_true (by omega)⟩]) (Ev.bind (refRight_ev l0 l1 a2 a3 l4 h) ?_)
 unfold dFollow
 cases hr:l4.all (okProd l0.length l1.length) with
 |false=>exact Ev.neg (by simp) (Ev.some (by simp))
 |true=>
  have hs:=fst_sh l0.length l1.length (clo false l0.length l4) hr
  have hs2:=fol_sh (clo false l0.length l4) hs hr
  have he:=clo_length l0.length l1.length false hr
  rw [if_pos rfl]
  refine Ev.pos rfl (Ev.bind (marks_ev l0 l1 a2 a3 l4 h0 (by omega)) (Ev.bind (refFirst_ev l0 l1 a2 a3 l4 h h0 h1 hr) (Ev.bind (Ev.val (refEmpty_ev l0 l1 a2 a3 l4 h h0) (if_pos hr)) (Ev.bind (a:=fol0 l0.length l1.length) ?_ (Ev.bind (a:=fol l0.length l1.length (clo false l0.length l4) (fst l0.length l1.length (clo false l0.length l4) l4) l4) ?_ (lists_ev _ (by have:=hs2.1;exact Nat.le_trans (Nat.le_of_eq this) h0) (hs2.small h1)))))))
  ·refine Ev.some' ?_
   unfold rFollow0 fol0
   by_cases hn:0<l0.length
   rotate_left
   ·rw [if_neg (by rw [(rows0_sh _ _).1];exact hn),if_neg hn]
    have:l0.length=0:=by omega
    rw [this];rfl
   have hrow:(rows0 l0.length l1.length).getD 0 []=none0 l1.length:=by
    obtain⟨n,hn'⟩:∃n,l0.length=n+1:=⟨l0.length - 1,by omega⟩
    rw [hn',rows0,List.replicate_succ];rfl
   rw [if_pos (by rw [(rows0_sh _ _).1];exact hn),hrow,if_pos (by rw [none0_length];omega),if_pos hn]
  ·obtain⟨K,hK⟩:=refFollowOut_ev l0 l1 a2 a3 l4 h he h1 hs hr (cfs (fol0 l0.length l1.length)) (fol0 l0.length l1.length) (fol0_sh _ _) (Nat.le_refl _)
   exact⟨K,fun k hk=>hK k hk k hk⟩
theorem refOf_ev (l:List Sym) (hl:l.length≤1000000):Ev (fun k=>regletref13_Of.f k l0 l1 a2 a3 l4 l) (dOf l0.length l1.length l4 l):=by
 refine Ev.congr (fun k=>by rw [regletref13_Of.f]) (Ev.bind (refRight_ev l0 l1 a2 a3 l4 h) ?_)
 unfold dOf
 cases hr:l4.all (okProd l0.length l1.length) with
 |false=>exact Ev.neg (by simp) (Ev.some (by simp))
 |true=>
  refine Ev.pos rfl ?_
  by_cases hn:(l0.length:Int)=0
  ·exact Ev.pos hn (Ev.some (if_neg (fun hc=>hc.2.1 (Int.ofNat_eq_zero.1 hn))).symm)
  refine Ev.neg hn (Ev.bind (Ev.val (refRight_ev l0 l1 a2 a3 [⟨0,l⟩] ⟨by simp,by simpa using hl⟩) (s:=l.all (okSym l0.length l1.length)) ?_) ?_)
  ·simp [okProd];intro _;omega
  cases hs:l.all (okSym l0.length l1.length) with
  |false=>exact Ev.neg (by simp) (Ev.some (by simp))
  |true=>
   have hsh:=fst_sh l0.length l1.length (clo false l0.length l4) hr
   have hb:=bg_length (clo false l0.length l4) hsh l _ hs (none0_length l1.length)
   refine Ev.pos rfl (Ev.bind (refFirst_ev l0 l1 a2 a3 l4 h h0 h1 hr) (Ev.bind (Ev.val (refEmpty_ev l0 l1 a2 a3 l4 h h0) (if_pos hr)) ?_))
   refine Ev.bind (refBegins_ev l0 l1 a2 a3 l4 hsh (clo_length l0.length l1.length false hr) h1 l hs hl) (Ev.bind (list_ev _ (by rw [hb];omega)) (Ev.some ?_))
   have hc:true=true∧l0.length≠0∧true=true:=⟨rfl,by omega,rfl⟩
   rw [if_pos hc]
end
end Go.Proofs.Ytapjfnfengefpaa.M
end

section
namespace Go.Proofs.Ytapjfnfengefpaa.P
open Go.RowKit Go.Proofs.YtapjfnfengefpaaW.PrintWords Go.Proofs.YtapjfnfengefpaaW.PrintLast Go.Proofs.YtapjfnfengefpaaW.PrintMore Go.Proofs.Ytapjfnfengefpaa.R
set_option linter.unusedVariables false
set_option linter.unusedSimpArgs false
def prStep (b:List (List Bool)) (r look i:Nat) (p:S35) (st:Int×List (S78)):Int×List (S78):=
 if p.f0=(r:Int)∧(b.getD i []).getD look false=true then(if st.1<0 then((i:Int),st.2) else(st.1,st.2++ [⟨(r:Int),(look:Int),st.1,(i:Int)⟩])) else st
def prIn (b:List (List Bool)) (r look:Nat):Nat→List (S35)→Int×List (S78)→Int×List (S78)
 |_,[],st=>st
 |i,p::ps,st=>prIn b r look (i+1) ps (prStep b r look i p st)
theorem prStep_le (b:List (List Bool)) (r look i:Nat) (p:S35) (st:Int×List (S78)):st.2.length≤(prStep b r look i p st).2.length:=by
 unfold prStep;split
 ·split<;>simp
 ·exact Nat.le_refl _
theorem prIn_le (b:List (List Bool)) (r look:Nat):∀(ps:List (S35)) (i:Nat) (st:Int×List (S78)),st.2.length≤(prIn b r look i ps st).2.length
 | [],_,_=>Nat.le_refl _
 |p::ps,i,st=>Nat.le_trans (prStep_le b r look i p st) (prIn_le b r look ps (i+1) _)
theorem get_set {α:Type}{l:List α}{i:Nat}(x d:α) (h:i<l.length):(l.set i x).getD i d=x:=by
 rw [List.getD_eq_getElem?_getD,List.getElem?_set_self h];rfl
end Go.Proofs.Ytapjfnfengefpaa.P
end

section
namespace Go.Proofs.Ytapjfnfengefpaa.M
open Go.RowKit Go.Proofs.YtapjfnfengefpaaW.PrintWords Go.Proofs.YtapjfnfengefpaaW.PrintLast Go.Proofs.YtapjfnfengefpaaW.PrintMore Go.Proofs.Ytapjfnfengefpaa.P Go.Proofs.Ytapjfnfengefpaa.H
set_option linter.unusedVariables false
set_option linter.unusedSimpArgs false
abbrev Clash:=S78
def markOn (l:List Int) (row:List Bool):List Bool:=l.foldl (fun row t=>row.set t.toNat true) row
theorem markOn_getD:∀(l:List Int) (row:List Bool),(∀t∈l,0≤t∧t.toNat<row.length)→∀look:Nat,(markOn l row).getD look false=(row.getD look false||decide ((look:Int)∈l))
 | [],_,_,_=>by simp [markOn]
 |t::l,row,h,look=>by
  obtain⟨h0,h1⟩:=h t List.mem_cons_self
  rw [markOn,List.foldl_cons,←markOn,markOn_getD l _ (fun x hx=>by rw [List.length_set];exact h x (List.mem_cons_of_mem _ hx)) look]
  by_cases he:t.toNat=look
  ·subst he
   rw [get_set _ _ h1]
   have:((t.toNat:Nat):Int)=t:=by omega
   simp [this]
  ·rw [List.getD_eq_getElem?_getD,List.getElem?_set_ne he,←List.getD_eq_getElem?_getD]
   have:¬(look:Int)=t:=by omega
   simp [this]
theorem idx_range:∀(a:List Bool) (n:Nat),∀x∈idx n a,(n:Int)≤x∧x<((n+a.length:Nat):Int)
 | [],_,x,hx=>by simp [idx] at hx
 |b::a,n,x,hx=>by
  have ih:=idx_range a (n+1)
  unfold idx at hx
  split at hx
  ·rcases List.mem_cons.1 hx with rfl|h
   ·simp;omega
   ·have:=ih x h;simp at this ⊢;omega
  ·have:=ih x hx;simp at this ⊢;omega
section
variable (l0:List ByteArray) (l1:List Tok) (a2 a3:Int) (l4:List Prod)
def sel (nn nt:Nat) (ps:List Prod) (p:Prod):List Int:=(dOf nn nt ps p.f1).1++(if(dOf nn nt ps p.f1).2=true then(dFollow nn nt ps).getD p.f0.toNat [] else [])
def chRow (nn nt:Nat) (ps:List Prod) (p:Prod):List Bool:=markOn (sel nn nt ps p) (none0 nt)
theorem of_range {nn nt:Nat}{ps:List Prod}(hps:ps.all (okProd nn nt)=true) (l:List Sym):(dOf nn nt ps l).1.length≤nt+1∧∀x∈(dOf nn nt ps l).1,0≤x∧x<((nt+1:Nat):Int):=by
 unfold dOf
 split
 ·rename_i hc
  have hb:=bg_length (clo false nn ps) (fst_sh nn nt (clo false nn ps) hps) l _ hc.2.2 (none0_length nt)
  refine⟨by have:=idx_length 0 (bg (clo false nn ps) (fst nn nt (clo false nn ps) ps) l (none0 nt)).1;simp only;omega,fun x hx=>?_⟩
  have:=idx_range _ 0 x hx
  rw [hb] at this
  simpa using this
 ·simp
theorem follow_range {nn nt:Nat}{ps:List Prod}(hps:ps.all (okProd nn nt)=true):(dFollow nn nt ps).length=nn∧∀i,((dFollow nn nt ps).getD i []).length≤nt+1∧∀x∈(dFollow nn nt ps).getD i [],0≤x∧x<((nt+1:Nat):Int):=by
 unfold dFollow
 rw [if_pos hps]
 have hs:=fol_sh (clo false nn ps) (fst_sh nn nt (clo false nn ps) hps) hps
 refine⟨by rw [idxs,List.length_map,hs.1],fun i=>?_⟩
 by_cases hi:i<nn
 rotate_left
 ·rw [List.getD_eq_getElem?_getD,List.getElem?_eq_none (by rw [idxs,List.length_map,hs.1];omega)]
  simp
 have e:(idxs (fol nn nt (clo false nn ps) (fst nn nt (clo false nn ps) ps) ps)).getD i []=idx 0 ((fol nn nt (clo false nn ps) (fst nn nt (clo false nn ps) ps) ps).getD i []):=by
  have hlt:i<(fol nn nt (clo false nn ps) (fst nn nt (clo false nn ps) ps) ps).length:=by rw [hs.1];exact hi
  rw [idxs,List.getD_eq_getElem?_getD,List.getElem?_map,List.getD_eq_getElem?_getD,List.getElem?_eq_getElem hlt];rfl
 rw [e]
 have hl:=hs.get hi
 refine⟨by have:=idx_length 0 ((fol nn nt (clo false nn ps) (fst nn nt (clo false nn ps) ps) ps).getD i []);omega,fun x hx=>?_⟩
 have:=idx_range _ 0 x hx
 rw [hl] at this
 simpa using this
theorem sel_range {nn nt:Nat}{ps:List Prod}(hps:ps.all (okProd nn nt)=true) (p:Prod):(sel nn nt ps p).length≤2 * (nt+1)∧∀x∈sel nn nt ps p,0≤x∧x<((nt+1:Nat):Int):=by
 have h1:=of_range hps p.f1
 have h2:=(follow_range hps).2 p.f0.toNat
 unfold sel
 refine⟨?_,fun x hx=>?_⟩
 ·rw [List.length_append]
  split
  ·omega
  ·simp;omega
 ·rcases List.mem_append.1 hx with h|h
  ·exact h1.2 x h
  ·split at h
   ·exact h2.2 x h
   ·simp at h
theorem chRow_getD {nn nt:Nat}{ps:List Prod}(hps:ps.all (okProd nn nt)=true) (p:Prod) (look:Nat):(chRow nn nt ps p).getD look false=decide ((look:Int)∈sel nn nt ps p):=by
 rw [chRow,markOn_getD _ _ (fun t ht=>by have:=(sel_range hps p).2 t ht;rw [none0_length];omega)]
 simp [none0,List.getElem?_replicate]
 intro h
 by_cases hl:look<nt+1
 rotate_left
 ·rw [if_neg hl] at h;simp at h
 rw [if_pos hl] at h;simp at h
variable {l0 l1 a2 a3 l4}
end
theorem has14_l0_ev (n:Int):∀(a pre:List Int),pre.length+a.length≤1000000→Ev (fun k=>regletref14_has.l0 k (pre++a) n (pre.length:Int)) (decide (n∈a))
 | [],pre,_=>Ev.step (fun k=>by rw [regletref14_has.l0]) (Ev.neg (by simp) (Ev.some (by simp)))
 |x::a,pre,h3=>by
  simp only [List.length_cons] at h3
  have ih:=has14_l0_ev n a (pre++ [x]) (by simp;omega)
  simp only [←wrap_next pre _ (show pre.length≤1000000 by omega),List.append_assoc,List.singleton_append] at ih
  refine Ev.step (fun k=>by rw [regletref14_has.l0]) (Ev.pos (by simp;omega) (Ev.pos (by omega) ?_))
  rw [show rd (pre++x::a) (pre.length:Int)=x from getD_mid _ pre x a _ rfl]
  by_cases h:x=n
  ·exact Ev.pos h (Ev.some (by simp [h]))
  ·exact Ev.neg h (Ev.val ih (by simp [Ne.symm h]))
theorem has14_ev (a:List Int) (n:Int) (h:a.length≤1000000):Ev (fun k=>regletref14_has.f k a n) (decide (n∈a)):=
 Ev.congr (fun k=>by rw [regletref14_has.f]) (by simpa using has14_l0_ev n a [] (by simpa using h))
def pRow (b:List (List Bool)) (ps:List Prod) (r:Nat):Nat→Nat→List Clash→List Int×List Clash
 |0,_,bad=>([],bad)
 |n+1,look,bad=>((prIn b r look 0 ps (-1,bad)).1::(pRow b ps r n (look+1) (prIn b r look 0 ps (-1,bad)).2).1,(pRow b ps r n (look+1) (prIn b r look 0 ps (-1,bad)).2).2)
def pAll (b:List (List Bool)) (ps:List Prod) (w:Nat):Nat→Nat→List Clash→List (List Int)×List Clash
 |0,_,bad=>([],bad)
 |n+1,r,bad=>((pRow b ps r w 0 bad).1::(pAll b ps w n (r+1) (pRow b ps r w 0 bad).2).1,(pAll b ps w n (r+1) (pRow b ps r w 0 bad).2).2)
theorem prIn_max (b:List (List Bool)) (r look:Nat):∀(ps:List Prod) (i:Nat) (st:Int×List Clash),(prIn b r look i ps st).2.length≤st.2.length+ps.length
 | [],_,_=>Nat.le_refl _
 |p::ps,i,st=>by
  have:=prIn_max b r look ps (i+1) (prStep b r look i p st)
  have:(prStep b r look i p st).2.length≤st.2.length+1:=by
   unfold prStep;split
   ·split<;>simp
   ·simp
  rw [prIn,List.length_cons];omega
theorem pRow_max (b:List (List Bool)) (ps:List Prod) (r:Nat):∀(n look:Nat) (bad:List Clash),(pRow b ps r n look bad).1.length=n∧(pRow b ps r n look bad).2.length≤bad.length+n * ps.length
 |0,_,_=>by simp [pRow]
 |n+1,look,bad=>by
  have h1:=pRow_max b ps r n (look+1) (prIn b r look 0 ps (-1,bad)).2
  have h2:=prIn_max b r look ps 0 (-1,bad)
  rw [pRow,Nat.succ_mul]
  simp only [List.length_cons] at h2 ⊢
  exact⟨by rw [h1.1],by omega⟩
theorem pAll_max (b:List (List Bool)) (ps:List Prod) (w:Nat):∀(n r:Nat) (bad:List Clash),(pAll b ps w n r bad).1.length=n∧(∀x∈(pAll b ps w n r bad).1,x.length=w)∧(pAll b ps w n r bad).2.length≤bad.length+n * (w * ps.length)
 |0,_,_=>by simp [pAll]
 |n+1,r,bad=>by
  have h1:=pAll_max b ps w n (r+1) (pRow b ps r w 0 bad).2
  have h2:=pRow_max b ps r w 0 bad
  rw [pAll,Nat.succ_mul]
  refine⟨by simp only [List.length_cons];rw [h1.1],fun x hx=>?_,by simp only;omega⟩
  rcases List.mem_cons.1 hx with rfl|h
  ·exact h2.1
  ·exact h1.2.1 x h
section
variable {l0:List ByteArray}{l1:List Tok}{a2 a3:Int}{l4:List Prod}{b:List (List Bool)}{all:List (List Int)}
theorem ref_l3_ev (h:Small l4) (hb:∀(i look:Nat),i<l4.length→(b.getD i []).getD look false=decide ((look:Int)∈all.getD i [])) (ha:all.length=l4.length) (hs:∀i,(all.getD i []).length≤1000000) (r look:Nat) {x9:List (List Int)}{x12:List Int}(h12:x12.length≤1000000) {R:List (List Int)×List Clash}:∀(qs pre:List Prod) (st:Int×List Clash),pre++qs=l4→st.2.length+qs.length≤1000000→
 Ev (fun k=>regletref14_Predict.l2 k all x9 (prIn b r look pre.length qs st).2 (r:Int) (x12++ [(prIn b r look pre.length qs st).1]) (wrap64 ((look:Int)+1)) l0 l1 a2 a3 l4) R→Ev (fun k=>regletref14_Predict.l3 k all x9 st.2 (r:Int) x12 (look:Int) st.1 (pre.length:Int) l0 l1 a2 a3 l4) R
 | [],pre,st,e,_,hk=>by
  have hz:¬(pre.length:Int)<(l4.length:Int):=by rw [←e];simp
  refine Ev.step (fun k=>by rw [regletref14_Predict.l3]) (Ev.neg hz (Ev.pos (by omega) ?_))
  exact hk
 |p::qs,pre,st,e,hm,hk=>by
  have hlen:l4.length=pre.length+(qs.length+1):=by rw [←e];simp
  have hp0:pre.length≤1000000:=by have:=h.1;omega
  simp only [List.length_cons] at hm
  have hrd:rd_T35 l4 (pre.length:Int)=p:=by rw [←e];exact getD_mid _ pre p qs _ rfl
  have hst:(prStep b r look pre.length p st).2.length≤st.2.length+1:=by
   unfold prStep;split
   ·split<;>simp
   ·simp
  have ih:=ref_l3_ev h hb ha hs r look (x9:=x9) h12 (R:=R) qs (pre++ [p]) (prStep b r look pre.length p st) (by rw [←e];simp) (by omega) (by rw [List.length_append,List.length_singleton];exact hk)
  rw [←wrap_next pre _ hp0] at ih
  refine Ev.step (fun k=>by rw [regletref14_Predict.l3]) (Ev.pos (by omega) (Ev.pos (by omega) ?_))
  rw [hrd]
  by_cases hl:p.f0=(r:Int)
  ·refine Ev.pos hl (Ev.pos (by omega) ?_)
   rw [show rd_L5 all (pre.length:Int)=all.getD pre.length [] from by rw [rd_L5,Int.toNat_natCast]]
   refine Ev.bind (has14_ev _ _ (hs _)) (Ev.step (fun k=>by rw [regletref14_Predict.j4]) ?_)
   have hbb:=hb pre.length look (by omega)
   by_cases hh:(look:Int)∈all.getD pre.length []
   ·rw [decide_eq_true hh] at hbb ⊢
    refine Ev.neg (by simp) ?_
    by_cases hx:st.1<0
    ·refine Ev.pos hx ?_
     rw [prStep,if_pos ⟨hl,hbb⟩,if_pos hx] at ih
     exact ih
    ·refine Ev.neg hx (Ev.pos (by omega) ?_)
     rw [prStep,if_pos ⟨hl,hbb⟩,if_neg hx] at ih
     exact ih
   ·rw [decide_eq_false hh] at hbb ⊢
    refine Ev.pos (by simp) ?_
    rw [prStep,if_neg (by rw [hbb];simp)] at ih
    exact ih
  ·refine Ev.neg hl (Ev.step (fun k=>by rw [regletref14_Predict.j4]) (Ev.pos rfl ?_))
   rw [prStep,if_neg (fun hc=>hl hc.1)] at ih
   exact ih
theorem ref_l2_ev (h:Small l4) (h1:l1.length≤1000) (hb:∀(i look:Nat),i<l4.length→(b.getD i []).getD look false=decide ((look:Int)∈all.getD i [])) (ha:all.length=l4.length) (hs:∀i,(all.getD i []).length≤1000000) (r:Nat) {x9:List (List Int)}(h9:x9.length≤1000000) {R:List (List Int)×List Clash}:∀(n:Nat) (row:List Int) (bad:List Clash),row.length+n=l1.length+1→bad.length+n * l4.length≤900000→l4.length≤100000→
 Ev (fun k=>regletref14_Predict.l1 k all (x9++ [row++(pRow b l4 r n row.length bad).1]) (pRow b l4 r n row.length bad).2 (wrap64 ((r:Int)+1)) l0 l1 a2 a3 l4) R→Ev (fun k=>regletref14_Predict.l2 k all x9 bad (r:Int) row (row.length:Int) l0 l1 a2 a3 l4) R
 |0,row,bad,e,_,_,hk=>Ev.step (fun k=>by rw [regletref14_Predict.l2]) (Ev.neg (by omega) (Ev.pos (by omega) (by simpa [pRow] using hk)))
 |n+1,row,bad,e,hm,h4,hk=>by
  rw [Nat.succ_mul] at hm
  have hx:=prIn_max b r row.length l4 0 (-1,bad)
  simp only at hx
  have ih:=ref_l2_ev h h1 hb ha hs r (x9:=x9) h9 (R:=R) n (row++ [(prIn b r row.length 0 l4 (-1,bad)).1]) (prIn b r row.length 0 l4 (-1,bad)).2 (by simp;omega) (by omega) h4 (by
   rw [List.length_append,List.length_singleton,List.append_assoc]
   exact hk)
  rw [←wrap_next row _ (by omega)] at ih
  refine Ev.step (fun k=>by rw [regletref14_Predict.l2]) (Ev.pos (by omega) ?_)
  have h3:=ref_l3_ev (l0:=l0) (l1:=l1) (a2:=a2) (a3:=a3) (l4:=l4) (b:=b) (all:=all) h hb ha hs r row.length (x9:=x9) (x12:=row) (by omega) (R:=R) l4 [] (-1,bad) rfl (by simp only;omega) ih
  exact h3
theorem ref_l1_ev (h:Small l4) (h0:l0.length≤1000) (h1:l1.length≤1000) (hb:∀(i look:Nat),i<l4.length→(b.getD i []).getD look false=decide ((look:Int)∈all.getD i [])) (ha:all.length=l4.length) (hs:∀i,(all.getD i []).length≤1000000):∀(n:Nat) (out:List (List Int)) (bad:List Clash),out.length+n=l0.length→bad.length+n * ((l1.length+1) * l4.length)≤900000→l4.length≤100000→
 Ev (fun k=>regletref14_Predict.l1 k all out bad (out.length:Int) l0 l1 a2 a3 l4) (out++(pAll b l4 (l1.length+1) n out.length bad).1,(pAll b l4 (l1.length+1) n out.length bad).2)
 |0,out,bad,e,_,_=>Ev.step (fun k=>by rw [regletref14_Predict.l1]) (Ev.neg (by omega) (Ev.some (by simp [pAll])))
 |n+1,out,bad,e,hm,h4=>by
  rw [Nat.succ_mul] at hm
  have hx:=pRow_max b l4 out.length (l1.length+1) 0 bad
  have ih:=ref_l1_ev h h0 h1 hb ha hs n (out++ [(pRow b l4 out.length (l1.length+1) 0 bad).1]) (pRow b l4 out.length (l1.length+1) 0 bad).2 (by simp;omega) (by omega) h4
  rw [←wrap_next out _ (by omega)] at ih
  refine Ev.step (fun k=>by rw [regletref14_Predict.l1]) (Ev.pos (by omega) ?_)
  have h2:=ref_l2_ev (l0:=l0) (a2:=a2) (a3:=a3) h h1 hb ha hs out.length (x9:=out) (by omega) (R:=(out++(pAll b l4 (l1.length+1) (n+1) out.length bad).1,(pAll b l4 (l1.length+1) (n+1) out.length bad).2)) (l1.length+1) [] bad (by simp) (by omega) h4 (by
   refine Ev.val ih ?_
   rw [List.length_append,List.length_singleton,List.append_assoc]
   rfl)
  exact h2
theorem ref_l0_ev (h:Small l4) (h0:l0.length≤1000) (h1:l1.length≤1000) (hok:l4.all (okProd l0.length l1.length)=true) {R:List (List Int)×List Clash}:∀(qs pre:List Prod),pre++qs=l4→
 Ev (fun k=>regletref14_Predict.l1 k (l4.map (sel l0.length l1.length l4)) [] [] 0 l0 l1 a2 a3 l4) R→Ev (fun k=>regletref14_Predict.l0 k (pre.map (sel l0.length l1.length l4)) (dFollow l0.length l1.length l4) (pre.length:Int) l0 l1 a2 a3 l4) R
 | [],pre,e,hk=>Ev.step (fun k=>by rw [regletref14_Predict.l0]) (Ev.neg (by rw [←e];simp) (by rw [←e] at hk ⊢;simpa using hk))
 |p::qs,pre,e,hk=>by
  have hlen:l4.length=pre.length+(qs.length+1):=by rw [←e];simp
  have hp0:pre.length≤1000000:=by have:=h.1;omega
  have hmem:p∈l4:=by rw [←e];simp
  have hokp:=List.all_eq_true.1 hok p hmem
  have hl:=okProd_left hokp
  have hrd:rd_T35 l4 (pre.length:Int)=p:=by rw [←e];exact getD_mid _ pre p qs _ rfl
  have ih:=ref_l0_ev h h0 h1 hok (R:=R) qs (pre++ [p]) (by rw [←e];simp) hk
  rw [←wrap_next pre _ hp0,List.map_append,List.map_cons,List.map_nil] at ih
  refine Ev.step (fun k=>by rw [regletref14_Predict.l0]) (Ev.pos (by omega) (Ev.pos (by omega) ?_))
  rw [hrd]
  refine Ev.bind (refOf_ev l0 l1 a2 a3 l4 h (by omega) h1 p.f1 (h.2 p hmem)) ?_
  have hfl:=follow_range hok
  have hsel:sel l0.length l1.length l4 p=(dOf l0.length l1.length l4 p.f1).1++(if(dOf l0.length l1.length l4 p.f1).2=true then(dFollow l0.length l1.length l4).getD p.f0.toNat [] else []):=rfl
  by_cases he:(dOf l0.length l1.length l4 p.f1).2=true
  ·refine Ev.pos he (Ev.pos hl.1 (Ev.pos (by rw [hfl.1];exact hl.2) (Ev.pos ?_ (Ev.pos (by simp;omega) ?_))))
   ·have h2:=(of_range hok p.f1).1
    have h4:(rd_L5 (dFollow l0.length l1.length l4) p.f0).length≤l1.length+1:=(hfl.2 p.f0.toNat).1
    omega
   ·rw [hsel,if_pos he] at ih
    exact ih
  ·refine Ev.neg he (Ev.pos (by simp;omega) ?_)
   rw [hsel,if_neg he,List.append_nil] at ih
   exact ih
end
section
variable (l0:List ByteArray) (l1:List Tok) (a2 a3:Int) (l4:List Prod)
def dPredict (nn nt:Nat) (ps:List Prod):List (List Int)×List Clash:=if ps.all (okProd nn nt)=true then pAll (ps.map (chRow nn nt ps)) ps (nt+1) nn 0 [] else([],[])
variable (h:Small l4) (h0:l0.length≤30) (h1:l1.length≤30) (h4:l4.length≤30)
include h h0 h1 h4
theorem refPredict_ev:Ev (fun k=>regletref14_Predict.f k l0 l1 a2 a3 l4) (dPredict l0.length l1.length l4):=by
 refine Ev.congr (fun k=>by rw [regletref14_Predict.f]) (Ev.bind (refRight_ev l0 l1 a2 a3 l4 h) ?_)
 unfold dPredict
 cases hr:l4.all (okProd l0.length l1.length) with
 |false=>exact Ev.neg (by simp) (Ev.some (by simp))
 |true=>
  refine Ev.pos rfl (Ev.bind (refFollow_ev l0 l1 a2 a3 l4 h (by omega) (by omega)) ?_)
  have hx:=ref_l1_ev (l0:=l0) (l1:=l1) (a2:=a2) (a3:=a3) (l4:=l4) (b:=l4.map (chRow l0.length l1.length l4)) (all:=l4.map (sel l0.length l1.length l4)) h (by omega) (by omega) (fun i look hi=>?_) (by simp) (fun i=>?_) l0.length [] [] (by simp) (by
   have h3:l0.length * ((l1.length+1) * l4.length)≤30 * (31 * 30):=Nat.mul_le_mul h0 (Nat.mul_le_mul (by omega) h4)
   simp only [List.length_nil];omega) (by omega)
  ·refine Ev.val (ref_l0_ev (a2:=a2) (a3:=a3) h (by omega) (by omega) hr l4 [] rfl hx) (by simp)
  ·have e1:(l4.map (chRow l0.length l1.length l4)).getD i []=chRow l0.length l1.length l4 l4[i]:=by rw [List.getD_eq_getElem?_getD,List.getElem?_map,List.getElem?_eq_getElem hi];rfl
   have e2:(l4.map (sel l0.length l1.length l4)).getD i []=sel l0.length l1.length l4 l4[i]:=by rw [List.getD_eq_getElem?_getD,List.getElem?_map,List.getElem?_eq_getElem hi];rfl
   rw [e1,e2]
   exact chRow_getD hr _ look
  ·by_cases hi:i<l4.length
   rotate_left
   ·rw [List.getD_eq_getElem?_getD,List.getElem?_map,List.getElem?_eq_none (by omega)]
    simp
   rw [List.getD_eq_getElem?_getD,List.getElem?_map,List.getElem?_eq_getElem hi]
   have:=(sel_range hr (l4[i])).1
   simp only [Option.map_some,Option.getD_some]
   omega
end
theorem mRight_ok {l:List Int}(hu:∀x∈l,0≤x∧x≤255) {n t:Nat}(hn:0<n) (ht:0<t):∀(c at_:Nat) (acc:List Sym),acc.all (okSym n t)=true→(mRight l n t c at_ acc).1.all (okSym n t)=true∧(mRight l n t c at_ acc).1.length=acc.length+c
 |0,at_,acc,h=>⟨h,rfl⟩
 |c+1,at_,acc,h=>by
  unfold mRight
  obtain⟨h1,h2⟩:=mRight_ok hu hn ht c (at_+2) (acc++ [if mPick l at_ 2=0 then⟨true,mPick l (at_+1) t⟩ else⟨false,mPick l (at_+1) n⟩]) (by
   rw [List.all_append,h,Bool.true_and]
   have h3:=mPick_lt hu (at_+1) (n:=(t:Int)) (by omega)
   have h4:=mPick_lt hu (at_+1) (n:=(n:Int)) (by omega)
   split
   ·simp only [List.all_cons,List.all_nil,Bool.and_true,okSym,if_true,Bool.and_eq_true,decide_eq_true_eq]
    exact h3
   ·simp only [List.all_cons,List.all_nil,Bool.and_true,okSym,Bool.and_eq_true,decide_eq_true_eq]
    exact⟨h4.1,by simpa using h4.2⟩)
  exact⟨h1,by rw [h2];simp;omega⟩
theorem mProds_ok {l:List Int}(hu:∀x∈l,0≤x∧x≤255) {n t:Nat}(hn:0<n) (ht:0<t):∀(i at_:Nat) (acc:List Prod),acc.all (okProd n t)=true→(∀p∈acc,p.f1.length≤3)→(mProds l n t i at_ acc).all (okProd n t)=true∧(mProds l n t i at_ acc).length=acc.length+i∧∀p∈mProds l n t i at_ acc,p.f1.length≤3
 |0,at_,acc,h,h3=>⟨h,rfl,h3⟩
 |i+1,at_,acc,h,h3=>by
  unfold mProds
  obtain⟨h1,h2⟩:=mRight_ok hu hn ht (mPick l (at_+1) 4).toNat (at_+2) [] rfl
  have h4:=mPick_lt hu at_ (n:=(n:Int)) (by omega)
  have h5:=mPick_lt hu (at_+1) (n:=4) (by omega)
  obtain⟨h6,h7,h8⟩:=mProds_ok hu hn ht i (mRight l n t (mPick l (at_+1) 4).toNat (at_+2) []).2 (acc++ [⟨mPick l at_ n,(mRight l n t (mPick l (at_+1) 4).toNat (at_+2) []).1⟩]) (by
   rw [List.all_append,h,Bool.true_and]
   simp only [List.all_cons,List.all_nil,Bool.and_true,okProd,Bool.and_eq_true,decide_eq_true_eq]
   exact⟨h4,h1⟩) (by
   intro p hp
   rcases List.mem_append.1 hp with hp|hp
   ·exact h3 p hp
   ·obtain rfl:=List.mem_singleton.1 hp
    simp only
    rw [h2];simp;omega)
  exact⟨h6,by rw [h7];simp;omega,h8⟩
structure MadeOk (ns:List ByteArray) (ts:List Tok) (ps:List Prod):Prop where
 n1:0<ns.length
 n5:ns.length≤5
 t1:0<ts.length
 t4:ts.length≤4
 p1:0<ps.length
 p10:ps.length≤10
 ok:ps.all (okProd ns.length ts.length)=true
 r3:∀p∈ps,p.f1.length≤3
theorem made_ev {l:List Int}(hw:∀x∈l,(Lit.int .u8 x).wf=true):∃ns ts ps,MadeOk ns ts ps∧Ev (fun k=>regletlaw13_Made.f k l) (ns,ts,0,0,ps):=by
 have hu:∀x∈l,0≤x∧x≤255:=fun x hx=>wf_u8 (hw x hx)
 have h0:=mPick_lt hu 0 (n:=5) (by decide)
 have h1:=mPick_lt hu 1 (n:=4) (by decide)
 have h2:=mPick_lt hu 2 (n:=10) (by decide)
 obtain⟨n,en⟩:∃n:Nat,1+mPick l 0 5=(n:Int):=⟨(1+mPick l 0 5).toNat,by omega⟩
 obtain⟨t,et⟩:∃n:Nat,1+mPick l 1 4=(n:Int):=⟨(1+mPick l 1 4).toNat,by omega⟩
 obtain⟨c,ec⟩:∃n:Nat,1+mPick l 2 10=(n:Int):=⟨(1+mPick l 2 10).toNat,by omega⟩
 obtain⟨h3,h4,h5⟩:=mProds_ok hu (n:=n) (t:=t) (by omega) (by omega) c 3 [] rfl (fun p hp=>by simp at hp)
 have ln:(mNames.take n).length=n:=by rw [List.length_take];show min n 5=n;omega
 have lt:((mTexts.map mTok).take t).length=t:=by rw [List.length_take];show min t 4=t;omega
 refine⟨mNames.take n,(mTexts.map mTok).take t,mProds l n t c 3 [],⟨by omega,by omega,by omega,by omega,by simp at h4;omega,by simp at h4;omega,by rw [ln,lt];exact h3,h5⟩,Ev.some' ?_⟩
 have h7:l.all (fun x=>decide (0≤x∧x≤255))=true:=List.all_eq_true.2 (fun x hx=>decide_eq_true (hu x hx))
 show(if l.all (fun x=>decide (0≤x∧x≤255))=true then _ else none)=_
 rw [if_pos h7,en,et,ec]
 rfl
theorem made_ev0 {l:List Int}(hw:∀x∈l,(Lit.int .u8 x).wf=true):∃ns ts ps,MadeOk ns ts ps∧∀k,regletlaw13_Made.f k l=some (ns,ts,0,0,ps):=by
 obtain⟨ns,ts,ps,h,K,hK⟩:=made_ev hw
 exact⟨ns,ts,ps,h,fun k=>hK K (Nat.le_refl _)⟩
def clSym (np:Nat) (x:Sym):Sym:=if x.f0=true then⟨true,x.f1 % (np:Int)⟩ else x
def clProd (np i:Nat) (p:Prod):Prod:=⟨p.f0,(p.f1.map (clSym np)).set 0 ⟨true,(i:Int)⟩⟩
def clTok (i:Nat):Tok:=⟨⟨#[]⟩,⟨6,⟨#[]⟩,[wrap64 (97+(i:Int))],0,0,[]⟩⟩
def clPs (np:Nat):Nat→List Prod→List Prod
 |_,[]=> []
 |i,p::ps=>clProd np i p::clPs np (i+1) ps
def clTs:Nat→Nat→List Tok
 |_,0=> []
 |i,n+1=>clTok i::clTs (i+1) n
theorem clPs_length (np:Nat):∀(ps:List Prod) (i:Nat),(clPs np i ps).length=ps.length
 | [],_=>rfl
 |p::ps,i=>by rw [clPs,List.length_cons,clPs_length np ps,List.length_cons]
theorem clTs_length:∀(n i:Nat),(clTs i n).length=n
 |0,_=>rfl
 |n+1,i=>by rw [clTs,List.length_cons,clTs_length n]
section
variable {ns:List ByteArray}{R:List ByteArray×List Tok×Int×Int×List Prod}
theorem clear_l1_ev {np:Nat}{ts:List Tok}{done rest:List Prod}{p:Prod}(hn:np=done.length+(rest.length+1)) (hnp:np≤1000000) (hp:p.f1.length≤1000000) (hx:∀x∈p.f1,0≤x.f1):∀(a pre acc:List Sym),p.f1=pre++a→acc.length=pre.length→
 Ev (fun k=>regletlaw14_Clear.l0 k (wrap64 ((done.length:Int)+1)) ns ts 0 0 (done++⟨p.f0,(acc++a.map (clSym np)).set 0 ⟨true,(done.length:Int)⟩⟩::rest)) R→Ev (fun k=>regletlaw14_Clear.l1 k (done.length:Int) acc (pre.length:Int) ns ts 0 0 (done++p::rest)) R
 | [],pre,acc,e,ha,hk=>by
  have hrd:rd_T35 (done++p::rest) (done.length:Int)=p:=getD_mid _ done p rest _ rfl
  refine Ev.step (fun k=>by rw [regletlaw14_Clear.l1]) (Ev.pos (by omega) (Ev.pos (by simp;omega) ?_))
  rw [hrd]
  refine Ev.neg (by rw [e];simp) ?_
  have hs:∀v:Prod,(done++p::rest).set (done.length:Int).toNat v=done++v::rest:=fun v=>set_mid done p v rest _ rfl
  rw [List.map_nil,List.append_nil] at hk
  by_cases hz:(acc.length:Int)>0
  ·refine Ev.pos hz (Ev.pos hz ?_)
   rw [hs]
   exact hk
  ·refine Ev.neg hz ?_
   rw [hs]
   obtain rfl:acc= []:=List.eq_nil_of_length_eq_zero (by omega)
   exact hk
 |x::a,pre,acc,e,ha,hk=>by
  have hrd:rd_T35 (done++p::rest) (done.length:Int)=p:=getD_mid _ done p rest _ rfl
  have hrx:rd_T43 p.f1 (pre.length:Int)=x:=by rw [e];exact getD_mid _ pre x a _ rfl
  have hle:pre.length+(a.length+1)≤1000000:=by rw [e] at hp;simpa using hp
  have ih:=clear_l1_ev (ts:=ts) (done:=done) (rest:=rest) (p:=p) hn hnp hp hx a (pre++ [x]) (acc++ [clSym np x]) (by rw [e];simp) (by simp [ha]) (by simpa using hk)
  rw [←wrap_next pre _ (by omega)] at ih
  have hx0:=hx x (by rw [e];simp)
  refine Ev.step (fun k=>by rw [regletlaw14_Clear.l1]) (Ev.pos (by omega) (Ev.pos (by simp;omega) ?_))
  rw [hrd]
  refine Ev.pos (by rw [e];simp;omega) (Ev.pos (by omega) ?_)
  rw [hrx]
  by_cases ht:x.f0=true
  ·refine Ev.pos ht (Ev.neg (by simp;omega) (Ev.pos (by omega) ?_))
   rw [clSym,if_pos ht] at ih
   rw [ht,show((done++p::rest).length:Int)=(np:Int) by rw [hn];simp,Int.tmod_eq_emod_of_nonneg hx0]
   exact ih
  ·refine Ev.neg ht (Ev.pos (by omega) ?_)
   rw [clSym,if_neg ht] at ih
   exact ih
theorem clear_l0_ev {np:Nat}(hnp:np≤1000000):∀(ps done:List Prod) (ts:List Tok),np=done.length+ps.length→ts.length=done.length→(∀p∈ps,p.f1.length≤1000000∧∀x∈p.f1,0≤x.f1)→
 Ev (fun k=>regletlaw14_Clear.l2 k 0 ns (ts++clTs done.length ps.length) 0 0 (done++clPs np done.length ps)) R→Ev (fun k=>regletlaw14_Clear.l0 k (done.length:Int) ns ts 0 0 (done++ps)) R
 | [],done,ts,hn,ht,_,hk=>Ev.step (fun k=>by rw [regletlaw14_Clear.l0]) (Ev.neg (by simp) (by simpa [clTs,clPs] using hk))
 |p::ps,done,ts,hn,ht,hs,hk=>by
  simp only [List.length_cons] at hn
  obtain⟨hp,hx⟩:=hs p List.mem_cons_self
  have ih:=clear_l0_ev hnp ps (done++ [clProd np done.length p]) (ts++ [clTok done.length]) (by simp;omega) (by simp [ht]) (fun q hq=>hs q (List.mem_cons_of_mem _ hq)) (by
   simp only [clTs,clPs,List.length_cons,List.length_append,List.length_nil,List.append_assoc,List.singleton_append] at hk ⊢
   exact hk)
  rw [←wrap_next done _ (by omega)] at ih
  refine Ev.step (fun k=>by rw [regletlaw14_Clear.l0]) (Ev.pos (by simp;omega) (Ev.pos (by omega) ?_))
  refine clear_l1_ev (ns:=ns) (R:=R) hn hnp hp hx p.f1 [] [] rfl rfl ?_
  rw [List.append_assoc] at ih
  exact ih
theorem clear_l3_ev {ts:List Tok}{done rest:List Prod}{p:Prod}(hd:done.length≤1000000) (ht:0<ts.length) (hp:p.f1.length≤1000000) (hx:∀x∈p.f1,x.f0=true→0≤x.f1∧x.f1<(ts.length:Int)):∀(a pre:List Sym),p.f1=pre++a→
 Ev (fun k=>regletlaw14_Clear.l2 k (wrap64 ((done.length:Int)+1)) ns ts 0 0 (done++p::rest)) R→Ev (fun k=>regletlaw14_Clear.l3 k (done.length:Int) (pre.length:Int) ns ts 0 0 (done++p::rest)) R
 | [],pre,e,hk=>by
  have hrd:rd_T35 (done++p::rest) (done.length:Int)=p:=getD_mid _ done p rest _ rfl
  refine Ev.step (fun k=>by rw [regletlaw14_Clear.l3]) (Ev.pos (by omega) (Ev.pos (by simp;omega) ?_))
  rw [hrd]
  exact Ev.neg (by rw [e];simp) hk
 |x::a,pre,e,hk=>by
  have hrd:rd_T35 (done++p::rest) (done.length:Int)=p:=getD_mid _ done p rest _ rfl
  have hrx:rd_T43 p.f1 (pre.length:Int)=x:=by rw [e];exact getD_mid _ pre x a _ rfl
  have hle:pre.length+(a.length+1)≤1000000:=by rw [e] at hp;simpa using hp
  have ih:=clear_l3_ev (ts:=ts) (done:=done) (rest:=rest) (p:=p) hd ht hp hx a (pre++ [x]) (by rw [e];simp) hk
  rw [←wrap_next pre _ (by omega)] at ih
  refine Ev.step (fun k=>by rw [regletlaw14_Clear.l3]) (Ev.pos (by omega) (Ev.pos (by simp;omega) ?_))
  rw [hrd]
  refine Ev.pos (by rw [e];simp;omega) (Ev.pos (by omega) ?_)
  rw [hrx]
  by_cases hx0:x.f0=true
  ·obtain⟨h0,h1⟩:=hx x (by rw [e];simp) hx0
   refine Ev.pos hx0 (Ev.neg (by omega) ?_)
   have hsame:(⟨x.f0,Int.tmod x.f1 (ts.length:Int)⟩:Sym)=x:=by
    rw [Int.tmod_eq_emod_of_nonneg h0,Int.emod_eq_of_lt h0 h1]
   have hset:p.f1.set (pre.length:Int).toNat x=p.f1:=by rw [e];exact set_mid pre x x a _ rfl
   have hpp:(⟨p.f0,p.f1⟩:Prod)=p:=rfl
   rw [hsame,hset,hpp,set_mid done p p rest _ rfl]
   exact ih
  ·exact Ev.neg hx0 ih
theorem clear_l2_ev {ts:List Tok}(ht:0<ts.length):∀(rest done:List Prod),done.length+rest.length≤1000000→(∀p∈rest,p.f1.length≤1000000∧∀x∈p.f1,x.f0=true→0≤x.f1∧x.f1<(ts.length:Int))→
 Ev (fun k=>regletlaw14_Clear.l2 k (done.length:Int) ns ts 0 0 (done++rest)) (ns,ts,0,0,done++rest)
 | [],done,_,_=>Ev.step (fun k=>by rw [regletlaw14_Clear.l2]) (Ev.neg (by simp) (Ev.some rfl))
 |p::rest,done,hl,hs=>by
  simp only [List.length_cons] at hl
  obtain⟨hp,hx⟩:=hs p List.mem_cons_self
  have ih:=clear_l2_ev ht rest (done++ [p]) (by simp;omega) (fun q hq=>hs q (List.mem_cons_of_mem _ hq))
  rw [←wrap_next done _ (by omega),List.append_assoc,List.singleton_append] at ih
  refine Ev.step (fun k=>by rw [regletlaw14_Clear.l2]) (Ev.pos (by simp;omega) ?_)
  exact clear_l3_ev (ns:=ns) (by omega) ht hp hx p.f1 [] rfl ih
end
theorem clPs_spec {nn nt np:Nat}(hp:0<np):∀(ps:List Prod) (i:Nat),i+ps.length≤np→ps.all (okProd nn nt)=true→(clPs np i ps).all (okProd nn np)=true
 | [],_,_,_=>rfl
 |p::ps,i,hl,h=>by
  simp only [List.length_cons] at hl
  rw [List.all_cons,Bool.and_eq_true] at h
  rw [clPs,List.all_cons,Bool.and_eq_true]
  refine⟨?_,clPs_spec hp ps (i+1) (by omega) h.2⟩
  obtain⟨h0,h1⟩:=okProd_left h.1
  have hr:=List.all_eq_true.1 (okProd_right h.1)
  have hall:((p.f1.map (clSym np)).set 0 ⟨true,(i:Int)⟩).all (okSym nn np)=true:=by
   rw [List.all_eq_true]
   intro x hx
   rcases List.mem_or_eq_of_mem_set hx with hx|rfl
   ·obtain⟨y,hy,rfl⟩:=List.mem_map.1 hx
    have hy':=hr y hy
    unfold clSym
    by_cases ht:y.f0=true
    ·rw [if_pos ht]
     have:=Int.emod_nonneg y.f1 (show(np:Int)≠0 by omega)
     have:=Int.emod_lt_of_pos y.f1 (show(0:Int)<(np:Int) by omega)
     simp [okSym];omega
    ·rw [if_neg ht]
     have:=okSym_rule hy' (by simpa using ht)
     simp [okSym,ht];omega
   ·simp [okSym];omega
  simp only [okProd,Bool.and_eq_true,decide_eq_true_eq]
  exact⟨⟨h0,h1⟩,hall⟩
theorem clPs_len (np:Nat):∀(ps:List Prod) (i:Nat),(∀p∈ps,p.f1.length≤3)→∀p∈clPs np i ps,p.f1.length≤3
 | [],_,_,p,hp=>by simp [clPs] at hp
 |q::ps,i,h,p,hp=>by
  rw [clPs] at hp
  rcases List.mem_cons.1 hp with rfl|h1
  ·have:=h q List.mem_cons_self
   simpa [clProd] using this
  ·exact clPs_len np ps (i+1) (fun p hp=>h p (List.mem_cons_of_mem _ hp)) p h1
theorem clear_ev {l:List Int}{ns:List ByteArray}{ts:List Tok}{ps:List Prod}(hm:MadeOk ns ts ps) (hM:∀k,regletlaw13_Made.f k l=some (ns,ts,0,0,ps)):Ev (fun k=>regletlaw14_Clear.f k l) (ns,clTs 0 ps.length,0,0,clPs ps.length 0 ps):=by
 have hok:=hm.ok
 have hp1:=hm.p1
 have hp10:=hm.p10
 refine Ev.congr (fun k=>by rw [regletlaw14_Clear.f]) (Ev.bind (⟨0,fun k _=>hM k⟩:Ev (fun k=>regletlaw13_Made.f k l) _) ?_)
 refine clear_l0_ev (np:=ps.length) (by omega) ps [] [] (by simp) rfl (fun p hp=>⟨by have:=hm.r3 p hp;omega,fun x hx=>?_⟩) ?_
 ·have h:=List.all_eq_true.1 (okProd_right (List.all_eq_true.1 hok p hp)) x hx
  cases ht:x.f0 with
  |true=>exact(okSym_tok h ht).1
  |false=>exact(okSym_rule h ht).1
 ·have hsp:=clPs_spec (np:=ps.length) (by omega) ps 0 (by omega) hok
  have hx:=clear_l2_ev (ns:=ns) (ts:=clTs 0 ps.length) (by rw [clTs_length];omega) (clPs ps.length 0 ps) [] (by rw [clPs_length];simp;omega) (fun p hp=>⟨by have:=clPs_len ps.length ps 0 hm.r3 p hp;omega,fun x hx hx0=>by
   rw [clTs_length]
   exact okSym_tok (List.all_eq_true.1 (okProd_right (List.all_eq_true.1 hsp p hp)) x hx) hx0⟩)
  exact hx
end Go.Proofs.Ytapjfnfengefpaa.M
end

section
namespace Go.Proofs.Ytapjfnfengefpaa.M
open Go.RowKit Go.Proofs.YtapjfnfengefpaaW.PrintWords Go.Proofs.YtapjfnfengefpaaW.PrintLast Go.Proofs.YtapjfnfengefpaaW.PrintMore Go.Proofs.Ytapjfnfengefpaa.P Go.Proofs.Ytapjfnfengefpaa.H
set_option linter.unusedVariables false
set_option linter.unusedSimpArgs false
set_option linter.unusedSectionVars false
section
variable (b:List (List Bool)) (ps:List Prod) (r look:Nat)
def Sel (i:Nat):Prop:=∃p,ps[i]?=some p∧p.f0=(r:Int)∧(b.getD i []).getD look false=true
def GoodC (c:Clash):Prop:=c.f0=(r:Int)∧c.f1=(look:Int)∧∃i j:Nat,c.f2=(i:Int)∧c.f3=(j:Int)∧i<j∧j<ps.length∧Sel b ps r look i∧Sel b ps r look j
theorem sel_lt {b:List (List Bool)}{ps:List Prod}{r look i:Nat}(h:Sel b ps r look i):i<ps.length:=by
 obtain⟨p,hp,_⟩:=h
 exact(List.getElem?_eq_some_iff.1 hp).1
variable {b ps r look}
theorem sel_mid {pre qs:List Prod}{p:Prod}(e:pre++p::qs=ps):Sel b ps r look pre.length↔p.f0=(r:Int)∧(b.getD pre.length []).getD look false=true:=by
 have hp:ps[pre.length]?=some p:=by rw [←e];simp
 constructor
 ·rintro⟨q,hq,h⟩
  rw [hp] at hq
  obtain rfl:=Option.some.inj hq
  exact h
 ·exact fun h=>⟨p,hp,h⟩
theorem prIn_inv:∀(qs pre:List Prod) (st:Int×List Clash),pre++qs=ps→(st.1= -1∨∃i:Nat,st.1=(i:Int)∧i<pre.length∧Sel b ps r look i)→
 ((prIn b r look pre.length qs st).1= -1∧st.1= -1∧(∀j,pre.length≤j→¬Sel b ps r look j)∨
  ∃i:Nat,(prIn b r look pre.length qs st).1=(i:Int)∧Sel b ps r look i∧(st.1= -1→pre.length≤i∧∀j,pre.length≤j→Sel b ps r look j→i≤j)∧(st.1≠ -1→st.1=(i:Int)))∧
 (∀c∈(prIn b r look pre.length qs st).2,c∈st.2∨GoodC b ps r look c)∧
 (st.1≠ -1→(∃j,pre.length≤j∧Sel b ps r look j)→st.2.length<(prIn b r look pre.length qs st).2.length)∧
 ((∃i j,pre.length≤i∧i<j∧Sel b ps r look i∧Sel b ps r look j)→st.2.length<(prIn b r look pre.length qs st).2.length)
 | [],pre,st,e,hst=>by
  have hno:∀j,pre.length≤j→¬Sel b ps r look j:=fun j hj h=>by
   have:=sel_lt h
   rw [←e] at this
   simp at this
   omega
  refine⟨?_,fun c hc=> .inl hc,fun _ ⟨j,hj,h⟩=>absurd h (hno j hj),fun⟨i,j,hi,_,h,_⟩=>absurd h (hno i hi)⟩
  rcases hst with h|⟨i,h,hi,hs⟩
  ·exact .inl ⟨h,h,hno⟩
  ·exact .inr ⟨i,h,hs,fun h2=>by rw [h] at h2;omega,fun _=>h⟩
 |p::qs,pre,st,e,hst=>by
  have hm:=sel_mid (b:=b) (r:=r) (look:=look) e
  have hstep:∀st':Int×List Clash,prStep b r look pre.length p st=st'→prIn b r look pre.length (p::qs) st=prIn b r look (pre++ [p]).length qs st':=fun st' h=>by
   rw [prIn,h,List.length_append,List.length_singleton]
  have hlen:(pre++ [p]).length=pre.length+1:=by simp
  by_cases hs:Sel b ps r look pre.length
  ·have hc:=hm.1 hs
   by_cases hx:st.1= -1
   ·have ih:=prIn_inv qs (pre++ [p]) (((pre.length:Nat):Int),st.2) (by rw [←e];simp) (.inr ⟨pre.length,rfl,by simp,hs⟩)
    rw [hstep _ (by rw [prStep,if_pos hc,if_pos (by rw [hx];decide)])]
    obtain⟨h1,h2,h3,h4⟩:=ih
    have hne:((pre.length:Nat):Int)≠ -1:=by omega
    refine⟨?_,h2,fun h=>absurd hx h,fun⟨i,j,hi,hij,hsi,hsj⟩=>h3 hne ⟨j,by rw [hlen];omega,hsj⟩⟩
    rcases h1 with⟨_,h5,_⟩|⟨i,h5,h6,_,h8⟩
    ·exact absurd h5 hne
    ·have:=h8 hne
     obtain rfl:pre.length=i:=by simp only at this;omega
     exact .inr ⟨pre.length,h5,h6,fun _=>⟨Nat.le_refl _,fun j hj _=>hj⟩,fun h=>absurd hx h⟩
   ·obtain⟨i0,hi0,hi0l,hs0⟩:=hst.resolve_left hx
    have ih:=prIn_inv qs (pre++ [p]) (st.1,st.2++ [⟨(r:Int),(look:Int),st.1,((pre.length:Nat):Int)⟩]) (by rw [←e];simp) (.inr ⟨i0,hi0,by simp;omega,hs0⟩)
    rw [hstep _ (by rw [prStep,if_pos hc,if_neg (by omega)])]
    obtain⟨h1,h2,h3,h4⟩:=ih
    have hle:=prIn_le b r look qs (pre++ [p]).length (st.1,st.2++ [⟨(r:Int),(look:Int),st.1,((pre.length:Nat):Int)⟩])
    simp only [List.length_append,List.length_cons,List.length_nil] at hle
    have hlt:st.2.length<(prIn b r look (pre++ [p]).length qs (st.1,st.2++ [⟨(r:Int),(look:Int),st.1,((pre.length:Nat):Int)⟩])).2.length:=by
     simp only [List.length_append,List.length_cons,List.length_nil]
     omega
    refine⟨?_,fun c hc'=>?_,fun _ _=>hlt,fun _=>hlt⟩
    ·rcases h1 with⟨_,h5,_⟩|⟨i,h5,h6,_,h8⟩
     ·exact absurd h5 hx
     ·exact .inr ⟨i,h5,h6,fun h=>absurd h hx,fun _=>h8 hx⟩
    ·rcases h2 c hc' with h|h
     ·rcases List.mem_append.1 h with h|h
      ·exact .inl h
      ·obtain rfl:=List.mem_singleton.1 h
       exact .inr ⟨rfl,rfl,i0,pre.length,hi0,rfl,hi0l,sel_lt hs,hs0,hs⟩
     ·exact .inr h
  ·have hc:¬(p.f0=(r:Int)∧(b.getD pre.length []).getD look false=true):=fun h=>hs (hm.2 h)
   have ih:=prIn_inv qs (pre++ [p]) st (by rw [←e];simp) (hst.imp id (fun⟨i,h,hi,h2⟩=>⟨i,h,by simp;omega,h2⟩))
   rw [hstep _ (by rw [prStep,if_neg hc])]
   obtain⟨h1,h2,h3,h4⟩:=ih
   have hup:∀j,pre.length≤j→Sel b ps r look j→(pre++ [p]).length≤j:=fun j hj h=>by
    rw [hlen]
    by_cases he:j=pre.length
    ·subst he;exact absurd h hs
    ·omega
   refine⟨?_,h2,fun h ⟨j,hj,h5⟩=>h3 h ⟨j,hup j hj h5,h5⟩,fun⟨i,j,hi,hij,hsi,hsj⟩=>h4 ⟨i,j,hup i hi hsi,hij,hsi,hsj⟩⟩
   rcases h1 with⟨h5,h6,h7⟩|⟨i,h5,h6,h7,h8⟩
   ·exact .inl ⟨h5,h6,fun j hj h=>h7 j (hup j hj h) h⟩
   ·exact .inr ⟨i,h5,h6,fun h=>⟨by have:=(h7 h).1;rw [hlen] at this;omega,fun j hj h9=>(h7 h).2 j (hup j hj h9) h9⟩,h8⟩
theorem prIn_fst:∀(qs:List Prod) (i:Nat) (st st':Int×List Clash),st.1=st'.1→(prIn b r look i qs st).1=(prIn b r look i qs st').1
 | [],_,_,_,h=>h
 |p::qs,i,st,st',h=>by
  refine prIn_fst qs (i+1) _ _ ?_
  unfold prStep
  rw [←h]
  split
  ·split
   ·rfl
   ·exact rfl
  ·exact h
end
def tk (b:List (List Bool)) (ps:List Prod) (r look:Nat):Int:=(prIn b r look 0 ps (-1,[])).1
theorem tk_spec (b:List (List Bool)) (ps:List Prod) (r look:Nat):(tk b ps r look= -1∧∀j,¬Sel b ps r look j)∨∃i:Nat,tk b ps r look=(i:Int)∧Sel b ps r look i∧∀j,Sel b ps r look j→i≤j:=by
 rcases(prIn_inv (b:=b) (ps:=ps) (r:=r) (look:=look) ps [] (-1,[]) rfl (.inl rfl)).1 with⟨h,_,h2⟩|⟨i,h,h2,h3,_⟩
 ·exact .inl ⟨h,fun j=>h2 j (Nat.zero_le _)⟩
 ·exact .inr ⟨i,h,h2,fun j hj=>(h3 rfl).2 j (Nat.zero_le _) hj⟩
theorem pRow_getD (b:List (List Bool)) (ps:List Prod) (r:Nat):∀(n look:Nat) (bad:List Clash) (j:Nat),j<n→(pRow b ps r n look bad).1.getD j 0=tk b ps r (look+j)
 |0,_,_,j,h=>absurd h (by omega)
 |n+1,look,bad,0,_=>prIn_fst ps 0 _ _ rfl
 |n+1,look,bad,j+1,h=>by
  have ih:=pRow_getD b ps r n (look+1) (prIn b r look 0 ps (-1,bad)).2 j (by omega)
  rw [pRow,List.getD_cons_succ,ih,show look+1+j=look+(j+1) by omega]
theorem pAll_getD (b:List (List Bool)) (ps:List Prod) (w:Nat):∀(n r:Nat) (bad:List Clash) (i:Nat),i<n→((pAll b ps w n r bad).1.getD i []).length=w∧∀j,j<w→((pAll b ps w n r bad).1.getD i []).getD j 0=tk b ps (r+i) j
 |0,_,_,i,h=>absurd h (by omega)
 |n+1,r,bad,0,_=>by
  rw [pAll,List.getD_cons_zero]
  refine⟨(pRow_max b ps r w 0 bad).1,fun j hj=>?_⟩
  rw [pRow_getD b ps r w 0 bad j hj];simp
 |n+1,r,bad,i+1,h=>by
  have ih:=pAll_getD b ps w n (r+1) (pRow b ps r w 0 bad).2 i (by omega)
  rw [pAll,List.getD_cons_succ]
  refine⟨ih.1,fun j hj=>?_⟩
  rw [ih.2 j hj,show r+1+i=r+(i+1) by omega]
section
variable {nn nt:Nat}{ps:List Prod}
def SelD (nn nt:Nat) (ps:List Prod) (r look i:Nat):Prop:=∃p,ps[i]?=some p∧p.f0=(r:Int)∧(look:Int)∈sel nn nt ps p
theorem selD_iff (hps:ps.all (okProd nn nt)=true) (r look i:Nat):Sel (ps.map (chRow nn nt ps)) ps r look i↔SelD nn nt ps r look i:=by
 have hb:∀p,ps[i]?=some p→((ps.map (chRow nn nt ps)).getD i []).getD look false=decide ((look:Int)∈sel nn nt ps p):=fun p hp=>by
  have e:(ps.map (chRow nn nt ps)).getD i []=chRow nn nt ps p:=by rw [List.getD_eq_getElem?_getD,List.getElem?_map,hp];rfl
  rw [e]
  exact chRow_getD hps p look
 constructor
 ·rintro⟨p,h1,h2,h3⟩
  rw [hb p h1] at h3
  exact⟨p,h1,h2,of_decide_eq_true h3⟩
 ·rintro⟨p,h1,h2,h3⟩
  exact⟨p,h1,h2,by rw [hb p h1];exact decide_eq_true h3⟩
theorem dPredict_table (hps:ps.all (okProd nn nt)=true):(dPredict nn nt ps).1.length=nn∧∀r,r<nn→((dPredict nn nt ps).1.getD r []).length=nt+1∧∀look,look≤nt→
 (((dPredict nn nt ps).1.getD r []).getD look 0= -1∧∀j,¬SelD nn nt ps r look j)∨∃i:Nat,((dPredict nn nt ps).1.getD r []).getD look 0=(i:Int)∧SelD nn nt ps r look i∧∀j,SelD nn nt ps r look j→i≤j:=by
 have e:dPredict nn nt ps=pAll (ps.map (chRow nn nt ps)) ps (nt+1) nn 0 []:=by rw [dPredict,if_pos hps]
 rw [e]
 refine⟨(pAll_max _ ps (nt+1) nn 0 []).1,fun r hr=>?_⟩
 obtain⟨h1,h2⟩:=pAll_getD (ps.map (chRow nn nt ps)) ps (nt+1) nn 0 [] r hr
 refine⟨h1,fun look hl=>?_⟩
 rw [h2 look (by omega),Nat.zero_add]
 rcases tk_spec (ps.map (chRow nn nt ps)) ps r look with⟨h,h3⟩|⟨i,h,h3,h4⟩
 ·exact .inl ⟨h,fun j hj=>h3 j ((selD_iff hps r look j).2 hj)⟩
 ·exact .inr ⟨i,h,(selD_iff hps r look i).1 h3,fun j hj=>h4 j ((selD_iff hps r look j).2 hj)⟩
end
end Go.Proofs.Ytapjfnfengefpaa.M
end

section
namespace Go.Proofs.Ytapjfnfengefpaa.M
open Go.RowKit Go.Proofs.YtapjfnfengefpaaW.PrintWords Go.Proofs.YtapjfnfengefpaaW.PrintLast Go.Proofs.YtapjfnfengefpaaW.PrintMore Go.Proofs.Ytapjfnfengefpaa.P Go.Proofs.Ytapjfnfengefpaa.H
set_option linter.unusedVariables false
set_option linter.unusedSimpArgs false
structure SynOk (ns:List ByteArray) (ts:List Tok) (ps:List Prod):Prop where
 n1:0<ns.length
 n5:ns.length≤5
 t1:0<ts.length
 t10:ts.length≤10
 p10:ps.length≤10
 ok:ps.all (okProd ns.length ts.length)=true
 r3:∀p∈ps,p.f1.length≤3
theorem SynOk.small {ns:List ByteArray}{ts:List Tok}{ps:List Prod}(h:SynOk ns ts ps):Small ps:=⟨by have:=h.p10;omega,fun p hp=>by have:=h.r3 p hp;omega⟩
theorem synOk_clear {ns:List ByteArray}{ts:List Tok}{ps:List Prod}(h:MadeOk ns ts ps):SynOk ns (clTs 0 ps.length) (clPs ps.length 0 ps):=
 ⟨h.n1,h.n5,by rw [clTs_length];exact h.p1,by rw [clTs_length];exact h.p10,by rw [clPs_length];exact h.p10,by rw [clTs_length];exact clPs_spec h.p1 ps 0 (by omega) h.ok,clPs_len _ ps 0 h.r3⟩
def Sized (nn nt:Nat) (tb:List (List Int)):Prop:=tb.length=nn∧∀r∈tb,r.length=nt+1
theorem dPredict_sized {nn nt:Nat}{ps:List Prod}(hps:ps.all (okProd nn nt)=true):Sized nn nt (dPredict nn nt ps).1:=by
 obtain⟨h1,h2⟩:=dPredict_table hps
 refine⟨h1,fun r hr=>?_⟩
 obtain⟨i,hi,e⟩:=List.getElem_of_mem hr
 have h3:=(h2 i (by omega)).1
 rw [List.getD_eq_getElem?_getD,List.getElem?_eq_getElem hi] at h3
 rw [←e]
 exact h3
theorem SynOk.fit {ns:List ByteArray}{ts:List Tok}{ps:List Prod}{tb:List (List Int)}(h:SynOk ns ts ps) (ht:Sized ns.length ts.length tb):Fit ts ps tb:=
 ⟨h.small,by have:=h.t10;omega,by have:=h.n5;have:=ht.1;omega,fun r hr=>by have:=h.t10;have:=ht.2 r hr;omega⟩
theorem table_ev {ns:List ByteArray}{ts:List Tok}{ps:List Prod}(h:SynOk ns ts ps) (a2 a3:Int) {at_ n:Int}(h0:0≤at_∧at_≤255) (hn:0≤n∧n≤255):∃tb,Ev (fun k=>regletlaw16_table.f k ns ts a2 a3 ps at_ n) tb∧Sized ns.length ts.length tb∧(200≤at_→tb=(dPredict ns.length ts.length ps).1):=by
 have hP:=refPredict_ev ns ts a2 a3 ps h.small (by have:=h.n5;omega) (by have:=h.t10;omega) (by have:=h.p10;omega)
 have hS:=dPredict_sized h.ok
 have hn1:=h.n1
 have hn5:=h.n5
 have ht1:=h.t1
 have ht10:=h.t10
 have hp10:=h.p10
 generalize (dPredict ns.length ts.length ps)=pr at hP hS
 obtain⟨tb,cs⟩:=pr
 simp only at hS
 by_cases ha:at_<200
 rotate_left
 ·refine⟨tb,?_,hS,fun _=>rfl⟩
  refine Ev.congr (fun k=>by rw [regletlaw16_table.f]) (Ev.bind hP ?_)
  exact Ev.neg ha (Ev.some rfl)
 have hl:(tb.length:Int)>0:=by have:=hS.1;omega
 have e0:wrap64 at_=at_:=wrap64_id (by omega) (by omega)
 have e1:wrap64 ((ps.length:Int)+2)=(ps.length:Int)+2:=wrap64_id (by omega) (by omega)
 have m0:0≤Int.tmod at_ (tb.length:Int):=Int.tmod_nonneg _ h0.1
 have m1:Int.tmod at_ (tb.length:Int)<(tb.length:Int):=Int.tmod_lt_of_pos _ hl
 generalize hi:Int.tmod at_ (tb.length:Int)=i at m0 m1
 have er:rd_L5 tb i=tb.getD i.toNat []:=rfl
 have hrow:(tb.getD i.toNat []).length=ts.length+1:=by
  rw [List.getD_eq_getElem?_getD,List.getElem?_eq_getElem (by omega)]
  exact hS.2 _ (List.getElem_mem _)
 have d0:0≤Int.tdiv at_ 8:=Int.tdiv_nonneg h0.1 (by omega)
 have d1:Int.tdiv at_ 8≤255:=by rw [Int.tdiv_eq_ediv_of_nonneg h0.1];omega
 have e2:wrap64 (Int.tdiv at_ 8)=Int.tdiv at_ 8:=wrap64_id (by omega) (by omega)
 have k0:0≤Int.tmod (Int.tdiv at_ 8) ((tb.getD i.toNat []).length:Int):=Int.tmod_nonneg _ d0
 have k1:Int.tmod (Int.tdiv at_ 8) ((tb.getD i.toNat []).length:Int)<((tb.getD i.toNat []).length:Int):=Int.tmod_lt_of_pos _ (by omega)
 refine⟨tb.set i.toNat ((tb.getD i.toNat []).set (Int.tmod (Int.tdiv at_ 8) ((tb.getD i.toNat []).length:Int)).toNat (wrap64 (Int.tmod (wrap64 n) ((ps.length:Int)+2) - 1))),?_,?_,fun h=>by omega⟩
 ·refine Ev.congr (fun k=>by rw [regletlaw16_table.f]) (Ev.bind hP ?_)
  simp only [e0,hi,e1,er,e2]
  refine Ev.pos ha (Ev.pos hl (Ev.neg (by omega) (Ev.pos m0 (Ev.pos m1 (Ev.neg (by omega) (Ev.neg (by omega) (Ev.pos k0 (Ev.pos k1 (Ev.some rfl)))))))))
 ·refine⟨by rw [List.length_set];exact hS.1,fun r hr=>?_⟩
  rcases List.mem_or_eq_of_mem_set hr with hr|rfl
  ·exact hS.2 r hr
  ·rw [List.length_set];exact hrow
theorem tokens_l0_ev {n:Int}(hn:0<n):∀(a pre out:List Int),(∀x∈pre++a,0≤x∧x≤255)→out.length=pre.length→pre.length≤10→(∀x∈out,0≤x∧x<n)→
 ∃t,Ev (fun k=>regletlaw16_tokens.l0 k (pre++a) n out (pre.length:Int)) t∧t.length≤10∧∀x∈t,0≤x∧x<n
 | [],pre,out,_,ho,hp,hx=>by
  refine⟨out,?_,by omega,hx⟩
  refine Ev.step (fun k=>by rw [regletlaw16_tokens.l0]) ?_
  exact Ev.neg (by simp) (Ev.some rfl)
 |x::a,pre,out,hu,ho,hp,hx=>by
  have er:rd (pre++x::a) (pre.length:Int)=x:=getD_mid _ pre x a _ rfl
  have hxu:=hu x (by simp)
  by_cases h10:(pre.length:Int)<10
  ·have e0:wrap64 x=x:=wrap64_id (by omega) (by omega)
   have ih:=tokens_l0_ev hn a (pre++ [x]) (out++ [Int.tmod x n]) (by rw [List.append_assoc];exact hu) (by simp [ho]) (by simp;omega) (fun y hy=>by
    rcases List.mem_append.1 hy with h|h
    ·exact hx y h
    ·rw [List.mem_singleton.1 h]
     exact⟨Int.tmod_nonneg _ hxu.1,Int.tmod_lt_of_pos _ hn⟩)
   obtain⟨t,ht,h1,h2⟩:=ih
   refine⟨t,?_,h1,h2⟩
   rw [←wrap_next pre x (by omega),List.append_assoc,List.singleton_append] at ht
   refine Ev.step (fun k=>by rw [regletlaw16_tokens.l0]) (Ev.pos (by simp;omega) (Ev.pos h10 (Ev.pos (by omega) (Ev.neg (by omega) (Ev.pos (by omega) ?_)))))
   rw [er,e0]
   exact ht
  ·refine⟨out,?_,by omega,hx⟩
   refine Ev.step (fun k=>by rw [regletlaw16_tokens.l0]) (Ev.pos (by simp;omega) ?_)
   exact Ev.neg h10 (Ev.some rfl)
theorem tokens_ev {l:List Int}(hu:∀x∈l,0≤x∧x≤255) {n:Int}(hn:0<n):∃t,Ev (fun k=>regletlaw16_tokens.f k l n) t∧t.length≤10∧∀x∈t,0≤x∧x<n:=by
 obtain⟨t,ht,h1,h2⟩:=tokens_l0_ev hn l [] [] (by simpa using hu) rfl (by simp) (fun x h=>by cases h)
 exact⟨t,Ev.congr (fun k=>by rw [regletlaw16_tokens.f];rfl) ht,h1,h2⟩
theorem rowsOk_of {nt:Nat}{ps:List Prod}:∀(tb:List (List Int)) (r:Nat),(∀i,i<tb.length→(tb.getD i []).length=nt+1∧∀q∈tb.getD i [],okEnt ps ((r+i:Nat):Int) q=true)→rowsOk nt ps r tb=true
 | [],_,_=>rfl
 |row::tb,r,h=>by
  have h0:=h 0 (by simp)
  rw [rowsOk,Bool.and_eq_true,Bool.and_eq_true]
  refine⟨⟨decide_eq_true (by simpa using h0.1),List.all_eq_true.2 (fun q hq=>by have:=h0.2 q (by simpa using hq);rwa [Nat.add_zero] at this)⟩,rowsOk_of tb (r+1) (fun i hi=>?_)⟩
  have:=h (i+1) (by simp;omega)
  rw [show r+1+i=r+(i+1) by omega]
  simpa using this
theorem tbRight_pred {ns:List ByteArray}{ts:List Tok}{ps:List Prod}(h:SynOk ns ts ps):tbRight ns.length ts.length ps (dPredict ns.length ts.length ps).1=true:=by
 obtain⟨h1,h2⟩:=dPredict_table h.ok
 have hn:=h.n1
 simp only [tbRight,Bool.and_eq_true,Bool.not_eq_true',decide_eq_false_iff_not,decide_eq_true_eq]
 refine⟨h.ok,by omega,h1,rowsOk_of _ 0 (fun i hi=>?_)⟩
 obtain⟨h3,h4⟩:=h2 i (by omega)
 refine⟨h3,fun q hq=>?_⟩
 obtain⟨j,hj,e⟩:=List.getElem_of_mem hq
 have h5:=h4 j (by omega)
 rw [List.getD_eq_getElem?_getD,List.getElem?_eq_getElem hj,Option.getD_some,e] at h5
 rw [Nat.zero_add]
 rcases h5 with⟨rfl,_⟩|⟨m,rfl,hm,_⟩
 ·simp [okEnt];omega
 ·obtain⟨p,hp,hp0,_⟩:=hm
  obtain⟨hi',ep⟩:=List.getElem?_eq_some_iff.1 hp
  have er:rd_T35 ps (m:Int)=p:=by
   rw [rd_T35,Int.toNat_natCast,List.getD_eq_getElem?_getD,hp];rfl
  simp only [okEnt,er,hp0,Bool.and_eq_true,Bool.or_eq_true,decide_eq_true_eq]
  exact⟨⟨by omega,by omega⟩,.inr trivial⟩
structure TabR (nn nt:Nat) (ps:List Prod) (tb:List (List Int)):Prop where
 prods:ps.all (okProd nn nt)=true
 ent:∀x look:Int,0≤x→x<(nn:Int)→0≤look→look≤(nt:Int)→okEnt ps x (mEnt tb x look)=true
theorem tabR {nn nt:Nat}{ps:List Prod}{tb:List (List Int)}(h:tbRight nn nt ps tb=true):TabR nn nt ps tb:=by
 refine⟨tbRight_prods h,fun x look h0 h1 h2 h3=>?_⟩
 simp only [tbRight,Bool.and_eq_true,decide_eq_true_eq] at h
 obtain⟨_,_,h4,h5⟩:=h
 obtain⟨h6,h7⟩:=rowsOk_spec tb 0 h5 x.toNat (by omega)
 have h8:=h7 (mEnt tb x look) (by
  unfold mEnt
  generalize tb.getD x.toNat []=row at h6 ⊢
  rw [List.getD_eq_getElem?_getD,List.getElem?_eq_getElem (by omega)]
  exact List.getElem_mem _)
 rwa [show((0+x.toNat:Nat):Int)=x by omega] at h8
theorem ent_prod {ps:List Prod}{r q:Int}(h:okEnt ps r q=true) (hq:¬q<0):rd_T35 ps q∈ps∧(rd_T35 ps q).f0=r∧q<(ps.length:Int):=by
 simp only [okEnt,Bool.and_eq_true,Bool.or_eq_true,decide_eq_true_eq] at h
 obtain⟨⟨_,h1⟩,h2⟩:=h
 refine⟨?_,?_,h1⟩
 ·rw [rd_T35,List.getD_eq_getElem?_getD,List.getElem?_eq_getElem (by omega)]
  exact List.getElem_mem _
 ·rcases h2 with h2|h2
  ·exact absurd h2 hq
  ·exact h2
section
variable {nn nt:Nat}{ps:List Prod}{tb:List (List Int)}{look:Int}
theorem mFeed_all (hT:TabR nn nt ps tb) (h0:0≤look) (h1:look≤(nt:Int)):∀(k:Nat) (st:List Sym) (sp:List Int) (R:Int×List Sym×List Int),mFeed nt ps tb look k st sp=some R→st.all (okSym nn nt)=true→R.1=0→R.2.1.all (okSym nn nt)=true∧(look=(nt:Int)→R.2.1= [])
 |0,_,_,_,h,_,_=>by simp [mFeed] at h
 |k+1,[],sp,R,h,_,_=>by
  rw [mFeed] at h
  have h:=(Option.some.inj h).symm
  subst h
  exact⟨rfl,fun _=>rfl⟩
 |k+1,x::st,sp,R,h,hok,hR=>by
  rw [mFeed] at h
  rw [List.all_cons,Bool.and_eq_true] at hok
  obtain⟨hx,hok⟩:=hok
  split at h
  ·rename_i hc
   have h:=(Option.some.inj h).symm
   subst h
   refine⟨hok,fun hl=>?_⟩
   have:x.f1<(nt:Int):=by
    have:=hx
    simp [okSym,hc.1] at this
    exact this.2
   omega
  ·split at h
   ·have h:=(Option.some.inj h).symm
    subst h
    simp at hR
   ·rename_i hc1 hc2
    have hxf:x.f0=false:=by
     cases hb:x.f0 with
     |true=>exact absurd (.inl hb) hc2
     |false=>rfl
    obtain⟨hx0,hx1⟩:0≤x.f1∧x.f1<(nn:Int):=by simpa [okSym,hxf] using hx
    obtain⟨hm,_,_⟩:=ent_prod (hT.ent x.f1 look hx0 hx1 h0 h1) (fun h=>hc2 (.inr h))
    have hro:=List.all_eq_true.1 hT.prods _ hm
    simp only [okProd,Bool.and_eq_true] at hro
    split at h
    ·exact mFeed_all hT h0 h1 k _ _ R h (by rw [List.all_append,hro.2,hok];rfl) hR
    ·have h:=(Option.some.inj h).symm
     subst h
     simp at hR
def Goes (nn nt:Nat) (st:List Sym) (d:Bool):Prop:=d=false∧stAwaits nn nt st=true
theorem mFeedAll_eq (hr:tbRight nn nt ps tb=true) {st:List Sym}{d:Bool}(hg:Goes nn nt st d) (h0:0≤look) (h1:look≤(nt:Int)):∃R,mFeed nt ps tb look 10002 st.reverse []=some R∧mFeedAll nn nt ps tb st d look=mOut (some R):=by
 obtain⟨R,hR⟩:=mFeed_some (nt:=nt) (ps:=ps) (tb:=tb) (look:=look) 10002 st.reverse [] (by omega) (by simp)
 refine⟨R,hR,?_⟩
 unfold mFeedAll
 rw [if_pos ⟨hr,hg.2,h0,h1⟩,if_neg (by rw [hg.1];simp),hR]
theorem feed_goes (hr:tbRight nn nt ps tb=true) {st:List Sym}{d:Bool}(hg:Goes nn nt st d) (h0:0≤look) (h1:look≤(nt:Int)) (he:(mFeedAll nn nt ps tb st d look).2.2.2=0):
 Goes nn nt (mFeedAll nn nt ps tb st d look).1 (mFeedAll nn nt ps tb st d look).2.1∧(look=(nt:Int)→(mFeedAll nn nt ps tb st d look).1= []):=by
 obtain⟨R,hR,e⟩:=mFeedAll_eq hr hg h0 h1
 rw [e] at he ⊢
 obtain⟨er,s,p⟩:=R
 have em:mOut (some (er,s,p))=if er=0 then(s.reverse,false,p,0) else([],true,p,er):=rfl
 rw [em] at he ⊢
 have ha:=hg.2
 simp only [stAwaits,Bool.and_eq_true,decide_eq_true_eq] at ha
 by_cases h:er=0
 rotate_left
 ·rw [if_neg h] at he
  exact absurd he h
 rw [if_pos h]
 have h2:=mFeed_all (tabR hr) h0 h1 10002 st.reverse [] _ hR (by rw [List.all_reverse];exact ha.2) h
 have h3:=mFeed_len 10002 st.reverse [] _ hR (by rw [List.length_reverse];exact ha.1) (by simp)
 refine⟨⟨rfl,?_⟩,fun hl=>?_⟩
 ·simp only [stAwaits,Bool.and_eq_true,decide_eq_true_eq,List.length_reverse,List.all_reverse]
  exact⟨h3.2 h,h2.1⟩
 ·have:=h2.2 hl
  simp only at this
  rw [this]
  rfl
theorem feed_err (hr:tbRight nn nt ps tb=true) {st:List Sym}{d:Bool}(hg:Goes nn nt st d) (h0:0≤look) (h1:look≤(nt:Int)) (he:(mFeedAll nn nt ps tb st d look).2.2.2≠0):
 (mFeedAll nn nt ps tb st d look).1= []∧(mFeedAll nn nt ps tb st d look).2.1=true:=by
 obtain⟨R,hR,e⟩:=mFeedAll_eq hr hg h0 h1
 rw [e] at he ⊢
 obtain⟨er,s,p⟩:=R
 have em:mOut (some (er,s,p))=if er=0 then(s.reverse,false,p,0) else([],true,p,er):=rfl
 rw [em] at he ⊢
 by_cases h:er=0
 rotate_left
 ·rw [if_neg h]
  exact⟨rfl,rfl⟩
 rw [if_pos h] at he
 exact absurd rfl he
theorem feed_done (hr:tbRight nn nt ps tb=true):mFeedAll nn nt ps tb [] false (nt:Int)=([],false,[],0):=by
 unfold mFeedAll
 rw [if_pos ⟨hr,rfl,by omega,by omega⟩,if_neg (by simp)]
 have:mFeed nt ps tb (nt:Int) (10001+1) [] []=some (0,[],[]):=by rw [mFeed,if_neg (by omega)]
 rw [List.reverse_nil,this]
 rfl
theorem goes_start (hn:0<nn):Goes nn nt [⟨false,0⟩] false:=⟨rfl,by simp [stAwaits,okSym];omega⟩
end
end Go.Proofs.Ytapjfnfengefpaa.M
end

section
namespace Go.Proofs.Ytapjfnfengefpaa.Pure
open Go.RowKit Go.Proofs.Ytapjfnfengefpaa.P Go.Proofs.YtapjfnfengefpaaW.PrintWords Go.Proofs.YtapjfnfengefpaaW.PrintLast Go.Proofs.YtapjfnfengefpaaW.PrintMore Go.Proofs.Ytapjfnfengefpaa.H Go.Proofs.Ytapjfnfengefpaa.M
set_option linter.unusedVariables false
variable {ns:List ByteArray}{ts:List M.Tok}{ps:List M.Prod}{tb:List (List Int)}
theorem ends_l0_ev (hf:Fit ts ps tb) (hr:tbRight ns.length ts.length ps tb=true) {x:List Int}(hx:∀y∈x,0≤y∧y<(ts.length:Int)) (hxl:x.length≤10):∀(rest pre:List Int) (st:List M.Sym) (d:Bool) (out:List Int),mRun ns.length ts.length ps tb x 0 [⟨false,0⟩] false []=mRun ns.length ts.length ps tb rest pre.length st d out→x=pre++rest→Goes ns.length ts.length st d→
 Ev (fun k=>regletlaw16_MachineEnds.l0 k true tb x 0 (pre.length:Int) ns ts 0 0 ps st d) true
 | [],pre,st,d,out,hR,e,hg=>by
  rw [List.append_nil] at e
  subst e
  rw [mRun] at hR
  refine Ev.step (fun k=>by rw [regletlaw16_MachineEnds.l0]) (Ev.neg (by omega) ?_)
  have hRun:=machRun_ev (l0:=ns) (a2:=0) (a3:=0) hf (l:=x) (by omega)
  by_cases h:(mFeedAll ns.length ts.length ps tb st d (ts.length:Int)).2.2.2=0
  ·rw [if_pos h] at hR
   obtain⟨hg2,hnil⟩:=feed_goes hr hg (by omega) (Int.le_refl _) h
   have hnil:=hnil rfl
   have hF:=machFeed_val hf st d (ts.length:Int) (l0:=ns) (a2:=0) (a3:=0)
   generalize mFeedAll ns.length ts.length ps tb st d (ts.length:Int)=r at h hR hg2 hnil hF
   rw [hR] at hRun
   refine Ev.step (fun k=>by rw [regletlaw16_MachineEnds.j1]) (Ev.bind hRun (Ev.pos rfl (Ev.bind0 hF ?_)))
   refine Ev.pos h ?_
   rw [hnil,hg2.1]
   refine Ev.bind0 (machFeed_val hf [] false _) ?_
   rw [feed_done hr]
   exact Ev.pos rfl (Ev.pos rfl (Ev.pos rfl (Ev.pos rfl (Ev.some rfl))))
  ·rw [if_neg h] at hR
   obtain⟨h1,h2⟩:=feed_err hr hg (by omega) (Int.le_refl _) h
   have hF:=machFeed_val hf st d (ts.length:Int) (l0:=ns) (a2:=0) (a3:=0)
   generalize mFeedAll ns.length ts.length ps tb st d (ts.length:Int)=r at h hR h1 h2 hF
   rw [hR] at hRun
   refine Ev.step (fun k=>by rw [regletlaw16_MachineEnds.j1]) (Ev.bind hRun (Ev.pos rfl (Ev.bind0 hF ?_)))
   refine Ev.neg h (Ev.pos rfl (Ev.pos rfl ?_))
   exact Ev.some (by rw [h2])
 |y::rest,pre,st,d,out,hR,e,hg=>by
  have hy:=hx y (by rw [e];simp)
  have hlt:pre.length<x.length:=by rw [e];simp
  have er:rd x (pre.length:Int)=y:=by rw [e];exact getD_mid _ pre y _ _ rfl
  rw [mRun,if_neg (by omega)] at hR
  refine Ev.step (fun k=>by rw [regletlaw16_MachineEnds.l0]) (Ev.pos (by omega) (Ev.pos rfl (Ev.pos (by omega) ?_)))
  rw [er]
  refine Ev.bind0 (machFeed_val hf st d _) ?_
  by_cases h:(mFeedAll ns.length ts.length ps tb st d y).2.2.2=0
  ·rw [if_pos h] at hR
   obtain⟨hg2,_⟩:=feed_goes hr hg hy.1 (by omega) h
   generalize mFeedAll ns.length ts.length ps tb st d y=r at h hR hg2 ⊢
   have ih:=ends_l0_ev hf hr hx hxl rest (pre++ [y]) r.1 r.2.1 (out++r.2.2.1) (by rw [hR,List.length_append,List.length_singleton]) (by rw [List.append_assoc];exact e) hg2
   rw [←wrap_next pre y (by omega)] at ih
   rw [h]
   exact ih
  ·rw [if_neg h] at hR
   generalize mFeedAll ns.length ts.length ps tb st d y=r at h hR ⊢
   have hj:Ev (fun k=>regletlaw16_MachineEnds.j1 k true tb x r.2.2.2 ns ts 0 0 ps r.1 r.2.1) true:=by
    refine Ev.step (fun k=>by rw [regletlaw16_MachineEnds.j1]) (Ev.bind (machRun_ev hf (by omega)) (Ev.neg h (Ev.pos rfl ?_)))
    rw [hR]
    exact Ev.some (by simp [h])
   refine Ev.step (fun k=>by rw [regletlaw16_MachineEnds.l0]) ?_
   by_cases hl:wrap64 ((pre.length:Int)+1)<(x.length:Int)
   ·exact Ev.pos hl (Ev.neg h hj)
   ·exact Ev.neg hl hj
theorem MachineEnds:regletlaw16_MachineEnds.Pure:=by
 intro l0 l1 _ _ hw0 _ _ hw1
 obtain⟨ns,ts,ps,hm,hM⟩:=made_ev0 hw0
 have hu:∀x∈l1,0≤x∧x≤255:=fun x hx=>wf_u8 (hw1 x hx)
 have hC:=clear_ev hm hM
 have h:=synOk_clear hm
 generalize clTs 0 ps.length=ts2 at hC h
 generalize clPs ps.length 0 ps=ps2 at hC h
 obtain⟨tb,hT,hS,hd⟩:=table_ev h 0 0 (at_:=255) (n:=0) (by omega) (by omega)
 have hd:=hd (by omega)
 have hr:tbRight ns.length ts2.length ps2 tb=true:=by rw [hd];exact tbRight_pred h
 have ht1:=h.t1
 obtain⟨t,hK,hl,ht⟩:=tokens_ev hu (n:=(ts2.length:Int)) (by omega)
 apply Ev.rounds
 unfold regletlaw16_MachineEnds.f
 refine Ev.bind awake16_ev (Ev.pos rfl ?_)
 refine Ev.bind hC (Ev.bind hT (Ev.bind hK ?_))
 refine Ev.bind0 (a:=([(⟨false,0⟩:M.Sym)],false)) rfl ?_
 exact ends_l0_ev (h.fit hS) hr ht hl t [] [⟨false,0⟩] false [] rfl rfl (goes_start h.n1)
end Go.Proofs.Ytapjfnfengefpaa.Pure
end
