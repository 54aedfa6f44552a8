/- Packed texts of this claim: the walks of the functions, and their plain laws; see the claim's last text. -/
import Derived.Deep.RegionHeld3
import Derived.WalkSpells
import Derived.Outline
import Derived.BigQuiet
import Derived.Deep.Cut
import Derived.Test.YtapjfnfengefpaaKMachineOne2
section
namespace Go.Proofs.Ytapjfnfengefpaa.P
open Go.RowKit Go.Proofs.YtapjfnfengefpaaW.PrintWords Go.Proofs.YtapjfnfengefpaaW.PrintLast Go.Proofs.YtapjfnfengefpaaW.PrintMore
attribute [local go_sem] max2_int min2_int max_two min_two max_three min_three max_four min_four   -- for this text's walks alone
set_option linter.unusedVariables false
set_option linter.unusedSimpArgs false
mutual
def regletref13_Empty.l0:Nat→List Bool→Bool→List ByteArray→List (S72)→Int→Int→List (S35)→Option (List Bool)
 |0,_,_,_,_,_,_,_=>none
 |k+1,x3,x4,x344000,x344001,x344002,x344003,x344004=>if x4=true then(regletref13_Empty.l1 k x3 false 0 x344000 x344001 x344002 x344003 x344004) else(some x3)
def regletref13_Empty.l1:Nat→List Bool→Bool→Int→List ByteArray→List (S72)→Int→Int→List (S35)→Option (List Bool)
 |0,_,_,_,_,_,_,_,_=>none
 |k+1,x3,x4,x5,x344000,x344001,x344002,x344003,x344004=>if x5<(x344004.length:Int) then(regletref13_Empty.l2 k x3 x4 x5 true 0 x344000 x344001 x344002 x344003 x344004) else(regletref13_Empty.l0 k x3 x4 x344000 x344001 x344002 x344003 x344004)
def regletref13_Empty.l2:Nat→List Bool→Bool→Int→Bool→Int→List ByteArray→List (S72)→Int→Int→List (S35)→Option (List Bool)
 |0,_,_,_,_,_,_,_,_,_,_=>none
 |k+1,x3,x4,x5,x6,x7,x344000,x344001,x344002,x344003,x344004=>if 0≤x5 then(if x5<(x344004.length:Int) then(if x7<(((rd_T35 x344004 x5).f1).length:Int) then(if 0≤x7 then(if x6=true then(if((rd_T43 ((rd_T35 x344004 x5).f1) x7).f0=true) then(regletref13_Empty.l2 k x3 x4 x5 false (wrap64 (x7+1)) x344000 x344001 x344002 x344003 x344004) else(if 0≤((rd_T43 ((rd_T35 x344004 x5).f1) x7).f1) then(if((rd_T43 ((rd_T35 x344004 x5).f1) x7).f1)<(x3.length:Int) then(regletref13_Empty.l2 k x3 x4 x5 (rdOf false x3 ((rd_T43 ((rd_T35 x344004 x5).f1) x7).f1)) (wrap64 (x7+1)) x344000 x344001 x344002 x344003 x344004) else(none)) else(none))) else(regletref13_Empty.l2 k x3 x4 x5 false (wrap64 (x7+1)) x344000 x344001 x344002 x344003 x344004)) else(none)) else(if x6=true then(if 0≤((rd_T35 x344004 x5).f0) then(if((rd_T35 x344004 x5).f0)<(x3.length:Int) then(if(rdOf false x3 ((rd_T35 x344004 x5).f0)=true) then(regletref13_Empty.l1 k x3 x4 (wrap64 (x5+1)) x344000 x344001 x344002 x344003 x344004) else(regletref13_Empty.l1 k (x3.set (((rd_T35 x344004 x5).f0):Int).toNat true) true (wrap64 (x5+1)) x344000 x344001 x344002 x344003 x344004)) else(none)) else(none)) else(regletref13_Empty.l1 k x3 x4 (wrap64 (x5+1)) x344000 x344001 x344002 x344003 x344004))) else(none)) else(none)
end
def regletref13_Empty.f (k:Nat) (l0_0:List ByteArray) (l0_1:List (S72)) (a0_2:Int) (a0_3:Int) (l0_4:List (S35)):Option (List Bool):=(regletref13_Right.f k l0_0 l0_1 a0_2 a0_3 l0_4).bind fun t344=>(if t344=true then(if 0≤(l0_0.length:Int) then(if((l0_0.length:Int):Int).toNat≤281474976710656 then(regletref13_Empty.l0 k (List.replicate ((l0_0.length:Int):Int).toNat false) true l0_0 l0_1 a0_2 a0_3 l0_4) else(none)) else(none)) else(some ([]:List Bool)))
set_option maxHeartbeats 8000000 in
set_option maxRecDepth 100000 in
theorem regletref13_Empty.calls (k:Nat) (A0_0:Option Addr) (c0_0:Nat) (l0_0:List ByteArray) (A0_1:Option Addr) (c0_1:Nat) (l0_1:List (S72)) (a0_2:Int) (a0_3:Int) (A0_4:Option Addr) (c0_4:Nat) (l0_4:List (S35)) (r:List Bool) (w:World) (hr0_0:Kd.C Kd.string w A0_0 l0_0.length l0_0) (hc0_0:l0_0.length≤c0_0) (hr0_1:Kd.C k72 w A0_1 l0_1.length l0_1) (hc0_1:l0_1.length≤c0_1) (hr0_4:Kd.C k35 w A0_4 l0_4.length l0_4) (hc0_4:l0_4.length≤c0_4) (h:regletref13_Empty.f k l0_0 l0_1 a0_2 a0_3 l0_4=some r):
 Calls Try.prog 45 #[.agg #[.slice A0_0 l0_0.length c0_0,.slice A0_1 l0_1.length c0_1,.int .i64 a0_2,.int .i64 a0_3,.slice A0_4 l0_4.length c0_4]] w fun e w'=>∃v0_:Value,e= .returned (v0_)∧Kd.R Kd.bool 4 w' w.heap.size (fun _=>True) v0_ r∧Below w.heap.size w w':=by
 have hu26:=Try.underlying26
 have hu43:=Try.underlying43
 have HR0_0:=Aside0.mk hr0_0
 have HC0_0:=Aside0.mk hc0_0
 clear hr0_0 hc0_0
 have HR0_1:=Aside0.mk hr0_1
 have HC0_1:=Aside0.mk hc0_1
 clear hr0_1 hc0_1
 have HR0_4:=Aside0.mk hr0_4
 have HC0_4:=Aside0.mk hc0_4
 clear hr0_4 hc0_4
 have HB:=Aside0.mk (Below.refl w.heap.size w)
 have H:((regletref13_Right.f k l0_0 l0_1 a0_2 a0_3 l0_4).bind fun t344=>(if t344=true then(if 0≤(l0_0.length:Int) then(if((l0_0.length:Int):Int).toNat≤281474976710656 then(regletref13_Empty.l0 k (List.replicate ((l0_0.length:Int):Int).toNat false) true l0_0 l0_1 a0_2 a0_3 l0_4) else(none)) else(none)) else(some ([]:List Bool))))=some r:=h
 clear h
 replace H:=Option.bind_eq_some_iff.mp H
 obtain⟨t344,A20,H⟩:=H
 replace H:(if t344=true then(if 0≤(l0_0.length:Int) then(if((l0_0.length:Int):Int).toNat≤281474976710656 then(regletref13_Empty.l0 k (List.replicate ((l0_0.length:Int):Int).toNat false) true l0_0 l0_1 a0_2 a0_3 l0_4) else(none)) else(none)) else(some ([]:List Bool)))=some r:=H
 have A2:=Aside0.mk A20
 clear A20
 by_cases c3:t344=true
 ·subst c3
  have H1:(if 0≤(l0_0.length:Int) then(if((l0_0.length:Int):Int).toNat≤281474976710656 then(regletref13_Empty.l0 k (List.replicate ((l0_0.length:Int):Int).toNat false) true l0_0 l0_1 a0_2 a0_3 l0_4) else(none)) else(none))=some r:=by rw [if_pos rfl] at H;exact H
  clear H
  have H:=H1
  clear H1
  by_cases c4:0≤(l0_0.length:Int)
  rotate_left
  ·rw [if_neg c4] at H
   exact absurd H (by simp)
  rw [if_pos c4] at H
  have c4b0:=eq_true c4
  have c4b1:decide (0≤(l0_0.length:Int))=true:=decide_eq_true c4
  clear c4
  by_cases c5:((l0_0.length:Int):Int).toNat≤281474976710656
  rotate_left
  ·rw [if_neg c5] at H
   exact absurd H (by simp)
  rw [if_pos c5] at H
  have c5b0:=eq_true c5
  have c5b1:decide (((l0_0.length:Int):Int).toNat≤281474976710656)=true:=decide_eq_true c5
  clear c5
  obtain⟨y345,hy345⟩:∃y_:List Bool,y_=(List.replicate ((l0_0.length:Int):Int).toNat false):=⟨_,rfl⟩
  replace H:(regletref13_Empty.l0 k y345 true l0_0 l0_1 a0_2 a0_3 l0_4)=some r:=by first|(rw [hy345];with_reducible exact H)|(have H2_:=(Option.bind_some _ _).symm.trans H;rw [hy345];with_reducible exact H2_)|(have H2_:=(Option.bind_some _ _).symm.trans H;with_reducible exact H2_)|with_reducible exact H|(rw [hy345];exact H)|exact H
  have Ny345:=Aside0.mk hy345
  clear hy345
  have H':=Aside0.mk H
  clear H
  go_enter Try.func45,Try.ntmps45
  go_wp2_with (first|((with_reducible refine gate_dst (N:=1) rfl ?_);refine box_event ?hg (N:=1) ?hd (cs:=#[.slice A0_0 l0_0.length c0_0,.slice A0_1 l0_1.length c0_1,.int .i64 a0_2,.int .i64 a0_3,.slice A0_4 l0_4.length c0_4]) (t:=26) ?hr ?_;(case hd=>rfl);(case hg=>rfl);(case hr=>first|(go_simp;done)|(go_simp;rfl));intro gb343 hg w6 hbox hb;have n0_:=Aside0.mk (below_step (by repeat(first|(with_reducible first|exact HB.out|apply below_alloc|apply pw_below_drewN|apply below_drew1)|exact HB.out)) hb);have n1_:=Aside0.mk (hbox);have n2_:=Aside0.mk ((by rw [hg];exact(below_size (by repeat(first|(with_reducible first|exact HB.out|apply below_alloc|apply pw_below_drewN|apply below_drew1)|exact HB.out))):w.heap.size≤gb343));have n3_:=Aside0.mk ((by rw [hg];exact(below_size (by repeat(first|(with_reducible first|exact HB.out|apply below_alloc|apply pw_below_drewN|apply below_drew1)|exact HB.out))):w.heap.size≤gb343));clear HB;have HB:=n0_;have BK343:=n1_;have GW343:=n2_;have GE343:=n3_;clear n0_ n1_ n2_ n3_;clear hb hbox hg;have hcz7_0:w6.cell? ⟨gb343,0,none⟩=some (.slice A0_0 l0_0.length c0_0):=(blk_cell BK343.out 0).trans rfl;have hcz7_1:w6.cell? ⟨gb343,1,none⟩=some (.slice A0_1 l0_1.length c0_1):=(blk_cell BK343.out 1).trans rfl;have hcz7_2:w6.cell? ⟨gb343,2,none⟩=some (.int .i64 a0_2):=(blk_cell BK343.out 2).trans rfl;have hcz7_3:w6.cell? ⟨gb343,3,none⟩=some (.int .i64 a0_3):=(blk_cell BK343.out 3).trans rfl;have hcz7_4:w6.cell? ⟨gb343,4,none⟩=some (.slice A0_4 l0_4.length c0_4):=(blk_cell BK343.out 4).trans rfl;have hfz7_0:=blk_frozen BK343.out 0;have hfz7_1:=blk_frozen BK343.out 1;have hfz7_2:=blk_frozen BK343.out 2;have hfz7_3:=blk_frozen BK343.out 3;have hfz7_4:=blk_frozen BK343.out 4)|((with_reducible refine gate_callee (f:=30) rfl ?_);refine goesL_ (some 10) rfl rfl Try.func30 (by kernel_rfl) rfl #[.agg #[.slice A0_0 l0_0.length c0_0,.slice A0_1 l0_1.length c0_1,.int .i64 a0_2,.int .i64 a0_3,.slice A0_4 l0_4.length c0_4]] rfl (by(try simp only [List.map_toArray,List.map_cons,List.map_nil]);first|done|rfl|(simp only [List.length_drop,List.length_take];rfl)) ?_;(with_reducible refine(regletref13_Right.calls k _ _ l0_0 _ _ l0_1 a0_2 a0_3 _ _ l0_4 true _ ?side1 ?side2 ?side3 ?side4 ?side5 ?side6 A2.out).mono ?_);(case side1=>repeat(first|exact(Kd.C_below HR0_0.out HB.out)|(with_reducible refine Kd.C_alloc ?_ _)|(with_reducible refine Kd.C_drewN ?_ _)|(with_reducible refine Kd.C_drew ?_)));(case side2=>exact HC0_0.out);(case side3=>repeat(first|exact(Kd.C_below HR0_1.out HB.out)|(with_reducible refine Kd.C_alloc ?_ _)|(with_reducible refine Kd.C_drewN ?_ _)|(with_reducible refine Kd.C_drew ?_)));(case side4=>exact HC0_1.out);(case side5=>repeat(first|exact(Kd.C_below HR0_4.out HB.out)|(with_reducible refine Kd.C_alloc ?_ _)|(with_reducible refine Kd.C_drewN ?_ _)|(with_reducible refine Kd.C_drew ?_)));(case side6=>exact HC0_4.out);rintro e w8 ⟨rfl,hb⟩;refine⟨_,rfl,?_⟩;have n0_:=Aside0.mk (blk_below (g:=gb343) (o:= .cells #[.slice A0_0 l0_0.length c0_0,.slice A0_1 l0_1.length c0_1,.int .i64 a0_2,.int .i64 a0_3,.slice A0_4 l0_4.length c0_4] 26 (0,0)) (by(with_reducible repeat(first|refine blk_drewN ?_ _|refine blk_drew ?_|refine blk_alloc ?_ _));exact BK343.out) hb);have n1_:=Aside0.mk (below_step (by repeat(first|(with_reducible first|exact HB.out|apply below_alloc|apply pw_below_drewN|apply below_drew1|refine below_set ?_ GE343.out)|exact HB.out)) hb);clear BK343;clear HB;have BK343:=n0_;have HB:=n1_;clear n0_ n1_;(try clear hb);(try clear hb2);(try clear hk);(try clear hi);have hcz9_0:w8.cell? ⟨gb343,0,none⟩=some (.slice A0_0 l0_0.length c0_0):=(blk_cell BK343.out 0).trans rfl;have hcz9_1:w8.cell? ⟨gb343,1,none⟩=some (.slice A0_1 l0_1.length c0_1):=(blk_cell BK343.out 1).trans rfl;have hcz9_2:w8.cell? ⟨gb343,2,none⟩=some (.int .i64 a0_2):=(blk_cell BK343.out 2).trans rfl;have hcz9_3:w8.cell? ⟨gb343,3,none⟩=some (.int .i64 a0_3):=(blk_cell BK343.out 3).trans rfl;have hcz9_4:w8.cell? ⟨gb343,4,none⟩=some (.slice A0_4 l0_4.length c0_4):=(blk_cell BK343.out 4).trans rfl;have hfz9_0:=blk_frozen BK343.out 0;have hfz9_1:=blk_frozen BK343.out 1;have hfz9_2:=blk_frozen BK343.out 2;have hfz9_3:=blk_frozen BK343.out 3;have hfz9_4:=blk_frozen BK343.out 4)|((with_reducible refine gate_dst (N:=15) rfl ?_);refine Kd.R_make Kd.bool _ 4 rfl (N:=15) rfl 90 _ _ rfl (l0_0.length:Int) rfl rfl Try.underlying90 (.bool false) 1 info4 rfl (by decide) (by omega) false (ok:=fun _=>True) (okp:=fun _=>True) rfl (fun _ hk=>hk) trivial (of_decide_eq_true (by first|(with_reducible assumption)|assumption)) (Nat.le_trans (Nat.mul_le_mul_right _ (of_decide_eq_true (by first|(with_reducible assumption)|assumption):(l0_0.length:Int).toNat≤281474976710656)) (by omega)) (Below.refl _ _) (Nat.le_refl _) ?_;intro v346 w10 ho11 hb hg_ hnew_;clear hg_ hnew_;(first|rw [←Ny345.out] at ho11|(simp only [Int.reduceToNat] at ho11;rw [←Ny345.out] at ho11));have n0_:=Aside0.mk (Kd.R_lower ho11 (below_size (by repeat(first|(with_reducible first|exact HB.out|apply below_alloc|apply pw_below_drewN|apply below_drew1|refine below_set ?_ GE343.out)|exact HB.out))));have n1_:=Aside0.mk (blk_below (g:=gb343) (o:= .cells #[.slice A0_0 l0_0.length c0_0,.slice A0_1 l0_1.length c0_1,.int .i64 a0_2,.int .i64 a0_3,.slice A0_4 l0_4.length c0_4] 26 (0,0)) (by(with_reducible repeat(first|refine blk_drewN ?_ _|refine blk_drew ?_|refine blk_alloc ?_ _));exact BK343.out) hb);have n2_:=Aside0.mk (below_step (by repeat(first|(with_reducible first|exact HB.out|apply below_alloc|apply pw_below_drewN|apply below_drew1|refine below_set ?_ GE343.out)|exact HB.out)) hb);clear BK343;clear HB;have HO347:=n0_;have BK343:=n1_;have HB:=n2_;clear n0_ n1_ n2_;clear hb ho11))
  go_loopg [4] k (fun kq v4 w'=>∃(x3_1:List Bool) (x4_1:Bool),v4= .bool x4_1∧Aside0 (regletref13_Empty.l0 kq x3_1 x4_1 l0_0 l0_1 a0_2 a0_3 l0_4=some r)∧Aside0 (kq≤k)∧Aside0 (Kd.R Kd.bool 4 w' w.heap.size (fun _=>True) v346 x3_1)∧Aside0 (w'.heap[gb343]?=some (.cells #[(.slice A0_0 l0_0.length c0_0),(.slice A0_1 l0_1.length c0_1),.int .i64 a0_2,.int .i64 a0_3,(.slice A0_4 l0_4.length c0_4)] 26 (0,0)))∧Aside0 (Below w.heap.size w w'))
  case atStart=>exact⟨(y345),(true),(by first|rfl|(simp;done)|(simp [*];done)),H',⟨Nat.le_refl _⟩,⟨by(with_reducible repeat(first|apply Kd.R_alloc|apply Kd.R_drewN|apply Kd.R_drew));exact HO347.out⟩,⟨by(with_reducible repeat(first|refine blk_drewN ?_ _|refine blk_drew ?_|refine blk_alloc ?_ _));exact BK343.out⟩,⟨by repeat(first|(with_reducible first|exact HB.out|apply below_alloc|apply pw_below_drewN|apply below_drew1|refine below_set ?_ GE343.out)|exact HB.out)⟩⟩
  case round=>
   clear H'
   (try clear p2);(try clear c3);(try clear c4);(try clear c4b0);(try clear c4b1);(try clear c5);(try clear c5b0);(try clear c5b1);(try clear hcz7_0);(try clear hcz7_1);(try clear hcz7_2);(try clear hcz7_3);(try clear hcz7_4);(try clear hcz9_0);(try clear hcz9_1);(try clear hcz9_2);(try clear hcz9_3);(try clear hcz9_4);(try clear hfz7_0);(try clear hfz7_1);(try clear hfz7_2);(try clear hfz7_3);(try clear hfz7_4)
   (try clear hfz9_0);(try clear hfz9_1);(try clear hfz9_2);(try clear hfz9_3);(try clear hfz9_4)
   obtain⟨x3_1,x4_1,rfl,HA,HK1,HO_3,BK343,HB⟩:=hrel
   cases gk with
   |zero=>exact absurd HA.out (by simp [regletref13_Empty.l0])
   |succ k1=>
    have H:=HA.out
    clear HA
    simp only [regletref13_Empty.l0] at H
    by_cases c12:x4_1=true
    ·subst c12
     have H1:(regletref13_Empty.l1 k1 x3_1 false 0 l0_0 l0_1 a0_2 a0_3 l0_4)=some r:=by rw [if_pos rfl] at H;exact H
     clear H
     have H:=H1
     clear H1
     have H':=Aside0.mk H
     clear H
     go_wp2
     go_loopg [4,5] k1 (fun kq v4 v5 w'=>∃(x3_2:List Bool) (x4_2:Bool) (x5_2:Int),v4= .bool x4_2∧v5= .int .i64 x5_2∧Aside0 (regletref13_Empty.l1 kq x3_2 x4_2 x5_2 l0_0 l0_1 a0_2 a0_3 l0_4=some r)∧Aside0 (kq≤k1)∧Aside0 (Kd.R Kd.bool 4 w' w.heap.size (fun _=>True) v346 x3_2)∧Aside0 (w'.heap[gb343]?=some (.cells #[(.slice A0_0 l0_0.length c0_0),(.slice A0_1 l0_1.length c0_1),.int .i64 a0_2,.int .i64 a0_3,(.slice A0_4 l0_4.length c0_4)] 26 (0,0)))∧Aside0 (Below w.heap.size w w'))
     case atStart=>exact⟨(x3_1),(false),(0),(by first|rfl|(simp;done)|(simp [*];done)),(by first|rfl|(simp;done)|(simp [*];done)),H',⟨Nat.le_refl _⟩,⟨by(with_reducible repeat(first|apply Kd.R_alloc|apply Kd.R_drewN|apply Kd.R_drew));exact HO_3.out⟩,⟨by(with_reducible repeat(first|refine blk_drewN ?_ _|refine blk_drew ?_|refine blk_alloc ?_ _));exact BK343.out⟩,⟨by repeat(first|(with_reducible first|exact HB.out|apply below_alloc|apply pw_below_drewN|apply below_drew1|refine below_set ?_ GE343.out)|exact HB.out)⟩⟩
     case round=>
      clear H'
      (try clear c1);(try clear p2);(try clear c3);(try clear c4);(try clear c4b0);(try clear c4b1);(try clear c5);(try clear c5b0);(try clear c5b1);(try clear c12);(try clear hcz7_0);(try clear hcz7_1);(try clear hcz7_2);(try clear hcz7_3);(try clear hcz7_4);(try clear hcz9_0);(try clear hcz9_1);(try clear hcz9_2);(try clear hcz9_3);(try clear hcz9_4);(try clear hfz7_0);(try clear hfz7_1);(try clear hfz7_2)
      (try clear hfz7_3);(try clear hfz7_4);(try clear hfz9_0);(try clear hfz9_1);(try clear hfz9_2);(try clear hfz9_3);(try clear hfz9_4);(try clear p2)
      obtain⟨x3_2,x4_2,x5_2,rfl,rfl,HA,HK2,HO_3,BK343,HB⟩:=hrel
      cases gk with
      |zero=>exact absurd HA.out (by simp [regletref13_Empty.l1])
      |succ k2=>
       have H:=HA.out
       clear HA
       simp only [regletref13_Empty.l1] at H
       by_cases c13:x5_2<(l0_4.length:Int)
       ·rw [if_pos c13] at H
        have c13b0:decide (x5_2<(l0_4.length:Int))=true:=decide_eq_true c13
        clear c13
        have H':=Aside0.mk H
        clear H
        have hcz14_0:wr.cell? ⟨gb343,0,none⟩=some (.slice A0_0 l0_0.length c0_0):=(blk_cell BK343.out 0).trans rfl
        have hcz14_1:wr.cell? ⟨gb343,1,none⟩=some (.slice A0_1 l0_1.length c0_1):=(blk_cell BK343.out 1).trans rfl
        have hcz14_2:wr.cell? ⟨gb343,2,none⟩=some (.int .i64 a0_2):=(blk_cell BK343.out 2).trans rfl
        have hcz14_3:wr.cell? ⟨gb343,3,none⟩=some (.int .i64 a0_3):=(blk_cell BK343.out 3).trans rfl
        have hcz14_4:wr.cell? ⟨gb343,4,none⟩=some (.slice A0_4 l0_4.length c0_4):=(blk_cell BK343.out 4).trans rfl
        have hfz14_0:=blk_frozen BK343.out 0
        have hfz14_1:=blk_frozen BK343.out 1
        have hfz14_2:=blk_frozen BK343.out 2
        have hfz14_3:=blk_frozen BK343.out 3
        have hfz14_4:=blk_frozen BK343.out 4
        go_wp2
        go_loopg [6,7] k2 (fun kq v6 v7 w'=>∃(x6_3:Bool) (x7_3:Int),v6= .bool x6_3∧v7= .int .i64 x7_3∧Aside0 (regletref13_Empty.l2 kq x3_2 x4_2 x5_2 x6_3 x7_3 l0_0 l0_1 a0_2 a0_3 l0_4=some r)∧Aside0 (kq≤k2)∧Aside0 (Kd.R Kd.bool 4 w' w.heap.size (fun _=>True) v346 x3_2)∧Aside0 (w'.heap[gb343]?=some (.cells #[(.slice A0_0 l0_0.length c0_0),(.slice A0_1 l0_1.length c0_1),.int .i64 a0_2,.int .i64 a0_3,(.slice A0_4 l0_4.length c0_4)] 26 (0,0)))∧Aside0 (Below w.heap.size w w'))
        case atStart=>exact⟨(true),(0),(by first|rfl|(simp;done)|(simp [*];done)),(by first|rfl|(simp;done)|(simp [*];done)),H',⟨Nat.le_refl _⟩,⟨by(with_reducible repeat(first|apply Kd.R_alloc|apply Kd.R_drewN|apply Kd.R_drew));exact HO_3.out⟩,⟨by(with_reducible repeat(first|refine blk_drewN ?_ _|refine blk_drew ?_|refine blk_alloc ?_ _));exact BK343.out⟩,⟨by repeat(first|(with_reducible first|exact HB.out|apply below_alloc|apply pw_below_drewN|apply below_drew1|refine below_set ?_ GE343.out)|exact HB.out)⟩⟩
        case round=>
         clear H'
         (try clear c1);(try clear p2);(try clear c3);(try clear c4);(try clear c4b0);(try clear c4b1);(try clear c5);(try clear c5b0);(try clear c5b1);(try clear c12);(try clear c13);(try clear c13b0);(try clear hcz14_0);(try clear hcz14_1);(try clear hcz14_2);(try clear hcz14_3);(try clear hcz14_4);(try clear hcz7_0);(try clear hcz7_1);(try clear hcz7_2);(try clear hcz7_3);(try clear hcz7_4);(try clear hcz9_0)
         (try clear hcz9_1);(try clear hcz9_2);(try clear hcz9_3);(try clear hcz9_4);(try clear hfz14_0);(try clear hfz14_1);(try clear hfz14_2);(try clear hfz14_3);(try clear hfz14_4);(try clear hfz7_0);(try clear hfz7_1);(try clear hfz7_2);(try clear hfz7_3);(try clear hfz7_4);(try clear hfz9_0);(try clear hfz9_1);(try clear hfz9_2);(try clear hfz9_3);(try clear hfz9_4);(try clear p2)
         obtain⟨x6_3,x7_3,rfl,rfl,HA,HK3,HO_3,BK343,HB⟩:=hrel
         cases gk with
         |zero=>exact absurd HA.out (by simp [regletref13_Empty.l2])
         |succ k3=>
          have H:=HA.out
          clear HA
          simp only [regletref13_Empty.l2] at H
          by_cases c15:0≤x5_2
          rotate_left
          ·rw [if_neg c15] at H
           exact absurd H (by simp)
          rw [if_pos c15] at H
          have c15b0:decide (0≤x5_2)=true:=decide_eq_true c15
          clear c15
          by_cases c16:x5_2<(l0_4.length:Int)
          rotate_left
          ·rw [if_neg c16] at H
           exact absurd H (by simp)
          rw [if_pos c16] at H
          have c16b0:decide (x5_2<(l0_4.length:Int))=true:=decide_eq_true c16
          clear c16
          by_cases c17:x7_3<(((rd_T35 l0_4 x5_2).f1).length:Int)
          ·rw [if_pos c17] at H
           have c17b0:decide (x7_3<(((rd_T35 l0_4 x5_2).f1).length:Int))=true:=decide_eq_true c17
           clear c17
           by_cases c18:0≤x7_3
           rotate_left
           ·rw [if_neg c18] at H
            exact absurd H (by simp)
           rw [if_pos c18] at H
           have c18b0:decide (0≤x7_3)=true:=decide_eq_true c18
           clear c18
           by_cases c19:x6_3=true
           ·subst c19
            have H1:(if((rd_T43 ((rd_T35 l0_4 x5_2).f1) x7_3).f0=true) then(regletref13_Empty.l2 k3 x3_2 x4_2 x5_2 false (wrap64 (x7_3+1)) l0_0 l0_1 a0_2 a0_3 l0_4) else(if 0≤((rd_T43 ((rd_T35 l0_4 x5_2).f1) x7_3).f1) then(if((rd_T43 ((rd_T35 l0_4 x5_2).f1) x7_3).f1)<(x3_2.length:Int) then(regletref13_Empty.l2 k3 x3_2 x4_2 x5_2 (rdOf false x3_2 ((rd_T43 ((rd_T35 l0_4 x5_2).f1) x7_3).f1)) (wrap64 (x7_3+1)) l0_0 l0_1 a0_2 a0_3 l0_4) else(none)) else(none)))=some r:=by rw [if_pos rfl] at H;exact H
            clear H
            have H:=H1
            clear H1
            obtain⟨bq20,hbq20⟩:∃b_:Bool,b_=((rd_T43 ((rd_T35 l0_4 x5_2).f1) x7_3).f0):=⟨_,rfl⟩
            replace H:(if(bq20=true) then(regletref13_Empty.l2 k3 x3_2 x4_2 x5_2 false (wrap64 (x7_3+1)) l0_0 l0_1 a0_2 a0_3 l0_4) else(if 0≤((rd_T43 ((rd_T35 l0_4 x5_2).f1) x7_3).f1) then(if((rd_T43 ((rd_T35 l0_4 x5_2).f1) x7_3).f1)<(x3_2.length:Int) then(regletref13_Empty.l2 k3 x3_2 x4_2 x5_2 (rdOf false x3_2 ((rd_T43 ((rd_T35 l0_4 x5_2).f1) x7_3).f1)) (wrap64 (x7_3+1)) l0_0 l0_1 a0_2 a0_3 l0_4) else(none)) else(none)))=some r:=by rw [←hbq20] at H;exact H
            have Nbq20:=Aside0.mk hbq20
            clear hbq20
            by_cases c21:(bq20=true)
            ·subst c21
             have H1:(regletref13_Empty.l2 k3 x3_2 x4_2 x5_2 false (wrap64 (x7_3+1)) l0_0 l0_1 a0_2 a0_3 l0_4)=some r:=by rw [if_pos rfl] at H;exact H
             clear H
             have H:=H1
             clear H1
             have H':=Aside0.mk H
             clear H
             have hcz22_0:wr.cell? ⟨gb343,0,none⟩=some (.slice A0_0 l0_0.length c0_0):=(blk_cell BK343.out 0).trans rfl
             have hcz22_1:wr.cell? ⟨gb343,1,none⟩=some (.slice A0_1 l0_1.length c0_1):=(blk_cell BK343.out 1).trans rfl
             have hcz22_2:wr.cell? ⟨gb343,2,none⟩=some (.int .i64 a0_2):=(blk_cell BK343.out 2).trans rfl
             have hcz22_3:wr.cell? ⟨gb343,3,none⟩=some (.int .i64 a0_3):=(blk_cell BK343.out 3).trans rfl
             have hcz22_4:wr.cell? ⟨gb343,4,none⟩=some (.slice A0_4 l0_4.length c0_4):=(blk_cell BK343.out 4).trans rfl
             have hfz22_0:=blk_frozen BK343.out 0
             have hfz22_1:=blk_frozen BK343.out 1
             have hfz22_2:=blk_frozen BK343.out 2
             have hfz22_3:=blk_frozen BK343.out 3
             have hfz22_4:=blk_frozen BK343.out 4
             have p348:0≤(x5_2:Int):=of_decide_eq_true (by first|(with_reducible assumption)|assumption)
             have q348:x5_2<(l0_4.length:Int):=of_decide_eq_true (by first|(with_reducible assumption)|assumption)
             obtain⟨ad348,A348_1,c348_1,e348,hx348_0,hx348_1,hl348_1,hi348_1⟩:=at_T35 HR0_4.out x5_2 p348 q348
             cases e348
             replace hx348_0:=(HB.out.cell (World.block_lt_of_cell? w _ hx348_0)).trans hx348_0
             replace hx348_1:=(HB.out.cell (World.block_lt_of_cell? w _ hx348_1)).trans hx348_1
             have HR348_1:=Aside0.mk hi348_1
             have HC348_1:=Aside0.mk hl348_1
             clear hi348_1 hl348_1
             replace p348:=eq_true p348
             replace q348:=eq_true q348
             have p349:0≤(x5_2:Int):=of_decide_eq_true (by first|(with_reducible assumption)|assumption)
             have q349:x5_2<(l0_4.length:Int):=of_decide_eq_true (by first|(with_reducible assumption)|assumption)
             obtain⟨ad349,A349_1,c349_1,e349,hx349_0,hx349_1,hl349_1,hi349_1⟩:=at_T35 HR0_4.out x5_2 p349 q349
             obtain rfl:ad348=ad349:=(by injection e349)
             replace hx349_0:=(HB.out.cell (World.block_lt_of_cell? w _ hx349_0)).trans hx349_0
             replace hx349_1:=(HB.out.cell (World.block_lt_of_cell? w _ hx349_1)).trans hx349_1
             have HR349_1:=Aside0.mk hi349_1
             have HC349_1:=Aside0.mk hl349_1
             clear hi349_1 hl349_1
             replace p349:=eq_true p349
             replace q349:=eq_true q349
             have ea_:=Option.some.inj (hx348_1.symm.trans hx349_1)
             injection ea_ with ea_ en_ ec_
             subst ea_
             subst ec_
             clear en_
             have p350:0≤(x7_3:Int):=of_decide_eq_true (by first|(with_reducible assumption)|assumption)
             have q350:x7_3<(((rd_T35 l0_4 x5_2).f1).length:Int):=of_decide_eq_true (by first|(with_reducible assumption)|assumption)
             obtain⟨ad350,e350,hx350_0,hx350_1⟩:=at_T43 HR349_1.out x7_3 p350 q350
             (try rw [←Nbq20.out] at hx350_0)
             cases e350
             replace hx350_0:=(HB.out.cell (World.block_lt_of_cell? w _ hx350_0)).trans hx350_0
             replace hx350_1:=(HB.out.cell (World.block_lt_of_cell? w _ hx350_1)).trans hx350_1
             replace p350:=eq_true p350
             replace q350:=eq_true q350
             go_wp2_with (first|((with_reducible refine gate_dst (N:=8) rfl ?_);refine box_event ?hg (N:=8) ?hd (cs:=#[.bool false,.int .i64 0]) (t:=43) ?hr ?_;(case hd=>rfl);(case hg=>rfl);(case hr=>first|(go_simp;done)|(go_simp;rfl));intro gb351 hg w23 hbox hb;have n0_:=Aside0.mk (Kd.R_below (by(with_reducible repeat(first|apply Kd.R_alloc|apply Kd.R_drewN|apply Kd.R_drew));exact HO_3.out) hb);have n1_:=Aside0.mk (blk_below (g:=gb343) (o:= .cells #[.slice A0_0 l0_0.length c0_0,.slice A0_1 l0_1.length c0_1,.int .i64 a0_2,.int .i64 a0_3,.slice (some ad348) l0_4.length c0_4] 26 (0,0)) (by(with_reducible repeat(first|refine blk_drewN ?_ _|refine blk_drew ?_|refine blk_alloc ?_ _));exact BK343.out) hb);have n2_:=Aside0.mk (below_step (by repeat(first|(with_reducible first|exact HB.out|apply below_alloc|apply pw_below_drewN|apply below_drew1|refine below_set ?_ GE343.out)|exact HB.out)) hb);have n3_:=Aside0.mk (hbox);have n4_:=Aside0.mk ((by rw [hg];exact(below_size (by repeat(first|(with_reducible first|exact HB.out|apply below_alloc|apply pw_below_drewN|apply below_drew1|refine below_set ?_ GE343.out)|exact HB.out))):w.heap.size≤gb351));have n5_:=Aside0.mk ((by rw [hg];exact(below_size (by repeat(first|(with_reducible first|exact HB.out|apply below_alloc|apply pw_below_drewN|apply below_drew1|refine below_set ?_ GE343.out)|exact HB.out))):w.heap.size≤gb351));have n6_:=Aside0.mk ((by rw [hg];exact Nat.ne_of_lt (blk_lt (g:=gb343) (o:= .cells #[.slice A0_0 l0_0.length c0_0,.slice A0_1 l0_1.length c0_1,.int .i64 a0_2,.int .i64 a0_3,.slice (some ad348) l0_4.length c0_4] 26 (0,0)) (by(with_reducible repeat(first|refine blk_drewN ?_ _|refine blk_drew ?_|refine blk_alloc ?_ _));exact BK343.out)):gb343≠gb351));have n7_:=Aside0.mk ((by rw [hg];exact Nat.ne_of_gt (blk_lt (g:=gb343) (o:= .cells #[.slice A0_0 l0_0.length c0_0,.slice A0_1 l0_1.length c0_1,.int .i64 a0_2,.int .i64 a0_3,.slice (some ad348) l0_4.length c0_4] 26 (0,0)) (by(with_reducible repeat(first|refine blk_drewN ?_ _|refine blk_drew ?_|refine blk_alloc ?_ _));exact BK343.out)):gb351≠gb343));clear HO_3;clear BK343;clear HB;have HO_3:=n0_;have BK343:=n1_;have HB:=n2_;have BK351:=n3_;have GW351:=n4_;have GE351:=n5_;have NB343_351:=n6_;have NB351_343:=n7_;clear n0_ n1_ n2_ n3_ n4_ n5_ n6_ n7_;clear hb hbox hg;have hnb24:=NB351_343.out;have hnc24:=NB343_351.out;have hcz25_0:w23.cell? ⟨gb351,0,none⟩=some (.bool false):=(blk_cell BK351.out 0).trans rfl;have hcz25_1:w23.cell? ⟨gb351,1,none⟩=some (.int .i64 0):=(blk_cell BK351.out 1).trans rfl;have hfz25_0:=blk_frozen BK351.out 0;have hfz25_1:=blk_frozen BK351.out 1))
             go_roundg k3
             case measure=>have:=HK1.out;have:=HK2.out;have:=HK3.out;omega
             case rel=>exact⟨(false),(wrap64 (x7_3+1)),(by first|rfl|(simp;done)|(simp [*];done)),(by first|rfl|(simp;done)|(simp [*];done)),H',⟨by have:=HK1.out;have:=HK2.out;have:=HK3.out;omega⟩,⟨by(with_reducible repeat(first|apply Kd.R_alloc|apply Kd.R_drewN|apply Kd.R_drew));exact Kd.R_mono (Kd.R_far (p:=⟨gb351,1,none⟩) (Kd.R_far (p:=⟨gb351,0,none⟩) (Kd.R_types HO_3.out BK351.out (by decide)) (fun _ hk=>hk.2) (.bool true)) (fun _ hk=>hk.2) (.int .i64 ((rd_T43 ((rd_T35 l0_4 x5_2).f1) x7_3).f1))) (fun _ hk=>trivial)⟩,⟨by(with_reducible repeat(first|refine blk_drewN ?_ _|refine blk_drew ?_|refine blk_alloc ?_ _));refine blk_far ?_ NB343_351.out _;(with_reducible repeat(first|refine blk_drewN ?_ _|refine blk_drew ?_|refine blk_alloc ?_ _));refine blk_far ?_ NB343_351.out _;(with_reducible repeat(first|refine blk_drewN ?_ _|refine blk_drew ?_|refine blk_alloc ?_ _));exact BK343.out⟩,⟨by repeat(first|(with_reducible first|exact HB.out|apply below_alloc|apply pw_below_drewN|apply below_drew1|refine below_set ?_ GE343.out|refine below_set ?_ GE351.out)|exact HB.out)⟩⟩
            ·replace c21:=Bool.eq_false_iff.mpr c21
             subst c21
             have H1:(if 0≤((rd_T43 ((rd_T35 l0_4 x5_2).f1) x7_3).f1) then(if((rd_T43 ((rd_T35 l0_4 x5_2).f1) x7_3).f1)<(x3_2.length:Int) then(regletref13_Empty.l2 k3 x3_2 x4_2 x5_2 (rdOf false x3_2 ((rd_T43 ((rd_T35 l0_4 x5_2).f1) x7_3).f1)) (wrap64 (x7_3+1)) l0_0 l0_1 a0_2 a0_3 l0_4) else(none)) else(none))=some r:=by rw [if_neg (show ¬(false=true) by decide)] at H;exact H
             clear H
             have H:=H1
             clear H1
             by_cases c26:0≤((rd_T43 ((rd_T35 l0_4 x5_2).f1) x7_3).f1)
             rotate_left
             ·rw [if_neg c26] at H
              exact absurd H (by simp)
             rw [if_pos c26] at H
             have c26b0:decide (0≤((rd_T43 ((rd_T35 l0_4 x5_2).f1) x7_3).f1))=true:=decide_eq_true c26
             clear c26
             by_cases c27:((rd_T43 ((rd_T35 l0_4 x5_2).f1) x7_3).f1)<(x3_2.length:Int)
             rotate_left
             ·rw [if_neg c27] at H
              exact absurd H (by simp)
             rw [if_pos c27] at H
             have c27b0:decide (((rd_T43 ((rd_T35 l0_4 x5_2).f1) x7_3).f1)<(x3_2.length:Int))=true:=decide_eq_true c27
             clear c27
             have H':=Aside0.mk H
             clear H
             have hcz28_0:wr.cell? ⟨gb343,0,none⟩=some (.slice A0_0 l0_0.length c0_0):=(blk_cell BK343.out 0).trans rfl
             have hcz28_1:wr.cell? ⟨gb343,1,none⟩=some (.slice A0_1 l0_1.length c0_1):=(blk_cell BK343.out 1).trans rfl
             have hcz28_2:wr.cell? ⟨gb343,2,none⟩=some (.int .i64 a0_2):=(blk_cell BK343.out 2).trans rfl
             have hcz28_3:wr.cell? ⟨gb343,3,none⟩=some (.int .i64 a0_3):=(blk_cell BK343.out 3).trans rfl
             have hcz28_4:wr.cell? ⟨gb343,4,none⟩=some (.slice A0_4 l0_4.length c0_4):=(blk_cell BK343.out 4).trans rfl
             have hfz28_0:=blk_frozen BK343.out 0
             have hfz28_1:=blk_frozen BK343.out 1
             have hfz28_2:=blk_frozen BK343.out 2
             have hfz28_3:=blk_frozen BK343.out 3
             have hfz28_4:=blk_frozen BK343.out 4
             have p348:0≤(x5_2:Int):=of_decide_eq_true (by first|(with_reducible assumption)|assumption)
             have q348:x5_2<(l0_4.length:Int):=of_decide_eq_true (by first|(with_reducible assumption)|assumption)
             obtain⟨ad348,A348_1,c348_1,e348,hx348_0,hx348_1,hl348_1,hi348_1⟩:=at_T35 HR0_4.out x5_2 p348 q348
             cases e348
             replace hx348_0:=(HB.out.cell (World.block_lt_of_cell? w _ hx348_0)).trans hx348_0
             replace hx348_1:=(HB.out.cell (World.block_lt_of_cell? w _ hx348_1)).trans hx348_1
             have HR348_1:=Aside0.mk hi348_1
             have HC348_1:=Aside0.mk hl348_1
             clear hi348_1 hl348_1
             replace p348:=eq_true p348
             replace q348:=eq_true q348
             have p349:0≤(x5_2:Int):=of_decide_eq_true (by first|(with_reducible assumption)|assumption)
             have q349:x5_2<(l0_4.length:Int):=of_decide_eq_true (by first|(with_reducible assumption)|assumption)
             obtain⟨ad349,A349_1,c349_1,e349,hx349_0,hx349_1,hl349_1,hi349_1⟩:=at_T35 HR0_4.out x5_2 p349 q349
             obtain rfl:ad348=ad349:=(by injection e349)
             replace hx349_0:=(HB.out.cell (World.block_lt_of_cell? w _ hx349_0)).trans hx349_0
             replace hx349_1:=(HB.out.cell (World.block_lt_of_cell? w _ hx349_1)).trans hx349_1
             have HR349_1:=Aside0.mk hi349_1
             have HC349_1:=Aside0.mk hl349_1
             clear hi349_1 hl349_1
             replace p349:=eq_true p349
             replace q349:=eq_true q349
             have ea_:=Option.some.inj (hx348_1.symm.trans hx349_1)
             injection ea_ with ea_ en_ ec_
             subst ea_
             subst ec_
             clear en_
             have p350:0≤(x7_3:Int):=of_decide_eq_true (by first|(with_reducible assumption)|assumption)
             have q350:x7_3<(((rd_T35 l0_4 x5_2).f1).length:Int):=of_decide_eq_true (by first|(with_reducible assumption)|assumption)
             obtain⟨ad350,e350,hx350_0,hx350_1⟩:=at_T43 HR349_1.out x7_3 p350 q350
             (try rw [←Nbq20.out] at hx350_0)
             cases e350
             replace hx350_0:=(HB.out.cell (World.block_lt_of_cell? w _ hx350_0)).trans hx350_0
             replace hx350_1:=(HB.out.cell (World.block_lt_of_cell? w _ hx350_1)).trans hx350_1
             replace p350:=eq_true p350
             replace q350:=eq_true q350
             go_wp2_with (first|((with_reducible refine gate_dst (N:=8) rfl ?_);refine box_event ?hg (N:=8) ?hd (cs:=#[.bool false,.int .i64 0]) (t:=43) ?hr ?_;(case hd=>rfl);(case hg=>rfl);(case hr=>first|(go_simp;done)|(go_simp;rfl));intro gb351 hg w29 hbox hb;have n0_:=Aside0.mk (Kd.R_below (by(with_reducible repeat(first|apply Kd.R_alloc|apply Kd.R_drewN|apply Kd.R_drew));exact HO_3.out) hb);have n1_:=Aside0.mk (blk_below (g:=gb343) (o:= .cells #[.slice A0_0 l0_0.length c0_0,.slice A0_1 l0_1.length c0_1,.int .i64 a0_2,.int .i64 a0_3,.slice (some ad348) l0_4.length c0_4] 26 (0,0)) (by(with_reducible repeat(first|refine blk_drewN ?_ _|refine blk_drew ?_|refine blk_alloc ?_ _));exact BK343.out) hb);have n2_:=Aside0.mk (below_step (by repeat(first|(with_reducible first|exact HB.out|apply below_alloc|apply pw_below_drewN|apply below_drew1|refine below_set ?_ GE343.out)|exact HB.out)) hb);have n3_:=Aside0.mk (hbox);have n4_:=Aside0.mk ((by rw [hg];exact(below_size (by repeat(first|(with_reducible first|exact HB.out|apply below_alloc|apply pw_below_drewN|apply below_drew1|refine below_set ?_ GE343.out)|exact HB.out))):w.heap.size≤gb351));have n5_:=Aside0.mk ((by rw [hg];exact(below_size (by repeat(first|(with_reducible first|exact HB.out|apply below_alloc|apply pw_below_drewN|apply below_drew1|refine below_set ?_ GE343.out)|exact HB.out))):w.heap.size≤gb351));have n6_:=Aside0.mk ((by rw [hg];exact Nat.ne_of_lt (blk_lt (g:=gb343) (o:= .cells #[.slice A0_0 l0_0.length c0_0,.slice A0_1 l0_1.length c0_1,.int .i64 a0_2,.int .i64 a0_3,.slice (some ad348) l0_4.length c0_4] 26 (0,0)) (by(with_reducible repeat(first|refine blk_drewN ?_ _|refine blk_drew ?_|refine blk_alloc ?_ _));exact BK343.out)):gb343≠gb351));have n7_:=Aside0.mk ((by rw [hg];exact Nat.ne_of_gt (blk_lt (g:=gb343) (o:= .cells #[.slice A0_0 l0_0.length c0_0,.slice A0_1 l0_1.length c0_1,.int .i64 a0_2,.int .i64 a0_3,.slice (some ad348) l0_4.length c0_4] 26 (0,0)) (by(with_reducible repeat(first|refine blk_drewN ?_ _|refine blk_drew ?_|refine blk_alloc ?_ _));exact BK343.out)):gb351≠gb343));clear HO_3;clear BK343;clear HB;have HO_3:=n0_;have BK343:=n1_;have HB:=n2_;have BK351:=n3_;have GW351:=n4_;have GE351:=n5_;have NB343_351:=n6_;have NB351_343:=n7_;clear n0_ n1_ n2_ n3_ n4_ n5_ n6_ n7_;clear hb hbox hg;have hnb30:=NB351_343.out;have hnc30:=NB343_351.out;have hcz31_0:w29.cell? ⟨gb351,0,none⟩=some (.bool false):=(blk_cell BK351.out 0).trans rfl;have hcz31_1:w29.cell? ⟨gb351,1,none⟩=some (.int .i64 0):=(blk_cell BK351.out 1).trans rfl;have hfz31_0:=blk_frozen BK351.out 0;have hfz31_1:=blk_frozen BK351.out 1;obtain⟨Ao32,co32,eo32⟩:=Kd.R_slice HO_3.out;subst eo32;have p352:0≤(((rd_T43 ((rd_T35 l0_4 x5_2).f1) x7_3).f1):Int):=of_decide_eq_true (by first|(with_reducible assumption)|assumption);have q352:((rd_T43 ((rd_T35 l0_4 x5_2).f1) x7_3).f1)<(x3_2.length:Int):=of_decide_eq_true (by first|(with_reducible assumption)|assumption);obtain⟨ad352,e352,hx352_0⟩:=Kd.at_bool (Kd.R_reads' HO_3.out).2.2 ((rd_T43 ((rd_T35 l0_4 x5_2).f1) x7_3).f1) p352 q352;(try rw [←Nbq20.out] at hx352_0);cases e352;have hn352_0:ad352.block≠gb351:=Kd.own_blk (Kd.R_ne HO_3.out BK351.out (by decide));have hn352_1:ad352.block≠gb351:=Kd.own_blk (Kd.R_ne HO_3.out BK351.out (by decide));replace hx352_0:=(cell_far (p:=⟨gb351,0,none⟩) (by first|(rw [add_block];exact hn352_0)|(show(Addr.add _ _).block≠_;rw [add_block];exact hn352_0)|exact hn352_0) (.bool false)).trans hx352_0;replace hx352_0:=(cell_far (p:=⟨gb351,1,none⟩) (by first|(rw [add_block];exact hn352_1)|(show(Addr.add _ _).block≠_;rw [add_block];exact hn352_1)|exact hn352_1) (.int .i64 ((rd_T43 ((rd_T35 l0_4 x5_2).f1) x7_3).f1))).trans hx352_0;clear hn352_0;clear hn352_1;replace p352:=eq_true p352;replace q352:=eq_true q352))
             go_roundg k3
             case measure=>have:=HK1.out;have:=HK2.out;have:=HK3.out;omega
             case rel=>exact⟨(rdOf false x3_2 ((rd_T43 ((rd_T35 l0_4 x5_2).f1) x7_3).f1)),(wrap64 (x7_3+1)),(by first|rfl|(simp;done)|(simp [*];done)),(by first|rfl|(simp;done)|(simp [*];done)),H',⟨by have:=HK1.out;have:=HK2.out;have:=HK3.out;omega⟩,⟨by(with_reducible repeat(first|apply Kd.R_alloc|apply Kd.R_drewN|apply Kd.R_drew));exact Kd.R_mono (Kd.R_far (p:=⟨gb351,1,none⟩) (Kd.R_far (p:=⟨gb351,0,none⟩) (Kd.R_types HO_3.out BK351.out (by decide)) (fun _ hk=>hk.2) (.bool false)) (fun _ hk=>hk.2) (.int .i64 ((rd_T43 ((rd_T35 l0_4 x5_2).f1) x7_3).f1))) (fun _ hk=>trivial)⟩,⟨by(with_reducible repeat(first|refine blk_drewN ?_ _|refine blk_drew ?_|refine blk_alloc ?_ _));refine blk_far ?_ NB343_351.out _;(with_reducible repeat(first|refine blk_drewN ?_ _|refine blk_drew ?_|refine blk_alloc ?_ _));refine blk_far ?_ NB343_351.out _;(with_reducible repeat(first|refine blk_drewN ?_ _|refine blk_drew ?_|refine blk_alloc ?_ _));exact BK343.out⟩,⟨by repeat(first|(with_reducible first|exact HB.out|apply below_alloc|apply pw_below_drewN|apply below_drew1|refine below_set ?_ GE343.out|refine below_set ?_ GE351.out)|exact HB.out)⟩⟩
           ·replace c19:=Bool.eq_false_iff.mpr c19
            subst c19
            have H1:(regletref13_Empty.l2 k3 x3_2 x4_2 x5_2 false (wrap64 (x7_3+1)) l0_0 l0_1 a0_2 a0_3 l0_4)=some r:=by rw [if_neg (show ¬(false=true) by decide)] at H;exact H
            clear H
            have H:=H1
            clear H1
            have H':=Aside0.mk H
            clear H
            have hcz33_0:wr.cell? ⟨gb343,0,none⟩=some (.slice A0_0 l0_0.length c0_0):=(blk_cell BK343.out 0).trans rfl
            have hcz33_1:wr.cell? ⟨gb343,1,none⟩=some (.slice A0_1 l0_1.length c0_1):=(blk_cell BK343.out 1).trans rfl
            have hcz33_2:wr.cell? ⟨gb343,2,none⟩=some (.int .i64 a0_2):=(blk_cell BK343.out 2).trans rfl
            have hcz33_3:wr.cell? ⟨gb343,3,none⟩=some (.int .i64 a0_3):=(blk_cell BK343.out 3).trans rfl
            have hcz33_4:wr.cell? ⟨gb343,4,none⟩=some (.slice A0_4 l0_4.length c0_4):=(blk_cell BK343.out 4).trans rfl
            have hfz33_0:=blk_frozen BK343.out 0
            have hfz33_1:=blk_frozen BK343.out 1
            have hfz33_2:=blk_frozen BK343.out 2
            have hfz33_3:=blk_frozen BK343.out 3
            have hfz33_4:=blk_frozen BK343.out 4
            have p348:0≤(x5_2:Int):=of_decide_eq_true (by first|(with_reducible assumption)|assumption)
            have q348:x5_2<(l0_4.length:Int):=of_decide_eq_true (by first|(with_reducible assumption)|assumption)
            obtain⟨ad348,A348_1,c348_1,e348,hx348_0,hx348_1,hl348_1,hi348_1⟩:=at_T35 HR0_4.out x5_2 p348 q348
            cases e348
            replace hx348_0:=(HB.out.cell (World.block_lt_of_cell? w _ hx348_0)).trans hx348_0
            replace hx348_1:=(HB.out.cell (World.block_lt_of_cell? w _ hx348_1)).trans hx348_1
            have HR348_1:=Aside0.mk hi348_1
            have HC348_1:=Aside0.mk hl348_1
            clear hi348_1 hl348_1
            replace p348:=eq_true p348
            replace q348:=eq_true q348
            have p349:0≤(x5_2:Int):=of_decide_eq_true (by first|(with_reducible assumption)|assumption)
            have q349:x5_2<(l0_4.length:Int):=of_decide_eq_true (by first|(with_reducible assumption)|assumption)
            obtain⟨ad349,A349_1,c349_1,e349,hx349_0,hx349_1,hl349_1,hi349_1⟩:=at_T35 HR0_4.out x5_2 p349 q349
            obtain rfl:ad348=ad349:=(by injection e349)
            replace hx349_0:=(HB.out.cell (World.block_lt_of_cell? w _ hx349_0)).trans hx349_0
            replace hx349_1:=(HB.out.cell (World.block_lt_of_cell? w _ hx349_1)).trans hx349_1
            have HR349_1:=Aside0.mk hi349_1
            have HC349_1:=Aside0.mk hl349_1
            clear hi349_1 hl349_1
            replace p349:=eq_true p349
            replace q349:=eq_true q349
            have ea_:=Option.some.inj (hx348_1.symm.trans hx349_1)
            injection ea_ with ea_ en_ ec_
            subst ea_
            subst ec_
            clear en_
            have p350:0≤(x7_3:Int):=of_decide_eq_true (by first|(with_reducible assumption)|assumption)
            have q350:x7_3<(((rd_T35 l0_4 x5_2).f1).length:Int):=of_decide_eq_true (by first|(with_reducible assumption)|assumption)
            obtain⟨ad350,e350,hx350_0,hx350_1⟩:=at_T43 HR349_1.out x7_3 p350 q350
            cases e350
            replace hx350_0:=(HB.out.cell (World.block_lt_of_cell? w _ hx350_0)).trans hx350_0
            replace hx350_1:=(HB.out.cell (World.block_lt_of_cell? w _ hx350_1)).trans hx350_1
            replace p350:=eq_true p350
            replace q350:=eq_true q350
            go_wp2_with (first|((with_reducible refine gate_dst (N:=8) rfl ?_);refine box_event ?hg (N:=8) ?hd (cs:=#[.bool false,.int .i64 0]) (t:=43) ?hr ?_;(case hd=>rfl);(case hg=>rfl);(case hr=>first|(go_simp;done)|(go_simp;rfl));intro gb351 hg w34 hbox hb;have n0_:=Aside0.mk (Kd.R_below (by(with_reducible repeat(first|apply Kd.R_alloc|apply Kd.R_drewN|apply Kd.R_drew));exact HO_3.out) hb);have n1_:=Aside0.mk (blk_below (g:=gb343) (o:= .cells #[.slice A0_0 l0_0.length c0_0,.slice A0_1 l0_1.length c0_1,.int .i64 a0_2,.int .i64 a0_3,.slice (some ad348) l0_4.length c0_4] 26 (0,0)) (by(with_reducible repeat(first|refine blk_drewN ?_ _|refine blk_drew ?_|refine blk_alloc ?_ _));exact BK343.out) hb);have n2_:=Aside0.mk (below_step (by repeat(first|(with_reducible first|exact HB.out|apply below_alloc|apply pw_below_drewN|apply below_drew1|refine below_set ?_ GE343.out)|exact HB.out)) hb);have n3_:=Aside0.mk (hbox);have n4_:=Aside0.mk ((by rw [hg];exact(below_size (by repeat(first|(with_reducible first|exact HB.out|apply below_alloc|apply pw_below_drewN|apply below_drew1|refine below_set ?_ GE343.out)|exact HB.out))):w.heap.size≤gb351));have n5_:=Aside0.mk ((by rw [hg];exact(below_size (by repeat(first|(with_reducible first|exact HB.out|apply below_alloc|apply pw_below_drewN|apply below_drew1|refine below_set ?_ GE343.out)|exact HB.out))):w.heap.size≤gb351));have n6_:=Aside0.mk ((by rw [hg];exact Nat.ne_of_lt (blk_lt (g:=gb343) (o:= .cells #[.slice A0_0 l0_0.length c0_0,.slice A0_1 l0_1.length c0_1,.int .i64 a0_2,.int .i64 a0_3,.slice (some ad348) l0_4.length c0_4] 26 (0,0)) (by(with_reducible repeat(first|refine blk_drewN ?_ _|refine blk_drew ?_|refine blk_alloc ?_ _));exact BK343.out)):gb343≠gb351));have n7_:=Aside0.mk ((by rw [hg];exact Nat.ne_of_gt (blk_lt (g:=gb343) (o:= .cells #[.slice A0_0 l0_0.length c0_0,.slice A0_1 l0_1.length c0_1,.int .i64 a0_2,.int .i64 a0_3,.slice (some ad348) l0_4.length c0_4] 26 (0,0)) (by(with_reducible repeat(first|refine blk_drewN ?_ _|refine blk_drew ?_|refine blk_alloc ?_ _));exact BK343.out)):gb351≠gb343));clear HO_3;clear BK343;clear HB;have HO_3:=n0_;have BK343:=n1_;have HB:=n2_;have BK351:=n3_;have GW351:=n4_;have GE351:=n5_;have NB343_351:=n6_;have NB351_343:=n7_;clear n0_ n1_ n2_ n3_ n4_ n5_ n6_ n7_;clear hb hbox hg;have hnb35:=NB351_343.out;have hnc35:=NB343_351.out;have hcz36_0:w34.cell? ⟨gb351,0,none⟩=some (.bool false):=(blk_cell BK351.out 0).trans rfl;have hcz36_1:w34.cell? ⟨gb351,1,none⟩=some (.int .i64 0):=(blk_cell BK351.out 1).trans rfl;have hfz36_0:=blk_frozen BK351.out 0;have hfz36_1:=blk_frozen BK351.out 1))
            go_roundg k3
            case measure=>have:=HK1.out;have:=HK2.out;have:=HK3.out;omega
            case rel=>exact⟨(false),(wrap64 (x7_3+1)),(by first|rfl|(simp;done)|(simp [*];done)),(by first|rfl|(simp;done)|(simp [*];done)),H',⟨by have:=HK1.out;have:=HK2.out;have:=HK3.out;omega⟩,⟨by(with_reducible repeat(first|apply Kd.R_alloc|apply Kd.R_drewN|apply Kd.R_drew));exact Kd.R_mono (Kd.R_far (p:=⟨gb351,1,none⟩) (Kd.R_far (p:=⟨gb351,0,none⟩) (Kd.R_types HO_3.out BK351.out (by decide)) (fun _ hk=>hk.2) (.bool ((rd_T43 ((rd_T35 l0_4 x5_2).f1) x7_3).f0))) (fun _ hk=>hk.2) (.int .i64 ((rd_T43 ((rd_T35 l0_4 x5_2).f1) x7_3).f1))) (fun _ hk=>trivial)⟩,⟨by(with_reducible repeat(first|refine blk_drewN ?_ _|refine blk_drew ?_|refine blk_alloc ?_ _));refine blk_far ?_ NB343_351.out _;(with_reducible repeat(first|refine blk_drewN ?_ _|refine blk_drew ?_|refine blk_alloc ?_ _));refine blk_far ?_ NB343_351.out _;(with_reducible repeat(first|refine blk_drewN ?_ _|refine blk_drew ?_|refine blk_alloc ?_ _));exact BK343.out⟩,⟨by repeat(first|(with_reducible first|exact HB.out|apply below_alloc|apply pw_below_drewN|apply below_drew1|refine below_set ?_ GE343.out|refine below_set ?_ GE351.out)|exact HB.out)⟩⟩
          ·rw [if_neg c17] at H
           have c17b0:decide (x7_3<(((rd_T35 l0_4 x5_2).f1).length:Int))=false:=decide_eq_false c17
           clear c17
           by_cases c37:x6_3=true
           ·subst c37
            have H1:(if 0≤((rd_T35 l0_4 x5_2).f0) then(if((rd_T35 l0_4 x5_2).f0)<(x3_2.length:Int) then(if(rdOf false x3_2 ((rd_T35 l0_4 x5_2).f0)=true) then(regletref13_Empty.l1 k3 x3_2 x4_2 (wrap64 (x5_2+1)) l0_0 l0_1 a0_2 a0_3 l0_4) else(regletref13_Empty.l1 k3 (x3_2.set (((rd_T35 l0_4 x5_2).f0):Int).toNat true) true (wrap64 (x5_2+1)) l0_0 l0_1 a0_2 a0_3 l0_4)) else(none)) else(none))=some r:=by rw [if_pos rfl] at H;exact H
            clear H
            have H:=H1
            clear H1
            by_cases c38:0≤((rd_T35 l0_4 x5_2).f0)
            rotate_left
            ·rw [if_neg c38] at H
             exact absurd H (by simp)
            rw [if_pos c38] at H
            have c38b0:decide (0≤((rd_T35 l0_4 x5_2).f0))=true:=decide_eq_true c38
            clear c38
            by_cases c39:((rd_T35 l0_4 x5_2).f0)<(x3_2.length:Int)
            rotate_left
            ·rw [if_neg c39] at H
             exact absurd H (by simp)
            rw [if_pos c39] at H
            have c39b0:decide (((rd_T35 l0_4 x5_2).f0)<(x3_2.length:Int))=true:=decide_eq_true c39
            clear c39
            obtain⟨bq40,hbq40⟩:∃b_:Bool,b_=(rdOf false x3_2 ((rd_T35 l0_4 x5_2).f0)):=⟨_,rfl⟩
            replace H:(if(bq40=true) then(regletref13_Empty.l1 k3 x3_2 x4_2 (wrap64 (x5_2+1)) l0_0 l0_1 a0_2 a0_3 l0_4) else(regletref13_Empty.l1 k3 (x3_2.set (((rd_T35 l0_4 x5_2).f0):Int).toNat true) true (wrap64 (x5_2+1)) l0_0 l0_1 a0_2 a0_3 l0_4))=some r:=by rw [←hbq40] at H;exact H
            have Nbq40:=Aside0.mk hbq40
            clear hbq40
            by_cases c41:(bq40=true)
            ·subst c41
             have H1:(regletref13_Empty.l1 k3 x3_2 x4_2 (wrap64 (x5_2+1)) l0_0 l0_1 a0_2 a0_3 l0_4)=some r:=by rw [if_pos rfl] at H;exact H
             clear H
             have H:=H1
             clear H1
             have H':=Aside0.mk H
             clear H
             have hcz42_0:wr.cell? ⟨gb343,0,none⟩=some (.slice A0_0 l0_0.length c0_0):=(blk_cell BK343.out 0).trans rfl
             have hcz42_1:wr.cell? ⟨gb343,1,none⟩=some (.slice A0_1 l0_1.length c0_1):=(blk_cell BK343.out 1).trans rfl
             have hcz42_2:wr.cell? ⟨gb343,2,none⟩=some (.int .i64 a0_2):=(blk_cell BK343.out 2).trans rfl
             have hcz42_3:wr.cell? ⟨gb343,3,none⟩=some (.int .i64 a0_3):=(blk_cell BK343.out 3).trans rfl
             have hcz42_4:wr.cell? ⟨gb343,4,none⟩=some (.slice A0_4 l0_4.length c0_4):=(blk_cell BK343.out 4).trans rfl
             have hfz42_0:=blk_frozen BK343.out 0
             have hfz42_1:=blk_frozen BK343.out 1
             have hfz42_2:=blk_frozen BK343.out 2
             have hfz42_3:=blk_frozen BK343.out 3
             have hfz42_4:=blk_frozen BK343.out 4
             have p348:0≤(x5_2:Int):=of_decide_eq_true (by first|(with_reducible assumption)|assumption)
             have q348:x5_2<(l0_4.length:Int):=of_decide_eq_true (by first|(with_reducible assumption)|assumption)
             obtain⟨ad348,A348_1,c348_1,e348,hx348_0,hx348_1,hl348_1,hi348_1⟩:=at_T35 HR0_4.out x5_2 p348 q348
             cases e348
             replace hx348_0:=(HB.out.cell (World.block_lt_of_cell? w _ hx348_0)).trans hx348_0
             replace hx348_1:=(HB.out.cell (World.block_lt_of_cell? w _ hx348_1)).trans hx348_1
             have HR348_1:=Aside0.mk hi348_1
             have HC348_1:=Aside0.mk hl348_1
             clear hi348_1 hl348_1
             replace p348:=eq_true p348
             replace q348:=eq_true q348
             have p353:0≤(x5_2:Int):=of_decide_eq_true (by first|(with_reducible assumption)|assumption)
             have q353:x5_2<(l0_4.length:Int):=of_decide_eq_true (by first|(with_reducible assumption)|assumption)
             obtain⟨ad353,A353_1,c353_1,e353,hx353_0,hx353_1,hl353_1,hi353_1⟩:=at_T35 HR0_4.out x5_2 p353 q353
             obtain rfl:ad348=ad353:=(by injection e353)
             replace hx353_0:=(HB.out.cell (World.block_lt_of_cell? w _ hx353_0)).trans hx353_0
             replace hx353_1:=(HB.out.cell (World.block_lt_of_cell? w _ hx353_1)).trans hx353_1
             have HR353_1:=Aside0.mk hi353_1
             have HC353_1:=Aside0.mk hl353_1
             clear hi353_1 hl353_1
             replace p353:=eq_true p353
             replace q353:=eq_true q353
             have ea_:=Option.some.inj (hx348_1.symm.trans hx353_1)
             injection ea_ with ea_ en_ ec_
             subst ea_
             subst ec_
             clear en_
             obtain⟨Ao43,co43,eo43⟩:=Kd.R_slice HO_3.out
             subst eo43
             have p354:0≤(((rd_T35 l0_4 x5_2).f0):Int):=of_decide_eq_true (by first|(with_reducible assumption)|assumption)
             have q354:((rd_T35 l0_4 x5_2).f0)<(x3_2.length:Int):=of_decide_eq_true (by first|(with_reducible assumption)|assumption)
             obtain⟨ad354,e354,hx354_0⟩:=Kd.at_bool (Kd.R_reads' HO_3.out).2.2 ((rd_T35 l0_4 x5_2).f0) p354 q354
             (try rw [←Nbq40.out] at hx354_0)
             cases e354
             replace p354:=eq_true p354
             replace q354:=eq_true q354
             go_wp2
             go_roundg k3
             case measure=>have:=HK1.out;have:=HK2.out;have:=HK3.out;omega
             case rel=>exact⟨(x3_2),(x4_2),(wrap64 (x5_2+1)),(by first|rfl|(simp;done)|(simp [*];done)),(by first|rfl|(simp;done)|(simp [*];done)),H',⟨by have:=HK1.out;have:=HK2.out;have:=HK3.out;omega⟩,⟨by(with_reducible repeat(first|apply Kd.R_alloc|apply Kd.R_drewN|apply Kd.R_drew));exact HO_3.out⟩,⟨by(with_reducible repeat(first|refine blk_drewN ?_ _|refine blk_drew ?_|refine blk_alloc ?_ _));exact BK343.out⟩,⟨by repeat(first|(with_reducible first|exact HB.out|apply below_alloc|apply pw_below_drewN|apply below_drew1|refine below_set ?_ GE343.out)|exact HB.out)⟩⟩
            ·replace c41:=Bool.eq_false_iff.mpr c41
             subst c41
             have H1:(regletref13_Empty.l1 k3 (x3_2.set (((rd_T35 l0_4 x5_2).f0):Int).toNat true) true (wrap64 (x5_2+1)) l0_0 l0_1 a0_2 a0_3 l0_4)=some r:=by rw [if_neg (show ¬(false=true) by decide)] at H;exact H
             clear H
             have H:=H1
             clear H1
             obtain⟨y356,hy356⟩:∃y_:List Bool,y_=(x3_2.set (((rd_T35 l0_4 x5_2).f0):Int).toNat true):=⟨_,rfl⟩
             replace H:(regletref13_Empty.l1 k3 y356 true (wrap64 (x5_2+1)) l0_0 l0_1 a0_2 a0_3 l0_4)=some r:=by first|(rw [hy356];with_reducible exact H)|(have H2_:=(Option.bind_some _ _).symm.trans H;rw [hy356];with_reducible exact H2_)|(have H2_:=(Option.bind_some _ _).symm.trans H;with_reducible exact H2_)|with_reducible exact H|(rw [hy356];exact H)|exact H
             have Ny356:=Aside0.mk hy356
             clear hy356
             have H':=Aside0.mk H
             clear H
             have hcz45_0:wr.cell? ⟨gb343,0,none⟩=some (.slice A0_0 l0_0.length c0_0):=(blk_cell BK343.out 0).trans rfl
             have hcz45_1:wr.cell? ⟨gb343,1,none⟩=some (.slice A0_1 l0_1.length c0_1):=(blk_cell BK343.out 1).trans rfl
             have hcz45_2:wr.cell? ⟨gb343,2,none⟩=some (.int .i64 a0_2):=(blk_cell BK343.out 2).trans rfl
             have hcz45_3:wr.cell? ⟨gb343,3,none⟩=some (.int .i64 a0_3):=(blk_cell BK343.out 3).trans rfl
             have hcz45_4:wr.cell? ⟨gb343,4,none⟩=some (.slice A0_4 l0_4.length c0_4):=(blk_cell BK343.out 4).trans rfl
             have hfz45_0:=blk_frozen BK343.out 0
             have hfz45_1:=blk_frozen BK343.out 1
             have hfz45_2:=blk_frozen BK343.out 2
             have hfz45_3:=blk_frozen BK343.out 3
             have hfz45_4:=blk_frozen BK343.out 4
             have p348:0≤(x5_2:Int):=of_decide_eq_true (by first|(with_reducible assumption)|assumption)
             have q348:x5_2<(l0_4.length:Int):=of_decide_eq_true (by first|(with_reducible assumption)|assumption)
             obtain⟨ad348,A348_1,c348_1,e348,hx348_0,hx348_1,hl348_1,hi348_1⟩:=at_T35 HR0_4.out x5_2 p348 q348
             cases e348
             replace hx348_0:=(HB.out.cell (World.block_lt_of_cell? w _ hx348_0)).trans hx348_0
             replace hx348_1:=(HB.out.cell (World.block_lt_of_cell? w _ hx348_1)).trans hx348_1
             have HR348_1:=Aside0.mk hi348_1
             have HC348_1:=Aside0.mk hl348_1
             clear hi348_1 hl348_1
             replace p348:=eq_true p348
             replace q348:=eq_true q348
             have p353:0≤(x5_2:Int):=of_decide_eq_true (by first|(with_reducible assumption)|assumption)
             have q353:x5_2<(l0_4.length:Int):=of_decide_eq_true (by first|(with_reducible assumption)|assumption)
             obtain⟨ad353,A353_1,c353_1,e353,hx353_0,hx353_1,hl353_1,hi353_1⟩:=at_T35 HR0_4.out x5_2 p353 q353
             obtain rfl:ad348=ad353:=(by injection e353)
             replace hx353_0:=(HB.out.cell (World.block_lt_of_cell? w _ hx353_0)).trans hx353_0
             replace hx353_1:=(HB.out.cell (World.block_lt_of_cell? w _ hx353_1)).trans hx353_1
             have HR353_1:=Aside0.mk hi353_1
             have HC353_1:=Aside0.mk hl353_1
             clear hi353_1 hl353_1
             replace p353:=eq_true p353
             replace q353:=eq_true q353
             have ea_:=Option.some.inj (hx348_1.symm.trans hx353_1)
             injection ea_ with ea_ en_ ec_
             subst ea_
             subst ec_
             clear en_
             obtain⟨Ao46,co46,eo46⟩:=Kd.R_slice HO_3.out
             subst eo46
             have p354:0≤(((rd_T35 l0_4 x5_2).f0):Int):=of_decide_eq_true (by first|(with_reducible assumption)|assumption)
             have q354:((rd_T35 l0_4 x5_2).f0)<(x3_2.length:Int):=of_decide_eq_true (by first|(with_reducible assumption)|assumption)
             obtain⟨ad354,e354,hx354_0⟩:=Kd.at_bool (Kd.R_reads' HO_3.out).2.2 ((rd_T35 l0_4 x5_2).f0) p354 q354
             (try rw [←Nbq40.out] at hx354_0)
             cases e354
             replace p354:=eq_true p354
             replace q354:=eq_true q354
             have p355:0≤(x5_2:Int):=of_decide_eq_true (by first|(with_reducible assumption)|assumption)
             have q355:x5_2<(l0_4.length:Int):=of_decide_eq_true (by first|(with_reducible assumption)|assumption)
             obtain⟨ad355,A355_1,c355_1,e355,hx355_0,hx355_1,hl355_1,hi355_1⟩:=at_T35 HR0_4.out x5_2 p355 q355
             obtain rfl:ad348=ad355:=(by injection e355)
             replace hx355_0:=(HB.out.cell (World.block_lt_of_cell? w _ hx355_0)).trans hx355_0
             replace hx355_1:=(HB.out.cell (World.block_lt_of_cell? w _ hx355_1)).trans hx355_1
             have HR355_1:=Aside0.mk hi355_1
             have HC355_1:=Aside0.mk hl355_1
             clear hi355_1 hl355_1
             replace p355:=eq_true p355
             replace q355:=eq_true q355
             have ea_:=Option.some.inj (hx348_1.symm.trans hx355_1)
             injection ea_ with ea_ en_ ec_
             subst ea_
             subst ec_
             clear en_
             have p44:0≤(((rd_T35 l0_4 x5_2).f0):Int):=of_decide_eq_true (by first|(with_reducible assumption)|assumption)
             have q44:(((rd_T35 l0_4 x5_2).f0):Int)<((x3_2.length:Int):Int):=of_decide_eq_true (by first|(with_reducible assumption)|assumption)
             obtain⟨go44,co44,eo44,gb44,gl44,cl44,HG44⟩:=Kd.R_form HO_3.out (by omega)
             (first|cases eo44|(injection eo44 with ea_ en_ ec_;(first|subst ea_|(injection ea_ with ea_;subst ea_));subst ec_;clear en_))
             have GB44:=Aside0.mk gb44
             have GG44:=Aside0.mk HG44
             clear gb44 gl44 HG44
             (first|simp only [add_plain] at hx354_0|skip)
             obtain⟨hx44_0,hf44_0⟩:=Kd.R_celln false HO_3.out (((rd_T35 l0_4 x5_2).f0):Int) p44 q44
             replace p44:=eq_true p44
             replace q44:=eq_true q44
             have HP47:=Kd.R_putg HO_3.out (((rd_T35 l0_4 x5_2).f0):Int) true
             go_wp2_with (first|((with_reducible refine gate_store (t:=4) (p:=77) rfl ?_);refine store_event (t:=4) (p:=77) (v:=?vo_w48) (w1:=(wr.setCell ⟨go44,(((rd_T35 l0_4 x5_2).f0):Int).toNat,none⟩ (.bool true))) ?hg ?ho ?hn ?hr ?_;(case ho=>rfl);(case hg=>rfl);(case hn=>rfl);(case hr=>first|(go_simp;done)|(go_simp;rfl));intro w48 hw;have hg:wr.grownBy w48 (some go44):=(by rw [hw];exact HP47.2);have hp_:Kd.R Kd.bool 4 w48 w.heap.size (fun _=>True) (.slice (some ⟨go44,0,none⟩) x3_2.length co46) y356:=(by rw [hw,Ny356.out];exact HP47.1);clear HP47;have n0_:=Aside0.mk (hp_);have n1_:=Aside0.mk (blk_grown (g:=gb343) (o:= .cells #[.slice A0_0 l0_0.length c0_0,.slice A0_1 l0_1.length c0_1,.int .i64 a0_2,.int .i64 a0_3,.slice (some ad348) l0_4.length c0_4] 26 (0,0)) (by(with_reducible repeat(first|refine blk_drewN ?_ _|refine blk_drew ?_|refine blk_alloc ?_ _));exact BK343.out) hg (Kd.R_ne HO_3.out BK343.out (by decide)));have n2_:=Aside0.mk ((by rw [hw];exact below_set (HB.out) GB44.out:Below w.heap.size w w48));clear HO_3;clear BK343;clear HB;have HO_3:=n0_;have BK343:=n1_;have HB:=n2_;clear n0_ n1_ n2_;clear hg hw hp_))
             go_roundg k3
             case measure=>have:=HK1.out;have:=HK2.out;have:=HK3.out;omega
             case rel=>exact⟨(y356),(true),(wrap64 (x5_2+1)),(by first|rfl|(simp;done)|(simp [*];done)),(by first|rfl|(simp;done)|(simp [*];done)),H',⟨by have:=HK1.out;have:=HK2.out;have:=HK3.out;omega⟩,⟨by(with_reducible repeat(first|apply Kd.R_alloc|apply Kd.R_drewN|apply Kd.R_drew));exact HO_3.out⟩,⟨by(with_reducible repeat(first|refine blk_drewN ?_ _|refine blk_drew ?_|refine blk_alloc ?_ _));exact BK343.out⟩,⟨by repeat(first|(with_reducible first|exact HB.out|apply below_alloc|apply pw_below_drewN|apply below_drew1|refine below_set ?_ GE343.out)|exact HB.out)⟩⟩
           ·replace c37:=Bool.eq_false_iff.mpr c37
            subst c37
            have H1:(regletref13_Empty.l1 k3 x3_2 x4_2 (wrap64 (x5_2+1)) l0_0 l0_1 a0_2 a0_3 l0_4)=some r:=by rw [if_neg (show ¬(false=true) by decide)] at H;exact H
            clear H
            have H:=H1
            clear H1
            have H':=Aside0.mk H
            clear H
            have hcz49_0:wr.cell? ⟨gb343,0,none⟩=some (.slice A0_0 l0_0.length c0_0):=(blk_cell BK343.out 0).trans rfl
            have hcz49_1:wr.cell? ⟨gb343,1,none⟩=some (.slice A0_1 l0_1.length c0_1):=(blk_cell BK343.out 1).trans rfl
            have hcz49_2:wr.cell? ⟨gb343,2,none⟩=some (.int .i64 a0_2):=(blk_cell BK343.out 2).trans rfl
            have hcz49_3:wr.cell? ⟨gb343,3,none⟩=some (.int .i64 a0_3):=(blk_cell BK343.out 3).trans rfl
            have hcz49_4:wr.cell? ⟨gb343,4,none⟩=some (.slice A0_4 l0_4.length c0_4):=(blk_cell BK343.out 4).trans rfl
            have hfz49_0:=blk_frozen BK343.out 0
            have hfz49_1:=blk_frozen BK343.out 1
            have hfz49_2:=blk_frozen BK343.out 2
            have hfz49_3:=blk_frozen BK343.out 3
            have hfz49_4:=blk_frozen BK343.out 4
            have p348:0≤(x5_2:Int):=of_decide_eq_true (by first|(with_reducible assumption)|assumption)
            have q348:x5_2<(l0_4.length:Int):=of_decide_eq_true (by first|(with_reducible assumption)|assumption)
            obtain⟨ad348,A348_1,c348_1,e348,hx348_0,hx348_1,hl348_1,hi348_1⟩:=at_T35 HR0_4.out x5_2 p348 q348
            cases e348
            replace hx348_0:=(HB.out.cell (World.block_lt_of_cell? w _ hx348_0)).trans hx348_0
            replace hx348_1:=(HB.out.cell (World.block_lt_of_cell? w _ hx348_1)).trans hx348_1
            have HR348_1:=Aside0.mk hi348_1
            have HC348_1:=Aside0.mk hl348_1
            clear hi348_1 hl348_1
            replace p348:=eq_true p348
            replace q348:=eq_true q348
            go_wp2
            go_roundg k3
            case measure=>have:=HK1.out;have:=HK2.out;have:=HK3.out;omega
            case rel=>exact⟨(x3_2),(x4_2),(wrap64 (x5_2+1)),(by first|rfl|(simp;done)|(simp [*];done)),(by first|rfl|(simp;done)|(simp [*];done)),H',⟨by have:=HK1.out;have:=HK2.out;have:=HK3.out;omega⟩,⟨by(with_reducible repeat(first|apply Kd.R_alloc|apply Kd.R_drewN|apply Kd.R_drew));exact HO_3.out⟩,⟨by(with_reducible repeat(first|refine blk_drewN ?_ _|refine blk_drew ?_|refine blk_alloc ?_ _));exact BK343.out⟩,⟨by repeat(first|(with_reducible first|exact HB.out|apply below_alloc|apply pw_below_drewN|apply below_drew1|refine below_set ?_ GE343.out)|exact HB.out)⟩⟩
       ·rw [if_neg c13] at H
        have c13b0:decide (x5_2<(l0_4.length:Int))=false:=decide_eq_false c13
        clear c13
        have H':=Aside0.mk H
        clear H
        have hcz50_0:wr.cell? ⟨gb343,0,none⟩=some (.slice A0_0 l0_0.length c0_0):=(blk_cell BK343.out 0).trans rfl
        have hcz50_1:wr.cell? ⟨gb343,1,none⟩=some (.slice A0_1 l0_1.length c0_1):=(blk_cell BK343.out 1).trans rfl
        have hcz50_2:wr.cell? ⟨gb343,2,none⟩=some (.int .i64 a0_2):=(blk_cell BK343.out 2).trans rfl
        have hcz50_3:wr.cell? ⟨gb343,3,none⟩=some (.int .i64 a0_3):=(blk_cell BK343.out 3).trans rfl
        have hcz50_4:wr.cell? ⟨gb343,4,none⟩=some (.slice A0_4 l0_4.length c0_4):=(blk_cell BK343.out 4).trans rfl
        have hfz50_0:=blk_frozen BK343.out 0
        have hfz50_1:=blk_frozen BK343.out 1
        have hfz50_2:=blk_frozen BK343.out 2
        have hfz50_3:=blk_frozen BK343.out 3
        have hfz50_4:=blk_frozen BK343.out 4
        go_wp2
        go_roundg k2
        case measure=>have:=HK1.out;have:=HK2.out;omega
        case rel=>exact⟨(x3_2),(x4_2),(by first|rfl|(simp;done)|(simp [*];done)),H',⟨by have:=HK1.out;have:=HK2.out;omega⟩,⟨by(with_reducible repeat(first|apply Kd.R_alloc|apply Kd.R_drewN|apply Kd.R_drew));exact HO_3.out⟩,⟨by(with_reducible repeat(first|refine blk_drewN ?_ _|refine blk_drew ?_|refine blk_alloc ?_ _));exact BK343.out⟩,⟨by repeat(first|(with_reducible first|exact HB.out|apply below_alloc|apply pw_below_drewN|apply below_drew1|refine below_set ?_ GE343.out)|exact HB.out)⟩⟩
    ·replace c12:=Bool.eq_false_iff.mpr c12
     subst c12
     have H1:(some x3_1)=some r:=by rw [if_neg (show ¬(false=true) by decide)] at H;exact H
     clear H
     have H:=H1
     clear H1
     obtain rfl:=Option.some.inj H
     go_wp2
     go_ret
     exact⟨_,by first|rfl|(simp [errW_none,errW_some]<;>rfl)|(simp [*,errW_none,errW_some]<;>rfl),by(with_reducible repeat(first|apply Kd.R_alloc|apply Kd.R_drewN|apply Kd.R_drew));exact HO_3.out,by repeat(first|(with_reducible first|exact HB.out|apply below_alloc|apply pw_below_drewN|apply below_drew1|refine below_set ?_ GE343.out)|exact HB.out)⟩
 ·replace c3:=Bool.eq_false_iff.mpr c3
  subst c3
  have H1:(some ([]:List Bool))=some r:=by rw [if_neg (show ¬(false=true) by decide)] at H;exact H
  clear H
  have H:=H1
  clear H1
  obtain rfl:=Option.some.inj H
  go_enter Try.func45,Try.ntmps45
  go_wp2_with (first|((with_reducible refine gate_dst (N:=1) rfl ?_);refine box_event ?hg (N:=1) ?hd (cs:=#[.slice A0_0 l0_0.length c0_0,.slice A0_1 l0_1.length c0_1,.int .i64 a0_2,.int .i64 a0_3,.slice A0_4 l0_4.length c0_4]) (t:=26) ?hr ?_;(case hd=>rfl);(case hg=>rfl);(case hr=>first|(go_simp;done)|(go_simp;rfl));intro gb343 hg w51 hbox hb;have n0_:=Aside0.mk (below_step (by repeat(first|(with_reducible first|exact HB.out|apply below_alloc|apply pw_below_drewN|apply below_drew1)|exact HB.out)) hb);have n1_:=Aside0.mk (hbox);have n2_:=Aside0.mk ((by rw [hg];exact(below_size (by repeat(first|(with_reducible first|exact HB.out|apply below_alloc|apply pw_below_drewN|apply below_drew1)|exact HB.out))):w.heap.size≤gb343));have n3_:=Aside0.mk ((by rw [hg];exact(below_size (by repeat(first|(with_reducible first|exact HB.out|apply below_alloc|apply pw_below_drewN|apply below_drew1)|exact HB.out))):w.heap.size≤gb343));clear HB;have HB:=n0_;have BK343:=n1_;have GW343:=n2_;have GE343:=n3_;clear n0_ n1_ n2_ n3_;clear hb hbox hg;have hcz52_0:w51.cell? ⟨gb343,0,none⟩=some (.slice A0_0 l0_0.length c0_0):=(blk_cell BK343.out 0).trans rfl;have hcz52_1:w51.cell? ⟨gb343,1,none⟩=some (.slice A0_1 l0_1.length c0_1):=(blk_cell BK343.out 1).trans rfl;have hcz52_2:w51.cell? ⟨gb343,2,none⟩=some (.int .i64 a0_2):=(blk_cell BK343.out 2).trans rfl;have hcz52_3:w51.cell? ⟨gb343,3,none⟩=some (.int .i64 a0_3):=(blk_cell BK343.out 3).trans rfl;have hcz52_4:w51.cell? ⟨gb343,4,none⟩=some (.slice A0_4 l0_4.length c0_4):=(blk_cell BK343.out 4).trans rfl;have hfz52_0:=blk_frozen BK343.out 0;have hfz52_1:=blk_frozen BK343.out 1;have hfz52_2:=blk_frozen BK343.out 2;have hfz52_3:=blk_frozen BK343.out 3;have hfz52_4:=blk_frozen BK343.out 4)|((with_reducible refine gate_callee (f:=30) rfl ?_);refine goesL_ (some 10) rfl rfl Try.func30 (by kernel_rfl) rfl #[.agg #[.slice A0_0 l0_0.length c0_0,.slice A0_1 l0_1.length c0_1,.int .i64 a0_2,.int .i64 a0_3,.slice A0_4 l0_4.length c0_4]] rfl (by(try simp only [List.map_toArray,List.map_cons,List.map_nil]);first|done|rfl|(simp only [List.length_drop,List.length_take];rfl)) ?_;(with_reducible refine(regletref13_Right.calls k _ _ l0_0 _ _ l0_1 a0_2 a0_3 _ _ l0_4 false _ ?side1 ?side2 ?side3 ?side4 ?side5 ?side6 A2.out).mono ?_);(case side1=>repeat(first|exact(Kd.C_below HR0_0.out HB.out)|(with_reducible refine Kd.C_alloc ?_ _)|(with_reducible refine Kd.C_drewN ?_ _)|(with_reducible refine Kd.C_drew ?_)));(case side2=>exact HC0_0.out);(case side3=>repeat(first|exact(Kd.C_below HR0_1.out HB.out)|(with_reducible refine Kd.C_alloc ?_ _)|(with_reducible refine Kd.C_drewN ?_ _)|(with_reducible refine Kd.C_drew ?_)));(case side4=>exact HC0_1.out);(case side5=>repeat(first|exact(Kd.C_below HR0_4.out HB.out)|(with_reducible refine Kd.C_alloc ?_ _)|(with_reducible refine Kd.C_drewN ?_ _)|(with_reducible refine Kd.C_drew ?_)));(case side6=>exact HC0_4.out);rintro e w53 ⟨rfl,hb⟩;refine⟨_,rfl,?_⟩;have n0_:=Aside0.mk (blk_below (g:=gb343) (o:= .cells #[.slice A0_0 l0_0.length c0_0,.slice A0_1 l0_1.length c0_1,.int .i64 a0_2,.int .i64 a0_3,.slice A0_4 l0_4.length c0_4] 26 (0,0)) (by(with_reducible repeat(first|refine blk_drewN ?_ _|refine blk_drew ?_|refine blk_alloc ?_ _));exact BK343.out) hb);have n1_:=Aside0.mk (below_step (by repeat(first|(with_reducible first|exact HB.out|apply below_alloc|apply pw_below_drewN|apply below_drew1|refine below_set ?_ GE343.out)|exact HB.out)) hb);clear BK343;clear HB;have BK343:=n0_;have HB:=n1_;clear n0_ n1_;(try clear hb);(try clear hb2);(try clear hk);(try clear hi)))
  go_ret
  exact⟨_,by first|rfl|(simp [errW_none,errW_some]<;>rfl)|(simp [*,errW_none,errW_some]<;>rfl),by first|exact Kd.R_nil _ _ _ _ _|exact Kd.N_nil _ _ _ _ _|exact Kd.V_nil _ _ _ _ _|exact Kd.Q_nil _ _ _ _ _|exact Kd.S_nil _ _ _ _ _,by repeat(first|(with_reducible first|exact HB.out|apply below_alloc|apply pw_below_drewN|apply below_drew1|refine below_set ?_ GE343.out)|exact HB.out)⟩
end Go.Proofs.Ytapjfnfengefpaa.P
end

section
namespace Go.Proofs.Ytapjfnfengefpaa.P
open Go.RowKit Go.Proofs.YtapjfnfengefpaaW.PrintWords Go.Proofs.YtapjfnfengefpaaW.PrintLast Go.Proofs.YtapjfnfengefpaaW.PrintMore Go.Proofs.Ytapjfnfengefpaa.R
set_option linter.unusedVariables false
set_option linter.unusedSimpArgs false
def regletref13_first.l1 (l0_0:List ByteArray) (l0_1:List (S72)) (a0_2:Int) (a0_3:Int) (l0_4:List (S35)):Nat→List (List Bool)→List Bool→Bool→Int→Option (Bool×List (List Bool))
 |0,_,_,_,_=>none
 |k+1,out,em,more,i=>
  if i<(l0_4.length:Int) then
   if 0≤i then
    (regletref13_begins.f k l0_0 l0_1 a0_2 a0_3 l0_4 (rd_T35 l0_4 i).f1 out em).bind fun m=>
     if 0≤(rd_T35 l0_4 i).f0 then
      if(rd_T35 l0_4 i).f0<(out.length:Int) then
       (regletref13_join.f k (out.getD (rd_T35 l0_4 i).f0.toNat []) m.1).bind fun b=>
        regletref13_first.l1 l0_0 l0_1 a0_2 a0_3 l0_4 k (out.set (rd_T35 l0_4 i).f0.toNat b.2) em (if b.1=true then true else more) (wrap64 (i+1))
      else none
     else none
   else none
  else some (more,out)
def regletref13_first.l0 (l0_0:List ByteArray) (l0_1:List (S72)) (a0_2:Int) (a0_3:Int) (l0_4:List (S35)):Nat→List (List Bool)→List Bool→Bool→Option (List (List Bool))
 |0,_,_,_=>none
 |k+1,out,em,more=>if more=true then(regletref13_first.l1 l0_0 l0_1 a0_2 a0_3 l0_4 k out em false 0).bind fun r=>regletref13_first.l0 l0_0 l0_1 a0_2 a0_3 l0_4 k r.2 em r.1 else some out
def regletref13_first.f (k:Nat) (l0_0:List ByteArray) (l0_1:List (S72)) (a0_2:Int) (a0_3:Int) (l0_4:List (S35)):Option (List (List Bool)):=
 (regletref13_marks.f k l0_0 l0_1 a0_2 a0_3 l0_4).bind fun out=>(regletref13_Empty.f k l0_0 l0_1 a0_2 a0_3 l0_4).bind fun em=>regletref13_first.l0 l0_0 l0_1 a0_2 a0_3 l0_4 k out em true
set_option maxHeartbeats 2000000 in
set_option maxRecDepth 100000 in
theorem regletref13_first.calls (k:Nat) (A0_0:Option Addr) (c0_0:Nat) (l0_0:List ByteArray) (A0_1:Option Addr) (c0_1:Nat) (l0_1:List (S72)) (a0_2:Int) (a0_3:Int) (A0_4:Option Addr) (c0_4:Nat) (l0_4:List (S35)) (r:List (List Bool)) (w:World) (hr0_0:Kd.C Kd.string w A0_0 l0_0.length l0_0) (hc0_0:l0_0.length≤c0_0) (hr0_1:Kd.C k72 w A0_1 l0_1.length l0_1) (hc0_1:l0_1.length≤c0_1) (hr0_4:Kd.C k35 w A0_4 l0_4.length l0_4) (hc0_4:l0_4.length≤c0_4) (h:regletref13_first.f k l0_0 l0_1 a0_2 a0_3 l0_4=some r):
 Calls Try.prog 44 #[.agg #[.slice A0_0 l0_0.length c0_0,.slice A0_1 l0_1.length c0_1,.int .i64 a0_2,.int .i64 a0_3,.slice A0_4 l0_4.length c0_4]] w fun e w'=>∃v0_:Value,e= .returned (v0_)∧Kd.S (Kd.slice 4 Kd.bool) 90 w' w.heap.size (fun _=>True) v0_ r∧Below w.heap.size w w':=by
 obtain⟨m0,hm0,h2⟩:=Option.bind_eq_some_iff.1 h
 clear h
 obtain⟨em,hem,h3⟩:=Option.bind_eq_some_iff.1 h2
 clear h2
 have HM:=Aside0.mk hm0
 have HE:=Aside0.mk hem
 have HL:=Aside0.mk h3
 clear h3 hm0 hem
 have HA1:Aside0 (Below w.heap.size w (w.alloc (.cells #[.slice A0_0 l0_0.length c0_0,.slice A0_1 l0_1.length c0_1,.int .i64 a0_2,.int .i64 a0_3,.slice A0_4 l0_4.length c0_4] 26))):=⟨(Below.refl _ w).alloc (Nat.le_refl _) _⟩
 have HA2:Aside0 ((w.alloc (.cells #[.slice A0_0 l0_0.length c0_0,.slice A0_1 l0_1.length c0_1,.int .i64 a0_2,.int .i64 a0_3,.slice A0_4 l0_4.length c0_4] 26)).heap[w.heap.size]?=some (.cells #[.slice A0_0 l0_0.length c0_0,.slice A0_1 l0_1.length c0_1,.int .i64 a0_2,.int .i64 a0_3,.slice A0_4 l0_4.length c0_4] 26 (0,0))):=⟨by simpa using heap_alloc_new w _⟩
 go_enter Try.func44,Try.ntmps44
 go_wp2_with (go_at_call 43;(with_reducible refine(regletref13_marks.calls k A0_0 c0_0 l0_0 A0_1 c0_1 l0_1 a0_2 a0_3 A0_4 c0_4 l0_4 m0 _ (Kd.C_below hr0_0 HA1.out) hc0_0 (Kd.C_below hr0_1 HA1.out) hc0_1 (Kd.C_below hr0_4 HA1.out) hc0_4 HM.out).mono ?_);rintro e w1 ⟨v1,rfl,hS1,hb1⟩;have HS1:=Aside0.mk hS1;have HB1:=Aside0.mk hb1;clear hS1 hb1;have BK1:Aside0 (w1.heap[w.heap.size]?=some (.cells #[.slice A0_0 l0_0.length c0_0,.slice A0_1 l0_1.length c0_1,.int .i64 a0_2,.int .i64 a0_3,.slice A0_4 l0_4.length c0_4] 26 (0,0))):=⟨(HB1.out.block _ (by simp)).trans HA2.out⟩;have BL1:Aside0 (Below w.heap.size w w1):=⟨HA1.out.trans (HB1.out.mono (by simp))⟩;have SZ1:Aside0 (w.heap.size<w1.heap.size):=⟨by have:=HB1.out.size;simp at this;omega⟩;have HS2:Aside0 (Kd.S (Kd.slice 4 Kd.bool) 90 w1 w.heap.size (fun k_=>w.heap.size<k_∧k_<w1.heap.size) v1 m0):=⟨Kd.S_mono (Kd.S_lower (Kd.S_bound HS1.out) (by simp)) (fun k_ hk=>by have:=hk.2.1;have:=hk.2.2.1;simp at *;omega)⟩;clear HS1 HB1 HA1 HA2 HM;have q0:w1.cell? ⟨w.heap.size,0,none⟩=some (.slice A0_0 l0_0.length c0_0):=(blk_cell BK1.out 0).trans rfl;have q1:w1.cell? ⟨w.heap.size,1,none⟩=some (.slice A0_1 l0_1.length c0_1):=(blk_cell BK1.out 1).trans rfl;have q2:w1.cell? ⟨w.heap.size,2,none⟩=some (.int .i64 a0_2):=(blk_cell BK1.out 2).trans rfl;have q3:w1.cell? ⟨w.heap.size,3,none⟩=some (.int .i64 a0_3):=(blk_cell BK1.out 3).trans rfl;have q4:w1.cell? ⟨w.heap.size,4,none⟩=some (.slice A0_4 l0_4.length c0_4):=(blk_cell BK1.out 4).trans rfl)
 go_wp2_with (go_at_call 45;(with_reducible refine(regletref13_Empty.calls k A0_0 c0_0 l0_0 A0_1 c0_1 l0_1 a0_2 a0_3 A0_4 c0_4 l0_4 em _ (Kd.C_below hr0_0 BL1.out) hc0_0 (Kd.C_below hr0_1 BL1.out) hc0_1 (Kd.C_below hr0_4 BL1.out) hc0_4 HE.out).mono ?_);rintro e w2 ⟨v2,rfl,hR2,hb2⟩;have HR2:=Aside0.mk hR2;have HB2:=Aside0.mk hb2;clear hR2 hb2 q0 q1 q2 q3 q4;have BK2:Aside0 (w2.heap[w.heap.size]?=some (.cells #[.slice A0_0 l0_0.length c0_0,.slice A0_1 l0_1.length c0_1,.int .i64 a0_2,.int .i64 a0_3,.slice A0_4 l0_4.length c0_4] 26 (0,0))):=⟨(HB2.out.block _ SZ1.out).trans BK1.out⟩;have BL2:Aside0 (Below w.heap.size w w2):=⟨BL1.out.trans (HB2.out.mono (Nat.le_of_lt SZ1.out))⟩;have HS3:Aside0 (Kd.S (Kd.slice 4 Kd.bool) 90 w2 w.heap.size (fun k_=>w.heap.size<k_∧k_<w1.heap.size) v1 m0):=⟨Kd.S_below HS2.out HB2.out⟩;have HR3:Aside0 (Kd.R Kd.bool 4 w2 w.heap.size (fun k_=>w1.heap.size≤k_) v2 em):=⟨Kd.R_mono (Kd.R_lower (Kd.R_bound HR2.out) (Nat.le_of_lt SZ1.out)) (fun k_ hk=>hk.2.1)⟩;have SZ2:Aside0 (w1.heap.size≤w2.heap.size):=⟨HB2.out.size⟩;clear BK1 BL1 HS2 HR2 HB2 HE)
 obtain⟨A1,c1,rfl⟩:=Kd.S_slice HS3.out
 obtain⟨A2,c2,rfl⟩:=Kd.R_slice HR3.out
 go_loopg [5] k (fun kq v5 wr=>∃(m:List (List Bool)) (more:Bool),v5= .bool more∧Aside0 (m.length=m0.length)∧Aside0 (regletref13_first.l0 l0_0 l0_1 a0_2 a0_3 l0_4 kq m em more=some r)∧Aside0 (kq≤k)∧Aside0 (wr.heap[w.heap.size]?=some (.cells #[.slice A0_0 l0_0.length c0_0,.slice A0_1 l0_1.length c0_1,.int .i64 a0_2,.int .i64 a0_3,.slice A0_4 l0_4.length c0_4] 26 (0,0)))∧Aside0 (Below w.heap.size w wr)∧Aside0 (w1.heap.size≤wr.heap.size)∧Aside0 (Kd.S (Kd.slice 4 Kd.bool) 90 wr w.heap.size (fun k_=>w.heap.size<k_∧k_<w1.heap.size) (.slice A1 m0.length c1) m)∧Aside0 (Kd.R Kd.bool 4 wr w.heap.size (fun k_=>w1.heap.size≤k_) (.slice A2 em.length c2) em))
 case atStart=>exact⟨m0,true,rfl,⟨rfl⟩,HL,⟨Nat.le_refl _⟩,BK2,BL2,SZ2,HS3,HR3⟩
 case round=>
  clear BK2 BL2 SZ2 HS3 HR3 HL
  obtain⟨m,more,rfl,LN,HA,HK,BK,BL,SZ,HS,HR⟩:=hrel
  cases gk with
  |zero=>exact absurd HA.out (by simp [regletref13_first.l0])
  |succ k1=>
   have H:=HA.out
   clear HA
   simp only [regletref13_first.l0] at H
   cases more with
   |false=>
    obtain rfl:=Option.some.inj (by simpa using H)
    clear H
    go_wp2
    go_ret
    exact⟨_,rfl,Kd.S_mono HS.out (fun _ _=>trivial),BL.out⟩
   |true=>
    rw [if_pos rfl] at H
    obtain⟨⟨mr,outr⟩,h1,h2⟩:=Option.bind_eq_some_iff.1 H
    clear H
    have H1:=Aside0.mk h1
    have H2:=Aside0.mk h2
    clear h1 h2
    go_wp2
    obtain⟨wo,ewo⟩:∃wo:World,wo=wr:=⟨_,rfl⟩
    subst ewo
    go_loopg [5,6] k1 (fun kq v5 v6 wr=>∃(m:List (List Bool)) (more:Bool) (i:Int),v5= .bool more∧v6= .int .i64 i∧Aside0 (m.length=m0.length)∧Aside0 (regletref13_first.l1 l0_0 l0_1 a0_2 a0_3 l0_4 kq m em more i=some (mr,outr))∧Aside0 (kq≤k1)∧Aside0 (wr.heap[w.heap.size]?=some (.cells #[.slice A0_0 l0_0.length c0_0,.slice A0_1 l0_1.length c0_1,.int .i64 a0_2,.int .i64 a0_3,.slice A0_4 l0_4.length c0_4] 26 (0,0)))∧Aside0 (Below w.heap.size w wr)∧Aside0 (w1.heap.size≤wr.heap.size)∧Aside0 (Kd.S (Kd.slice 4 Kd.bool) 90 wr w.heap.size (fun k_=>w.heap.size<k_∧k_<w1.heap.size) (.slice A1 m0.length c1) m)∧Aside0 (Kd.R Kd.bool 4 wr w.heap.size (fun k_=>w1.heap.size≤k_) (.slice A2 em.length c2) em))
    case atStart=>exact⟨m,false,0,rfl,rfl,LN,H1,⟨Nat.le_refl _⟩,BK,BL,SZ,HS,HR⟩
    case round=>
     clear H1 LN BK BL SZ HS HR
     obtain⟨m,more,i,rfl,rfl,LN,HA,HK2,BK,BL,SZ,HS,HR⟩:=hrel
     cases gk with
     |zero=>exact absurd HA.out (by simp [regletref13_first.l1])
     |succ k2=>
      have H:=HA.out
      clear HA
      simp only [regletref13_first.l1] at H
      have q0:wr.cell? ⟨w.heap.size,0,none⟩=some (.slice A0_0 l0_0.length c0_0):=(blk_cell BK.out 0).trans rfl
      have q1:wr.cell? ⟨w.heap.size,1,none⟩=some (.slice A0_1 l0_1.length c0_1):=(blk_cell BK.out 1).trans rfl
      have q2:wr.cell? ⟨w.heap.size,2,none⟩=some (.int .i64 a0_2):=(blk_cell BK.out 2).trans rfl
      have q3:wr.cell? ⟨w.heap.size,3,none⟩=some (.int .i64 a0_3):=(blk_cell BK.out 3).trans rfl
      have q4:wr.cell? ⟨w.heap.size,4,none⟩=some (.slice A0_4 l0_4.length c0_4):=(blk_cell BK.out 4).trans rfl
      by_cases hi:i<(l0_4.length:Int)
      ·rw [if_pos hi] at H
       by_cases hi0:0≤i
       rotate_left
       ·rw [if_neg hi0] at H;exact absurd H (by simp)
       rw [if_pos hi0] at H
       obtain⟨⟨bm,be⟩,hbg,H3⟩:=Option.bind_eq_some_iff.1 H
       clear H
       have HG:=Aside0.mk hbg
       clear hbg
       simp only at H3
       by_cases hl0:0≤(rd_T35 l0_4 i).f0
       rotate_left
       ·rw [if_neg hl0] at H3;exact absurd H3 (by simp)
       rw [if_pos hl0] at H3
       by_cases hl1:(rd_T35 l0_4 i).f0<(m.length:Int)
       rotate_left
       ·rw [if_neg hl1] at H3;exact absurd H3 (by simp)
       rw [if_pos hl1] at H3
       obtain⟨⟨jb,jr⟩,hj,H4⟩:=Option.bind_eq_some_iff.1 H3
       clear H3
       simp only at H4
       have HJ:=Aside0.mk hj
       have HN:=Aside0.mk H4
       clear hj H4
       have AT:Aside0 (∀W:World,Below w.heap.size w W→∃ad A1 c1,A0_4=some ad∧W.cell? (ad.add (i.toNat * 2))=some (.int .i64 (rd_T35 l0_4 i).f0)∧W.cell? ⟨(ad.add (i.toNat * 2)).block,(ad.add (i.toNat * 2)).off+1,none⟩=some (.slice A1 (rd_T35 l0_4 i).f1.length c1)∧(rd_T35 l0_4 i).f1.length≤c1∧Kd.C k43 W A1 (rd_T35 l0_4 i).f1.length (rd_T35 l0_4 i).f1):=⟨fun W hW=>at_T35 (Kd.C_below hr0_4 hW) i hi0 hi⟩
       generalize rd_T35 l0_4 i=p at AT HG HJ HN hl0 hl1
       obtain⟨ad,A3,c3,ead,e0,e1,hle3,hC3⟩:=AT.out wr BL.out
       cases ead
       have d0:decide (i<(l0_4.length:Int))=true:=decide_eq_true hi
       have p0:=eq_true hi0
       have p1:=eq_true hi
       have HI:=Aside0.mk (And.intro hi hi0)
       have HLL:=Aside0.mk (And.intro hl0 hl1)
       clear hi hi0 hl0 hl1
       have HC3:=Aside0.mk hC3
       have HLE3:=Aside0.mk hle3
       clear hC3 hle3
       go_wp2
       have SZW:Aside0 (w.heap.size<wr.drew.heap.size):=⟨Nat.lt_of_lt_of_le SZ1.out SZ.out⟩
       have KEEP:Aside0 (∀w3:World,Below wr.drew.heap.size wr.drew w3→w3.cell? ⟨w.heap.size,0,none⟩=some (.slice A0_0 l0_0.length c0_0)∧w3.cell? ⟨w.heap.size,1,none⟩=some (.slice A0_1 l0_1.length c0_1)∧w3.cell? ⟨w.heap.size,2,none⟩=some (.int .i64 a0_2)∧w3.cell? ⟨w.heap.size,3,none⟩=some (.int .i64 a0_3)∧w3.cell? ⟨w.heap.size,4,none⟩=some (.slice (some ad) l0_4.length c0_4)∧w3.cell? ⟨(ad.add (i.toNat * 2)).block,(ad.add (i.toNat * 2)).off+1,none⟩=some (.slice A3 p.f1.length c3)):=⟨fun w3 h3=>⟨(h3.cell (p:=⟨w.heap.size,0,none⟩) SZW.out).trans q0,(h3.cell (p:=⟨w.heap.size,1,none⟩) SZW.out).trans q1,(h3.cell (p:=⟨w.heap.size,2,none⟩) SZW.out).trans q2,(h3.cell (p:=⟨w.heap.size,3,none⟩) SZW.out).trans q3,(h3.cell (p:=⟨w.heap.size,4,none⟩) SZW.out).trans q4,(h3.cell (p:=⟨(ad.add (i.toNat * 2)).block,(ad.add (i.toNat * 2)).off+1,none⟩) (World.block_lt_of_cell? wr _ e1)).trans e1⟩⟩
       have hcon:=regletref13_begins.calls k2 A0_0 c0_0 l0_0 A0_1 c0_1 l0_1 a0_2 a0_3 (some ad) c0_4 l0_4 A3 c3 p.f1 A1 c1 m A2 c2 em bm be wr.drew (Kd.C_below hr0_0 (below_drew1 BL.out)) hc0_0 (Kd.C_below hr0_1 (below_drew1 BL.out)) hc0_1 (Kd.C_below hr0_4 (below_drew1 BL.out)) hc0_4 (Kd.C_below HC3.out (below_drew1 (Below.refl _ _))) HLE3.out (by have:=(Kd.S_reads' (Kd.S_drew HS.out)).2.2;exact this) (by rw [LN.out];exact(Kd.S_reads' HS.out).2.1) (Kd.R_reads' (Kd.R_drew HR.out)).2.2 (Kd.R_reads' HR.out).2.1 HG.out
       rw [LN.out] at hcon
       go_region_held3 (fun w'=>w'.cell? ⟨w.heap.size,0,none⟩=some (.slice A0_0 l0_0.length c0_0)∧w'.cell? ⟨w.heap.size,1,none⟩=some (.slice A0_1 l0_1.length c0_1)∧w'.cell? ⟨w.heap.size,2,none⟩=some (.int .i64 a0_2)∧w'.cell? ⟨w.heap.size,3,none⟩=some (.int .i64 a0_3)∧w'.cell? ⟨w.heap.size,4,none⟩=some (.slice (some ad) l0_4.length c0_4)∧w'.cell? ⟨(ad.add (i.toNat * 2)).block,(ad.add (i.toNat * 2)).off+1,none⟩=some (.slice A3 p.f1.length c3))
        (first|go_keep|exact KEEP.out _ HB3.out)
        (first|(go_at_call 46;(with_reducible refine hcon.mono ?_);rintro e w3 ⟨v3,rfl,hR5,hb3⟩;have HR5:=Aside0.mk hR5;have HB3:=Aside0.mk hb3;clear hR5 hb3))
       have BK3:Aside0 (w3.heap[w.heap.size]?=some (.cells #[.slice A0_0 l0_0.length c0_0,.slice A0_1 l0_1.length c0_1,.int .i64 a0_2,.int .i64 a0_3,.slice (some ad) l0_4.length c0_4] 26 (0,0))):=⟨(HB3.out.block _ SZW.out).trans BK.out⟩
       have BL3:Aside0 (Below w.heap.size w w3):=⟨(below_drew1 BL.out).trans (HB3.out.mono (Nat.le_of_lt SZW.out))⟩
       have SZ3:Aside0 (w1.heap.size≤w3.heap.size):=⟨Nat.le_trans SZ.out HB3.out.size⟩
       have HS6:=Aside0.mk (Kd.S_below (Kd.S_drew HS.out) HB3.out)
       have HR6:=Aside0.mk (Kd.R_below (Kd.R_drew HR.out) HB3.out)
       obtain⟨A5,c5,rfl⟩:=Kd.R_slice HR5.out
       obtain⟨g,vr,P,eA,hcell,hRow,hP,hback⟩:=S_row rfl HS6.out p.f0 HLL.out.1 HLL.out.2
       cases eA
       generalize m.getD p.f0.toNat []=row at hRow HJ
       obtain⟨A4,c4,rfl⟩:=Kd.R_slice hRow
       obtain⟨ad',A3',c3',ead,e0',e1',_,_⟩:=AT.out w3 BL3.out
       cases ead
       have hcon2:=regletref13_join.calls k2 P _ _ A5 c5 bm jb jr w w3 BL3.out hRow (fun W_ hk=>(Kd.R_reads' (Kd.R_step (Kd.R_bound HR5.out) (fun k_ hk1 hk2=>hk.2 k_ hk2 (fun hk3=>by have:=(hP k_ hk3).1.2;have:=hk1.2.1;have:=SZ.out;simp at *;omega)))).2.2) (Kd.R_reads' HR5.out).2.1 HJ.out
       have HBK:=Aside0.mk hback
       have HP:=Aside0.mk hP
       clear KEEP hback hP hRow HS6 HR5 HB3 hcon e0 e1 q0 q1 q2 q3 q4 BK BL SZ HS HR
       have q4:w3.cell? ⟨w.heap.size,4,none⟩=some (.slice (some ad) l0_4.length c0_4):=(blk_cell BK3.out 4).trans rfl
       have p2:=eq_true HLL.out.1
       have p3:(p.f0<(m0.length:Int))=True:=eq_true (by have:=HLL.out.2;rw [LN.out] at this;exact this)
       cases jb
       all_goals
        go_wp2_with (go_at_call 47;(with_reducible refine hcon2.mono ?_);rintro e w4 ⟨rfl,hR7,hb4,hk4⟩;have HR7:=Aside0.mk hR7;have HB4:=Aside0.mk hb4;have HK4:=Aside0.mk hk4;clear hR7 hb4 hk4 hcon2)
        have BK4:Aside0 (w4.heap[w.heap.size]?=some (.cells #[.slice A0_0 l0_0.length c0_0,.slice A0_1 l0_1.length c0_1,.int .i64 a0_2,.int .i64 a0_3,.slice (some ad) l0_4.length c0_4] 26 (0,0))):=⟨(HK4.out.2 _ (Nat.lt_of_lt_of_le SZ1.out SZ3.out) (fun hk=>by have:=(HP.out _ hk).1.1;omega)).trans BK3.out⟩
        have SZ4:Aside0 (w1.heap.size≤w4.heap.size):=⟨Nat.le_trans SZ3.out HK4.out.1⟩
        have HS7:=Aside0.mk (HBK.out w4 _ jr HK4.out HR7.out)
        have HR8:Aside0 (Kd.R Kd.bool 4 w4 w.heap.size (fun k_=>w1.heap.size≤k_) (.slice A2 em.length c2) em):=⟨Kd.R_step HR6.out (fun k_ hk hlt=>HK4.out.2 k_ hlt (fun hk3=>by have:=(HP.out _ hk3).1.2;omega))⟩
        clear HBK HP HR7 HK4 HR6 HJ BK3 BL3 SZ3
        go_roundg k2
        case measure=>omega
        case rel=>exact⟨m.set p.f0.toNat jr,_,_,rfl,rfl,⟨by rw [List.length_set];exact LN.out⟩,HN,⟨by have:=HK2.out;omega⟩,BK4,HB4,SZ4,HS7,HR8⟩
      ·rw [if_neg hi] at H
       have he:=Option.some.inj H
       injection he with e1 e2
       subst e1
       subst e2
       clear H
       have d0:decide (i<(l0_4.length:Int))=false:=decide_eq_false hi
       clear hi
       go_wp2
       go_roundg k1
       case measure=>omega
       case rel=>exact⟨m,more,rfl,LN,H2,⟨by have:=HK.out;omega⟩,BK,BL,SZ,HS,HR⟩
def regletref13_Of.f (k:Nat) (l0_0:List ByteArray) (l0_1:List (S72)) (a0_2:Int) (a0_3:Int) (l0_4:List (S35)) (l1:List (S43)):Option (List Int×Bool):=
 (regletref13_Right.f k l0_0 l0_1 a0_2 a0_3 l0_4).bind fun r=>if r=true then if(l0_0.length:Int)=0 then some ([],false) else(regletref13_Right.f k l0_0 l0_1 a0_2 a0_3 [⟨0,l1⟩]).bind fun r2=>if r2=true then(regletref13_first.f k l0_0 l0_1 a0_2 a0_3 l0_4).bind fun f=>(regletref13_Empty.f k l0_0 l0_1 a0_2 a0_3 l0_4).bind fun e=>(regletref13_begins.f k l0_0 l0_1 a0_2 a0_3 l0_4 l1 f e).bind fun y=>(regletref13_list.f k y.1).bind fun z=>some (z,y.2) else some ([],false) else some ([],false)
set_option maxHeartbeats 4000000 in
theorem regletref13_Of.calls (k:Nat) (A0_0:Option Addr) (c0_0:Nat) (l0_0:List ByteArray) (A0_1:Option Addr) (c0_1:Nat) (l0_1:List (S72)) (a0_2:Int) (a0_3:Int) (A0_4:Option Addr) (c0_4:Nat) (l0_4:List (S35)) (A1:Option Addr) (c1:Nat) (l1:List (S43)) (r1:List Int) (r2:Bool) (w:World) (hr0_0:Kd.C Kd.string w A0_0 l0_0.length l0_0) (hc0_0:l0_0.length≤c0_0) (hr0_1:Kd.C k72 w A0_1 l0_1.length l0_1) (hc0_1:l0_1.length≤c0_1) (hr0_4:Kd.C k35 w A0_4 l0_4.length l0_4) (hc0_4:l0_4.length≤c0_4) (hr1:Kd.C k43 w A1 l1.length l1) (hc1:l1.length≤c1) (h:regletref13_Of.f k l0_0 l0_1 a0_2 a0_3 l0_4 l1=some (r1,r2)):
 Calls Try.prog 32 #[.agg #[.slice A0_0 l0_0.length c0_0,.slice A0_1 l0_1.length c0_1,.int .i64 a0_2,.int .i64 a0_3,.slice A0_4 l0_4.length c0_4],.slice A1 l1.length c1] w fun e w'=>∃v0_:Value,e= .returned (.tuple #[v0_,.bool r2])∧Kd.R (Kd.int .i64) 3 w' w.heap.size (fun _=>True) v0_ r1∧Below w.heap.size w w':=by
 obtain⟨rt,hrt,h2⟩:=Option.bind_eq_some_iff.1 h
 have HRT:=Aside0.mk hrt
 clear h hrt
 have H0:Aside0 (((((w.alloc (.cells #[.slice A0_0 l0_0.length c0_0,.slice A0_1 l0_1.length c0_1,.int .i64 a0_2,.int .i64 a0_3,.slice A0_4 l0_4.length c0_4] 26)).alloc (.cells #[.int .i64 0,.slice A1 l1.length c1] 35)).alloc (.cells #[.slice A0_0 l0_0.length c0_0,.slice A0_1 l0_1.length c0_1,.int .i64 a0_2,.int .i64 a0_3,.slice (some ⟨w.heap.size+1+1+1,0,none⟩) 1 1] 26)).alloc (.cells #[.int .i64 0,.slice A1 l1.length c1] 35)).heap[w.heap.size]?=some (.cells #[.slice A0_0 l0_0.length c0_0,.slice A0_1 l0_1.length c0_1,.int .i64 a0_2,.int .i64 a0_3,.slice A0_4 l0_4.length c0_4] 26 (0,0))):=⟨blk_alloc (blk_alloc (blk_alloc (heap_alloc_new w _) _) _) _⟩
 have H1:Aside0 (((((w.alloc (.cells #[.slice A0_0 l0_0.length c0_0,.slice A0_1 l0_1.length c0_1,.int .i64 a0_2,.int .i64 a0_3,.slice A0_4 l0_4.length c0_4] 26)).alloc (.cells #[.int .i64 0,.slice A1 l1.length c1] 35)).alloc (.cells #[.slice A0_0 l0_0.length c0_0,.slice A0_1 l0_1.length c0_1,.int .i64 a0_2,.int .i64 a0_3,.slice (some ⟨w.heap.size+1+1+1,0,none⟩) 1 1] 26)).alloc (.cells #[.int .i64 0,.slice A1 l1.length c1] 35)).heap[w.heap.size+1+1]?=some (.cells #[.slice A0_0 l0_0.length c0_0,.slice A0_1 l0_1.length c0_1,.int .i64 a0_2,.int .i64 a0_3,.slice (some ⟨w.heap.size+1+1+1,0,none⟩) 1 1] 26 (0,0))):=⟨blk_alloc (by have h:=heap_alloc_new ((w.alloc (.cells #[.slice A0_0 l0_0.length c0_0,.slice A0_1 l0_1.length c0_1,.int .i64 a0_2,.int .i64 a0_3,.slice A0_4 l0_4.length c0_4] 26)).alloc (.cells #[.int .i64 0,.slice A1 l1.length c1] 35)) (.cells #[.slice A0_0 l0_0.length c0_0,.slice A0_1 l0_1.length c0_1,.int .i64 a0_2,.int .i64 a0_3,.slice (some ⟨w.heap.size+1+1+1,0,none⟩) 1 1] 26);simp only [World.size_alloc] at h;exact h) _⟩
 have HC:Aside0 (∀W,Below (w.heap.size+4) ((((w.alloc (.cells #[.slice A0_0 l0_0.length c0_0,.slice A0_1 l0_1.length c0_1,.int .i64 a0_2,.int .i64 a0_3,.slice A0_4 l0_4.length c0_4] 26)).alloc (.cells #[.int .i64 0,.slice A1 l1.length c1] 35)).alloc (.cells #[.slice A0_0 l0_0.length c0_0,.slice A0_1 l0_1.length c0_1,.int .i64 a0_2,.int .i64 a0_3,.slice (some ⟨w.heap.size+1+1+1,0,none⟩) 1 1] 26)).alloc (.cells #[.int .i64 0,.slice A1 l1.length c1] 35)) W→W.cell? ⟨w.heap.size,0,none⟩=some (.slice A0_0 l0_0.length c0_0)∧W.cell? ⟨w.heap.size,1,none⟩=some (.slice A0_1 l0_1.length c0_1)∧W.cell? ⟨w.heap.size,2,none⟩=some (.int .i64 a0_2)∧W.cell? ⟨w.heap.size,3,none⟩=some (.int .i64 a0_3)∧W.cell? ⟨w.heap.size,4,none⟩=some (.slice A0_4 l0_4.length c0_4)):=⟨fun W hW=>⟨(blk_cell ((hW.block _ (by omega)).trans H0.out) 0).trans rfl,(blk_cell ((hW.block _ (by omega)).trans H0.out) 1).trans rfl,(blk_cell ((hW.block _ (by omega)).trans H0.out) 2).trans rfl,(blk_cell ((hW.block _ (by omega)).trans H0.out) 3).trans rfl,(blk_cell ((hW.block _ (by omega)).trans H0.out) 4).trans rfl⟩⟩
 have HD:Aside0 (∀W,Below (w.heap.size+4) ((((w.alloc (.cells #[.slice A0_0 l0_0.length c0_0,.slice A0_1 l0_1.length c0_1,.int .i64 a0_2,.int .i64 a0_3,.slice A0_4 l0_4.length c0_4] 26)).alloc (.cells #[.int .i64 0,.slice A1 l1.length c1] 35)).alloc (.cells #[.slice A0_0 l0_0.length c0_0,.slice A0_1 l0_1.length c0_1,.int .i64 a0_2,.int .i64 a0_3,.slice (some ⟨w.heap.size+1+1+1,0,none⟩) 1 1] 26)).alloc (.cells #[.int .i64 0,.slice A1 l1.length c1] 35)) W→W.cell? ⟨w.heap.size+1+1,0,none⟩=some (.slice A0_0 l0_0.length c0_0)∧W.cell? ⟨w.heap.size+1+1,1,none⟩=some (.slice A0_1 l0_1.length c0_1)∧W.cell? ⟨w.heap.size+1+1,2,none⟩=some (.int .i64 a0_2)∧W.cell? ⟨w.heap.size+1+1,3,none⟩=some (.int .i64 a0_3)∧W.cell? ⟨w.heap.size+1+1,4,none⟩=some (.slice (some ⟨w.heap.size+1+1+1,0,none⟩) 1 1)):=⟨fun W hW=>⟨(blk_cell ((hW.block _ (by omega)).trans H1.out) 0).trans rfl,(blk_cell ((hW.block _ (by omega)).trans H1.out) 1).trans rfl,(blk_cell ((hW.block _ (by omega)).trans H1.out) 2).trans rfl,(blk_cell ((hW.block _ (by omega)).trans H1.out) 3).trans rfl,(blk_cell ((hW.block _ (by omega)).trans H1.out) 4).trans rfl⟩⟩
 have HA4:Aside0 (Below w.heap.size w ((((w.alloc (.cells #[.slice A0_0 l0_0.length c0_0,.slice A0_1 l0_1.length c0_1,.int .i64 a0_2,.int .i64 a0_3,.slice A0_4 l0_4.length c0_4] 26)).alloc (.cells #[.int .i64 0,.slice A1 l1.length c1] 35)).alloc (.cells #[.slice A0_0 l0_0.length c0_0,.slice A0_1 l0_1.length c0_1,.int .i64 a0_2,.int .i64 a0_3,.slice (some ⟨w.heap.size+1+1+1,0,none⟩) 1 1] 26)).alloc (.cells #[.int .i64 0,.slice A1 l1.length c1] 35))):=⟨below_alloc (below_alloc (below_alloc (below_alloc (Below.refl _ w) _) _) _) _⟩
 have HT:Aside0 (∀W,Below (w.heap.size+4) ((((w.alloc (.cells #[.slice A0_0 l0_0.length c0_0,.slice A0_1 l0_1.length c0_1,.int .i64 a0_2,.int .i64 a0_3,.slice A0_4 l0_4.length c0_4] 26)).alloc (.cells #[.int .i64 0,.slice A1 l1.length c1] 35)).alloc (.cells #[.slice A0_0 l0_0.length c0_0,.slice A0_1 l0_1.length c0_1,.int .i64 a0_2,.int .i64 a0_3,.slice (some ⟨w.heap.size+1+1+1,0,none⟩) 1 1] 26)).alloc (.cells #[.int .i64 0,.slice A1 l1.length c1] 35)) W→Kd.C k35 W (some ⟨w.heap.size+1+1+1,0,none⟩) [(⟨0,l1⟩:S35)].length [(⟨0,l1⟩:S35)]):=⟨fun W hW=>by
  have hb:W.heap[w.heap.size+1+1+1]?=some (.cells #[.int .i64 0,.slice A1 l1.length c1] 35 (0,0)):=by
   have h4:=heap_alloc_new (((w.alloc (.cells #[.slice A0_0 l0_0.length c0_0,.slice A0_1 l0_1.length c0_1,.int .i64 a0_2,.int .i64 a0_3,.slice A0_4 l0_4.length c0_4] 26)).alloc (.cells #[.int .i64 0,.slice A1 l1.length c1] 35)).alloc (.cells #[.slice A0_0 l0_0.length c0_0,.slice A0_1 l0_1.length c0_1,.int .i64 a0_2,.int .i64 a0_3,.slice (some ⟨w.heap.size+1+1+1,0,none⟩) 1 1] 26)) (.cells #[.int .i64 0,.slice A1 l1.length c1] 35)
   simp only [World.size_alloc] at h4
   exact(hW.block _ (by omega)).trans h4
  refine⟨rfl,by simp,fun _=>⟨_,rfl,fun j p hj=>?_⟩⟩
  have hj0:j=0:=by
   cases j with
   |zero=>rfl
   |succ j=>simp at hj
  subst hj0
  obtain rfl:(⟨0,l1⟩:S35)=p:=by simpa using hj
  refine⟨_,rfl,k35_mk W ⟨0,l1⟩ hc1 (Kd.C_below hr1 (HA4.out.trans (hW.mono (by omega)))),fun i u hi=>?_⟩
  rw [Nat.zero_mul,Nat.zero_add,add_plain,blk_cell hb]
  simpa using hi⟩
 cases rt with
 |false=>
  rw [if_neg (by simp)] at h2
  obtain⟨rfl,rfl⟩:=Prod.mk.inj (Option.some.inj h2)
  clear h2
  go_enter Try.func32,Try.ntmps32
  go_wp2_with (go_at_call 30;(with_reducible refine(regletref13_Right.calls k A0_0 c0_0 l0_0 A0_1 c0_1 l0_1 a0_2 a0_3 A0_4 c0_4 l0_4 false _ (Kd.C_below hr0_0 HA4.out) hc0_0 (Kd.C_below hr0_1 HA4.out) hc0_1 (Kd.C_below hr0_4 HA4.out) hc0_4 HRT.out).mono ?_);rintro e w1 ⟨rfl,hb1⟩)
  go_ret2
  exact⟨_,rfl,Kd.R_nil _ _ _ _ _,HA4.out.trans (hb1.mono (by simp;omega))⟩
 |true=>
  rw [if_pos rfl] at h2
  by_cases hz:(l0_0.length:Int)=0
  ·rw [if_pos hz] at h2
   obtain⟨rfl,rfl⟩:=Prod.mk.inj (Option.some.inj h2)
   clear h2
   have hzb:((l0_0.length:Int)==0)=true:=beq_iff_eq.mpr hz
   have hzn:(l0_0.length=0)=True:=eq_true (by omega)
   clear hz
   go_enter Try.func32,Try.ntmps32
   go_wp2_with (first|(go_at_call 30;(with_reducible refine(regletref13_Right.calls k A0_0 c0_0 l0_0 A0_1 c0_1 l0_1 a0_2 a0_3 A0_4 c0_4 l0_4 true _ (Kd.C_below hr0_0 HA4.out) hc0_0 (Kd.C_below hr0_1 HA4.out) hc0_1 (Kd.C_below hr0_4 HA4.out) hc0_4 HRT.out).mono ?_);rintro e w1 ⟨rfl,hb1⟩;have HB1:Aside0 (Below (w.heap.size+4) ((((w.alloc (.cells #[.slice A0_0 l0_0.length c0_0,.slice A0_1 l0_1.length c0_1,.int .i64 a0_2,.int .i64 a0_3,.slice A0_4 l0_4.length c0_4] 26)).alloc (.cells #[.int .i64 0,.slice A1 l1.length c1] 35)).alloc (.cells #[.slice A0_0 l0_0.length c0_0,.slice A0_1 l0_1.length c0_1,.int .i64 a0_2,.int .i64 a0_3,.slice (some ⟨w.heap.size+1+1+1,0,none⟩) 1 1] 26)).alloc (.cells #[.int .i64 0,.slice A1 l1.length c1] 35)) w1):=⟨hb1.mono (by simp)⟩;have HB01:Aside0 (Below w.heap.size w w1):=⟨HA4.out.trans (HB1.out.mono (by omega))⟩;clear hb1;obtain⟨q0,q1,q2,q3,q4⟩:=HC.out w1 HB1.out;obtain⟨t0,t1,t2,t3,t4⟩:=HD.out w1 HB1.out))
   go_ret2
   exact⟨_,rfl,Kd.R_nil _ _ _ _ _,HB01.out⟩
  ·rw [if_neg hz] at h2
   have hzb:((l0_0.length:Int)==0)=false:=beq_eq_false_iff_ne.mpr hz
   have hzn:(l0_0.length=0)=False:=eq_false (by omega)
   clear hz
   obtain⟨rt2,hrt2,h3⟩:=Option.bind_eq_some_iff.1 h2
   have HRT2:=Aside0.mk hrt2
   clear h2 hrt2
   cases rt2 with
   |false=>
    rw [if_neg (by simp)] at h3
    obtain⟨rfl,rfl⟩:=Prod.mk.inj (Option.some.inj h3)
    clear h3
    go_enter Try.func32,Try.ntmps32
    go_wp2_with (first
     |(go_at_call 30;have hR2:=regletref13_Right.calls k A0_0 c0_0 l0_0 A0_1 c0_1 l0_1 a0_2 a0_3 (some ⟨w.heap.size+1+1+1,0,none⟩) 1 [(⟨0,l1⟩:S35)] false w1 (Kd.C_below hr0_0 HB01.out) hc0_0 (Kd.C_below hr0_1 HB01.out) hc0_1 (HT.out w1 HB1.out) (by simp) HRT2.out;simp only [List.length_cons,List.length_nil,Nat.zero_add] at hR2;(with_reducible refine hR2.mono ?_);rintro e w2 ⟨rfl,hb2⟩;have HB2:Aside0 (Below (w.heap.size+4) ((((w.alloc (.cells #[.slice A0_0 l0_0.length c0_0,.slice A0_1 l0_1.length c0_1,.int .i64 a0_2,.int .i64 a0_3,.slice A0_4 l0_4.length c0_4] 26)).alloc (.cells #[.int .i64 0,.slice A1 l1.length c1] 35)).alloc (.cells #[.slice A0_0 l0_0.length c0_0,.slice A0_1 l0_1.length c0_1,.int .i64 a0_2,.int .i64 a0_3,.slice (some ⟨w.heap.size+1+1+1,0,none⟩) 1 1] 26)).alloc (.cells #[.int .i64 0,.slice A1 l1.length c1] 35)) w2):=⟨HB1.out.trans (hb2.mono (by have:=HB1.out.size;simp at this;omega))⟩;have HB02:Aside0 (Below w.heap.size w w2):=⟨HA4.out.trans (HB2.out.mono (by omega))⟩;clear hR2 hb2 t0 t1 t2 t3 t4 q0 q1 q2 q3 q4;obtain⟨q0,q1,q2,q3,q4⟩:=HC.out w2 HB2.out)
     |(go_at_call 30;(with_reducible refine(regletref13_Right.calls k A0_0 c0_0 l0_0 A0_1 c0_1 l0_1 a0_2 a0_3 A0_4 c0_4 l0_4 true _ (Kd.C_below hr0_0 HA4.out) hc0_0 (Kd.C_below hr0_1 HA4.out) hc0_1 (Kd.C_below hr0_4 HA4.out) hc0_4 HRT.out).mono ?_);rintro e w1 ⟨rfl,hb1⟩;have HB1:Aside0 (Below (w.heap.size+4) ((((w.alloc (.cells #[.slice A0_0 l0_0.length c0_0,.slice A0_1 l0_1.length c0_1,.int .i64 a0_2,.int .i64 a0_3,.slice A0_4 l0_4.length c0_4] 26)).alloc (.cells #[.int .i64 0,.slice A1 l1.length c1] 35)).alloc (.cells #[.slice A0_0 l0_0.length c0_0,.slice A0_1 l0_1.length c0_1,.int .i64 a0_2,.int .i64 a0_3,.slice (some ⟨w.heap.size+1+1+1,0,none⟩) 1 1] 26)).alloc (.cells #[.int .i64 0,.slice A1 l1.length c1] 35)) w1):=⟨hb1.mono (by simp)⟩;have HB01:Aside0 (Below w.heap.size w w1):=⟨HA4.out.trans (HB1.out.mono (by omega))⟩;clear hb1;obtain⟨q0,q1,q2,q3,q4⟩:=HC.out w1 HB1.out;obtain⟨t0,t1,t2,t3,t4⟩:=HD.out w1 HB1.out))
    go_ret2
    exact⟨_,rfl,Kd.R_nil _ _ _ _ _,HB02.out⟩
   |true=>
    rw [if_pos rfl] at h3
    obtain⟨f,hf,h4⟩:=Option.bind_eq_some_iff.1 h3
    obtain⟨em,he,h5⟩:=Option.bind_eq_some_iff.1 h4
    obtain⟨⟨bl,bb⟩,hbg,h6⟩:=Option.bind_eq_some_iff.1 h5
    obtain⟨ri,hri,h7⟩:=Option.bind_eq_some_iff.1 h6
    obtain⟨rfl,rfl⟩:=Prod.mk.inj (Option.some.inj h7)
    have HF:=Aside0.mk hf
    have HE:=Aside0.mk he
    have HBG:=Aside0.mk hbg
    have HRI:=Aside0.mk hri
    clear h3 h4 h5 h6 h7 hf he hbg hri
    go_enter Try.func32,Try.ntmps32
    go_upto_region 6 with(first
     |(go_at_call 30;have hR2:=regletref13_Right.calls k A0_0 c0_0 l0_0 A0_1 c0_1 l0_1 a0_2 a0_3 (some ⟨w.heap.size+1+1+1,0,none⟩) 1 [(⟨0,l1⟩:S35)] true w1 (Kd.C_below hr0_0 HB01.out) hc0_0 (Kd.C_below hr0_1 HB01.out) hc0_1 (HT.out w1 HB1.out) (by simp) HRT2.out;simp only [List.length_cons,List.length_nil,Nat.zero_add] at hR2;(with_reducible refine hR2.mono ?_);rintro e w2 ⟨rfl,hb2⟩;have HB2:Aside0 (Below (w.heap.size+4) ((((w.alloc (.cells #[.slice A0_0 l0_0.length c0_0,.slice A0_1 l0_1.length c0_1,.int .i64 a0_2,.int .i64 a0_3,.slice A0_4 l0_4.length c0_4] 26)).alloc (.cells #[.int .i64 0,.slice A1 l1.length c1] 35)).alloc (.cells #[.slice A0_0 l0_0.length c0_0,.slice A0_1 l0_1.length c0_1,.int .i64 a0_2,.int .i64 a0_3,.slice (some ⟨w.heap.size+1+1+1,0,none⟩) 1 1] 26)).alloc (.cells #[.int .i64 0,.slice A1 l1.length c1] 35)) w2):=⟨HB1.out.trans (hb2.mono (by have:=HB1.out.size;simp at this;omega))⟩;have HB02:Aside0 (Below w.heap.size w w2):=⟨HA4.out.trans (HB2.out.mono (by omega))⟩;clear hR2 hb2 t0 t1 t2 t3 t4 q0 q1 q2 q3 q4;obtain⟨q0,q1,q2,q3,q4⟩:=HC.out w2 HB2.out)
     |(go_at_call 30;(with_reducible refine(regletref13_Right.calls k A0_0 c0_0 l0_0 A0_1 c0_1 l0_1 a0_2 a0_3 A0_4 c0_4 l0_4 true _ (Kd.C_below hr0_0 HA4.out) hc0_0 (Kd.C_below hr0_1 HA4.out) hc0_1 (Kd.C_below hr0_4 HA4.out) hc0_4 HRT.out).mono ?_);rintro e w1 ⟨rfl,hb1⟩;have HB1:Aside0 (Below (w.heap.size+4) ((((w.alloc (.cells #[.slice A0_0 l0_0.length c0_0,.slice A0_1 l0_1.length c0_1,.int .i64 a0_2,.int .i64 a0_3,.slice A0_4 l0_4.length c0_4] 26)).alloc (.cells #[.int .i64 0,.slice A1 l1.length c1] 35)).alloc (.cells #[.slice A0_0 l0_0.length c0_0,.slice A0_1 l0_1.length c0_1,.int .i64 a0_2,.int .i64 a0_3,.slice (some ⟨w.heap.size+1+1+1,0,none⟩) 1 1] 26)).alloc (.cells #[.int .i64 0,.slice A1 l1.length c1] 35)) w1):=⟨hb1.mono (by simp)⟩;have HB01:Aside0 (Below w.heap.size w w1):=⟨HA4.out.trans (HB1.out.mono (by omega))⟩;clear hb1;obtain⟨q0,q1,q2,q3,q4⟩:=HC.out w1 HB1.out;obtain⟨t0,t1,t2,t3,t4⟩:=HD.out w1 HB1.out))
    have HFC:Aside0 (∀W:World,Below w.heap.size w W→Calls Try.prog 44 #[.agg #[.slice A0_0 l0_0.length c0_0,.slice A0_1 l0_1.length c0_1,.int .i64 a0_2,.int .i64 a0_3,.slice A0_4 l0_4.length c0_4]] W fun e w'=>∃v0_:Value,e= .returned (v0_)∧Kd.S (Kd.slice 4 Kd.bool) 90 w' W.heap.size (fun _=>True) v0_ f∧Below W.heap.size W w'):=⟨fun W hb=>regletref13_first.calls k A0_0 c0_0 l0_0 A0_1 c0_1 l0_1 a0_2 a0_3 A0_4 c0_4 l0_4 f W (Kd.C_below hr0_0 hb) hc0_0 (Kd.C_below hr0_1 hb) hc0_1 (Kd.C_below hr0_4 hb) hc0_4 HF.out⟩
    have HEC:Aside0 (∀W:World,Below w.heap.size w W→Calls Try.prog 45 #[.agg #[.slice A0_0 l0_0.length c0_0,.slice A0_1 l0_1.length c0_1,.int .i64 a0_2,.int .i64 a0_3,.slice A0_4 l0_4.length c0_4]] W fun e w'=>∃v0_:Value,e= .returned (v0_)∧Kd.R Kd.bool 4 w' W.heap.size (fun _=>True) v0_ em∧Below W.heap.size W w'):=⟨fun W hb=>regletref13_Empty.calls k A0_0 c0_0 l0_0 A0_1 c0_1 l0_1 a0_2 a0_3 A0_4 c0_4 l0_4 em W (Kd.C_below hr0_0 hb) hc0_0 (Kd.C_below hr0_1 hb) hc0_1 (Kd.C_below hr0_4 hb) hc0_4 HE.out⟩
    go_cut [8,9] from 10 (fun s8 s9 wc=>∃A7 c7,s8= .slice A7 bl.length c7∧s9= .bool bb∧Aside0 (Kd.R Kd.bool 4 wc w.heap.size (fun _=>True) (.slice A7 bl.length c7) bl)∧Aside0 (Below w.heap.size w wc))
    case first=>
     go_region_held3 (fun W=>W.cell? ⟨w.heap.size,0,none⟩=some (.slice A0_0 l0_0.length c0_0)∧W.cell? ⟨w.heap.size,1,none⟩=some (.slice A0_1 l0_1.length c0_1)∧W.cell? ⟨w.heap.size,2,none⟩=some (.int .i64 a0_2)∧W.cell? ⟨w.heap.size,3,none⟩=some (.int .i64 a0_3)∧W.cell? ⟨w.heap.size,4,none⟩=some (.slice A0_4 l0_4.length c0_4))
      (first|exact HC.out _ KBB.out|exact HC.out _ KBL.out|exact HC.out _ KB1.out|exact HC.out _ (Below.drew HB2.out)|go_keep)
      (first
       |(go_at_call 44;(with_reducible refine(HFC.out w2.drew (below_drew1 HB02.out)).mono ?_);rintro e wf ⟨vf,rfl,hSf,hbf⟩;obtain⟨Af,cf,rfl⟩:=Kd.S_slice hSf;have HSF:=Aside0.mk hSf;have HBF:Aside0 (Below w.heap.size w wf):=⟨((below_drew1 HB02.out)).trans (hbf.mono ((below_drew1 HB02.out)).size)⟩;have KB1:Aside0 (Below (w.heap.size+4) ((((w.alloc (.cells #[.slice A0_0 l0_0.length c0_0,.slice A0_1 l0_1.length c0_1,.int .i64 a0_2,.int .i64 a0_3,.slice A0_4 l0_4.length c0_4] 26)).alloc (.cells #[.int .i64 0,.slice A1 l1.length c1] 35)).alloc (.cells #[.slice A0_0 l0_0.length c0_0,.slice A0_1 l0_1.length c0_1,.int .i64 a0_2,.int .i64 a0_3,.slice (some ⟨w.heap.size+1+1+1,0,none⟩) 1 1] 26)).alloc (.cells #[.int .i64 0,.slice A1 l1.length c1] 35)) wf):=⟨((Below.drew HB2.out)).trans (hbf.mono (by have:=((Below.drew HB2.out)).size;simp at this ⊢;omega))⟩;clear hSf hbf q0 q1 q2 q3 q4)
       |(go_at_call 44;(with_reducible refine(HFC.out we HBE.out).mono ?_);rintro e wf ⟨vf,rfl,hSf,hbf⟩;obtain⟨Af,cf,rfl⟩:=Kd.S_slice hSf;have HBL:Aside0 (Below w.heap.size w wf):=⟨(HBE.out).trans (hbf.mono (HBE.out).size)⟩;have KBL:Aside0 (Below (w.heap.size+4) ((((w.alloc (.cells #[.slice A0_0 l0_0.length c0_0,.slice A0_1 l0_1.length c0_1,.int .i64 a0_2,.int .i64 a0_3,.slice A0_4 l0_4.length c0_4] 26)).alloc (.cells #[.int .i64 0,.slice A1 l1.length c1] 35)).alloc (.cells #[.slice A0_0 l0_0.length c0_0,.slice A0_1 l0_1.length c0_1,.int .i64 a0_2,.int .i64 a0_3,.slice (some ⟨w.heap.size+1+1+1,0,none⟩) 1 1] 26)).alloc (.cells #[.int .i64 0,.slice A1 l1.length c1] 35)) wf):=⟨(KB1.out).trans (hbf.mono (by have:=(KB1.out).size;simp at this ⊢;omega))⟩;have CF:=Aside0.mk (Kd.S_reads' hSf).2;have CE:=Aside0.mk (And.intro (Kd.R_reads' HRE.out).2.1 (Kd.C_below (Kd.R_reads' HRE.out).2.2 hbf));clear hSf hbf)
       |(go_at_call 45;(with_reducible refine(HEC.out w2.drew (below_drew1 HB02.out)).mono ?_);rintro e we ⟨ve,rfl,hRe,hbe⟩;obtain⟨Ae,ce,rfl⟩:=Kd.R_slice hRe;have HRE:=Aside0.mk hRe;have HBE:Aside0 (Below w.heap.size w we):=⟨((below_drew1 HB02.out)).trans (hbe.mono ((below_drew1 HB02.out)).size)⟩;have KB1:Aside0 (Below (w.heap.size+4) ((((w.alloc (.cells #[.slice A0_0 l0_0.length c0_0,.slice A0_1 l0_1.length c0_1,.int .i64 a0_2,.int .i64 a0_3,.slice A0_4 l0_4.length c0_4] 26)).alloc (.cells #[.int .i64 0,.slice A1 l1.length c1] 35)).alloc (.cells #[.slice A0_0 l0_0.length c0_0,.slice A0_1 l0_1.length c0_1,.int .i64 a0_2,.int .i64 a0_3,.slice (some ⟨w.heap.size+1+1+1,0,none⟩) 1 1] 26)).alloc (.cells #[.int .i64 0,.slice A1 l1.length c1] 35)) we):=⟨((Below.drew HB2.out)).trans (hbe.mono (by have:=((Below.drew HB2.out)).size;simp at this ⊢;omega))⟩;clear hRe hbe q0 q1 q2 q3 q4)
       |(go_at_call 45;(with_reducible refine(HEC.out wf HBF.out).mono ?_);rintro e we ⟨ve,rfl,hRe,hbe⟩;obtain⟨Ae,ce,rfl⟩:=Kd.R_slice hRe;have HBL:Aside0 (Below w.heap.size w we):=⟨(HBF.out).trans (hbe.mono (HBF.out).size)⟩;have KBL:Aside0 (Below (w.heap.size+4) ((((w.alloc (.cells #[.slice A0_0 l0_0.length c0_0,.slice A0_1 l0_1.length c0_1,.int .i64 a0_2,.int .i64 a0_3,.slice A0_4 l0_4.length c0_4] 26)).alloc (.cells #[.int .i64 0,.slice A1 l1.length c1] 35)).alloc (.cells #[.slice A0_0 l0_0.length c0_0,.slice A0_1 l0_1.length c0_1,.int .i64 a0_2,.int .i64 a0_3,.slice (some ⟨w.heap.size+1+1+1,0,none⟩) 1 1] 26)).alloc (.cells #[.int .i64 0,.slice A1 l1.length c1] 35)) we):=⟨(KB1.out).trans (hbe.mono (by have:=(KB1.out).size;simp at this ⊢;omega))⟩;have CE:=Aside0.mk (Kd.R_reads' hRe).2;have CF:=Aside0.mk (And.intro (Kd.S_reads' HSF.out).2.1 (Kd.C_below (Kd.S_reads' HSF.out).2.2 hbe));clear hRe hbe)
       |(go_at_call 46;(with_reducible refine(regletref13_begins.calls k A0_0 c0_0 l0_0 A0_1 c0_1 l0_1 a0_2 a0_3 A0_4 c0_4 l0_4 A1 c1 l1 Af cf f Ae ce em bl bb _ (Kd.C_below hr0_0 HBL.out) hc0_0 (Kd.C_below hr0_1 HBL.out) hc0_1 (Kd.C_below hr0_4 HBL.out) hc0_4 (Kd.C_below hr1 HBL.out) hc1 CF.out.2 CF.out.1 CE.out.2 CE.out.1 HBG.out).mono ?_);rintro e wb ⟨vb,rfl,hRb,hbb⟩;obtain⟨A7,c7,rfl⟩:=Kd.R_slice hRb;have HRB:=Aside0.mk (Kd.R_lower hRb HBL.out.size);have HBB:Aside0 (Below w.heap.size w wb):=⟨HBL.out.trans (hbb.mono HBL.out.size)⟩;have KBB:Aside0 (Below (w.heap.size+4) ((((w.alloc (.cells #[.slice A0_0 l0_0.length c0_0,.slice A0_1 l0_1.length c0_1,.int .i64 a0_2,.int .i64 a0_3,.slice A0_4 l0_4.length c0_4] 26)).alloc (.cells #[.int .i64 0,.slice A1 l1.length c1] 35)).alloc (.cells #[.slice A0_0 l0_0.length c0_0,.slice A0_1 l0_1.length c0_1,.int .i64 a0_2,.int .i64 a0_3,.slice (some ⟨w.heap.size+1+1+1,0,none⟩) 1 1] 26)).alloc (.cells #[.int .i64 0,.slice A1 l1.length c1] 35)) wb):=⟨KBL.out.trans (hbb.mono (by have:=KBL.out.size;simp at this ⊢;omega))⟩;clear hRb hbb))
     all_goals
      go_wp2_with fail
      go_meet
      case rel=>exact⟨A7,c7,rfl,rfl,HRB,HBB⟩
    case rest=>
     obtain⟨A7,c7,rfl,rfl,HRB,HBB⟩:=hcut
     go_wp2_with (go_at_call 49;(with_reducible refine(regletref13_list.calls k A7 c7 bl ri _ (Kd.R_reads' HRB.out).2.2 (Kd.R_reads' HRB.out).2.1 HRI.out).mono ?_);rintro e w5 ⟨v5,rfl,hR5,hb5⟩;have HR5:=Aside0.mk hR5;have HB5:=Aside0.mk hb5;clear hR5 hb5)
     go_ret2
     exact⟨_,rfl,Kd.R_lower HR5.out HBB.out.size,HBB.out.trans (HB5.out.mono HBB.out.size)⟩
def rJoinRow (k:Nat) (n:Int) (m:List Bool) (out:List (List Bool)):Option (Bool×List (List Bool)):=
 if 0≤n then if n<(out.length:Int) then(regletref13_join.f k (out.getD n.toNat []) m).bind fun b=>some (b.1,out.set n.toNat b.2) else none else none
def rJoinFrom (k:Nat) (left:Int) (m:List Bool) (e:Bool) (out:List (List Bool)):Option (List Bool):=
 if e=true then if 0≤left then if left<(out.length:Int) then(regletref13_join.f k m (out.getD left.toNat [])).bind fun b=>some b.2 else none else none else some m
def rFollowIn (k:Nat) (l0_0:List ByteArray) (l0_1:List (S72)) (a0_2:Int) (a0_3:Int) (l0_4:List (S35)) (f:List (List Bool)) (em:List Bool) (left:Int):List (S43)→Bool→List (List Bool)→Option (Bool×List (List Bool))
 | [],more,out=>some (more,out)
 |y::ys,more,out=>if y.f0=true then rFollowIn k l0_0 l0_1 a0_2 a0_3 l0_4 f em left ys more out else
  (regletref13_begins.f k l0_0 l0_1 a0_2 a0_3 l0_4 ys f em).bind fun l=>(rJoinFrom k left l.1 l.2 out).bind fun m=>(rJoinRow k y.f1 m out).bind fun b=>rFollowIn k l0_0 l0_1 a0_2 a0_3 l0_4 f em left ys (if b.1=true then true else more) b.2
def rFollowPs (k:Nat) (l0_0:List ByteArray) (l0_1:List (S72)) (a0_2:Int) (a0_3:Int) (l0_4:List (S35)) (f:List (List Bool)) (em:List Bool):List (S35)→Bool→List (List Bool)→Option (Bool×List (List Bool))
 | [],more,out=>some (more,out)
 |p::ps,more,out=>(rFollowIn k l0_0 l0_1 a0_2 a0_3 l0_4 f em p.f0 p.f1 more out).bind fun b=>rFollowPs k l0_0 l0_1 a0_2 a0_3 l0_4 f em ps b.1 b.2
def rFollowOut (kk:Nat) (l0_0:List ByteArray) (l0_1:List (S72)) (a0_2:Int) (a0_3:Int) (l0_4:List (S35)) (f:List (List Bool)) (em:List Bool):Nat→List (List Bool)→Bool→Option (List (List Bool))
 |0,_,_=>none
 |k+1,out,more=>if more=true then(rFollowPs kk l0_0 l0_1 a0_2 a0_3 l0_4 f em l0_4 false out).bind fun b=>rFollowOut kk l0_0 l0_1 a0_2 a0_3 l0_4 f em k b.2 b.1 else some out
def rFollow0 (nt:Nat) (out:List (List Bool)):Option (List (List Bool)):=
 if 0<out.length then if nt<(out.getD 0 []).length then some (out.set 0 ((out.getD 0 []).set nt true)) else none else some out
def regletref13_Follow.f (k:Nat) (l0_0:List ByteArray) (l0_1:List (S72)) (a0_2:Int) (a0_3:Int) (l0_4:List (S35)):Option (List (List Int)):=
 if l0_4.length≤9223372036854775807∧l0_4.all (fun p=>decide (p.f1.length≤9223372036854775807))=true then
 (regletref13_Right.f k l0_0 l0_1 a0_2 a0_3 l0_4).bind fun r=>if r=true then(regletref13_marks.f k l0_0 l0_1 a0_2 a0_3 l0_4).bind fun out=>(regletref13_first.f k l0_0 l0_1 a0_2 a0_3 l0_4).bind fun f=>(regletref13_Empty.f k l0_0 l0_1 a0_2 a0_3 l0_4).bind fun em=>(rFollow0 l0_1.length out).bind fun out0=>(rFollowOut k l0_0 l0_1 a0_2 a0_3 l0_4 f em k out0 true).bind fun o=>regletref13_lists.f k o else some []
 else none
structure RFollowI (w w5:World) (lo hi:Nat) (Ao:Option Addr) (co N:Nat) (out:List (List Bool)) (W:World):Prop where
 bel:Below w.heap.size w W
 r:Kd.S (Kd.slice 4 Kd.bool) 90 W w.heap.size (fun k=>lo≤k∧k<hi) (.slice Ao N co) out
 k:Kept w5 W (fun k=>lo≤k∧k<hi)
 h:hi≤W.heap.size
section
variable {w w5:World}{lo hi:Nat}{Ao:Option Addr}{co N:Nat}{out out':List (List Bool)}{W W':World}
theorem RFollowI.below (h:RFollowI w w5 lo hi Ao co N out W) (hb:Below W.heap.size W W'):RFollowI w w5 lo hi Ao co N out W':=
 ⟨h.bel.trans (hb.mono h.bel.size),Kd.S_below h.r hb,h.k.below hb,Nat.le_trans h.h hb.size⟩
end
set_option maxHeartbeats 1000000 in
theorem rjoin_from (k:Nat) (w w5 W:World) (lo hi:Nat) (Ao:Option Addr) (co N:Nat) (out:List (List Bool)) (HI:RFollowI w w5 lo hi Ao co N out W) (left:Int) (hl0:0≤left) (hl1:left<(out.length:Int)) (m m':List Bool) (b:Bool) (B:Nat) (hB:w5.heap.size≤B) (hhi:hi≤w5.heap.size) (hBW:B≤W.heap.size) (A2:Option Addr) (c2:Nat) (hm:Kd.R Kd.bool 4 W w.heap.size (fun k=>B≤k) (.slice A2 m.length c2) m) (h:regletref13_join.f k m (out.getD left.toNat [])=some (b,m')):
 ∃(go:Nat) (A4:Option Addr) (c4 m4:Nat),Ao=some ⟨go,0,none⟩∧W.cell? ⟨go,left.toNat,none⟩=some (.slice A4 m4 c4)∧
  Calls Try.prog 47 #[.slice A2 m.length c2,.slice A4 m4 c4] W fun e w'=>e= .returned (.bool b)∧Aside0 (RFollowI w w5 lo hi Ao co N out w')∧Aside0 (Kd.R Kd.bool 4 w' w.heap.size (fun k=>B≤k) (.slice A2 m.length c2) m')∧Aside0 (Kept W w' (fun k=>B≤k)):=by
 obtain⟨go,vr,P,eA,hcell,hRow,hP,hback⟩:=S_row rfl HI.r left hl0 hl1
 obtain⟨A4,c4,rfl⟩:=Kd.R_slice hRow
 refine⟨go,A4,c4,_,eA,hcell,?_⟩
 refine(regletref13_join.calls k (fun k=>B≤k) _ m A4 c4 (out.getD left.toNat []) b m' w W HI.bel hm (Kd.C_kept_own hRow (fun k hk hh=>by have:=(hP k hk).1.2;omega)) (Kd.R_reads' hRow).2.1 h).mono ?_
 rintro e w3 ⟨rfl,hR3,hb3,hk3⟩
 refine⟨rfl,⟨⟨hb3,Kd.S_kept HI.r hk3 (fun k h1 h2=>by omega),HI.k.then_ hk3 (fun k h2=> .inr (Nat.le_trans hB h2)),Nat.le_trans HI.h hk3.1⟩⟩,⟨Kd.R_mono hR3 (fun k hk=>hk.elim id (fun h2=>Nat.le_trans hBW h2))⟩,⟨hk3⟩⟩
set_option maxHeartbeats 1000000 in
theorem rjoin_row (k:Nat) (w w5 W:World) (lo hi:Nat) (Ao:Option Addr) (co N:Nat) (out out':List (List Bool)) (HI:RFollowI w w5 lo hi Ao co N out W) (n:Int) (m:List Bool) (n2:Nat) (b:Bool) (B:Nat) (hhi:hi≤B) (A2:Option Addr) (c2:Nat) (hm:Kd.R Kd.bool 4 W w.heap.size (fun k=>B≤k) (.slice A2 n2 c2) m) (h:rJoinRow k n m out=some (b,out')):
 ∃(go:Nat) (A4:Option Addr) (c4 m4:Nat),0≤n∧n<(out.length:Int)∧Ao=some ⟨go,0,none⟩∧W.cell? ⟨go,n.toNat,none⟩=some (.slice A4 m4 c4)∧out'.length=out.length∧
  Calls Try.prog 47 #[.slice A4 m4 c4,.slice A2 n2 c2] W fun e w'=>e= .returned (.bool b)∧Aside0 (RFollowI w w5 lo hi Ao co N out' w')∧Aside0 (Kept W w' (fun k=>lo≤k∧k<hi)):=by
 unfold rJoinRow at h
 split at h
 case isFalse=>simp at h
 rename_i h0
 split at h
 case isFalse=>simp at h
 rename_i h1
 obtain⟨⟨ab,ar⟩,had,h2⟩:=Option.bind_eq_some_iff.1 h
 obtain⟨rfl,rfl⟩:=Prod.mk.inj (Option.some.inj h2)
 have hn2:=(Kd.R_reads' hm).1
 subst hn2
 obtain⟨go,vr,P,eA,hcell,hRow,hP,hback⟩:=S_row rfl HI.r n h0 h1
 obtain⟨A4,c4,rfl⟩:=Kd.R_slice hRow
 refine⟨go,A4,c4,_,h0,h1,eA,hcell,by simp,?_⟩
 refine(regletref13_join.calls k P _ _ A2 c2 m ab ar w W HI.bel hRow (Kd.C_kept_own hm (fun k hk hp=>by have:=(hP k hp).1.2;omega)) (Kd.R_reads' hm).2.1 had).mono ?_
 rintro e w3 ⟨rfl,hR3,hb3,hk3⟩
 exact⟨rfl,⟨⟨hb3,hback w3 _ ar hk3 hR3,HI.k.then_ hk3 (fun k h2=> .inl (hP k h2).1),Nat.le_trans HI.h hk3.1⟩⟩,⟨Kept.mono hk3 (fun k hk=>(hP k hk).1)⟩⟩
theorem infoSymR:(Try.prog.info? 43).map (fun i=>(i.zero,i.size,i.bytes))=some (some (.agg #[.bool false,.int .i64 0]),2,16):=by kernel_rfl
set_option maxHeartbeats 4000000 in
set_option maxRecDepth 100000 in
theorem regletref13_Follow.calls (k:Nat) (A0_0:Option Addr) (c0_0:Nat) (l0_0:List ByteArray) (A0_1:Option Addr) (c0_1:Nat) (l0_1:List (S72)) (a0_2:Int) (a0_3:Int) (A0_4:Option Addr) (c0_4:Nat) (l0_4:List (S35)) (r:List (List Int)) (w:World) (hr0_0:Kd.C Kd.string w A0_0 l0_0.length l0_0) (hc0_0:l0_0.length≤c0_0) (hr0_1:Kd.C k72 w A0_1 l0_1.length l0_1) (hc0_1:l0_1.length≤c0_1) (hr0_4:Kd.C k35 w A0_4 l0_4.length l0_4) (hc0_4:l0_4.length≤c0_4) (h:regletref13_Follow.f k l0_0 l0_1 a0_2 a0_3 l0_4=some r):
 Calls Try.prog 31 #[.agg #[.slice A0_0 l0_0.length c0_0,.slice A0_1 l0_1.length c0_1,.int .i64 a0_2,.int .i64 a0_3,.slice A0_4 l0_4.length c0_4]] w fun e w'=>∃v0_:Value,e= .returned (v0_)∧Kd.S (Kd.slice 3 (Kd.int .i64)) 32 w' w.heap.size (fun _=>True) v0_ r∧Below w.heap.size w w':=by
 unfold regletref13_Follow.f at h
 split at h
 case isFalse=>simp at h
 rename_i hsz
 have HSZ:=Aside0.mk hsz
 clear hsz
 obtain⟨rt,hrt,h2⟩:=Option.bind_eq_some_iff.1 h
 have HRT:=Aside0.mk hrt
 clear h hrt
 have HA1:Aside0 (Below w.heap.size w (w.alloc (.cells #[.slice A0_0 l0_0.length c0_0,.slice A0_1 l0_1.length c0_1,.int .i64 a0_2,.int .i64 a0_3,.slice A0_4 l0_4.length c0_4] 26))):=⟨(Below.refl _ w).alloc (Nat.le_refl _) _⟩
 have HC:Aside0 (∀W,Below (w.heap.size+1) (w.alloc (.cells #[.slice A0_0 l0_0.length c0_0,.slice A0_1 l0_1.length c0_1,.int .i64 a0_2,.int .i64 a0_3,.slice A0_4 l0_4.length c0_4] 26)) W→W.cell? ⟨w.heap.size,0,none⟩=some (.slice A0_0 l0_0.length c0_0)∧W.cell? ⟨w.heap.size,1,none⟩=some (.slice A0_1 l0_1.length c0_1)∧W.cell? ⟨w.heap.size,2,none⟩=some (.int .i64 a0_2)∧W.cell? ⟨w.heap.size,3,none⟩=some (.int .i64 a0_3)∧W.cell? ⟨w.heap.size,4,none⟩=some (.slice A0_4 l0_4.length c0_4)):=⟨fun W hW=>⟨(hW.cell (p:=⟨w.heap.size,0,none⟩) (by simp)).trans (by simp),(hW.cell (p:=⟨w.heap.size,1,none⟩) (by simp)).trans (by simp),(hW.cell (p:=⟨w.heap.size,2,none⟩) (by simp)).trans (by simp),(hW.cell (p:=⟨w.heap.size,3,none⟩) (by simp)).trans (by simp),(hW.cell (p:=⟨w.heap.size,4,none⟩) (by simp)).trans (by simp)⟩⟩
 cases rt with
 |false=>
  rw [if_neg (by simp)] at h2
  obtain rfl:=Option.some.inj h2
  clear h2
  go_enter Try.func31,Try.ntmps31
  go_wp2_with (go_at_call 30;(with_reducible refine(regletref13_Right.calls k A0_0 c0_0 l0_0 A0_1 c0_1 l0_1 a0_2 a0_3 A0_4 c0_4 l0_4 false _ (Kd.C_below hr0_0 HA1.out) hc0_0 (Kd.C_below hr0_1 HA1.out) hc0_1 (Kd.C_below hr0_4 HA1.out) hc0_4 HRT.out).mono ?_);rintro e w1 ⟨rfl,hb1⟩)
  go_ret
  exact⟨_,rfl,Kd.S_nil _ _ _ _ _,HA1.out.trans (hb1.mono (by simp))⟩
 |true=>
  rw [if_pos rfl] at h2
  obtain⟨m0,hm0,h3⟩:=Option.bind_eq_some_iff.1 h2
  obtain⟨f,hf,h4⟩:=Option.bind_eq_some_iff.1 h3
  obtain⟨em,he,h5⟩:=Option.bind_eq_some_iff.1 h4
  obtain⟨out0,ho0,h6⟩:=Option.bind_eq_some_iff.1 h5
  obtain⟨out,hout,hlists⟩:=Option.bind_eq_some_iff.1 h6
  have HM0:=Aside0.mk hm0
  have HF:=Aside0.mk hf
  have HE:=Aside0.mk he
  have HO0:=Aside0.mk ho0
  have HOUT:=Aside0.mk hout
  have HL:=Aside0.mk hlists
  clear h2 h3 h4 h5 h6 hm0 hf he ho0 hout hlists
  have HFC:Aside0 (∀W:World,Below w.heap.size w W→Calls Try.prog 44 #[.agg #[.slice A0_0 l0_0.length c0_0,.slice A0_1 l0_1.length c0_1,.int .i64 a0_2,.int .i64 a0_3,.slice A0_4 l0_4.length c0_4]] W fun e w'=>∃v0_:Value,e= .returned (v0_)∧Kd.S (Kd.slice 4 Kd.bool) 90 w' W.heap.size (fun _=>True) v0_ f∧Below W.heap.size W w'):=⟨fun W hb=>regletref13_first.calls k A0_0 c0_0 l0_0 A0_1 c0_1 l0_1 a0_2 a0_3 A0_4 c0_4 l0_4 f W (Kd.C_below hr0_0 hb) hc0_0 (Kd.C_below hr0_1 hb) hc0_1 (Kd.C_below hr0_4 hb) hc0_4 HF.out⟩
  have HEC:Aside0 (∀W:World,Below w.heap.size w W→Calls Try.prog 45 #[.agg #[.slice A0_0 l0_0.length c0_0,.slice A0_1 l0_1.length c0_1,.int .i64 a0_2,.int .i64 a0_3,.slice A0_4 l0_4.length c0_4]] W fun e w'=>∃v0_:Value,e= .returned (v0_)∧Kd.R Kd.bool 4 w' W.heap.size (fun _=>True) v0_ em∧Below W.heap.size W w'):=⟨fun W hb=>regletref13_Empty.calls k A0_0 c0_0 l0_0 A0_1 c0_1 l0_1 a0_2 a0_3 A0_4 c0_4 l0_4 em W (Kd.C_below hr0_0 hb) hc0_0 (Kd.C_below hr0_1 hb) hc0_1 (Kd.C_below hr0_4 hb) hc0_4 HE.out⟩
  go_enter Try.func31,Try.ntmps31
  go_upto_region 4 with(first
   |(go_at_call 30;(with_reducible refine(regletref13_Right.calls k A0_0 c0_0 l0_0 A0_1 c0_1 l0_1 a0_2 a0_3 A0_4 c0_4 l0_4 true _ (Kd.C_below hr0_0 HA1.out) hc0_0 (Kd.C_below hr0_1 HA1.out) hc0_1 (Kd.C_below hr0_4 HA1.out) hc0_4 HRT.out).mono ?_);rintro e w1 ⟨rfl,hb1⟩;have HB1:Aside0 (Below (w.heap.size+1) (w.alloc (.cells #[.slice A0_0 l0_0.length c0_0,.slice A0_1 l0_1.length c0_1,.int .i64 a0_2,.int .i64 a0_3,.slice A0_4 l0_4.length c0_4] 26)) w1):=⟨hb1.mono (by simp)⟩;have HB01:Aside0 (Below w.heap.size w w1):=⟨HA1.out.trans (hb1.mono (by simp))⟩;clear hb1;obtain⟨q0,q1,q2,q3,q4⟩:=HC.out w1 HB1.out)
   |(go_at_call 43;(with_reducible refine(regletref13_marks.calls k A0_0 c0_0 l0_0 A0_1 c0_1 l0_1 a0_2 a0_3 A0_4 c0_4 l0_4 m0 _ (Kd.C_below hr0_0 HB01.out) hc0_0 (Kd.C_below hr0_1 HB01.out) hc0_1 (Kd.C_below hr0_4 HB01.out) hc0_4 HM0.out).mono ?_);rintro e w3 ⟨v3,rfl,hS3,hb3⟩;obtain⟨Ao,co,rfl⟩:=Kd.S_slice hS3;have HB3:Aside0 (Below (w.heap.size+1) (w.alloc (.cells #[.slice A0_0 l0_0.length c0_0,.slice A0_1 l0_1.length c0_1,.int .i64 a0_2,.int .i64 a0_3,.slice A0_4 l0_4.length c0_4] 26)) w3):=⟨HB1.out.trans (hb3.mono (by have:=HB1.out.size;simpa using this))⟩;have HB03:Aside0 (Below w.heap.size w w3):=⟨HB01.out.trans (hb3.mono HB01.out.size)⟩;have HS3:Aside0 (Kd.S (Kd.slice 4 Kd.bool) 90 w3 w.heap.size (fun k=>w1.heap.size≤k∧k<w3.heap.size) (.slice Ao m0.length co) m0):=⟨Kd.S_lower (Kd.S_mono (Kd.S_bound hS3) (fun k hk=>⟨hk.2.1,hk.2.2.1⟩)) HB01.out.size⟩;have SZ3:Aside0 (w.heap.size<w1.heap.size∧w1.heap.size≤w3.heap.size):=⟨by have:=HB1.out.size;simp at this;omega,hb3.size⟩;clear hS3 hb3 q0 q1 q2 q3 q4;obtain⟨q0,q1,q2,q3,q4⟩:=HC.out w3 HB3.out))
  go_cut [4,5] from 12 (fun s4 s5 wc=>∃Af cf Ae ce,s4= .slice Af f.length cf∧s5= .slice Ae em.length ce∧Aside0 (Below w3.heap.size w3 wc)∧Aside0 (Kd.S (Kd.slice 4 Kd.bool) 90 wc w.heap.size (fun k=>w3.heap.size≤k) (.slice Af f.length cf) f)∧Aside0 (Kd.R Kd.bool 4 wc w.heap.size (fun k=>w3.heap.size≤k) (.slice Ae em.length ce) em))
  case first=>
   have HC3:Aside0 (∀W,Below w3.heap.size w3 W→W.cell? ⟨w.heap.size,0,none⟩=some (.slice A0_0 l0_0.length c0_0)∧W.cell? ⟨w.heap.size,1,none⟩=some (.slice A0_1 l0_1.length c0_1)∧W.cell? ⟨w.heap.size,2,none⟩=some (.int .i64 a0_2)∧W.cell? ⟨w.heap.size,3,none⟩=some (.int .i64 a0_3)∧W.cell? ⟨w.heap.size,4,none⟩=some (.slice A0_4 l0_4.length c0_4)):=⟨fun W hW=>HC.out W (HB3.out.trans (hW.mono (by have:=HB3.out.size;simpa using this)))⟩
   go_region_held3 (fun W=>W.cell? ⟨w.heap.size,0,none⟩=some (.slice A0_0 l0_0.length c0_0)∧W.cell? ⟨w.heap.size,1,none⟩=some (.slice A0_1 l0_1.length c0_1)∧W.cell? ⟨w.heap.size,2,none⟩=some (.int .i64 a0_2)∧W.cell? ⟨w.heap.size,3,none⟩=some (.int .i64 a0_3)∧W.cell? ⟨w.heap.size,4,none⟩=some (.slice A0_4 l0_4.length c0_4))
    (first|exact HC3.out _ H3L.out|exact HC3.out _ KB1.out|exact HC3.out _ (show Below w3.heap.size w3 w3.drew from below_drew1 (Below.refl _ w3))|go_keep)
    (first
     |(go_at_call 44;(with_reducible refine(HFC.out w3.drew (below_drew1 HB03.out)).mono ?_);rintro e wf ⟨vf,rfl,hSf,hbf⟩;obtain⟨Af,cf,rfl⟩:=Kd.S_slice hSf;have HSF:=Aside0.mk (Kd.S_bound hSf);have H3F:Aside0 (Below w3.heap.size w3 wf):=⟨((show Below w3.heap.size w3 w3.drew from below_drew1 (Below.refl _ w3))).trans (hbf.mono ((show Below w3.heap.size w3 w3.drew from below_drew1 (Below.refl _ w3))).size)⟩;have KB1:=H3F;clear hSf hbf q0 q1 q2 q3 q4)
     |(go_at_call 44;(with_reducible refine(HFC.out we (HB03.out.trans (H3E.out.mono HB03.out.size))).mono ?_);rintro e wf ⟨vf,rfl,hSf,hbf⟩;obtain⟨Af,cf,rfl⟩:=Kd.S_slice hSf;have HSF:=Aside0.mk (Kd.S_bound hSf);have H3L:Aside0 (Below w3.heap.size w3 wf):=⟨(H3E.out).trans (hbf.mono (H3E.out).size)⟩;have CF:Aside0 (Kd.S (Kd.slice 4 Kd.bool) 90 wf w.heap.size (fun k=>w3.heap.size≤k) (.slice Af f.length cf) f):=⟨Kd.S_lower (Kd.S_mono HSF.out (fun k hk=>Nat.le_trans (H3E.out).size hk.2.1)) (Nat.le_trans HB03.out.size (H3E.out).size)⟩;have CE:Aside0 (Kd.R Kd.bool 4 wf w.heap.size (fun k=>w3.heap.size≤k) (.slice Ae em.length ce) em):=⟨Kd.R_lower (Kd.R_mono (Kd.R_below HRE.out hbf) (fun k hk=>hk.2.1)) HB03.out.size⟩;clear hSf hbf)
     |(go_at_call 45;(with_reducible refine(HEC.out w3.drew (below_drew1 HB03.out)).mono ?_);rintro e we ⟨ve,rfl,hRe,hbe⟩;obtain⟨Ae,ce,rfl⟩:=Kd.R_slice hRe;have HRE:=Aside0.mk (Kd.R_bound hRe);have H3E:Aside0 (Below w3.heap.size w3 we):=⟨((show Below w3.heap.size w3 w3.drew from below_drew1 (Below.refl _ w3))).trans (hbe.mono ((show Below w3.heap.size w3 w3.drew from below_drew1 (Below.refl _ w3))).size)⟩;have KB1:=H3E;clear hRe hbe q0 q1 q2 q3 q4)
     |(go_at_call 45;(with_reducible refine(HEC.out wf (HB03.out.trans (H3F.out.mono HB03.out.size))).mono ?_);rintro e we ⟨ve,rfl,hRe,hbe⟩;obtain⟨Ae,ce,rfl⟩:=Kd.R_slice hRe;have HRE:=Aside0.mk (Kd.R_bound hRe);have H3L:Aside0 (Below w3.heap.size w3 we):=⟨(H3F.out).trans (hbe.mono (H3F.out).size)⟩;have CE:Aside0 (Kd.R Kd.bool 4 we w.heap.size (fun k=>w3.heap.size≤k) (.slice Ae em.length ce) em):=⟨Kd.R_lower (Kd.R_mono HRE.out (fun k hk=>Nat.le_trans (H3F.out).size hk.2.1)) (Nat.le_trans HB03.out.size (H3F.out).size)⟩;have CF:Aside0 (Kd.S (Kd.slice 4 Kd.bool) 90 we w.heap.size (fun k=>w3.heap.size≤k) (.slice Af f.length cf) f):=⟨Kd.S_lower (Kd.S_mono (Kd.S_below HSF.out hbe) (fun k hk=>hk.2.1)) HB03.out.size⟩;clear hRe hbe))
   all_goals
    go_wp2_with fail
    go_meet
    case rel=>exact⟨Af,cf,Ae,ce,rfl,rfl,H3L,CF,CE⟩
  case rest=>
   obtain⟨Af,cf,Ae,ce,rfl,rfl,H35,CF,CE⟩:=hcut
   obtain⟨w5,ew5⟩:∃w5:World,w5=wc:=⟨_,rfl⟩
   subst ew5
   have HI0:Aside0 (RFollowI w w5 w1.heap.size w3.heap.size Ao co m0.length m0 w5):=⟨⟨HB03.out.trans (H35.out.mono HB03.out.size),Kd.S_below HS3.out H35.out,Kept.refl _ _,H35.out.size⟩⟩
   have HC5:Aside0 (∀W,Kept w5 W (fun k=>w1.heap.size≤k∧k<w3.heap.size)→W.cell? ⟨w.heap.size,0,none⟩=some (.slice A0_0 l0_0.length c0_0)∧W.cell? ⟨w.heap.size,1,none⟩=some (.slice A0_1 l0_1.length c0_1)∧W.cell? ⟨w.heap.size,2,none⟩=some (.int .i64 a0_2)∧W.cell? ⟨w.heap.size,3,none⟩=some (.int .i64 a0_3)∧W.cell? ⟨w.heap.size,4,none⟩=some (.slice A0_4 l0_4.length c0_4)):=⟨fun W hk=>by
    obtain⟨a0,a1,a2,a3,a4⟩:=HC.out w5 (HB3.out.trans (H35.out.mono (by have:=HB3.out.size;simpa using this)))
    have hn:¬(w1.heap.size≤w.heap.size∧w.heap.size<w3.heap.size):=by have:=SZ3.out;omega
    exact⟨Go.Proofs.YtapjfnfengefpaaW.PrintWords.cell_kept a0 hk hn,Go.Proofs.YtapjfnfengefpaaW.PrintWords.cell_kept a1 hk hn,Go.Proofs.YtapjfnfengefpaaW.PrintWords.cell_kept a2 hk hn,Go.Proofs.YtapjfnfengefpaaW.PrintWords.cell_kept a3 hk hn,Go.Proofs.YtapjfnfengefpaaW.PrintWords.cell_kept a4 hk hn⟩⟩
   have H35S:Aside0 (w3.heap.size≤w5.heap.size):=⟨H35.out.size⟩
   clear HA1 HM0 HF HE HFC HEC q0 q1 q2 q3 q4
   go_upto_if 23 with fail
   go_cut [] from 12 (fun w6=>Aside0 (RFollowI w w5 w1.heap.size w3.heap.size Ao co m0.length out0 w6))
   case first=>
    by_cases hpos:0<m0.length
    ·have hg:decide (0<m0.length)=true:=decide_eq_true hpos
     rw [hg]
     have H0:=HO0.out
     unfold rFollow0 at H0
     rw [if_pos hpos] at H0
     split at H0
     case isFalse=>simp at H0
     rename_i hnt
     obtain rfl:=Option.some.inj H0
     obtain⟨go,vr,P,eA,hcell,hRow,hP,hback⟩:=S_row rfl HI0.out.r 0 (by omega) (by omega)
     cases eA
     rw [show(0:Int).toNat=0 from rfl] at hRow hcell hback
     obtain⟨gr,c7,hv,_,_,_⟩:=Kd.R_form hRow (by omega)
     subst hv
     obtain⟨hx,hf⟩:=Kd.R_celln false hRow (l0_1.length:Int) (by omega) (by omega)
     have hput:=Kd.R_putg hRow (l0_1.length:Int) true
     rw [Int.toNat_natCast] at hx hf hput
     have hPgr:P gr:=hRow.1 gr (by simp [Value.ownBlock])
     have HGR:=Aside0.mk (hP gr hPgr)
     have hKs:Kept w5 (w5.setCell ⟨gr,l0_1.length,none⟩ (.bool true)) P:=Kept.setCell (Kept.refl _ _) (.inl hPgr) _
     have hS6:=hback _ P _ hKs hput.1
     have HFS:Aside0 (RFollowI w w5 w1.heap.size w3.heap.size (some ⟨go,0,none⟩) co m0.length (m0.set 0 ((m0.getD 0 []).set l0_1.length true)) (w5.setCell ⟨gr,l0_1.length,none⟩ (.bool true))):=⟨⟨below_set HI0.out.bel (show w.heap.size≤gr from by have:=HGR.out.1.1;have:=SZ3.out;omega),hS6,Kept.mono hKs (fun k hk=>(hP k hk).1),by simpa using HI0.out.h⟩⟩
     have hne1:go≠gr:=fun e=>HGR.out.2 e.symm
     have hne3:w.heap.size≠gr:=by have:=HGR.out.1.1;have:=SZ3.out;omega
     obtain⟨q0,q1,q2,q3,q4⟩:=HC5.out w5 (Kept.refl _ _)
     have KEND:=Aside0.mk (show _∧_ from⟨Go.Proofs.YtapjfnfengefpaaW.PrintWords.cell_kept q1 (Kept.drew (Kept.setCell (Kept.refl w5 (fun k=>k=gr)) (p:=⟨gr,l0_1.length,none⟩) (.inl rfl) (.bool true))) hne3,Go.Proofs.YtapjfnfengefpaaW.PrintWords.cell_kept hcell (Kept.drew (Kept.setCell (Kept.refl w5 (fun k=>k=gr)) (p:=⟨gr,l0_1.length,none⟩) (.inl rfl) (.bool true))) hne1⟩)
     generalize hlr:(m0.getD 0 []).length=lr at hcell hnt KEND
     have p1:((l0_1.length:Int)<(lr:Int))=True:=eq_true (by omega)
     have p2:(0≤(l0_1.length:Int))=True:=eq_true (by omega)
     have p3:((0:Int)<(m0.length:Int))=True:=eq_true (by omega)
     have p4:(0<m0.length)=True:=eq_true hpos
     have p5:(l0_1.length<lr)=True:=eq_true hnt
     clear hRow hback hput hPgr hKs hS6 hP hpos H0 hnt hlr
     go_upto_region 6 with fail
     go_region_held3 (fun W=>W.cell? ⟨w.heap.size,1,none⟩=some (.slice A0_1 l0_1.length c0_1)∧W.cell? ⟨go,0,none⟩=some (.slice (some ⟨gr,0,none⟩) lr c7))
      (first|exact KEND.out|go_keep)
      (fail)
     go_wp2_with fail
     go_meet
     case rel=>exact⟨HFS.out.below (below_drew1 (Below.refl _ _))⟩
    ·have hg:decide (0<m0.length)=false:=decide_eq_false hpos
     rw [hg]
     have H0:=HO0.out
     unfold rFollow0 at H0
     rw [if_neg hpos] at H0
     obtain rfl:=Option.some.inj H0
     clear H0
     go_wp2_with fail
     go_meet
     case rel=>exact HI0
   case rest=>
    obtain⟨w6,ew6⟩:∃w6:World,w6=wc:=⟨_,rfl⟩
    subst ew6
    have HI6:=hcut
    have HOUT:=HOUT
    clear hcut HI0 HS3 HO0 HRT H35
    go_wp2
    go_loopg [6] k (fun kq v6 wr=>∃(more:Bool) (out':List (List Bool)),v6= .bool more∧Aside0 (rFollowOut k l0_0 l0_1 a0_2 a0_3 l0_4 f em kq out' more=some out)∧Aside0 (RFollowI w w5 w1.heap.size w3.heap.size Ao co m0.length out' wr))
    case atStart=>exact⟨true,out0,rfl,HOUT,HI6⟩
    case round=>
     clear HOUT HI6
     obtain⟨more,out',rfl,HA,HI⟩:=hrel
     cases gk with
     |zero=>exact absurd HA.out (by simp [rFollowOut])
     |succ k1=>
      have H:=HA.out
      clear HA
      simp only [rFollowOut] at H
      cases more with
      |false=>
       obtain rfl:=Option.some.inj (by simpa using H)
       clear H
       have hN:=(Kd.S_reads' HI.out.r).1
       rw [hN]
       go_wp2_with (go_at_call 48;(with_reducible refine(regletref13_lists.calls k Ao co out' r _ (by have:=(Kd.S_reads' HI.out.r).2.2;exact this) (by have:=(Kd.S_reads' HI.out.r).2.1;omega) HL.out).mono ?_);rintro e w8 ⟨v8,rfl,hS8,hb8⟩;have HS8:=Aside0.mk hS8;have HB8:=Aside0.mk hb8;clear hS8 hb8)
       go_ret
       exact⟨_,rfl,Kd.S_lower HS8.out HI.out.bel.size,HI.out.bel.trans (HB8.out.mono HI.out.bel.size)⟩
      |true=>
       rw [if_pos rfl] at H
       obtain⟨⟨mr,outr⟩,h1,h2⟩:=Option.bind_eq_some_iff.1 H
       clear H
       have H1:=Aside0.mk h1
       have H2:=Aside0.mk h2
       clear h1 h2
       go_wp2
       obtain⟨wo,ewo⟩:∃wo:World,wo=wr:=⟨_,rfl⟩
       subst ewo
       go_loopg [6,7] l0_4.length (fun kq v6 v7 wr=>∃(more:Bool) (i:Nat) (out':List (List Bool)),v6= .bool more∧v7= .int .i64 i∧i≤l0_4.length∧l0_4.length - i≤kq∧Aside0 (rFollowPs k l0_0 l0_1 a0_2 a0_3 l0_4 f em (l0_4.drop i) more out'=some (mr,outr))∧Aside0 (RFollowI w w5 w1.heap.size w3.heap.size Ao co m0.length out' wr))
       case atStart=>exact⟨false,0,out',rfl,rfl,by omega,by omega,⟨by simpa using H1.out⟩,HI⟩
       case round=>
        clear H1 HI
        obtain⟨more,i,out',rfl,rfl,hi,hm,HA,HI⟩:=hrel
        obtain⟨q0,q1,q2,q3,q4⟩:=HC5.out wr HI.out.k
        by_cases hlt:i<l0_4.length
        ·have hltz:(i:Int)<(l0_4.length:Int):=by omega
         have d0:decide ((i:Int)<(l0_4.length:Int))=true:=decide_eq_true hltz
         have H:=HA.out
         rw [List.drop_eq_getElem_cons hlt] at H
         simp only [rFollowPs] at H
         obtain⟨⟨mi,outi⟩,h1,h3⟩:=Option.bind_eq_some_iff.1 H
         clear H HA
         obtain⟨ad,A5,c5,ead,e0,e1,hle5,hC5⟩:=at_T35 hr0_4 (i:Int) (by omega) hltz
         have hlen:=of_decide_eq_true (List.all_eq_true.1 HSZ.out.2 (l0_4[i]) (List.getElem_mem hlt))
         have hrd:rd_T35 l0_4 (i:Int)=l0_4[i]:=by simp [rd_T35,hlt]
         rw [hrd] at e0 e1 hle5 hC5
         rw [Int.toNat_natCast] at e0 e1
         have B0:=World.block_lt_of_cell? w _ e0
         have B1:=World.block_lt_of_cell? w _ e1
         have hp:∃p,p=l0_4[i]:=⟨_,rfl⟩
         obtain⟨p,hp⟩:=hp
         rw [←hp] at h1 e0 e1 hle5 hC5 hlen
         obtain⟨left,right⟩:=p
         clear hp hrd
         simp only at h1 e0 e1 hle5 hC5 hlen
         have AT:Aside0 (∀W:World,Below w.heap.size w W→W.cell? (ad.add (i * 2))=some (.int .i64 left)∧W.cell? ⟨(ad.add (i * 2)).block,(ad.add (i * 2)).off+1,none⟩=some (.slice A5 right.length c5)):=⟨fun W hb=>⟨(hb.cell B0).trans e0,(hb.cell B1).trans e1⟩⟩
         have HCR:=Aside0.mk hC5
         have HH1:=Aside0.mk h1
         have HH3:=Aside0.mk h3
         have HLT:=Aside0.mk hlt
         have HM:=Aside0.mk hm
         have HLEN:=Aside0.mk hlen
         have HCAP:=Aside0.mk hle5
         have p0:(0≤(i:Int))=True:=eq_true (by omega)
         have p1:=eq_true hltz
         clear h1 h3 hC5 e0 e1 B0 B1 hlt hm hi hltz hlen hle5
         obtain⟨f0,f1⟩:=AT.out wr HI.out.bel
         cases ead
         go_wp2
         go_loopg [6,9] right.length (fun kq v6 v9 wr=>∃(more:Bool) (j:Nat) (out':List (List Bool)),v6= .bool more∧v9= .int .i64 j∧j≤right.length∧right.length - j≤kq∧Aside0 (rFollowIn k l0_0 l0_1 a0_2 a0_3 l0_4 f em left (right.drop j) more out'=some (mi,outi))∧Aside0 (RFollowI w w5 w1.heap.size w3.heap.size Ao co m0.length out' wr))
         case atStart=>exact⟨more,0,out',rfl,rfl,by omega,by omega,⟨by simpa using HH1.out⟩,HI⟩
         case round=>
          clear HH1 HI f0 f1 q0 q1 q2 q3 q4
          obtain⟨more,j,out',rfl,rfl,hj,hm,HA,HI⟩:=hrel
          obtain⟨q0,q1,q2,q3,q4⟩:=HC5.out wr HI.out.k
          by_cases hlt:j<right.length
          ·have hltz:(j:Int)<(right.length:Int):=by omega
           have d1:decide ((j:Int)<(right.length:Int))=true:=decide_eq_true hltz
           have H:=HA.out
           rw [List.drop_eq_getElem_cons hlt] at H
           simp only [rFollowIn] at H
           obtain⟨ad5,ea5,e0,e1⟩:=at_T43 HCR.out (j:Int) (by omega) hltz
           cases ea5
           have hrd:rd_T43 right (j:Int)=right[j]:=by simp [rd_T43,hlt]
           rw [hrd] at e0 e1
           rw [Int.toNat_natCast] at e0 e1
           generalize right[j]=y at H e0 e1
           obtain⟨tk,n⟩:=y
           simp only at H e0 e1
           have B0:=World.block_lt_of_cell? w _ e0
           have B1:=World.block_lt_of_cell? w _ e1
           have AT5:Aside0 (∀W:World,Below w.heap.size w W→W.cell? (ad5.add (j * 2))=some (.bool tk)∧W.cell? ⟨(ad5.add (j * 2)).block,(ad5.add (j * 2)).off+1,none⟩=some (.int .i64 n)):=⟨fun W hb=>⟨(hb.cell B0).trans e0,(hb.cell B1).trans e1⟩⟩
           have p2:(0≤(j:Int))=True:=eq_true (by omega)
           have p3:=eq_true hltz
           have HLT5:=Aside0.mk hlt
           have HM5:=Aside0.mk hm
           clear hlt hltz hj hm hrd HA e0 e1 B0 B1
           obtain⟨f0,f1⟩:=AT5.out wr HI.out.bel
           cases tk with
           |true=>
            rw [if_pos rfl] at H
            have HN:=Aside0.mk H
            clear H
            go_wp2
            go_roundg (right.length - (j+1))
            case measure=>have:=HM5.out;have:=HLT5.out;omega
            case rel=>exact⟨more,j+1,out',rfl,congrArg (Value.int .i64) (by unfold wrap64;have:=HLT5.out;have:=HLEN.out;omega),by have:=HLT5.out;omega,Nat.le_refl _,HN,HI⟩
           |false=>
            rw [if_neg (by simp)] at H
            obtain⟨⟨m1,me⟩,hbg,H2⟩:=Option.bind_eq_some_iff.1 H
            obtain⟨m2,hjf,H3⟩:=Option.bind_eq_some_iff.1 H2
            obtain⟨⟨mb,out1⟩,hjr,HN⟩:=Option.bind_eq_some_iff.1 H3
            clear H H2 H3
            simp only at hbg hjf hjr HN
            have HNX:=Aside0.mk HN
            have HJR:=Aside0.mk hjr
            clear HN hjr
            have hwr:IntKind.i64.wrap ((j:Int)+1)=(j:Int)+1:=by rw [IntKind.wrap_i64];have:=HLT5.out;have:=HLEN.out;omega
            obtain⟨i0,hi0,_,hsz,_⟩:=info_parts infoSymR
            have hcut:=cut_from (P:=Try.prog) 29 43 .i64 Try.underlying29 hi0 2 hsz (some ad5) right.length c5 ((j:Int)+1) (by omega) (by have:=HLT5.out;omega)
            rw [show((j:Int)+1).toNat=j+1 by omega,←List.length_drop] at hcut
            have HCY:Aside0 (∀W',Below w.heap.size w W'→Kd.C k43 W' (if c5=j+1 then some ad5 else(some ad5).map (·.add ((j+1) * 2))) (right.drop (j+1)).length (right.drop (j+1))):=⟨fun W' hk=>Kd.C_drop (Kd.C_below HCR.out hk) HLT5.out HCAP.out⟩
            generalize (if c5=j+1 then some ad5 else(some ad5).map (·.add ((j+1) * 2)))=A' at hcut HCY
            have hbw:Below w.heap.size w wr.drew:=below_drew1 HI.out.bel
            have hcon:=regletref13_begins.calls k A0_0 c0_0 l0_0 A0_1 c0_1 l0_1 a0_2 a0_3 (some ad) c0_4 l0_4 A' (c5 - (j+1)) (right.drop (j+1)) Af cf f Ae ce em m1 me wr.drew (Kd.C_below hr0_0 hbw) hc0_0 (Kd.C_below hr0_1 hbw) hc0_1 (Kd.C_below hr0_4 hbw) hc0_4 (HCY.out _ hbw) (by rw [List.length_drop];have:=HCAP.out;omega) (Kd.C_kept_own (S:=fun k=>w1.heap.size≤k∧k<w3.heap.size) (Kd.S_R CF.out) (fun k hk h2=>by have:=hk;omega) _ (Kept.drew HI.out.k)) (Kd.S_reads' CF.out).2.1 (Kd.C_kept_own (S:=fun k=>w1.heap.size≤k∧k<w3.heap.size) CE.out (fun k hk h2=>by have:=hk;omega) _ (Kept.drew HI.out.k)) (Kd.R_reads' CE.out).2.1 hbg
            rw [List.length_drop] at hcon
            have HCON:=Aside0.mk hcon
            clear hcon hbg hi0 hsz hbw
            have KEEP:Aside0 (∀W:World,Below wr.heap.size wr W→W.cell? ⟨w.heap.size,0,none⟩=some (.slice A0_0 l0_0.length c0_0)∧W.cell? ⟨w.heap.size,1,none⟩=some (.slice A0_1 l0_1.length c0_1)∧W.cell? ⟨w.heap.size,2,none⟩=some (.int .i64 a0_2)∧W.cell? ⟨w.heap.size,3,none⟩=some (.int .i64 a0_3)∧W.cell? ⟨w.heap.size,4,none⟩=some (.slice (some ad) l0_4.length c0_4)):=⟨fun W hb=>HC5.out W (HI.out.k.below hb)⟩
            have HJF:=Aside0.mk hjf
            clear hjf
            go_wp2
            go_region_held3 (fun W=>W.cell? ⟨w.heap.size,0,none⟩=some (.slice A0_0 l0_0.length c0_0)∧W.cell? ⟨w.heap.size,1,none⟩=some (.slice A0_1 l0_1.length c0_1)∧W.cell? ⟨w.heap.size,2,none⟩=some (.int .i64 a0_2)∧W.cell? ⟨w.heap.size,3,none⟩=some (.int .i64 a0_3)∧W.cell? ⟨w.heap.size,4,none⟩=some (.slice (some ad) l0_4.length c0_4))
             (first|go_keep|exact KEEP.out _ KB.out)
             (first|(go_at_call 46;(with_reducible refine HCON.out.mono ?_);rintro e w2 ⟨v2,rfl,hR2,hb2⟩;obtain⟨A2,c2,rfl⟩:=Kd.R_slice hR2;have HR2:=Aside0.mk hR2;have KB:Aside0 (Below wr.heap.size wr w2):=⟨(below_drew1 (Below.refl _ _)).trans hb2⟩;clear hR2 hb2 q0 q1 q2 q3 q4))
            have HI2:=Aside0.mk (HI.out.below KB.out)
            have HR3:Aside0 (Kd.R Kd.bool 4 w2 w.heap.size (fun k=>wr.heap.size≤k) (.slice A2 m1.length c2) m1):=⟨Kd.R_lower (Kd.R_mono (Kd.R_bound HR2.out) (fun k hk=>hk.2.1)) (show w.heap.size≤wr.heap.size from HI.out.bel.size)⟩
            have HHI:Aside0 (w3.heap.size≤wr.heap.size):=⟨HI.out.h⟩
            have HBW:Aside0 (wr.heap.size≤w2.heap.size):=⟨KB.out.size⟩
            have HKS:Aside0 (w5.heap.size≤wr.heap.size):=⟨HI.out.k.1⟩
            have HJF0:=HJF.out
            have LEN:Aside0 ((m0.length:Int)=(out'.length:Int)):=⟨by have:=(Kd.S_reads' HI.out.r).1;omega⟩
            clear HCON HR2 hcut HCY f0 f1
            cases me with
            |false=>
             unfold rJoinFrom at HJF0
             rw [if_neg (by simp)] at HJF0
             obtain rfl:=Option.some.inj HJF0
             clear HJF0 HJF
             obtain⟨go,A4,c4,m4,hn0,hn1,eAo,hcell,hlen1,hcon⟩:=rjoin_row k w w5 w2 w1.heap.size w3.heap.size Ao co m0.length out' out1 HI2.out n m1 m1.length mb wr.heap.size HHI.out A2 c2 HR3.out HJR.out
             cases eAo
             have HCON2:=Aside0.mk hcon
             have p6:=eq_true hn0
             have p7:(n<(m0.length:Int))=True:=eq_true (by rw [LEN.out];exact hn1)
             have y2:=(AT5.out w2 HI2.out.bel).2
             clear hcon hn0 hn1
             cases mb
             all_goals
              go_wp2_with (go_at_call 47;(with_reducible refine HCON2.out.mono ?_);rintro e w4 ⟨rfl,hI4,hK4⟩)
              go_roundg (right.length - (j+1))
              case measure=>have:=HM5.out;have:=HLT5.out;omega
              case rel=>exact⟨_,j+1,out1,rfl,congrArg (Value.int .i64) (by first|rfl|(unfold wrap64;have:=HLT5.out;have:=HLEN.out;omega)),by have:=HLT5.out;omega,Nat.le_refl _,HNX,hI4⟩
            |true=>
             unfold rJoinFrom at HJF0
             rw [if_pos rfl] at HJF0
             split at HJF0
             case isFalse=>simp at HJF0
             rename_i hl0
             split at HJF0
             case isFalse=>simp at HJF0
             rename_i hl1
             obtain⟨⟨jb,jm⟩,hjj,HJ2⟩:=Option.bind_eq_some_iff.1 HJF0
             obtain rfl:=Option.some.inj HJ2
             simp only at HJR HNX hjj
             obtain⟨go,A4,c4,m4,eAo,hcell,hcon⟩:=rjoin_from k w w5 w2 w1.heap.size w3.heap.size Ao co m0.length out' HI2.out left hl0 hl1 m1 jm jb wr.heap.size HKS.out H35S.out HBW.out A2 c2 HR3.out hjj
             cases eAo
             have HCON:=Aside0.mk hcon
             have p8:=eq_true hl0
             have p9:(left<(m0.length:Int))=True:=eq_true (by rw [LEN.out];exact hl1)
             obtain⟨x0,_⟩:=AT.out w2 HI2.out.bel
             obtain⟨q0,q1,q2,q3,q4⟩:=HC5.out w2 HI2.out.k
             clear hcon hl0 hl1 HJF0 HJ2 hjj HJF q0 q1 q2 q3
             go_upto_region 21 with(go_at_call 47;(with_reducible refine HCON.out.mono ?_);rintro e w6 ⟨rfl,HI6,HR6,HK6⟩)
             clear hcell x0 q4
             obtain⟨go2,A7,c7,m7,hn0,hn1,eAo,hcell,hlen1,hcon⟩:=rjoin_row k w w5 w6 w1.heap.size w3.heap.size (some ⟨go,0,none⟩) co m0.length out' out1 HI6.out n jm m1.length mb wr.heap.size HHI.out A2 c2 HR6.out HJR.out
             obtain rfl:go=go2:=by injection eAo with eAo;injection eAo
             have HCON2:=Aside0.mk hcon
             have p6:=eq_true hn0
             have p7:(n<(m0.length:Int))=True:=eq_true (by rw [LEN.out];exact hn1)
             have y2:=(AT5.out w6 HI6.out.bel).2
             clear hcon hn0 hn1
             cases mb
             all_goals
              go_wp2_with (go_at_call 47;(with_reducible refine HCON2.out.mono ?_);rintro e w4 ⟨rfl,hI4,hK4⟩)
              go_roundg (right.length - (j+1))
              case measure=>have:=HM5.out;have:=HLT5.out;omega
              case rel=>exact⟨_,j+1,out1,rfl,congrArg (Value.int .i64) (by first|rfl|(unfold wrap64;have:=HLT5.out;have:=HLEN.out;omega)),by have:=HLT5.out;omega,Nat.le_refl _,HNX,hI4⟩
          ·have hir:j=right.length:=by omega
           subst hir
           have d1:decide ((right.length:Int)<(right.length:Int))=false:=decide_eq_false (by omega)
           have H:=HA.out
           rw [List.drop_length] at H
           simp only [rFollowIn] at H
           obtain⟨rfl,rfl⟩:=Prod.mk.inj (Option.some.inj H)
           clear H HA
           go_wp2
           go_roundg (l0_4.length - (i+1))
           case measure=>have:=HM.out;have:=HLT.out;omega
           case rel=>exact⟨_,i+1,_,rfl,congrArg (Value.int .i64) (by unfold wrap64;have:=HLT.out;have:=HSZ.out.1;omega),by have:=HLT.out;omega,Nat.le_refl _,HH3,HI⟩
        ·have hir:i=l0_4.length:=by omega
         subst hir
         have d0:decide ((l0_4.length:Int)<(l0_4.length:Int))=false:=decide_eq_false (by omega)
         have H:=HA.out
         rw [List.drop_length] at H
         simp only [rFollowPs] at H
         obtain⟨rfl,rfl⟩:=Prod.mk.inj (Option.some.inj H)
         clear H HA
         go_wp2
         go_roundg k1
         case measure=>omega
         case rel=>exact⟨_,_,rfl,H2,HI⟩
end Go.Proofs.Ytapjfnfengefpaa.P
end

section
namespace Go.Proofs.Ytapjfnfengefpaa.P
open Go.RowKit Go.Proofs.YtapjfnfengefpaaW.PrintWords Go.Proofs.YtapjfnfengefpaaW.PrintLast Go.Proofs.YtapjfnfengefpaaW.PrintMore
attribute [local go_sem] max2_int min2_int max_two min_two max_three min_three max_four min_four   -- for this text's walks alone
set_option linter.unusedVariables false
set_option linter.unusedSimpArgs false
abbrev T:Bool:=true
abbrev F:Bool:=false
theorem pq:(∀(a:Act) (d:Option Tmp) (v:Value),a.put d v=match d with|none=>a|some i=>{a with tmps:=a.tmps.setIfInBounds i v})∧(∀(l:List Value) (i:Nat) (a:Value),l.toArray.setIfInBounds i a=(l.set i a).toArray)∧(∀(x:Value) (l:List Value) (a:Value),(x::l).set 0 a=a::l)∧(∀(x:Value) (l:List Value) (n:Nat) (a:Value),(x::l).set (n+1) a=x::l.set n a)∧(∀n,IntKind.i64.wrap n=wrap64 n)∧∀n,IntKind.i32.wrap n=wrap32 n:=⟨fun _ d _=>by cases d<;>rfl,fun _ _ _=>List.setIfInBounds_toArray ..,fun _ _ _=>rfl,fun _ _ _ _=>rfl,i64_w,i32_w⟩
abbrev aM:=@Aside0.mk
abbrev aA:=@Kd.R_alloc
abbrev aB:=@Kd.R_drewN
abbrev aC:=@Kd.R_drew
abbrev aD:=@Kd.R_below
abbrev aE:=@Kd.R_far
abbrev aF:=@Kd.R_reads'
abbrev aG:=@blk_cell
abbrev aH:=@blk_frozen
abbrev aI:=@blk_alloc
abbrev aJ:=@blk_drewN
abbrev aK:=@blk_drew
abbrev aL:=@below_set
abbrev aN:=@below_alloc
abbrev aO:=@below_drew1
abbrev aP:=@pw_below_drewN
abbrev aT:=@Kd.N_reads'
abbrev aV:=@Kd.S_drewN
abbrev aW:=@Kd.S_drew
abbrev aY:=@Kd.N_drewN
abbrev aZ:=@Kd.N_drew
abbrev bD:=@Kd.C_below
abbrev bE:=@Kd.R_elder'
abbrev bF:=@blk_below
abbrev bG:=@below_step
abbrev bH:=@below_size
abbrev bI:=@gate_callee
abbrev bJ:=@gate_dst
abbrev bL:=@Kd.R_lower
abbrev bN:=@blk_lt
mutual
def regletref14_Predict.l0:Nat→List (List Int)→List (List Int)→Int→List ByteArray→List (S72)→Int→Int→List (S35)→Option ((List (List Int))×(List (S78)))
 |0,_,_,_,_,_,_,_,_=>none
 |k+1,x4,x5,x6,x397000,x397001,x397002,x397003,x397004=>if x6<(x397004.length:Int) then(if 0≤x6 then((regletref13_Of.f k x397000 x397001 x397002 x397003 x397004 ((rd_T35 x397004 x6).f1)).bind fun bt402=>(if bt402.2=true then(if 0≤((rd_T35 x397004 x6).f0) then(if((rd_T35 x397004 x6).f0)<(x5.length:Int) then(if bt402.1.length+(rd_L5 x5 ((rd_T35 x397004 x6).f0)).length<17592186044416 then(if x4.length<5864062014805 then(regletref14_Predict.l0 k (x4++ [(bt402.1++(rd_L5 x5 ((rd_T35 x397004 x6).f0)))]) x5 (wrap64 (x6+1)) x397000 x397001 x397002 x397003 x397004) else(none)) else(none)) else(none)) else(none)) else(if x4.length<5864062014805 then(regletref14_Predict.l0 k (x4++ [bt402.1]) x5 (wrap64 (x6+1)) x397000 x397001 x397002 x397003 x397004) else(none)))) else(none)) else(regletref14_Predict.l1 k x4 ([]:List (List Int)) ([]:List (S78)) 0 x397000 x397001 x397002 x397003 x397004)
def regletref14_Predict.l1:Nat→List (List Int)→List (List Int)→List (S78)→Int→List ByteArray→List (S72)→Int→Int→List (S35)→Option ((List (List Int))×(List (S78)))
 |0,_,_,_,_,_,_,_,_,_=>none
 |k+1,x4,x9,x10,x11,x397000,x397001,x397002,x397003,x397004=>if x11<(x397000.length:Int) then(regletref14_Predict.l2 k x4 x9 x10 x11 ([]:List Int) 0 x397000 x397001 x397002 x397003 x397004) else(some (x9,x10))
def regletref14_Predict.l2:Nat→List (List Int)→List (List Int)→List (S78)→Int→List Int→Int→List ByteArray→List (S72)→Int→Int→List (S35)→Option ((List (List Int))×(List (S78)))
 |0,_,_,_,_,_,_,_,_,_,_,_=>none
 |k+1,x4,x9,x10,x11,x12,x13,x397000,x397001,x397002,x397003,x397004=>if x13≤(x397001.length:Int) then(regletref14_Predict.l3 k x4 x9 x10 x11 x12 x13 (-1) 0 x397000 x397001 x397002 x397003 x397004) else(if x9.length<5864062014805 then(regletref14_Predict.l1 k x4 (x9++ [x12]) x10 (wrap64 (x11+1)) x397000 x397001 x397002 x397003 x397004) else(none))
def regletref14_Predict.l3:Nat→List (List Int)→List (List Int)→List (S78)→Int→List Int→Int→Int→Int→List ByteArray→List (S72)→Int→Int→List (S35)→Option ((List (List Int))×(List (S78)))
 |0,_,_,_,_,_,_,_,_,_,_,_,_,_=>none
 |k+1,x4,x9,x10,x11,x12,x13,x14,x15,x397000,x397001,x397002,x397003,x397004=>if x15<(x397004.length:Int) then(if 0≤x15 then(if((rd_T35 x397004 x15).f0)=x11 then(if x15<(x4.length:Int) then((regletref14_has.f k (rd_L5 x4 x15) x13).bind fun t425=>(regletref14_Predict.j4 k x4 x9 x10 x11 x12 x13 x14 x15 (!t425) x397000 x397001 x397002 x397003 x397004)) else(none)) else(regletref14_Predict.j4 k x4 x9 x10 x11 x12 x13 x14 x15 true x397000 x397001 x397002 x397003 x397004)) else(none)) else(if x12.length<17592186044416 then(regletref14_Predict.l2 k x4 x9 x10 x11 (x12++ [x14]) (wrap64 (x13+1)) x397000 x397001 x397002 x397003 x397004) else(none))
def regletref14_Predict.j4:Nat→List (List Int)→List (List Int)→List (S78)→Int→List Int→Int→Int→Int→Bool→List ByteArray→List (S72)→Int→Int→List (S35)→Option ((List (List Int))×(List (S78)))
 |0,_,_,_,_,_,_,_,_,_,_,_,_,_,_=>none
 |k+1,x4,x9,x10,x11,x12,x13,x14,x15,x92,x397000,x397001,x397002,x397003,x397004=>if x92=true then(regletref14_Predict.l3 k x4 x9 x10 x11 x12 x13 x14 (wrap64 (x15+1)) x397000 x397001 x397002 x397003 x397004) else(if x14<0 then(regletref14_Predict.l3 k x4 x9 x10 x11 x12 x13 x15 (wrap64 (x15+1)) x397000 x397001 x397002 x397003 x397004) else(if x10.length<4398046511104 then(regletref14_Predict.l3 k x4 x9 (x10++ [(⟨x11,x13,x14,x15⟩:S78)]) x11 x12 x13 x14 (wrap64 (x15+1)) x397000 x397001 x397002 x397003 x397004) else(none)))
end
def regletref14_Predict.f (k:Nat) (l0_0:List ByteArray) (l0_1:List (S72)) (a0_2:Int) (a0_3:Int) (l0_4:List (S35)):Option ((List (List Int))×(List (S78))):=(regletref13_Right.f k l0_0 l0_1 a0_2 a0_3 l0_4).bind fun t397=>(if t397=true then((regletref13_Follow.f k l0_0 l0_1 a0_2 a0_3 l0_4).bind fun t398=>(regletref14_Predict.l0 k ([]:List (List Int)) t398 0 l0_0 l0_1 a0_2 a0_3 l0_4)) else(some (([]:List (List Int)),([]:List (S78)))))
def regletref14_Predict.T8:Bool×List (List Nat×List Nat):=(true,[([],[]),([],[]),([1],[1]),([],[]),([2,3],[2,3]),([4],[4]),([5],[5]),([0,6],[0,6]),([7],[7]),([8],[8]),([8],[8]),([9,7,0,1,2,3,4,5,6,7,8,9],[9]),([10,11,0,1,2,3,4,5,6,7,8,9,10,11],[10])])
def regletref14_Predict.B8:List Nat:= [0,0,2,0,14,30,62,127,255,511,511,1023,4095]
theorem regletref14_Predict.tab8:rtab .any (opsOf Try.f20 8)=regletref14_Predict.T8:=by kernel_rfl
theorem regletref14_Predict.bits8:waitsOk regletref14_Predict.T8.2 regletref14_Predict.B8=true:=by kernel_rfl
set_option maxHeartbeats 8000000 in
set_option maxRecDepth 100000 in
theorem regletref14_Predict.calls (k:Nat) (A0_0:Option Addr) (c0_0:Nat) (l0_0:List ByteArray) (A0_1:Option Addr) (c0_1:Nat) (l0_1:List (S72)) (a0_2:Int) (a0_3:Int) (A0_4:Option Addr) (c0_4:Nat) (l0_4:List (S35)) (r1:List (List Int)) (r2:List (S78)) (w:World) (hr0_0:Kd.C Kd.string w A0_0 l0_0.length l0_0) (hc0_0:l0_0.length≤c0_0) (hr0_1:Kd.C k72 w A0_1 l0_1.length l0_1) (hc0_1:l0_1.length≤c0_1) (hr0_4:Kd.C k35 w A0_4 l0_4.length l0_4) (hc0_4:l0_4.length≤c0_4) (h:regletref14_Predict.f k l0_0 l0_1 a0_2 a0_3 l0_4=some (r1,r2)):
 Calls Try.prog 20 #[.agg #[.slice A0_0 l0_0.length c0_0,.slice A0_1 l0_1.length c0_1,.int .i64 a0_2,.int .i64 a0_3,.slice A0_4 l0_4.length c0_4]] w fun e w'=>∃v0_ v1_:Value,e= .returned (.tuple #[v0_,v1_])∧Kd.S (Kd.slice 3 (Kd.int .i64)) 32 w' w.heap.size (fun _=>True) v0_ r1∧Kd.R k78 78 w' w.heap.size (fun _=>True) v1_ r2∧Below w.heap.size w w':=by
 have hu26:=Try.underlying26
 have hu78:=Try.underlying78
 have HR0_0:=aM hr0_0
 have HC0_0:=aM hc0_0
 clear hr0_0 hc0_0
 have HR0_1:=aM hr0_1
 have HC0_1:=aM hc0_1
 clear hr0_1 hc0_1
 have HR0_4:=aM hr0_4
 have HC0_4:=aM hc0_4
 clear hr0_4 hc0_4
 have HB:=aM (Below.refl w.heap.size w)
 have H:((regletref13_Right.f k l0_0 l0_1 a0_2 a0_3 l0_4).bind fun t397=>(if t397=true then((regletref13_Follow.f k l0_0 l0_1 a0_2 a0_3 l0_4).bind fun t398=>(regletref14_Predict.l0 k ([]:List (List Int)) t398 0 l0_0 l0_1 a0_2 a0_3 l0_4)) else(some (([]:List (List Int)),([]:List (S78))))))=some (r1,r2):=h
 clear h
 replace H:=Option.bind_eq_some_iff.mp H
 obtain⟨t397,A20,H⟩:=H
 replace H:(if t397=true then((regletref13_Follow.f k l0_0 l0_1 a0_2 a0_3 l0_4).bind fun t398=>(regletref14_Predict.l0 k ([]:List (List Int)) t398 0 l0_0 l0_1 a0_2 a0_3 l0_4)) else(some (([]:List (List Int)),([]:List (S78)))))=some (r1,r2):=H
 have A2:=aM A20
 clear A20
 by_cases c3:t397=true
 ·subst c3
  have H1:((regletref13_Follow.f k l0_0 l0_1 a0_2 a0_3 l0_4).bind fun t398=>(regletref14_Predict.l0 k ([]:List (List Int)) t398 0 l0_0 l0_1 a0_2 a0_3 l0_4))=some (r1,r2):=by rw [if_pos rfl] at H;exact H
  clear H
  have H:=H1
  clear H1
  replace H:=Option.bind_eq_some_iff.mp H
  obtain⟨t398,A40,H⟩:=H
  replace H:(regletref14_Predict.l0 k ([]:List (List Int)) t398 0 l0_0 l0_1 a0_2 a0_3 l0_4)=some (r1,r2):=H
  have A4:=aM A40
  clear A40
  have H':=aM H
  clear H
  go_enter Try.func20,Try.ntmps20
  go_wp2_with (first|((with_reducible refine bJ (N:=1) rfl ?_);refine box_event ?hg (N:=1) ?hd (cs:=#[.slice A0_0 l0_0.length c0_0,.slice A0_1 l0_1.length c0_1,.int .i64 a0_2,.int .i64 a0_3,.slice A0_4 l0_4.length c0_4]) (t:=26) ?hr ?_;(case hd=>rfl);(case hg=>rfl);(case hr=>first|(go_simp;done)|(go_simp;rfl));intro gb396 hg w5 hbox hb;have n0_:=aM (bG (by repeat(first|(with_reducible first|exact HB.out|apply aN|apply aP|apply aO)|exact HB.out)) hb);have n1_:=aM (hbox);have n2_:=aM ((by rw [hg];exact(bH (by repeat(first|(with_reducible first|exact HB.out|apply aN|apply aP|apply aO)|exact HB.out))):w.heap.size≤gb396));have n3_:=aM ((by rw [hg];exact(bH (by repeat(first|(with_reducible first|exact HB.out|apply aN|apply aP|apply aO)|exact HB.out))):w.heap.size≤gb396));clear HB;have HB:=n0_;have BK396:=n1_;have GW396:=n2_;have GE396:=n3_;clear n0_ n1_ n2_ n3_;clear hb hbox hg;have hcz6_0:w5.cell? ⟨gb396,0,none⟩=some (.slice A0_0 l0_0.length c0_0):=(aG BK396.out 0).trans rfl;have hcz6_1:w5.cell? ⟨gb396,1,none⟩=some (.slice A0_1 l0_1.length c0_1):=(aG BK396.out 1).trans rfl;have hcz6_2:w5.cell? ⟨gb396,2,none⟩=some (.int .i64 a0_2):=(aG BK396.out 2).trans rfl;have hcz6_3:w5.cell? ⟨gb396,3,none⟩=some (.int .i64 a0_3):=(aG BK396.out 3).trans rfl;have hcz6_4:w5.cell? ⟨gb396,4,none⟩=some (.slice A0_4 l0_4.length c0_4):=(aG BK396.out 4).trans rfl;have hfz6_0:=aH BK396.out 0;have hfz6_1:=aH BK396.out 1;have hfz6_2:=aH BK396.out 2;have hfz6_3:=aH BK396.out 3;have hfz6_4:=aH BK396.out 4)|((with_reducible refine bI (f:=30) rfl ?_);refine goesL_ (some 17) rfl rfl Try.func30 (by kernel_rfl) rfl #[.agg #[.slice A0_0 l0_0.length c0_0,.slice A0_1 l0_1.length c0_1,.int .i64 a0_2,.int .i64 a0_3,.slice A0_4 l0_4.length c0_4]] rfl (by(try simp only [List.map_toArray,List.map_cons,List.map_nil]);first|done|rfl|(simp only [List.length_drop,List.length_take];rfl)) ?_;(with_reducible refine(regletref13_Right.calls k _ _ l0_0 _ _ l0_1 a0_2 a0_3 _ _ l0_4 true _ ?side1 ?side2 ?side3 ?side4 ?side5 ?side6 A2.out).mono ?_);(case side1=>repeat(first|exact(bD HR0_0.out HB.out)|(with_reducible refine Kd.C_alloc ?_ _)|(with_reducible refine Kd.C_drewN ?_ _)|(with_reducible refine Kd.C_drew ?_)));(case side2=>exact HC0_0.out);(case side3=>repeat(first|exact(bD HR0_1.out HB.out)|(with_reducible refine Kd.C_alloc ?_ _)|(with_reducible refine Kd.C_drewN ?_ _)|(with_reducible refine Kd.C_drew ?_)));(case side4=>exact HC0_1.out);(case side5=>repeat(first|exact(bD HR0_4.out HB.out)|(with_reducible refine Kd.C_alloc ?_ _)|(with_reducible refine Kd.C_drewN ?_ _)|(with_reducible refine Kd.C_drew ?_)));(case side6=>exact HC0_4.out);rintro e w7 ⟨rfl,hb⟩;refine⟨_,rfl,?_⟩;have n0_:=aM (bF (g:=gb396) (o:= .cells #[.slice A0_0 l0_0.length c0_0,.slice A0_1 l0_1.length c0_1,.int .i64 a0_2,.int .i64 a0_3,.slice A0_4 l0_4.length c0_4] 26 (0,0)) (by(with_reducible repeat(first|refine aJ ?_ _|refine aK ?_|refine aI ?_ _));exact BK396.out) hb);have n1_:=aM (bG (by repeat(first|(with_reducible first|exact HB.out|apply aN|apply aP|apply aO|refine aL ?_ GE396.out)|exact HB.out)) hb);clear BK396;clear HB;have BK396:=n0_;have HB:=n1_;clear n0_ n1_;(try clear hb);(try clear hb2);(try clear hk);(try clear hi);have hcz8_0:w7.cell? ⟨gb396,0,none⟩=some (.slice A0_0 l0_0.length c0_0):=(aG BK396.out 0).trans rfl;have hcz8_1:w7.cell? ⟨gb396,1,none⟩=some (.slice A0_1 l0_1.length c0_1):=(aG BK396.out 1).trans rfl;have hcz8_2:w7.cell? ⟨gb396,2,none⟩=some (.int .i64 a0_2):=(aG BK396.out 2).trans rfl;have hcz8_3:w7.cell? ⟨gb396,3,none⟩=some (.int .i64 a0_3):=(aG BK396.out 3).trans rfl;have hcz8_4:w7.cell? ⟨gb396,4,none⟩=some (.slice A0_4 l0_4.length c0_4):=(aG BK396.out 4).trans rfl;have hfz8_0:=aH BK396.out 0;have hfz8_1:=aH BK396.out 1;have hfz8_2:=aH BK396.out 2;have hfz8_3:=aH BK396.out 3;have hfz8_4:=aH BK396.out 4)|((with_reducible refine bI (f:=31) rfl ?_);refine goesL_ (some 20) rfl rfl Try.func31 (by kernel_rfl) rfl #[.agg #[.slice A0_0 l0_0.length c0_0,.slice A0_1 l0_1.length c0_1,.int .i64 a0_2,.int .i64 a0_3,.slice A0_4 l0_4.length c0_4]] rfl (by(try simp only [List.map_toArray,List.map_cons,List.map_nil]);first|done|rfl|(simp only [List.length_drop,List.length_take];rfl)) ?_;(with_reducible refine(regletref13_Follow.calls k _ _ l0_0 _ _ l0_1 a0_2 a0_3 _ _ l0_4 t398 _ ?side1 ?side2 ?side3 ?side4 ?side5 ?side6 A4.out).mono ?_);(case side1=>repeat(first|exact(bD HR0_0.out HB.out)|(with_reducible refine Kd.C_alloc ?_ _)|(with_reducible refine Kd.C_drewN ?_ _)|(with_reducible refine Kd.C_drew ?_)));(case side2=>exact HC0_0.out);(case side3=>repeat(first|exact(bD HR0_1.out HB.out)|(with_reducible refine Kd.C_alloc ?_ _)|(with_reducible refine Kd.C_drewN ?_ _)|(with_reducible refine Kd.C_drew ?_)));(case side4=>exact HC0_1.out);(case side5=>repeat(first|exact(bD HR0_4.out HB.out)|(with_reducible refine Kd.C_alloc ?_ _)|(with_reducible refine Kd.C_drewN ?_ _)|(with_reducible refine Kd.C_drew ?_)));(case side6=>exact HC0_4.out);rintro e w9 ⟨v399,rfl,ho0,hb⟩;refine⟨_,rfl,?_⟩;have n0_:=aM (Kd.S_lower ho0 (bH (by repeat(first|(with_reducible first|exact HB.out|apply aN|apply aP|apply aO|refine aL ?_ GE396.out)|exact HB.out))));have n1_:=aM (bF (g:=gb396) (o:= .cells #[.slice A0_0 l0_0.length c0_0,.slice A0_1 l0_1.length c0_1,.int .i64 a0_2,.int .i64 a0_3,.slice A0_4 l0_4.length c0_4] 26 (0,0)) (by(with_reducible repeat(first|refine aJ ?_ _|refine aK ?_|refine aI ?_ _));exact BK396.out) hb);have n2_:=aM (bG (by repeat(first|(with_reducible first|exact HB.out|apply aN|apply aP|apply aO|refine aL ?_ GE396.out)|exact HB.out)) hb);clear BK396;clear HB;have HO400:=n0_;have BK396:=n1_;have HB:=n2_;clear n0_ n1_ n2_;(try clear hb);(try clear hb2);(try clear hk);(try clear hi);(try clear ho0)))
  go_loopg [4,6] k (fun kq v4 v6 w'=>∃(x4_1:List (List Int)) (x6_1:Int),v6= .int .i64 x6_1∧Aside0 (regletref14_Predict.l0 kq x4_1 t398 x6_1 l0_0 l0_1 a0_2 a0_3 l0_4=some (r1,r2))∧Aside0 (kq≤k)∧Aside0 (Kd.S (Kd.slice 3 (Kd.int .i64)) 32 w' w.heap.size (fun k_=>some k_≠(v399:Value).ownBlock) v4 x4_1)∧Aside0 (Kd.S (Kd.slice 3 (Kd.int .i64)) 32 w' w.heap.size (fun k_=>some k_≠(v4:Value).ownBlock) v399 t398)∧Aside0 (w'.heap[gb396]?=some (.cells #[(.slice A0_0 l0_0.length c0_0),(.slice A0_1 l0_1.length c0_1),.int .i64 a0_2,.int .i64 a0_3,(.slice A0_4 l0_4.length c0_4)] 26 (0,0)))∧Aside0 (Below w.heap.size w w'))
  case atStart=>exact⟨(([]:List (List Int))),(0),(by first|rfl|(simp;done)|(simp [*];done)),H',⟨Nat.le_refl _⟩,⟨by first|exact Kd.S_nil _ _ _ _ _|exact Kd.N_nil _ _ _ _ _|exact Kd.V_nil _ _ _ _ _|exact Kd.Q_nil _ _ _ _ _|exact Kd.R_nil _ _ _ _ _⟩,⟨by(with_reducible repeat(first|apply Kd.S_alloc|apply aV|apply aW));exact Kd.S_mono HO400.out (fun _ hk=>(by simp [Value.ownBlock]))⟩,⟨by(with_reducible repeat(first|refine aJ ?_ _|refine aK ?_|refine aI ?_ _));exact BK396.out⟩,⟨by repeat(first|(with_reducible first|exact HB.out|apply aN|apply aP|apply aO|refine aL ?_ GE396.out)|exact HB.out)⟩⟩
  case round=>
   clear H'
   (try clear c2);(try clear p2);(try clear c3);(try clear hcz6_0);(try clear hcz6_1);(try clear hcz6_2);(try clear hcz6_3);(try clear hcz6_4);(try clear hcz8_0);(try clear hcz8_1);(try clear hcz8_2);(try clear hcz8_3);(try clear hcz8_4);(try clear hfz6_0);(try clear hfz6_1);(try clear hfz6_2);(try clear hfz6_3);(try clear hfz6_4);(try clear hfz8_0);(try clear hfz8_1);(try clear hfz8_2);(try clear hfz8_3)
   (try clear hfz8_4)
   obtain⟨x4_1,x6_1,rfl,HA,HK1,HO_4,HO_5,BK396,HB⟩:=hrel
   cases gk with
   |zero=>exact absurd HA.out (by simp [regletref14_Predict.l0])
   |succ k1=>
    have H:=HA.out
    clear HA
    simp only [regletref14_Predict.l0] at H
    by_cases c10:x6_1<(l0_4.length:Int)
    ·rw [if_pos c10] at H
     have c10b0:decide (x6_1<(l0_4.length:Int))=true:=decide_eq_true c10
     clear c10
     by_cases c11:0≤x6_1
     rotate_left
     ·rw [if_neg c11] at H
      exact absurd H (by simp)
     rw [if_pos c11] at H
     have c11b0:decide (0≤x6_1)=true:=decide_eq_true c11
     clear c11
     replace H:=Option.bind_eq_some_iff.mp H
     obtain⟨⟨t402,t405⟩,A120,H⟩:=H
     replace H:(if t405=true then(if 0≤((rd_T35 l0_4 x6_1).f0) then(if((rd_T35 l0_4 x6_1).f0)<(t398.length:Int) then(if t402.length+(rd_L5 t398 ((rd_T35 l0_4 x6_1).f0)).length<17592186044416 then(if x4_1.length<5864062014805 then(regletref14_Predict.l0 k1 (x4_1++ [(t402++(rd_L5 t398 ((rd_T35 l0_4 x6_1).f0)))]) t398 (wrap64 (x6_1+1)) l0_0 l0_1 a0_2 a0_3 l0_4) else(none)) else(none)) else(none)) else(none)) else(if x4_1.length<5864062014805 then(regletref14_Predict.l0 k1 (x4_1++ [t402]) t398 (wrap64 (x6_1+1)) l0_0 l0_1 a0_2 a0_3 l0_4) else(none)))=some (r1,r2):=H
     have A12:=aM A120
     clear A120
     by_cases c13:t405=true
     ·subst c13
      have H1:(if 0≤((rd_T35 l0_4 x6_1).f0) then(if((rd_T35 l0_4 x6_1).f0)<(t398.length:Int) then(if t402.length+(rd_L5 t398 ((rd_T35 l0_4 x6_1).f0)).length<17592186044416 then(if x4_1.length<5864062014805 then(regletref14_Predict.l0 k1 (x4_1++ [(t402++(rd_L5 t398 ((rd_T35 l0_4 x6_1).f0)))]) t398 (wrap64 (x6_1+1)) l0_0 l0_1 a0_2 a0_3 l0_4) else(none)) else(none)) else(none)) else(none))=some (r1,r2):=by rw [if_pos rfl] at H;exact H
      clear H
      have H:=H1
      clear H1
      by_cases c14:0≤((rd_T35 l0_4 x6_1).f0)
      rotate_left
      ·rw [if_neg c14] at H
       exact absurd H (by simp)
      rw [if_pos c14] at H
      have c14b0:decide (0≤((rd_T35 l0_4 x6_1).f0))=true:=decide_eq_true c14
      clear c14
      by_cases c15:((rd_T35 l0_4 x6_1).f0)<(t398.length:Int)
      rotate_left
      ·rw [if_neg c15] at H
       exact absurd H (by simp)
      rw [if_pos c15] at H
      have c15b0:decide (((rd_T35 l0_4 x6_1).f0)<(t398.length:Int))=true:=decide_eq_true c15
      clear c15
      by_cases c16:t402.length+(rd_L5 t398 ((rd_T35 l0_4 x6_1).f0)).length<17592186044416
      rotate_left
      ·rw [if_neg c16] at H
       exact absurd H (by simp)
      rw [if_pos c16] at H
      have LMc16:=aM c16
      clear c16
      obtain⟨y408,hy408⟩:∃y_:List Int,y_=(t402++(rd_L5 t398 ((rd_T35 l0_4 x6_1).f0))):=⟨_,rfl⟩
      replace H:(if x4_1.length<5864062014805 then(regletref14_Predict.l0 k1 (x4_1++ [y408]) t398 (wrap64 (x6_1+1)) l0_0 l0_1 a0_2 a0_3 l0_4) else(none))=some (r1,r2):=by first|(rw [hy408];with_reducible exact H)|(have H2_:=(Option.bind_some _ _).symm.trans H;rw [hy408];with_reducible exact H2_)|(have H2_:=(Option.bind_some _ _).symm.trans H;with_reducible exact H2_)|with_reducible exact H|(rw [hy408];exact H)|exact H
      have Ny408:=aM hy408
      clear hy408
      by_cases c17:x4_1.length<5864062014805
      rotate_left
      ·rw [if_neg c17] at H
       exact absurd H (by simp)
      rw [if_pos c17] at H
      have LMc17:=aM c17
      clear c17
      obtain⟨y411,hy411⟩:∃y_:List (List Int),y_=(x4_1++ [y408]):=⟨_,rfl⟩
      replace H:(regletref14_Predict.l0 k1 y411 t398 (wrap64 (x6_1+1)) l0_0 l0_1 a0_2 a0_3 l0_4)=some (r1,r2):=by first|(rw [hy411];with_reducible exact H)|(have H2_:=(Option.bind_some _ _).symm.trans H;rw [hy411];with_reducible exact H2_)|(have H2_:=(Option.bind_some _ _).symm.trans H;with_reducible exact H2_)|with_reducible exact H|(rw [hy411];exact H)|exact H
      have Ny411:=aM hy411
      clear hy411
      have H':=aM H
      clear H
      have hcz18_0:wr.cell? ⟨gb396,0,none⟩=some (.slice A0_0 l0_0.length c0_0):=(aG BK396.out 0).trans rfl
      have hcz18_1:wr.cell? ⟨gb396,1,none⟩=some (.slice A0_1 l0_1.length c0_1):=(aG BK396.out 1).trans rfl
      have hcz18_2:wr.cell? ⟨gb396,2,none⟩=some (.int .i64 a0_2):=(aG BK396.out 2).trans rfl
      have hcz18_3:wr.cell? ⟨gb396,3,none⟩=some (.int .i64 a0_3):=(aG BK396.out 3).trans rfl
      have hcz18_4:wr.cell? ⟨gb396,4,none⟩=some (.slice A0_4 l0_4.length c0_4):=(aG BK396.out 4).trans rfl
      have hfz18_0:=aH BK396.out 0
      have hfz18_1:=aH BK396.out 1
      have hfz18_2:=aH BK396.out 2
      have hfz18_3:=aH BK396.out 3
      have hfz18_4:=aH BK396.out 4
      try go_wp2
      have n0_:=aM (aW HO_4.out)
      have n1_:=aM (aW HO_5.out)
      have n2_:=aM (aK BK396.out)
      have n3_:=aM (aO HB.out)
      clear HO_4
      clear HO_5
      clear BK396
      clear HB
      have HO_4:=n0_
      have HO_5:=n1_
      have BK396:=n2_
      have HB:=n3_
      clear n0_ n1_ n2_ n3_
      have p401:0≤(x6_1:Int):=of_decide_eq_true (by first|(with_reducible assumption)|assumption)
      have q401:x6_1<(l0_4.length:Int):=of_decide_eq_true (by first|(with_reducible assumption)|assumption)
      obtain⟨ad401,A401_1,c401_1,e401,hx401_0,hx401_1,hl401_1,hi401_1⟩:=at_T35 HR0_4.out x6_1 p401 q401
      have hw401_1:=hx401_1
      have hw401_0:=hx401_0
      cases e401
      replace hx401_0:=(HB.out.cell (World.block_lt_of_cell? w _ hx401_0)).trans hx401_0
      replace hx401_1:=(HB.out.cell (World.block_lt_of_cell? w _ hx401_1)).trans hx401_1
      have HR401_1:=aM hi401_1
      have HC401_1:=aM hl401_1
      clear hi401_1 hl401_1
      replace p401:=eq_true p401
      replace q401:=eq_true q401
      refine start_ (n:=13) (S:=fun w'=>w'.cell? ⟨gb396,0,none⟩=some (.slice A0_0 l0_0.length c0_0)∧w'.cell? ⟨gb396,1,none⟩=some (.slice A0_1 l0_1.length c0_1)∧w'.cell? ⟨gb396,2,none⟩=some (.int .i64 a0_2)∧w'.cell? ⟨gb396,3,none⟩=some (.int .i64 a0_3)∧w'.cell? ⟨gb396,4,none⟩=some (.slice (some ad401) l0_4.length c0_4)∧w'.cell? (ad401.add ((x6_1).toNat * 2))=some (.int .i64 ((rd_T35 l0_4 x6_1).f0))∧w'.cell? ⟨(ad401.add ((x6_1).toNat * 2)).block,(ad401.add ((x6_1).toNat * 2)).off+1,none⟩=some (.slice A401_1 ((rd_T35 l0_4 x6_1).f1).length c401_1)) (ds:= []) #[F,F,F,F,F,F,F,F,F,F,F,F,F] (by kernel_rfl) rfl rfl ⟨(aG BK396.out 0).trans rfl,(aG BK396.out 1).trans rfl,(aG BK396.out 2).trans rfl,(aG BK396.out 3).trans rfl,(aG BK396.out 4).trans rfl,((HB.out.cell (World.block_lt_of_cell? w _ hw401_0)).trans hw401_0),((HB.out.cell (World.block_lt_of_cell? w _ hw401_1)).trans hw401_1)⟩ (fun hHeld=>?_);refine with_tabW regletref14_Predict.tab8 regletref14_Predict.bits8 (fun HT_ HW_=>?_)
      generalize wr.drew=w19 at HO_4 HO_5 BK396 HB HR401_1 hx401_0 hx401_1 hHeld ⊢
      refine pure_ (i:=1) (N:=some 30) (v:=?_) (a':=?_) #[F,T,F,F,F,F,F,F,F,F,F,F,F] rfl rfl (any_of HT_.out (by kernel_rfl)) (fun _ _ _ h=>h) (Or.inl ⟨by rfl,?_⟩) ?_ ?_
      rotate_left;(intro w';go_simp;with_reducible rfl);rotate_left;(simp only [pq];rfl)
      refine pure_ (i:=3) (N:=some 32) (v:=?_) (a':=?_) #[F,T,F,T,F,F,F,F,F,F,F,F,F] rfl rfl (any_of HT_.out (by kernel_rfl)) (fun _ _ _ h=>h) (Or.inl ⟨by rfl,?_⟩) ?_ ?_
      rotate_left;(intro w';go_simp;with_reducible rfl);rotate_left;(simp only [pq];rfl)
      refine take_ (i:=0) (N:=some 29) (v:=?_) (a':=?_) #[T,T,F,T,F,F,F,F,F,F,F,F,F] rfl rfl (take_ofW HT_.out HW_.out (by kernel_rfl)) (fun _ _ _ h=>h) (Or.inl ⟨by rfl,?_⟩) hHeld ?_ ?_
      rotate_left
      ·rintro w' ⟨s0,s1,s2,s3,s4,s5,s6⟩
       go_simp
       with_reducible rfl
      rotate_left
      ·simp only [pq]
       rfl
      refine take_ (i:=2) (N:=some 31) (v:=?_) (a':=?_) #[T,T,T,T,F,F,F,F,F,F,F,F,F] rfl rfl (take_ofW HT_.out HW_.out (by kernel_rfl)) (fun _ _ _ h=>h) (Or.inl ⟨by rfl,?_⟩) hHeld ?_ ?_
      rotate_left
      ·rintro w' ⟨s0,s1,s2,s3,s4,s5,s6⟩
       go_simp
       with_reducible rfl
      rotate_left
      ·simp only [pq]
       rfl
      refine pure_ (i:=4) (N:=some 33) (v:=?_) (a':=?_) #[T,T,T,T,T,F,F,F,F,F,F,F,F] rfl rfl (any_of HT_.out (by kernel_rfl)) (fun _ _ _ h=>h) (Or.inl ⟨by rfl,?_⟩) ?_ ?_
      rotate_left;(intro w';go_simp;with_reducible rfl);rotate_left;(simp only [pq];rfl)
      refine pure_ (i:=5) (N:=some 34) (v:=?_) (a':=?_) #[T,T,T,T,T,T,F,F,F,F,F,F,F] rfl rfl (any_of HT_.out (by kernel_rfl)) (fun _ _ _ h=>h) (Or.inl ⟨by rfl,?_⟩) ?_ ?_
      rotate_left;(intro w';go_simp;with_reducible rfl);rotate_left;(simp only [pq];rfl)
      refine take_ (i:=6) (N:=some 35) (v:=?_) (a':=?_) #[T,T,T,T,T,T,T,F,F,F,F,F,F] rfl rfl (take_ofW HT_.out HW_.out (by kernel_rfl)) (fun _ _ _ h=>h) (Or.inl ⟨by rfl,?_⟩) hHeld ?_ ?_
      rotate_left
      ·rintro w' ⟨s0,s1,s2,s3,s4,s5,s6⟩
       go_simp
       with_reducible rfl
      rotate_left
      ·simp only [pq]
       rfl
      refine one_ (i:=7) (N:=some 36) #[T,T,T,T,T,T,T,T,F,F,F,F,F] rfl rfl (one_of HT_.out (by kernel_rfl)) (by decide) (fun K hK=>?_)
      refine goes_ Try.func32 (by kernel_rfl) rfl #[.agg #[.slice A0_0 l0_0.length c0_0,.slice A0_1 l0_1.length c0_1,.int .i64 a0_2,.int .i64 a0_3,.slice (some ad401) l0_4.length c0_4],.slice A401_1 ((rd_T35 l0_4 x6_1).f1).length c401_1] (by rfl) rfl rfl (by(try simp only [List.map_toArray,List.map_cons,List.map_nil]);first|done|rfl|(simp only [List.length_drop,List.length_take];rfl)) ?_
      with_reducible refine(regletref13_Of.calls k1 _ _ l0_0 _ _ l0_1 a0_2 a0_3 _ _ l0_4 _ _ ((rd_T35 l0_4 x6_1).f1) t402 true _ ?side1 ?side2 ?side3 ?side4 ?side5 ?side6 ?side7 ?side8 A12.out).mono ?_
      (case side1=>repeat(first|exact(bD HR0_0.out HB.out)|(with_reducible refine Kd.C_alloc ?_ _)|(with_reducible refine Kd.C_drewN ?_ _)|(with_reducible refine Kd.C_drew ?_)))
      (case side2=>exact HC0_0.out)
      (case side3=>repeat(first|exact(bD HR0_1.out HB.out)|(with_reducible refine Kd.C_alloc ?_ _)|(with_reducible refine Kd.C_drewN ?_ _)|(with_reducible refine Kd.C_drew ?_)))
      (case side4=>exact HC0_1.out)
      (case side5=>repeat(first|exact(bD HR0_4.out HB.out)|(with_reducible refine Kd.C_alloc ?_ _)|(with_reducible refine Kd.C_drewN ?_ _)|(with_reducible refine Kd.C_drew ?_)))
      (case side6=>exact HC0_4.out)
      (case side7=>repeat(first|exact(bD HR401_1.out HB.out)|(with_reducible refine Kd.C_alloc ?_ _)|(with_reducible refine Kd.C_drewN ?_ _)|(with_reducible refine Kd.C_drew ?_)))
      (case side8=>exact HC401_1.out)
      rintro e w20 ⟨v403,rfl,ho0,hb⟩
      refine⟨_,rfl,?_⟩
      have n0_:=aM (Kd.S_elder' (by(with_reducible repeat(first|apply Kd.S_alloc|apply aV|apply aW));exact HO_4.out) (Kd.R_base ho0) hb)
      have n1_:=aM (Kd.S_elder' (by(with_reducible repeat(first|apply Kd.S_alloc|apply aV|apply aW));exact HO_5.out) (Kd.R_base ho0) hb)
      have n2_:=aM (bL ho0 (bH (by repeat(first|(with_reducible first|exact HB.out|apply aN|apply aP|apply aO|refine aL ?_ GE396.out)|exact HB.out))))
      have n3_:=aM (bF (g:=gb396) (o:= .cells #[.slice A0_0 l0_0.length c0_0,.slice A0_1 l0_1.length c0_1,.int .i64 a0_2,.int .i64 a0_3,.slice (some ad401) l0_4.length c0_4] 26 (0,0)) (by(with_reducible repeat(first|refine aJ ?_ _|refine aK ?_|refine aI ?_ _));exact BK396.out) hb)
      have n4_:=aM (bG (by repeat(first|(with_reducible first|exact HB.out|apply aN|apply aP|apply aO|refine aL ?_ GE396.out)|exact HB.out)) hb)
      clear HO_4
      clear HO_5
      clear BK396
      clear HB
      have HO_4:=n0_
      have HO_5:=n1_
      have HO404:=n2_
      have BK396:=n3_
      have HB:=n4_
      clear n0_ n1_ n2_ n3_ n4_
      (try have HR401_1:=aM (bD HR401_1.out hb))
      (try clear hb);(try clear hb2);(try clear hk);(try clear hi);(try clear ho0)
      refine hK.out _ _ ⟨(aG BK396.out 0).trans rfl,(aG BK396.out 1).trans rfl,(aG BK396.out 2).trans rfl,(aG BK396.out 3).trans rfl,(aG BK396.out 4).trans rfl,((HB.out.cell (World.block_lt_of_cell? w _ hw401_0)).trans hw401_0),((HB.out.cell (World.block_lt_of_cell? w _ hw401_1)).trans hw401_1)⟩ (fun hHeld=>?_)
      clear hK K
      refine norm_ (a':=?_) ?_ ?_
      rotate_left
      ·show Act.put _ (some 36) _=_
       simp only [pq]
       rfl
      refine pure_ (i:=8) (N:=some 28) (v:=?_) (a':=?_) #[T,T,T,T,T,T,T,T,T,F,F,F,F] rfl rfl (any_of HT_.out (by kernel_rfl)) (fun _ _ _ h=>h) (Or.inl ⟨by rfl,?_⟩) ?_ ?_
      rotate_left;(intro w';go_simp;with_reducible rfl);rotate_left;(simp only [pq];rfl)
      refine pure_ (i:=9) (N:=some 37) (v:=?_) (a':=?_) #[T,T,T,T,T,T,T,T,T,T,F,F,F] rfl rfl (any_of HT_.out (by kernel_rfl)) (fun _ _ _ h=>h) (Or.inl ⟨by rfl,?_⟩) ?_ ?_
      rotate_left;(intro w';go_simp;with_reducible rfl);rotate_left;(simp only [pq];rfl)
      refine pure_ (i:=10) (N:=some 38) (v:=?_) (a':=?_) #[T,T,T,T,T,T,T,T,T,T,T,F,F] rfl rfl (any_of HT_.out (by kernel_rfl)) (fun _ _ _ h=>h) (Or.inl ⟨by rfl,?_⟩) ?_ ?_
      rotate_left;(intro w';go_simp;with_reducible rfl);rotate_left;(simp only [pq];rfl)
      refine pure_ (i:=11) (N:=some 7) (v:=?_) (a':=?_) #[T,T,T,T,T,T,T,T,T,T,T,T,F] rfl rfl (any_of HT_.out (by kernel_rfl)) (fun _ _ _ h=>h) (Or.inl ⟨by rfl,?_⟩) ?_ ?_
      rotate_left;(intro w';go_simp;with_reducible rfl);rotate_left;(simp only [pq];rfl)
      refine pure_ (i:=12) (N:=some 8) (v:=?_) (a':=?_) #[T,T,T,T,T,T,T,T,T,T,T,T,T] rfl rfl (any_of HT_.out (by kernel_rfl)) (fun _ _ _ h=>h) (Or.inl ⟨by rfl,?_⟩) ?_ ?_
      rotate_left;(intro w';go_simp;with_reducible rfl);rotate_left;(simp only [pq];rfl)
      refine done_ (done_of HT_.out (by kernel_rfl)) ?_
      have hcz21_0:w20.cell? ⟨gb396,0,none⟩=some (.slice A0_0 l0_0.length c0_0):=(aG BK396.out 0).trans rfl
      have hcz21_1:w20.cell? ⟨gb396,1,none⟩=some (.slice A0_1 l0_1.length c0_1):=(aG BK396.out 1).trans rfl
      have hcz21_2:w20.cell? ⟨gb396,2,none⟩=some (.int .i64 a0_2):=(aG BK396.out 2).trans rfl
      have hcz21_3:w20.cell? ⟨gb396,3,none⟩=some (.int .i64 a0_3):=(aG BK396.out 3).trans rfl
      have hcz21_4:w20.cell? ⟨gb396,4,none⟩=some (.slice (some ad401) l0_4.length c0_4):=(aG BK396.out 4).trans rfl
      have hfz21_0:=aH BK396.out 0
      have hfz21_1:=aH BK396.out 1
      have hfz21_2:=aH BK396.out 2
      have hfz21_3:=aH BK396.out 3
      have hfz21_4:=aH BK396.out 4
      have p406:0≤(x6_1:Int):=of_decide_eq_true (by first|(with_reducible assumption)|assumption)
      have q406:x6_1<(l0_4.length:Int):=of_decide_eq_true (by first|(with_reducible assumption)|assumption)
      obtain⟨ad406,A406_1,c406_1,e406,hx406_0,hx406_1,hl406_1,hi406_1⟩:=at_T35 HR0_4.out x6_1 p406 q406
      obtain rfl:ad401=ad406:=(by injection e406)
      replace hx406_0:=(HB.out.cell (World.block_lt_of_cell? w _ hx406_0)).trans hx406_0
      replace hx406_1:=(HB.out.cell (World.block_lt_of_cell? w _ hx406_1)).trans hx406_1
      have HR406_1:=aM hi406_1
      have HC406_1:=aM hl406_1
      clear hi406_1 hl406_1
      replace p406:=eq_true p406
      replace q406:=eq_true q406
      obtain⟨Ao22,co22,eo22⟩:=Kd.S_slice HO_5.out
      subst eo22
      have p407:0≤(((rd_T35 l0_4 x6_1).f0):Int):=of_decide_eq_true (by first|(with_reducible assumption)|assumption)
      have q407:((rd_T35 l0_4 x6_1).f0)<(t398.length:Int):=of_decide_eq_true (by first|(with_reducible assumption)|assumption)
      obtain⟨ad407,A407_0,c407_0,e407,hx407_0,hl407_0,hi407_0⟩:=at_L5 (Kd.S_reads' HO_5.out).2.2 ((rd_T35 l0_4 x6_1).f0) p407 q407
      cases e407
      obtain⟨ce407,hce407,hMe407,hcc407⟩:=Kd.S_get HO_5.out [] ((rd_T35 l0_4 x6_1).f0) p407 (by first|exact q407|exact of_decide_eq_true (by first|(with_reducible assumption)|assumption)|(have e_:=(Kd.S_reads' HO_5.out).1;omega))
      obtain⟨ve407_0,rfl,ge407_0⟩:=hMe407
      have hv407_0:=hcc407 0 _ rfl
      rw [Nat.add_zero,show((Kd.slice 3 (Kd.int .i64))).sz=1 from rfl,Nat.mul_one] at hv407_0
      replace hv407_0:=Option.some.inj (hv407_0.symm.trans hx407_0)
      rw [hv407_0] at ge407_0
      have HL407_0:=aM (show Kd.R (Kd.int .i64) 3 _ _ _ _ (rd_L5 t398 ((rd_T35 l0_4 x6_1).f0)) from ge407_0)
      clear hv407_0 ge407_0
      clear hcc407 hce407
      have HR407_0:=aM hi407_0
      have HC407_0:=aM hl407_0
      clear hi407_0 hl407_0
      replace p407:=eq_true p407
      replace q407:=eq_true q407
      try go_wp2_with (first|((with_reducible refine gate_builtin (b:= .append) (xs:=#[.tmp 40,.tmp 49]) rfl ?_);at_builtin;refine Kd.R_append_rows (Kd.int .i64) (w0:=w) w.heap.size rfl (.tmp 40) (.tmp 49) 32 3 (.int .i64 0) 8 rfl Try.underlying32 info3 rfl (by decide) (by omega) v403 t402 (rd_L5 t398 ((rd_T35 l0_4 x6_1).f0)) _ _ _ (fun _=>True) (fun _=>False) rfl rfl ?aO ?aR (fun _ _ h=>h) (fun _ h=>h.elim) ?aF ?aB ?aS ?aL ?_;(case aR=>repeat(first|exact(by repeat(first|(with_reducible exact HR407_0.out)|(with_reducible refine Kd.C_alloc ?_ _)|(with_reducible refine Kd.C_drewN ?_ _)|(with_reducible refine Kd.C_drew ?_)|exact HR407_0.out))|(with_reducible refine Kd.C_alloc ?_ _)|(with_reducible refine Kd.C_drewN ?_ _)|(with_reducible refine Kd.C_drew ?_)));(case aB=>exact(by repeat(first|(with_reducible first|exact HB.out|apply aN|apply aP|apply aO|refine aL ?_ GE396.out)|exact HB.out)));(case aF=>exact(fun _ _=>trivial));(case aO=>exact(by(with_reducible repeat(first|apply aA|apply aB|apply aC));exact HO404.out));(case aS=>exact(bH (by repeat(first|(with_reducible first|exact HB.out|apply aN|apply aP|apply aO|refine aL ?_ GE396.out)|exact HB.out))));(case aL=>have:=LMc16.out;omega);intro v409 w23 ho hb hg hat;rw [←Ny408.out] at ho;have n0_:=aM (Kd.S_after (ok:=(fun k_=>some k_≠(.slice (some ad407) t398.length co22:Value).ownBlock)) (by(with_reducible repeat(first|apply Kd.S_alloc|apply aV|apply aW));exact HO_4.out) hg hat);have n1_:=aM (Kd.S_after (ok:=(fun k_=>some k_≠(u4:Value).ownBlock)) (by(with_reducible repeat(first|apply Kd.S_alloc|apply aV|apply aW));exact HO_5.out) hg hat);have n2_:=aM (blk_grown (g:=gb396) (o:= .cells #[.slice A0_0 l0_0.length c0_0,.slice A0_1 l0_1.length c0_1,.int .i64 a0_2,.int .i64 a0_3,.slice (some ad401) l0_4.length c0_4] 26 (0,0)) (by(with_reducible repeat(first|refine aJ ?_ _|refine aK ?_|refine aI ?_ _));exact BK396.out) hg (Kd.R_ne HO404.out BK396.out (by decide)));have n3_:=aM (Kd.R_after (ok:=(fun k_=>some k_≠(u4:Value).ownBlock∧some k_≠(.slice (some ad407) t398.length co22:Value).ownBlock)) (by(with_reducible repeat(first|apply aA|apply aB|apply aC));exact Kd.R_mono HL407_0.out (fun _ hk=>⟨⟨hk.1.1,hk.2⟩,hk.1.2⟩)) hg hat);have n4_:=aM (hb);have n5_:=aM (ho);clear HO_4;clear HO_5;clear BK396;clear HL407_0;clear HB;clear HO404;have HO_4:=n0_;have HO_5:=n1_;have BK396:=n2_;have HL407_0:=n3_;have HB:=n4_;have HO410:=n5_;clear n0_ n1_ n2_ n3_ n4_ n5_;clear ho hb hg hat;obtain⟨Ao25,co25,eo25⟩:=Kd.R_slice HO410.out;subst eo25)|((with_reducible refine gate_builtin (b:= .append) (xs:=#[.tmp 51,.tmp 53]) rfl ?_);at_builtin;refine Kd.S_append (Kd.slice 3 (Kd.int .i64)) (w0:=w) w.heap.size rfl (.tmp 51) (.tmp 53) 27 32 (.slice none 0 0) 24 rfl Try.underlying27 info32 rfl (by decide) (by omega) u4 x4_1 y408 [.slice Ao25 y408.length co25] (fun k_=>some k_≠(.slice (some ad407) t398.length co22:Value).ownBlock) (fun k_=>some k_=(.slice Ao25 y408.length co25:Value).ownBlock) rfl rfl ?aP (fun k_ hk_=>((Kd.R_mono (ok':=fun k_=>((fun k_=>some k_≠(.slice (some ad407) t398.length co22:Value).ownBlock)) k_∧some k_≠(u4:Value).ownBlock) (Kd.R_apart' (Kd.R_apart' (HO410.out) (Kd.S_typed HO_5.out) (by decide)) (Kd.S_typed HO_4.out) (by decide)) (fun k_ hk=>⟨hk.1.2,hk.2⟩))).1 k_ hk_.symm) ?aF ?aO ?aB ?aS ?aL ?_;(case aP=>exact Kd.M_row (Kd.R_mono (Kd.R_tight rfl (Kd.R_mono (ok':=fun k_=>((fun k_=>some k_≠(.slice (some ad407) t398.length co22:Value).ownBlock)) k_∧some k_≠(u4:Value).ownBlock) (Kd.R_apart' (Kd.R_apart' (HO410.out) (Kd.S_typed HO_5.out) (by decide)) (Kd.S_typed HO_4.out) (by decide)) (fun k_ hk=>⟨hk.1.2,hk.2⟩))) (fun _ h_=>h_)));(case aB=>exact(by repeat(first|(with_reducible first|exact HB.out|apply aN|apply aP|apply aO|refine aL ?_ GE396.out)|exact HB.out)));(case aF=>exact(fun k_ hk=>Kd.fresh' (Kd.S_lt (by(with_reducible repeat(first|apply Kd.S_alloc|apply aV|apply aW));exact HO_5.out)) k_ hk));(case aO=>exact(by(with_reducible repeat(first|apply Kd.S_alloc|apply aV|apply aW));exact Kd.S_mono HO_4.out (fun k_ hk=>⟨hk.1,fun e_=>hk.2 e_⟩)));(case aS=>exact(bH (by repeat(first|(with_reducible first|exact HB.out|apply aN|apply aP|apply aO|refine aL ?_ GE396.out)|exact HB.out))));(case aL=>have:=LMc17.out;omega);intro v412 w24 ho hb hg hat;rw [←Ny411.out] at ho;have n0_:=aM (Kd.S_after (ok:=(fun k_=>some k_≠(.slice Ao25 y408.length co25:Value).ownBlock)) (by(with_reducible repeat(first|apply Kd.S_alloc|apply aV|apply aW));exact Kd.S_mono HO_5.out (fun _ hk=>⟨hk.2,hk.1⟩)) hg hat);have n1_:=aM (blk_grown (g:=gb396) (o:= .cells #[.slice A0_0 l0_0.length c0_0,.slice A0_1 l0_1.length c0_1,.int .i64 a0_2,.int .i64 a0_3,.slice (some ad401) l0_4.length c0_4] 26 (0,0)) (by(with_reducible repeat(first|refine aJ ?_ _|refine aK ?_|refine aI ?_ _));exact BK396.out) hg (Kd.S_ne HO_4.out BK396.out (by decide)));have n2_:=aM (Kd.R_after (ok:=(fun k_=>some k_≠(.slice (some ad407) t398.length co22:Value).ownBlock∧some k_≠(.slice Ao25 y408.length co25:Value).ownBlock)) (by(with_reducible repeat(first|apply aA|apply aB|apply aC));exact Kd.R_mono HL407_0.out (fun _ hk=>⟨⟨hk.1.2,hk.2⟩,hk.1.1⟩)) hg hat);have n3_:=aM (hb);have n4_:=aM (ho);clear HO_5;clear BK396;clear HL407_0;clear HB;clear HO_4;clear HO410;have HO_5:=n0_;have BK396:=n1_;have HL407_0:=n2_;have HB:=n3_;have HO413:=n4_;clear n0_ n1_ n2_ n3_ n4_;clear ho hb hg hat))
      go_roundg k1
      case measure=>have:=HK1.out;omega
      case rel=>exact⟨(y411),(wrap64 (x6_1+1)),(by first|rfl|(simp;done)|(simp [*];done)),H',⟨by have:=HK1.out;omega⟩,⟨by(with_reducible repeat(first|apply Kd.S_alloc|apply aV|apply aW));exact HO413.out⟩,⟨by(with_reducible repeat(first|apply Kd.S_alloc|apply aV|apply aW));exact Kd.S_mono HO_5.out (fun _ hk=>hk.2)⟩,⟨by(with_reducible repeat(first|refine aJ ?_ _|refine aK ?_|refine aI ?_ _));exact BK396.out⟩,⟨by repeat(first|(with_reducible first|exact HB.out|apply aN|apply aP|apply aO|refine aL ?_ GE396.out)|exact HB.out)⟩⟩
     ·replace c13:=Bool.eq_false_iff.mpr c13
      subst c13
      have H1:(if x4_1.length<5864062014805 then(regletref14_Predict.l0 k1 (x4_1++ [t402]) t398 (wrap64 (x6_1+1)) l0_0 l0_1 a0_2 a0_3 l0_4) else(none))=some (r1,r2):=by rw [if_neg (show ¬(false=true) by decide)] at H;exact H
      clear H
      have H:=H1
      clear H1
      by_cases c26:x4_1.length<5864062014805
      rotate_left
      ·rw [if_neg c26] at H
       exact absurd H (by simp)
      rw [if_pos c26] at H
      have LMc26:=aM c26
      clear c26
      obtain⟨y414,hy414⟩:∃y_:List (List Int),y_=(x4_1++ [t402]):=⟨_,rfl⟩
      replace H:(regletref14_Predict.l0 k1 y414 t398 (wrap64 (x6_1+1)) l0_0 l0_1 a0_2 a0_3 l0_4)=some (r1,r2):=by first|(rw [hy414];with_reducible exact H)|(have H2_:=(Option.bind_some _ _).symm.trans H;rw [hy414];with_reducible exact H2_)|(have H2_:=(Option.bind_some _ _).symm.trans H;with_reducible exact H2_)|with_reducible exact H|(rw [hy414];exact H)|exact H
      have Ny414:=aM hy414
      clear hy414
      have H':=aM H
      clear H
      have hcz27_0:wr.cell? ⟨gb396,0,none⟩=some (.slice A0_0 l0_0.length c0_0):=(aG BK396.out 0).trans rfl
      have hcz27_1:wr.cell? ⟨gb396,1,none⟩=some (.slice A0_1 l0_1.length c0_1):=(aG BK396.out 1).trans rfl
      have hcz27_2:wr.cell? ⟨gb396,2,none⟩=some (.int .i64 a0_2):=(aG BK396.out 2).trans rfl
      have hcz27_3:wr.cell? ⟨gb396,3,none⟩=some (.int .i64 a0_3):=(aG BK396.out 3).trans rfl
      have hcz27_4:wr.cell? ⟨gb396,4,none⟩=some (.slice A0_4 l0_4.length c0_4):=(aG BK396.out 4).trans rfl
      have hfz27_0:=aH BK396.out 0
      have hfz27_1:=aH BK396.out 1
      have hfz27_2:=aH BK396.out 2
      have hfz27_3:=aH BK396.out 3
      have hfz27_4:=aH BK396.out 4
      try go_wp2
      have n0_:=aM (aW HO_4.out)
      have n1_:=aM (aW HO_5.out)
      have n2_:=aM (aK BK396.out)
      have n3_:=aM (aO HB.out)
      clear HO_4
      clear HO_5
      clear BK396
      clear HB
      have HO_4:=n0_
      have HO_5:=n1_
      have BK396:=n2_
      have HB:=n3_
      clear n0_ n1_ n2_ n3_
      have p401:0≤(x6_1:Int):=of_decide_eq_true (by first|(with_reducible assumption)|assumption)
      have q401:x6_1<(l0_4.length:Int):=of_decide_eq_true (by first|(with_reducible assumption)|assumption)
      obtain⟨ad401,A401_1,c401_1,e401,hx401_0,hx401_1,hl401_1,hi401_1⟩:=at_T35 HR0_4.out x6_1 p401 q401
      have hw401_1:=hx401_1
      have hw401_0:=hx401_0
      cases e401
      replace hx401_0:=(HB.out.cell (World.block_lt_of_cell? w _ hx401_0)).trans hx401_0
      replace hx401_1:=(HB.out.cell (World.block_lt_of_cell? w _ hx401_1)).trans hx401_1
      have HR401_1:=aM hi401_1
      have HC401_1:=aM hl401_1
      clear hi401_1 hl401_1
      replace p401:=eq_true p401
      replace q401:=eq_true q401
      refine start_ (n:=13) (S:=fun w'=>w'.cell? ⟨gb396,0,none⟩=some (.slice A0_0 l0_0.length c0_0)∧w'.cell? ⟨gb396,1,none⟩=some (.slice A0_1 l0_1.length c0_1)∧w'.cell? ⟨gb396,2,none⟩=some (.int .i64 a0_2)∧w'.cell? ⟨gb396,3,none⟩=some (.int .i64 a0_3)∧w'.cell? ⟨gb396,4,none⟩=some (.slice (some ad401) l0_4.length c0_4)∧w'.cell? (ad401.add ((x6_1).toNat * 2))=some (.int .i64 ((rd_T35 l0_4 x6_1).f0))∧w'.cell? ⟨(ad401.add ((x6_1).toNat * 2)).block,(ad401.add ((x6_1).toNat * 2)).off+1,none⟩=some (.slice A401_1 ((rd_T35 l0_4 x6_1).f1).length c401_1)) (ds:= []) #[F,F,F,F,F,F,F,F,F,F,F,F,F] (by kernel_rfl) rfl rfl ⟨(aG BK396.out 0).trans rfl,(aG BK396.out 1).trans rfl,(aG BK396.out 2).trans rfl,(aG BK396.out 3).trans rfl,(aG BK396.out 4).trans rfl,((HB.out.cell (World.block_lt_of_cell? w _ hw401_0)).trans hw401_0),((HB.out.cell (World.block_lt_of_cell? w _ hw401_1)).trans hw401_1)⟩ (fun hHeld=>?_);refine with_tabW regletref14_Predict.tab8 regletref14_Predict.bits8 (fun HT_ HW_=>?_)
      generalize wr.drew=w28 at HO_4 HO_5 BK396 HB HR401_1 hx401_0 hx401_1 hHeld ⊢
      refine pure_ (i:=1) (N:=some 30) (v:=?_) (a':=?_) #[F,T,F,F,F,F,F,F,F,F,F,F,F] rfl rfl (any_of HT_.out (by kernel_rfl)) (fun _ _ _ h=>h) (Or.inl ⟨by rfl,?_⟩) ?_ ?_
      rotate_left;(intro w';go_simp;with_reducible rfl);rotate_left;(simp only [pq];rfl)
      refine pure_ (i:=3) (N:=some 32) (v:=?_) (a':=?_) #[F,T,F,T,F,F,F,F,F,F,F,F,F] rfl rfl (any_of HT_.out (by kernel_rfl)) (fun _ _ _ h=>h) (Or.inl ⟨by rfl,?_⟩) ?_ ?_
      rotate_left;(intro w';go_simp;with_reducible rfl);rotate_left;(simp only [pq];rfl)
      refine take_ (i:=0) (N:=some 29) (v:=?_) (a':=?_) #[T,T,F,T,F,F,F,F,F,F,F,F,F] rfl rfl (take_ofW HT_.out HW_.out (by kernel_rfl)) (fun _ _ _ h=>h) (Or.inl ⟨by rfl,?_⟩) hHeld ?_ ?_
      rotate_left
      ·rintro w' ⟨s0,s1,s2,s3,s4,s5,s6⟩
       go_simp
       with_reducible rfl
      rotate_left
      ·simp only [pq]
       rfl
      refine take_ (i:=2) (N:=some 31) (v:=?_) (a':=?_) #[T,T,T,T,F,F,F,F,F,F,F,F,F] rfl rfl (take_ofW HT_.out HW_.out (by kernel_rfl)) (fun _ _ _ h=>h) (Or.inl ⟨by rfl,?_⟩) hHeld ?_ ?_
      rotate_left
      ·rintro w' ⟨s0,s1,s2,s3,s4,s5,s6⟩
       go_simp
       with_reducible rfl
      rotate_left
      ·simp only [pq]
       rfl
      refine pure_ (i:=4) (N:=some 33) (v:=?_) (a':=?_) #[T,T,T,T,T,F,F,F,F,F,F,F,F] rfl rfl (any_of HT_.out (by kernel_rfl)) (fun _ _ _ h=>h) (Or.inl ⟨by rfl,?_⟩) ?_ ?_
      rotate_left;(intro w';go_simp;with_reducible rfl);rotate_left;(simp only [pq];rfl)
      refine pure_ (i:=5) (N:=some 34) (v:=?_) (a':=?_) #[T,T,T,T,T,T,F,F,F,F,F,F,F] rfl rfl (any_of HT_.out (by kernel_rfl)) (fun _ _ _ h=>h) (Or.inl ⟨by rfl,?_⟩) ?_ ?_
      rotate_left;(intro w';go_simp;with_reducible rfl);rotate_left;(simp only [pq];rfl)
      refine take_ (i:=6) (N:=some 35) (v:=?_) (a':=?_) #[T,T,T,T,T,T,T,F,F,F,F,F,F] rfl rfl (take_ofW HT_.out HW_.out (by kernel_rfl)) (fun _ _ _ h=>h) (Or.inl ⟨by rfl,?_⟩) hHeld ?_ ?_
      rotate_left
      ·rintro w' ⟨s0,s1,s2,s3,s4,s5,s6⟩
       go_simp
       with_reducible rfl
      rotate_left
      ·simp only [pq]
       rfl
      refine one_ (i:=7) (N:=some 36) #[T,T,T,T,T,T,T,T,F,F,F,F,F] rfl rfl (one_of HT_.out (by kernel_rfl)) (by decide) (fun K hK=>?_)
      refine goes_ Try.func32 (by kernel_rfl) rfl #[.agg #[.slice A0_0 l0_0.length c0_0,.slice A0_1 l0_1.length c0_1,.int .i64 a0_2,.int .i64 a0_3,.slice (some ad401) l0_4.length c0_4],.slice A401_1 ((rd_T35 l0_4 x6_1).f1).length c401_1] (by rfl) rfl rfl (by(try simp only [List.map_toArray,List.map_cons,List.map_nil]);first|done|rfl|(simp only [List.length_drop,List.length_take];rfl)) ?_
      with_reducible refine(regletref13_Of.calls k1 _ _ l0_0 _ _ l0_1 a0_2 a0_3 _ _ l0_4 _ _ ((rd_T35 l0_4 x6_1).f1) t402 false _ ?side1 ?side2 ?side3 ?side4 ?side5 ?side6 ?side7 ?side8 A12.out).mono ?_
      (case side1=>repeat(first|exact(bD HR0_0.out HB.out)|(with_reducible refine Kd.C_alloc ?_ _)|(with_reducible refine Kd.C_drewN ?_ _)|(with_reducible refine Kd.C_drew ?_)))
      (case side2=>exact HC0_0.out)
      (case side3=>repeat(first|exact(bD HR0_1.out HB.out)|(with_reducible refine Kd.C_alloc ?_ _)|(with_reducible refine Kd.C_drewN ?_ _)|(with_reducible refine Kd.C_drew ?_)))
      (case side4=>exact HC0_1.out)
      (case side5=>repeat(first|exact(bD HR0_4.out HB.out)|(with_reducible refine Kd.C_alloc ?_ _)|(with_reducible refine Kd.C_drewN ?_ _)|(with_reducible refine Kd.C_drew ?_)))
      (case side6=>exact HC0_4.out)
      (case side7=>repeat(first|exact(bD HR401_1.out HB.out)|(with_reducible refine Kd.C_alloc ?_ _)|(with_reducible refine Kd.C_drewN ?_ _)|(with_reducible refine Kd.C_drew ?_)))
      (case side8=>exact HC401_1.out)
      rintro e w29 ⟨v403,rfl,ho0,hb⟩
      refine⟨_,rfl,?_⟩
      have n0_:=aM (Kd.S_elder' (by(with_reducible repeat(first|apply Kd.S_alloc|apply aV|apply aW));exact HO_4.out) (Kd.R_base ho0) hb)
      have n1_:=aM (Kd.S_elder' (by(with_reducible repeat(first|apply Kd.S_alloc|apply aV|apply aW));exact HO_5.out) (Kd.R_base ho0) hb)
      have n2_:=aM (bL ho0 (bH (by repeat(first|(with_reducible first|exact HB.out|apply aN|apply aP|apply aO|refine aL ?_ GE396.out)|exact HB.out))))
      have n3_:=aM (bF (g:=gb396) (o:= .cells #[.slice A0_0 l0_0.length c0_0,.slice A0_1 l0_1.length c0_1,.int .i64 a0_2,.int .i64 a0_3,.slice (some ad401) l0_4.length c0_4] 26 (0,0)) (by(with_reducible repeat(first|refine aJ ?_ _|refine aK ?_|refine aI ?_ _));exact BK396.out) hb)
      have n4_:=aM (bG (by repeat(first|(with_reducible first|exact HB.out|apply aN|apply aP|apply aO|refine aL ?_ GE396.out)|exact HB.out)) hb)
      clear HO_4
      clear HO_5
      clear BK396
      clear HB
      have HO_4:=n0_
      have HO_5:=n1_
      have HO404:=n2_
      have BK396:=n3_
      have HB:=n4_
      clear n0_ n1_ n2_ n3_ n4_
      (try have HR401_1:=aM (bD HR401_1.out hb))
      (try clear hb);(try clear hb2);(try clear hk);(try clear hi);(try clear ho0)
      refine hK.out _ _ ⟨(aG BK396.out 0).trans rfl,(aG BK396.out 1).trans rfl,(aG BK396.out 2).trans rfl,(aG BK396.out 3).trans rfl,(aG BK396.out 4).trans rfl,((HB.out.cell (World.block_lt_of_cell? w _ hw401_0)).trans hw401_0),((HB.out.cell (World.block_lt_of_cell? w _ hw401_1)).trans hw401_1)⟩ (fun hHeld=>?_)
      clear hK K
      refine norm_ (a':=?_) ?_ ?_
      rotate_left
      ·show Act.put _ (some 36) _=_
       simp only [pq]
       rfl
      refine pure_ (i:=8) (N:=some 28) (v:=?_) (a':=?_) #[T,T,T,T,T,T,T,T,T,F,F,F,F] rfl rfl (any_of HT_.out (by kernel_rfl)) (fun _ _ _ h=>h) (Or.inl ⟨by rfl,?_⟩) ?_ ?_
      rotate_left;(intro w';go_simp;with_reducible rfl);rotate_left;(simp only [pq];rfl)
      refine pure_ (i:=9) (N:=some 37) (v:=?_) (a':=?_) #[T,T,T,T,T,T,T,T,T,T,F,F,F] rfl rfl (any_of HT_.out (by kernel_rfl)) (fun _ _ _ h=>h) (Or.inl ⟨by rfl,?_⟩) ?_ ?_
      rotate_left;(intro w';go_simp;with_reducible rfl);rotate_left;(simp only [pq];rfl)
      refine pure_ (i:=10) (N:=some 38) (v:=?_) (a':=?_) #[T,T,T,T,T,T,T,T,T,T,T,F,F] rfl rfl (any_of HT_.out (by kernel_rfl)) (fun _ _ _ h=>h) (Or.inl ⟨by rfl,?_⟩) ?_ ?_
      rotate_left;(intro w';go_simp;with_reducible rfl);rotate_left;(simp only [pq];rfl)
      refine pure_ (i:=11) (N:=some 7) (v:=?_) (a':=?_) #[T,T,T,T,T,T,T,T,T,T,T,T,F] rfl rfl (any_of HT_.out (by kernel_rfl)) (fun _ _ _ h=>h) (Or.inl ⟨by rfl,?_⟩) ?_ ?_
      rotate_left;(intro w';go_simp;with_reducible rfl);rotate_left;(simp only [pq];rfl)
      refine pure_ (i:=12) (N:=some 8) (v:=?_) (a':=?_) #[T,T,T,T,T,T,T,T,T,T,T,T,T] rfl rfl (any_of HT_.out (by kernel_rfl)) (fun _ _ _ h=>h) (Or.inl ⟨by rfl,?_⟩) ?_ ?_
      rotate_left;(intro w';go_simp;with_reducible rfl);rotate_left;(simp only [pq];rfl)
      refine done_ (done_of HT_.out (by kernel_rfl)) ?_
      obtain⟨Ao31,co31,eo31⟩:=Kd.R_slice HO404.out
      subst eo31
      try go_wp2_with (first|((with_reducible refine gate_builtin (b:= .append) (xs:=#[.tmp 51,.tmp 53]) rfl ?_);at_builtin;refine Kd.S_append (Kd.slice 3 (Kd.int .i64)) (w0:=w) w.heap.size rfl (.tmp 51) (.tmp 53) 27 32 (.slice none 0 0) 24 rfl Try.underlying27 info32 rfl (by decide) (by omega) u4 x4_1 t402 [.slice Ao31 t402.length co31] (fun k_=>some k_≠(v399:Value).ownBlock) (fun k_=>some k_=(.slice Ao31 t402.length co31:Value).ownBlock) rfl rfl ?aP (fun k_ hk_=>((Kd.R_mono (ok':=fun k_=>((fun k_=>some k_≠(v399:Value).ownBlock)) k_∧some k_≠(u4:Value).ownBlock) (Kd.R_apart' (Kd.R_apart' (HO404.out) (Kd.S_typed HO_5.out) (by decide)) (Kd.S_typed HO_4.out) (by decide)) (fun k_ hk=>⟨hk.1.2,hk.2⟩))).1 k_ hk_.symm) ?aF ?aO ?aB ?aS ?aL ?_;(case aP=>exact Kd.M_row (Kd.R_mono (Kd.R_tight rfl (Kd.R_mono (ok':=fun k_=>((fun k_=>some k_≠(v399:Value).ownBlock)) k_∧some k_≠(u4:Value).ownBlock) (Kd.R_apart' (Kd.R_apart' (HO404.out) (Kd.S_typed HO_5.out) (by decide)) (Kd.S_typed HO_4.out) (by decide)) (fun k_ hk=>⟨hk.1.2,hk.2⟩))) (fun _ h_=>h_)));(case aB=>exact(by repeat(first|(with_reducible first|exact HB.out|apply aN|apply aP|apply aO|refine aL ?_ GE396.out)|exact HB.out)));(case aF=>exact(fun k_ hk=>Kd.fresh' (Kd.S_lt (by(with_reducible repeat(first|apply Kd.S_alloc|apply aV|apply aW));exact HO_5.out)) k_ hk));(case aO=>exact(by(with_reducible repeat(first|apply Kd.S_alloc|apply aV|apply aW));exact Kd.S_mono HO_4.out (fun k_ hk=>⟨hk.1,fun e_=>hk.2 e_⟩)));(case aS=>exact(bH (by repeat(first|(with_reducible first|exact HB.out|apply aN|apply aP|apply aO|refine aL ?_ GE396.out)|exact HB.out))));(case aL=>have:=LMc26.out;omega);intro v415 w30 ho hb hg hat;rw [←Ny414.out] at ho;have n0_:=aM (Kd.S_after (ok:=(fun k_=>some k_≠(.slice Ao31 t402.length co31:Value).ownBlock)) (by(with_reducible repeat(first|apply Kd.S_alloc|apply aV|apply aW));exact Kd.S_mono HO_5.out (fun _ hk=>⟨hk.2,hk.1⟩)) hg hat);have n1_:=aM (blk_grown (g:=gb396) (o:= .cells #[.slice A0_0 l0_0.length c0_0,.slice A0_1 l0_1.length c0_1,.int .i64 a0_2,.int .i64 a0_3,.slice (some ad401) l0_4.length c0_4] 26 (0,0)) (by(with_reducible repeat(first|refine aJ ?_ _|refine aK ?_|refine aI ?_ _));exact BK396.out) hg (Kd.S_ne HO_4.out BK396.out (by decide)));have n2_:=aM (hb);have n3_:=aM (ho);clear HO_5;clear BK396;clear HB;clear HO_4;clear HO404;have HO_5:=n0_;have BK396:=n1_;have HB:=n2_;have HO416:=n3_;clear n0_ n1_ n2_ n3_;clear ho hb hg hat))
      go_roundg k1
      case measure=>have:=HK1.out;omega
      case rel=>exact⟨(y414),(wrap64 (x6_1+1)),(by first|rfl|(simp;done)|(simp [*];done)),H',⟨by have:=HK1.out;omega⟩,⟨by(with_reducible repeat(first|apply Kd.S_alloc|apply aV|apply aW));exact HO416.out⟩,⟨by(with_reducible repeat(first|apply Kd.S_alloc|apply aV|apply aW));exact Kd.S_mono HO_5.out (fun _ hk=>hk.2)⟩,⟨by(with_reducible repeat(first|refine aJ ?_ _|refine aK ?_|refine aI ?_ _));exact BK396.out⟩,⟨by repeat(first|(with_reducible first|exact HB.out|apply aN|apply aP|apply aO|refine aL ?_ GE396.out)|exact HB.out)⟩⟩
    ·rw [if_neg c10] at H
     have c10b0:decide (x6_1<(l0_4.length:Int))=false:=decide_eq_false c10
     clear c10
     have H':=aM H
     clear H
     have hcz32_0:wr.cell? ⟨gb396,0,none⟩=some (.slice A0_0 l0_0.length c0_0):=(aG BK396.out 0).trans rfl
     have hcz32_1:wr.cell? ⟨gb396,1,none⟩=some (.slice A0_1 l0_1.length c0_1):=(aG BK396.out 1).trans rfl
     have hcz32_2:wr.cell? ⟨gb396,2,none⟩=some (.int .i64 a0_2):=(aG BK396.out 2).trans rfl
     have hcz32_3:wr.cell? ⟨gb396,3,none⟩=some (.int .i64 a0_3):=(aG BK396.out 3).trans rfl
     have hcz32_4:wr.cell? ⟨gb396,4,none⟩=some (.slice A0_4 l0_4.length c0_4):=(aG BK396.out 4).trans rfl
     have hfz32_0:=aH BK396.out 0
     have hfz32_1:=aH BK396.out 1
     have hfz32_2:=aH BK396.out 2
     have hfz32_3:=aH BK396.out 3
     have hfz32_4:=aH BK396.out 4
     go_wp2
     go_loopg [9,10,11] k1 (fun kq v9 v10 v11 w'=>∃(x9_2:List (List Int)) (x10_2:List (S78)) (x11_2:Int),v11= .int .i64 x11_2∧Aside0 (regletref14_Predict.l1 kq x4_1 x9_2 x10_2 x11_2 l0_0 l0_1 a0_2 a0_3 l0_4=some (r1,r2))∧Aside0 (kq≤k1)∧Aside0 (Kd.S (Kd.slice 3 (Kd.int .i64)) 32 w' w.heap.size (fun k_=>some k_≠(v9:Value).ownBlock) u4 x4_1)∧Aside0 (Kd.S (Kd.slice 3 (Kd.int .i64)) 32 w' w.heap.size (fun k_=>some k_≠(u4:Value).ownBlock) v9 x9_2)∧Aside0 (Kd.R k78 78 w' w.heap.size (fun _=>True) v10 x10_2)∧Aside0 (w'.heap[gb396]?=some (.cells #[(.slice A0_0 l0_0.length c0_0),(.slice A0_1 l0_1.length c0_1),.int .i64 a0_2,.int .i64 a0_3,(.slice A0_4 l0_4.length c0_4)] 26 (0,0)))∧Aside0 (Below w.heap.size w w'))
     case atStart=>exact⟨(([]:List (List Int))),(([]:List (S78))),(0),(by first|rfl|(simp;done)|(simp [*];done)),H',⟨Nat.le_refl _⟩,⟨by(with_reducible repeat(first|apply Kd.S_alloc|apply aV|apply aW));exact Kd.S_mono HO_4.out (fun _ hk=>(by simp [Value.ownBlock]))⟩,⟨by first|exact Kd.S_nil _ _ _ _ _|exact Kd.N_nil _ _ _ _ _|exact Kd.V_nil _ _ _ _ _|exact Kd.Q_nil _ _ _ _ _|exact Kd.R_nil _ _ _ _ _⟩,⟨by first|exact Kd.R_nil _ _ _ _ _|exact Kd.N_nil _ _ _ _ _|exact Kd.V_nil _ _ _ _ _|exact Kd.Q_nil _ _ _ _ _|exact Kd.S_nil _ _ _ _ _⟩,⟨by(with_reducible repeat(first|refine aJ ?_ _|refine aK ?_|refine aI ?_ _));exact BK396.out⟩,⟨by repeat(first|(with_reducible first|exact HB.out|apply aN|apply aP|apply aO|refine aL ?_ GE396.out)|exact HB.out)⟩⟩
     case round=>
      clear H'
      (try clear c1);(try clear c2);(try clear p2);(try clear c3);(try clear c4);(try clear p4);(try clear q4);(try clear hx4);(try clear p6);(try clear c10);(try clear c10b0);(try clear c11);(try clear c11b0);(try clear c13);(try clear c14);(try clear c14b0);(try clear c15);(try clear c15b0);(try clear c16);(try clear c17);(try clear c20);(try clear c26);(try clear c30);(try clear c31);(try clear c32);(try clear hcz18_0)
      (try clear hcz18_1);(try clear hcz18_2);(try clear hcz18_3);(try clear hcz18_4);(try clear hcz21_0);(try clear hcz21_1);(try clear hcz21_2);(try clear hcz21_3);(try clear hcz21_4);(try clear hcz27_0);(try clear hcz27_1);(try clear hcz27_2);(try clear hcz27_3);(try clear hcz27_4);(try clear hcz32_0);(try clear hcz32_1);(try clear hcz32_2);(try clear hcz32_3);(try clear hcz32_4);(try clear hcz6_0);(try clear hcz6_1)
      (try clear hcz6_2);(try clear hcz6_3);(try clear hcz6_4);(try clear hcz8_0);(try clear hcz8_1);(try clear hcz8_2);(try clear hcz8_3);(try clear hcz8_4);(try clear hfz18_0);(try clear hfz18_1);(try clear hfz18_2);(try clear hfz18_3);(try clear hfz18_4);(try clear hfz21_0);(try clear hfz21_1);(try clear hfz21_2);(try clear hfz21_3);(try clear hfz21_4);(try clear hfz27_0);(try clear hfz27_1);(try clear hfz27_2)
      (try clear hfz27_3);(try clear hfz27_4);(try clear hfz32_0);(try clear hfz32_1);(try clear hfz32_2);(try clear hfz32_3);(try clear hfz32_4);(try clear hfz6_0);(try clear hfz6_1);(try clear hfz6_2);(try clear hfz6_3);(try clear hfz6_4);(try clear hfz8_0);(try clear hfz8_1);(try clear hfz8_2);(try clear hfz8_3);(try clear hfz8_4);(try clear hx401_0);(try clear hx401_1);(try clear hx406_0);(try clear hx406_1)
      (try clear hx407_0);(try clear p2);(try clear p401);(try clear p406);(try clear p407);(try clear q401);(try clear q406);(try clear q407)
      obtain⟨x9_2,x10_2,x11_2,rfl,HA,HK2,HO_4,HO_9,HO_10,BK396,HB⟩:=hrel
      cases gk with
      |zero=>exact absurd HA.out (by simp [regletref14_Predict.l1])
      |succ k2=>
       have H:=HA.out
       clear HA
       simp only [regletref14_Predict.l1] at H
       by_cases c33:x11_2<(l0_0.length:Int)
       ·rw [if_pos c33] at H
        have c33b0:decide (x11_2<(l0_0.length:Int))=true:=decide_eq_true c33
        clear c33
        have H':=aM H
        clear H
        have hcz34_0:wr.cell? ⟨gb396,0,none⟩=some (.slice A0_0 l0_0.length c0_0):=(aG BK396.out 0).trans rfl
        have hcz34_1:wr.cell? ⟨gb396,1,none⟩=some (.slice A0_1 l0_1.length c0_1):=(aG BK396.out 1).trans rfl
        have hcz34_2:wr.cell? ⟨gb396,2,none⟩=some (.int .i64 a0_2):=(aG BK396.out 2).trans rfl
        have hcz34_3:wr.cell? ⟨gb396,3,none⟩=some (.int .i64 a0_3):=(aG BK396.out 3).trans rfl
        have hcz34_4:wr.cell? ⟨gb396,4,none⟩=some (.slice A0_4 l0_4.length c0_4):=(aG BK396.out 4).trans rfl
        have hfz34_0:=aH BK396.out 0
        have hfz34_1:=aH BK396.out 1
        have hfz34_2:=aH BK396.out 2
        have hfz34_3:=aH BK396.out 3
        have hfz34_4:=aH BK396.out 4
        go_wp2
        go_loopg [10,12,13] k2 (fun kq v10 v12 v13 w'=>∃(x10_3:List (S78)) (x12_3:List Int) (x13_3:Int),v13= .int .i64 x13_3∧Aside0 (regletref14_Predict.l2 kq x4_1 x9_2 x10_3 x11_2 x12_3 x13_3 l0_0 l0_1 a0_2 a0_3 l0_4=some (r1,r2))∧Aside0 (kq≤k2)∧Aside0 (Kd.S (Kd.slice 3 (Kd.int .i64)) 32 w' w.heap.size (fun k_=>some k_≠(u9:Value).ownBlock∧some k_≠(v12:Value).ownBlock) u4 x4_1)∧Aside0 (Kd.S (Kd.slice 3 (Kd.int .i64)) 32 w' w.heap.size (fun k_=>some k_≠(u4:Value).ownBlock∧some k_≠(v12:Value).ownBlock) u9 x9_2)∧Aside0 (Kd.R k78 78 w' w.heap.size (fun _=>True) v10 x10_3)∧Aside0 (Kd.R (Kd.int .i64) 3 w' w.heap.size (fun _=>True) v12 x12_3)∧Aside0 (w'.heap[gb396]?=some (.cells #[(.slice A0_0 l0_0.length c0_0),(.slice A0_1 l0_1.length c0_1),.int .i64 a0_2,.int .i64 a0_3,(.slice A0_4 l0_4.length c0_4)] 26 (0,0)))∧Aside0 (Below w.heap.size w w'))
        case atStart=>exact⟨(x10_2),(([]:List Int)),(0),(by first|rfl|(simp;done)|(simp [*];done)),H',⟨Nat.le_refl _⟩,⟨by(with_reducible repeat(first|apply Kd.S_alloc|apply aV|apply aW));exact Kd.S_mono HO_4.out (fun _ hk=>⟨hk,(by simp [Value.ownBlock])⟩)⟩,⟨by(with_reducible repeat(first|apply Kd.S_alloc|apply aV|apply aW));exact Kd.S_mono HO_9.out (fun _ hk=>⟨hk,(by simp [Value.ownBlock])⟩)⟩,⟨by(with_reducible repeat(first|apply aA|apply aB|apply aC));exact HO_10.out⟩,⟨by first|exact Kd.R_nil _ _ _ _ _|exact Kd.N_nil _ _ _ _ _|exact Kd.V_nil _ _ _ _ _|exact Kd.Q_nil _ _ _ _ _|exact Kd.S_nil _ _ _ _ _⟩,⟨by(with_reducible repeat(first|refine aJ ?_ _|refine aK ?_|refine aI ?_ _));exact BK396.out⟩,⟨by repeat(first|(with_reducible first|exact HB.out|apply aN|apply aP|apply aO|refine aL ?_ GE396.out)|exact HB.out)⟩⟩
        case round=>
         clear H'
         (try clear c1);(try clear c2);(try clear p2);(try clear c3);(try clear c4);(try clear p4);(try clear q4);(try clear hx4);(try clear p6);(try clear c10);(try clear c10b0);(try clear c11);(try clear c11b0);(try clear c13);(try clear c14);(try clear c14b0);(try clear c15);(try clear c15b0);(try clear c16);(try clear c17);(try clear c20);(try clear c26);(try clear c30);(try clear c31);(try clear c32);(try clear c33)
         (try clear c33b0);(try clear hcz18_0);(try clear hcz18_1);(try clear hcz18_2);(try clear hcz18_3);(try clear hcz18_4);(try clear hcz21_0);(try clear hcz21_1);(try clear hcz21_2);(try clear hcz21_3);(try clear hcz21_4);(try clear hcz27_0);(try clear hcz27_1);(try clear hcz27_2);(try clear hcz27_3);(try clear hcz27_4);(try clear hcz32_0);(try clear hcz32_1);(try clear hcz32_2);(try clear hcz32_3);(try clear hcz32_4)
         (try clear hcz34_0);(try clear hcz34_1);(try clear hcz34_2);(try clear hcz34_3);(try clear hcz34_4);(try clear hcz6_0);(try clear hcz6_1);(try clear hcz6_2);(try clear hcz6_3);(try clear hcz6_4);(try clear hcz8_0);(try clear hcz8_1);(try clear hcz8_2);(try clear hcz8_3);(try clear hcz8_4);(try clear hfz18_0);(try clear hfz18_1);(try clear hfz18_2);(try clear hfz18_3);(try clear hfz18_4);(try clear hfz21_0)
         (try clear hfz21_1);(try clear hfz21_2);(try clear hfz21_3);(try clear hfz21_4);(try clear hfz27_0);(try clear hfz27_1);(try clear hfz27_2);(try clear hfz27_3);(try clear hfz27_4);(try clear hfz32_0);(try clear hfz32_1);(try clear hfz32_2);(try clear hfz32_3);(try clear hfz32_4);(try clear hfz34_0);(try clear hfz34_1);(try clear hfz34_2);(try clear hfz34_3);(try clear hfz34_4);(try clear hfz6_0);(try clear hfz6_1)
         (try clear hfz6_2);(try clear hfz6_3);(try clear hfz6_4);(try clear hfz8_0);(try clear hfz8_1);(try clear hfz8_2);(try clear hfz8_3);(try clear hfz8_4);(try clear hx401_0);(try clear hx401_1);(try clear hx406_0);(try clear hx406_1);(try clear hx407_0);(try clear p2);(try clear p4);(try clear p401);(try clear p406);(try clear p407);(try clear p6);(try clear q4);(try clear q401);(try clear q406);(try clear q407)
         obtain⟨x10_3,x12_3,x13_3,rfl,HA,HK3,HO_4,HO_9,HO_10,HO_12,BK396,HB⟩:=hrel
         cases gk with
         |zero=>exact absurd HA.out (by simp [regletref14_Predict.l2])
         |succ k3=>
          have H:=HA.out
          clear HA
          simp only [regletref14_Predict.l2] at H
          by_cases c35:x13_3≤(l0_1.length:Int)
          ·rw [if_pos c35] at H
           have c35b0:decide (x13_3≤(l0_1.length:Int))=true:=decide_eq_true c35
           clear c35
           have H':=aM H
           clear H
           have hcz36_0:wr.cell? ⟨gb396,0,none⟩=some (.slice A0_0 l0_0.length c0_0):=(aG BK396.out 0).trans rfl
           have hcz36_1:wr.cell? ⟨gb396,1,none⟩=some (.slice A0_1 l0_1.length c0_1):=(aG BK396.out 1).trans rfl
           have hcz36_2:wr.cell? ⟨gb396,2,none⟩=some (.int .i64 a0_2):=(aG BK396.out 2).trans rfl
           have hcz36_3:wr.cell? ⟨gb396,3,none⟩=some (.int .i64 a0_3):=(aG BK396.out 3).trans rfl
           have hcz36_4:wr.cell? ⟨gb396,4,none⟩=some (.slice A0_4 l0_4.length c0_4):=(aG BK396.out 4).trans rfl
           have hfz36_0:=aH BK396.out 0
           have hfz36_1:=aH BK396.out 1
           have hfz36_2:=aH BK396.out 2
           have hfz36_3:=aH BK396.out 3
           have hfz36_4:=aH BK396.out 4
           go_wp2
           go_loopg [10,14,15] k3 (fun kq v10 v14 v15 w'=>∃(x10_4:List (S78)) (x14_4:Int) (x15_4:Int),v14= .int .i64 x14_4∧v15= .int .i64 x15_4∧Aside0 (regletref14_Predict.l3 kq x4_1 x9_2 x10_4 x11_2 x12_3 x13_3 x14_4 x15_4 l0_0 l0_1 a0_2 a0_3 l0_4=some (r1,r2))∧Aside0 (kq≤k3)∧Aside0 (Kd.S (Kd.slice 3 (Kd.int .i64)) 32 w' w.heap.size (fun k_=>some k_≠(u9:Value).ownBlock∧some k_≠(u12:Value).ownBlock) u4 x4_1)∧Aside0 (Kd.S (Kd.slice 3 (Kd.int .i64)) 32 w' w.heap.size (fun k_=>some k_≠(u4:Value).ownBlock∧some k_≠(u12:Value).ownBlock) u9 x9_2)∧Aside0 (Kd.R k78 78 w' w.heap.size (fun _=>True) v10 x10_4)∧Aside0 (Kd.R (Kd.int .i64) 3 w' w.heap.size (fun _=>True) u12 x12_3)∧Aside0 (w'.heap[gb396]?=some (.cells #[(.slice A0_0 l0_0.length c0_0),(.slice A0_1 l0_1.length c0_1),.int .i64 a0_2,.int .i64 a0_3,(.slice A0_4 l0_4.length c0_4)] 26 (0,0)))∧Aside0 (Below w.heap.size w w'))
           case atStart=>exact⟨(x10_3),((-1)),(0),(by first|rfl|(simp;done)|(simp [*];done)),(by first|rfl|(simp;done)|(simp [*];done)),H',⟨Nat.le_refl _⟩,⟨by(with_reducible repeat(first|apply Kd.S_alloc|apply aV|apply aW));exact HO_4.out⟩,⟨by(with_reducible repeat(first|apply Kd.S_alloc|apply aV|apply aW));exact HO_9.out⟩,⟨by(with_reducible repeat(first|apply aA|apply aB|apply aC));exact HO_10.out⟩,⟨by(with_reducible repeat(first|apply aA|apply aB|apply aC));exact HO_12.out⟩,⟨by(with_reducible repeat(first|refine aJ ?_ _|refine aK ?_|refine aI ?_ _));exact BK396.out⟩,⟨by repeat(first|(with_reducible first|exact HB.out|apply aN|apply aP|apply aO|refine aL ?_ GE396.out)|exact HB.out)⟩⟩
           case round=>
            clear H'
            (try clear c1);(try clear c2);(try clear p2);(try clear c3);(try clear c4);(try clear p4);(try clear q4);(try clear hx4);(try clear p6);(try clear c10);(try clear c10b0);(try clear c11);(try clear c11b0);(try clear c13);(try clear c14);(try clear c14b0);(try clear c15);(try clear c15b0);(try clear c16);(try clear c17);(try clear c20);(try clear c26);(try clear c30);(try clear c31);(try clear c32);(try clear c33)
            (try clear c33b0);(try clear c35);(try clear c35b0);(try clear hcz18_0);(try clear hcz18_1);(try clear hcz18_2);(try clear hcz18_3);(try clear hcz18_4);(try clear hcz21_0);(try clear hcz21_1);(try clear hcz21_2);(try clear hcz21_3);(try clear hcz21_4);(try clear hcz27_0);(try clear hcz27_1);(try clear hcz27_2);(try clear hcz27_3);(try clear hcz27_4);(try clear hcz32_0);(try clear hcz32_1);(try clear hcz32_2)
            (try clear hcz32_3);(try clear hcz32_4);(try clear hcz34_0);(try clear hcz34_1);(try clear hcz34_2);(try clear hcz34_3);(try clear hcz34_4);(try clear hcz36_0);(try clear hcz36_1);(try clear hcz36_2);(try clear hcz36_3);(try clear hcz36_4);(try clear hcz6_0);(try clear hcz6_1);(try clear hcz6_2);(try clear hcz6_3);(try clear hcz6_4);(try clear hcz8_0);(try clear hcz8_1);(try clear hcz8_2);(try clear hcz8_3)
            (try clear hcz8_4);(try clear hfz18_0);(try clear hfz18_1);(try clear hfz18_2);(try clear hfz18_3);(try clear hfz18_4);(try clear hfz21_0);(try clear hfz21_1);(try clear hfz21_2);(try clear hfz21_3);(try clear hfz21_4);(try clear hfz27_0);(try clear hfz27_1);(try clear hfz27_2);(try clear hfz27_3);(try clear hfz27_4);(try clear hfz32_0);(try clear hfz32_1);(try clear hfz32_2);(try clear hfz32_3);(try clear hfz32_4)
            (try clear hfz34_0);(try clear hfz34_1);(try clear hfz34_2);(try clear hfz34_3);(try clear hfz34_4);(try clear hfz36_0);(try clear hfz36_1);(try clear hfz36_2);(try clear hfz36_3);(try clear hfz36_4);(try clear hfz6_0);(try clear hfz6_1);(try clear hfz6_2);(try clear hfz6_3);(try clear hfz6_4);(try clear hfz8_0);(try clear hfz8_1);(try clear hfz8_2);(try clear hfz8_3);(try clear hfz8_4);(try clear hx401_0)
            (try clear hx401_1);(try clear hx406_0);(try clear hx406_1);(try clear hx407_0);(try clear p2);(try clear p4);(try clear p401);(try clear p406);(try clear p407);(try clear p6);(try clear q4);(try clear q401);(try clear q406);(try clear q407)
            obtain⟨x10_4,x14_4,x15_4,rfl,rfl,HA,HK4,HO_4,HO_9,HO_10,HO_12,BK396,HB⟩:=hrel
            cases gk with
            |zero=>exact absurd HA.out (by simp [regletref14_Predict.l3])
            |succ k4=>
             have H:=HA.out
             clear HA
             simp only [regletref14_Predict.l3] at H
             by_cases c37:x15_4<(l0_4.length:Int)
             ·rw [if_pos c37] at H
              have c37b0:decide (x15_4<(l0_4.length:Int))=true:=decide_eq_true c37
              clear c37
              have HC38:=aM H
              clear H
              have hcz39_0:wr.cell? ⟨gb396,0,none⟩=some (.slice A0_0 l0_0.length c0_0):=(aG BK396.out 0).trans rfl
              have hcz39_1:wr.cell? ⟨gb396,1,none⟩=some (.slice A0_1 l0_1.length c0_1):=(aG BK396.out 1).trans rfl
              have hcz39_2:wr.cell? ⟨gb396,2,none⟩=some (.int .i64 a0_2):=(aG BK396.out 2).trans rfl
              have hcz39_3:wr.cell? ⟨gb396,3,none⟩=some (.int .i64 a0_3):=(aG BK396.out 3).trans rfl
              have hcz39_4:wr.cell? ⟨gb396,4,none⟩=some (.slice A0_4 l0_4.length c0_4):=(aG BK396.out 4).trans rfl
              have hfz39_0:=aH BK396.out 0
              have hfz39_1:=aH BK396.out 1
              have hfz39_2:=aH BK396.out 2
              have hfz39_3:=aH BK396.out 3
              have hfz39_4:=aH BK396.out 4
              go_upto_region 25 with(fail)
              go_cut [92] (fun v92 wc=>∃(kq:Nat) (x92_37:Bool),v92= .bool x92_37∧Aside0 (regletref14_Predict.j4 kq x4_1 x9_2 x10_4 x11_2 x12_3 x13_3 x14_4 x15_4 x92_37 l0_0 l0_1 a0_2 a0_3 l0_4=some (r1,r2))∧Aside0 (kq≤k4)∧Aside0 (Kd.S (Kd.slice 3 (Kd.int .i64)) 32 wc w.heap.size (fun k_=>some k_≠(u9:Value).ownBlock∧some k_≠(u12:Value).ownBlock) u4 x4_1)∧Aside0 (Kd.S (Kd.slice 3 (Kd.int .i64)) 32 wc w.heap.size (fun k_=>some k_≠(u4:Value).ownBlock∧some k_≠(u12:Value).ownBlock) u9 x9_2)∧Aside0 (Kd.R k78 78 wc w.heap.size (fun _=>True) u10 x10_4)∧Aside0 (Kd.R (Kd.int .i64) 3 wc w.heap.size (fun _=>True) u12 x12_3)∧Aside0 (wc.heap[gb396]?=some (.cells #[(.slice A0_0 l0_0.length c0_0),(.slice A0_1 l0_1.length c0_1),.int .i64 a0_2,.int .i64 a0_3,(.slice A0_4 l0_4.length c0_4)] 26 (0,0)))∧Aside0 (Below w.heap.size w wc))
              case first=>
               have H:=HC38.out
               clear HC38
               by_cases c40:0≤x15_4
               rotate_left
               ·rw [if_neg c40] at H
                exact absurd H (by simp)
               rw [if_pos c40] at H
               have c40b0:decide (0≤x15_4)=true:=decide_eq_true c40
               clear c40
               (first|rw [c40b0]|(simp only [i64_w,i32_w];rw [c40b0])|skip)
               by_cases c41:((rd_T35 l0_4 x15_4).f0)=x11_2
               ·rw [if_pos c41] at H
                have c41b0:(((rd_T35 l0_4 x15_4).f0)==x11_2)=true:=beq_iff_eq.mpr c41
                have c41b1:(((rd_T35 l0_4 x15_4).f0) !=x11_2)=false:=bne_eq_false_iff_eq.mpr c41
                clear c41
                by_cases c42:x15_4<(x4_1.length:Int)
                rotate_left
                ·rw [if_neg c42] at H
                 exact absurd H (by simp)
                rw [if_pos c42] at H
                have c42b0:decide (x15_4<(x4_1.length:Int))=true:=decide_eq_true c42
                clear c42
                replace H:=Option.bind_eq_some_iff.mp H
                obtain⟨t425,A430,H⟩:=H
                replace H:(regletref14_Predict.j4 k4 x4_1 x9_2 x10_4 x11_2 x12_3 x13_3 x14_4 x15_4 (!t425) l0_0 l0_1 a0_2 a0_3 l0_4)=some (r1,r2):=H
                have A43:=aM A430
                clear A430
                have H':=aM H
                clear H
                have hcz44_0:wr.cell? ⟨gb396,0,none⟩=some (.slice A0_0 l0_0.length c0_0):=(aG BK396.out 0).trans rfl
                have hcz44_1:wr.cell? ⟨gb396,1,none⟩=some (.slice A0_1 l0_1.length c0_1):=(aG BK396.out 1).trans rfl
                have hcz44_2:wr.cell? ⟨gb396,2,none⟩=some (.int .i64 a0_2):=(aG BK396.out 2).trans rfl
                have hcz44_3:wr.cell? ⟨gb396,3,none⟩=some (.int .i64 a0_3):=(aG BK396.out 3).trans rfl
                have hcz44_4:wr.cell? ⟨gb396,4,none⟩=some (.slice A0_4 l0_4.length c0_4):=(aG BK396.out 4).trans rfl
                have hfz44_0:=aH BK396.out 0
                have hfz44_1:=aH BK396.out 1
                have hfz44_2:=aH BK396.out 2
                have hfz44_3:=aH BK396.out 3
                have hfz44_4:=aH BK396.out 4
                have p423:0≤(x15_4:Int):=of_decide_eq_true (by first|(with_reducible assumption)|assumption)
                have q423:x15_4<(l0_4.length:Int):=of_decide_eq_true (by first|(with_reducible assumption)|assumption)
                obtain⟨ad423,A423_1,c423_1,e423,hx423_0,hx423_1,hl423_1,hi423_1⟩:=at_T35 HR0_4.out x15_4 p423 q423
                cases e423
                replace hx423_0:=(HB.out.cell (World.block_lt_of_cell? w _ hx423_0)).trans hx423_0
                replace hx423_1:=(HB.out.cell (World.block_lt_of_cell? w _ hx423_1)).trans hx423_1
                have HR423_1:=aM hi423_1
                have HC423_1:=aM hl423_1
                clear hi423_1 hl423_1
                replace p423:=eq_true p423
                replace q423:=eq_true q423
                obtain⟨Ao45,co45,eo45⟩:=Kd.S_slice HO_4.out
                subst eo45
                have p424:0≤(x15_4:Int):=of_decide_eq_true (by first|(with_reducible assumption)|assumption)
                have q424:x15_4<(x4_1.length:Int):=of_decide_eq_true (by first|(with_reducible assumption)|assumption)
                obtain⟨ad424,A424_0,c424_0,e424,hx424_0,hl424_0,hi424_0⟩:=at_L5 (Kd.S_reads' HO_4.out).2.2 x15_4 p424 q424
                cases e424
                obtain⟨ce424,hce424,hMe424,hcc424⟩:=Kd.S_get HO_4.out [] x15_4 p424 (by first|exact q424|exact of_decide_eq_true (by first|(with_reducible assumption)|assumption)|(have e_:=(Kd.S_reads' HO_4.out).1;omega))
                obtain⟨ve424_0,rfl,ge424_0⟩:=hMe424
                have hv424_0:=hcc424 0 _ rfl
                rw [Nat.add_zero,show((Kd.slice 3 (Kd.int .i64))).sz=1 from rfl,Nat.mul_one] at hv424_0
                replace hv424_0:=Option.some.inj (hv424_0.symm.trans hx424_0)
                rw [hv424_0] at ge424_0
                have HL424_0:=aM (show Kd.R (Kd.int .i64) 3 _ _ _ _ (rd_L5 x4_1 x15_4) from ge424_0)
                clear hv424_0 ge424_0
                clear hcc424 hce424
                have HR424_0:=aM hi424_0
                have HC424_0:=aM hl424_0
                clear hi424_0 hl424_0
                replace p424:=eq_true p424
                replace q424:=eq_true q424
                go_wp2_with (first|(go_at_call 33;(with_reducible refine(regletref14_has.calls k4 _ _ (rd_L5 x4_1 x15_4) x13_3 t425 _ ?side1 ?side2 A43.out).mono ?_);(case side1=>repeat(first|exact(by repeat(first|(with_reducible exact HR424_0.out)|(with_reducible refine Kd.C_alloc ?_ _)|(with_reducible refine Kd.C_drewN ?_ _)|(with_reducible refine Kd.C_drew ?_)|exact HR424_0.out))|(with_reducible refine Kd.C_alloc ?_ _)|(with_reducible refine Kd.C_drewN ?_ _)|(with_reducible refine Kd.C_drew ?_)));(case side2=>exact HC424_0.out);rintro e w' ⟨rfl,⟨nd,rfl⟩⟩))
                go_meet
                case rel=>exact⟨_,(!t425),(by first|rfl|(simp;done)|(simp [*];done)),H',⟨by have:=HK1.out;have:=HK2.out;have:=HK3.out;have:=HK4.out;first|omega|exact Nat.le_refl _⟩,⟨by(with_reducible repeat(first|apply Kd.S_alloc|apply aV|apply aW));exact HO_4.out⟩,⟨by(with_reducible repeat(first|apply Kd.S_alloc|apply aV|apply aW));exact HO_9.out⟩,⟨by(with_reducible repeat(first|apply aA|apply aB|apply aC));exact HO_10.out⟩,⟨by(with_reducible repeat(first|apply aA|apply aB|apply aC));exact HO_12.out⟩,⟨by(with_reducible repeat(first|refine aJ ?_ _|refine aK ?_|refine aI ?_ _));exact BK396.out⟩,⟨by repeat(first|(with_reducible first|exact HB.out|apply aN|apply aP|apply aO|refine aL ?_ GE396.out)|exact HB.out)⟩⟩
               ·rw [if_neg c41] at H
                have c41b0:(((rd_T35 l0_4 x15_4).f0)==x11_2)=false:=beq_eq_false_iff_ne.mpr c41
                have c41b1:(((rd_T35 l0_4 x15_4).f0) !=x11_2)=true:=bne_iff_ne.mpr c41
                have H':=aM H
                clear H
                have hcz46_0:wr.cell? ⟨gb396,0,none⟩=some (.slice A0_0 l0_0.length c0_0):=(aG BK396.out 0).trans rfl
                have hcz46_1:wr.cell? ⟨gb396,1,none⟩=some (.slice A0_1 l0_1.length c0_1):=(aG BK396.out 1).trans rfl
                have hcz46_2:wr.cell? ⟨gb396,2,none⟩=some (.int .i64 a0_2):=(aG BK396.out 2).trans rfl
                have hcz46_3:wr.cell? ⟨gb396,3,none⟩=some (.int .i64 a0_3):=(aG BK396.out 3).trans rfl
                have hcz46_4:wr.cell? ⟨gb396,4,none⟩=some (.slice A0_4 l0_4.length c0_4):=(aG BK396.out 4).trans rfl
                have hfz46_0:=aH BK396.out 0
                have hfz46_1:=aH BK396.out 1
                have hfz46_2:=aH BK396.out 2
                have hfz46_3:=aH BK396.out 3
                have hfz46_4:=aH BK396.out 4
                have p423:0≤(x15_4:Int):=of_decide_eq_true (by first|(with_reducible assumption)|assumption)
                have q423:x15_4<(l0_4.length:Int):=of_decide_eq_true (by first|(with_reducible assumption)|assumption)
                obtain⟨ad423,A423_1,c423_1,e423,hx423_0,hx423_1,hl423_1,hi423_1⟩:=at_T35 HR0_4.out x15_4 p423 q423
                cases e423
                replace hx423_0:=(HB.out.cell (World.block_lt_of_cell? w _ hx423_0)).trans hx423_0
                replace hx423_1:=(HB.out.cell (World.block_lt_of_cell? w _ hx423_1)).trans hx423_1
                have HR423_1:=aM hi423_1
                have HC423_1:=aM hl423_1
                clear hi423_1 hl423_1
                replace p423:=eq_true p423
                replace q423:=eq_true q423
                go_wp2
                go_meet
                case rel=>exact⟨_,(true),(by first|rfl|(simp;done)|(simp [*];done)),H',⟨by have:=HK1.out;have:=HK2.out;have:=HK3.out;have:=HK4.out;first|omega|exact Nat.le_refl _⟩,⟨by(with_reducible repeat(first|apply Kd.S_alloc|apply aV|apply aW));exact HO_4.out⟩,⟨by(with_reducible repeat(first|apply Kd.S_alloc|apply aV|apply aW));exact HO_9.out⟩,⟨by(with_reducible repeat(first|apply aA|apply aB|apply aC));exact HO_10.out⟩,⟨by(with_reducible repeat(first|apply aA|apply aB|apply aC));exact HO_12.out⟩,⟨by(with_reducible repeat(first|refine aJ ?_ _|refine aK ?_|refine aI ?_ _));exact BK396.out⟩,⟨by repeat(first|(with_reducible first|exact HB.out|apply aN|apply aP|apply aO|refine aL ?_ GE396.out)|exact HB.out)⟩⟩
              case rest=>
               clear HC38
               (try clear c1);(try clear c2);(try clear p2);(try clear c3);(try clear c4);(try clear p4);(try clear q4);(try clear hx4);(try clear p6);(try clear c10);(try clear c10b0);(try clear c11);(try clear c11b0);(try clear c13);(try clear c14);(try clear c14b0);(try clear c15);(try clear c15b0);(try clear c16);(try clear c17);(try clear c20);(try clear c26);(try clear c30);(try clear c31);(try clear c32);(try clear c33)
               (try clear c33b0);(try clear c35);(try clear c35b0);(try clear c37);(try clear c37b0);(try clear c40);(try clear c40b0);(try clear p40);(try clear q40);(try clear hx40);(try clear c41);(try clear c41b0);(try clear c41b1);(try clear c42);(try clear c42b0);(try clear p42);(try clear q42);(try clear hx42);(try clear hcz18_0);(try clear hcz18_1);(try clear hcz18_2);(try clear hcz18_3);(try clear hcz18_4)
               (try clear hcz21_0);(try clear hcz21_1);(try clear hcz21_2);(try clear hcz21_3);(try clear hcz21_4);(try clear hcz27_0);(try clear hcz27_1);(try clear hcz27_2);(try clear hcz27_3);(try clear hcz27_4);(try clear hcz32_0);(try clear hcz32_1);(try clear hcz32_2);(try clear hcz32_3);(try clear hcz32_4);(try clear hcz34_0);(try clear hcz34_1);(try clear hcz34_2);(try clear hcz34_3);(try clear hcz34_4);(try clear hcz36_0)
               (try clear hcz36_1);(try clear hcz36_2);(try clear hcz36_3);(try clear hcz36_4);(try clear hcz39_0);(try clear hcz39_1);(try clear hcz39_2);(try clear hcz39_3);(try clear hcz39_4);(try clear hcz44_0);(try clear hcz44_1);(try clear hcz44_2);(try clear hcz44_3);(try clear hcz44_4);(try clear hcz46_0);(try clear hcz46_1);(try clear hcz46_2);(try clear hcz46_3);(try clear hcz46_4);(try clear hcz6_0);(try clear hcz6_1)
               (try clear hcz6_2);(try clear hcz6_3);(try clear hcz6_4);(try clear hcz8_0);(try clear hcz8_1);(try clear hcz8_2);(try clear hcz8_3);(try clear hcz8_4);(try clear hfz18_0);(try clear hfz18_1);(try clear hfz18_2);(try clear hfz18_3);(try clear hfz18_4);(try clear hfz21_0);(try clear hfz21_1);(try clear hfz21_2);(try clear hfz21_3);(try clear hfz21_4);(try clear hfz27_0);(try clear hfz27_1);(try clear hfz27_2)
               (try clear hfz27_3);(try clear hfz27_4);(try clear hfz32_0);(try clear hfz32_1);(try clear hfz32_2);(try clear hfz32_3);(try clear hfz32_4);(try clear hfz34_0);(try clear hfz34_1);(try clear hfz34_2);(try clear hfz34_3);(try clear hfz34_4);(try clear hfz36_0);(try clear hfz36_1);(try clear hfz36_2);(try clear hfz36_3);(try clear hfz36_4);(try clear hfz39_0);(try clear hfz39_1);(try clear hfz39_2);(try clear hfz39_3)
               (try clear hfz39_4);(try clear hfz44_0);(try clear hfz44_1);(try clear hfz44_2);(try clear hfz44_3);(try clear hfz44_4);(try clear hfz46_0);(try clear hfz46_1);(try clear hfz46_2);(try clear hfz46_3);(try clear hfz46_4);(try clear hfz6_0);(try clear hfz6_1);(try clear hfz6_2);(try clear hfz6_3);(try clear hfz6_4);(try clear hfz8_0);(try clear hfz8_1);(try clear hfz8_2);(try clear hfz8_3);(try clear hfz8_4)
               (try clear hx401_0);(try clear hx401_1);(try clear hx406_0);(try clear hx406_1);(try clear hx407_0);(try clear hx423_0);(try clear hx423_1);(try clear hx424_0);(try clear p2);(try clear p4);(try clear p401);(try clear p406);(try clear p407);(try clear p423);(try clear p424);(try clear p6);(try clear q4);(try clear q401);(try clear q406);(try clear q407);(try clear q423);(try clear q424)
               obtain⟨kq,x92_37,rfl,HA,HJ37,HO_4,HO_9,HO_10,HO_12,BK396,HB⟩:=hcut
               cases kq with
               |zero=>exact absurd HA.out (by simp [regletref14_Predict.j4])
               |succ kj37=>
                have H:=HA.out
                clear HA
                simp only [regletref14_Predict.j4] at H
                by_cases c47:x92_37=true
                ·subst c47
                 have H1:(regletref14_Predict.l3 kj37 x4_1 x9_2 x10_4 x11_2 x12_3 x13_3 x14_4 (wrap64 (x15_4+1)) l0_0 l0_1 a0_2 a0_3 l0_4)=some (r1,r2):=by rw [if_pos rfl] at H;exact H
                 clear H
                 have H:=H1
                 clear H1
                 have H':=aM H
                 clear H
                 go_wp2
                 go_roundg kj37
                 case measure=>have:=HK1.out;have:=HK2.out;have:=HK3.out;have:=HK4.out;have:=HJ37.out;omega
                 case rel=>exact⟨(x10_4),(x14_4),(wrap64 (x15_4+1)),(by first|rfl|(simp;done)|(simp [*];done)),(by first|rfl|(simp;done)|(simp [*];done)),H',⟨by have:=HK1.out;have:=HK2.out;have:=HK3.out;have:=HK4.out;have:=HJ37.out;omega⟩,⟨by(with_reducible repeat(first|apply Kd.S_alloc|apply aV|apply aW));exact HO_4.out⟩,⟨by(with_reducible repeat(first|apply Kd.S_alloc|apply aV|apply aW));exact HO_9.out⟩,⟨by(with_reducible repeat(first|apply aA|apply aB|apply aC));exact HO_10.out⟩,⟨by(with_reducible repeat(first|apply aA|apply aB|apply aC));exact HO_12.out⟩,⟨by(with_reducible repeat(first|refine aJ ?_ _|refine aK ?_|refine aI ?_ _));exact BK396.out⟩,⟨by repeat(first|(with_reducible first|exact HB.out|apply aN|apply aP|apply aO|refine aL ?_ GE396.out)|exact HB.out)⟩⟩
                ·replace c47:=Bool.eq_false_iff.mpr c47
                 subst c47
                 have H1:(if x14_4<0 then(regletref14_Predict.l3 kj37 x4_1 x9_2 x10_4 x11_2 x12_3 x13_3 x15_4 (wrap64 (x15_4+1)) l0_0 l0_1 a0_2 a0_3 l0_4) else(if x10_4.length<4398046511104 then(regletref14_Predict.l3 kj37 x4_1 x9_2 (x10_4++ [(⟨x11_2,x13_3,x14_4,x15_4⟩:S78)]) x11_2 x12_3 x13_3 x14_4 (wrap64 (x15_4+1)) l0_0 l0_1 a0_2 a0_3 l0_4) else(none)))=some (r1,r2):=by rw [if_neg (show ¬(false=true) by decide)] at H;exact H
                 clear H
                 have H:=H1
                 clear H1
                 by_cases c48:x14_4<0
                 ·rw [if_pos c48] at H
                  have c48b0:decide (x14_4<0)=true:=decide_eq_true c48
                  clear c48
                  have H':=aM H
                  clear H
                  go_wp2
                  go_roundg kj37
                  case measure=>have:=HK1.out;have:=HK2.out;have:=HK3.out;have:=HK4.out;have:=HJ37.out;omega
                  case rel=>exact⟨(x10_4),(x15_4),(wrap64 (x15_4+1)),(by first|rfl|(simp;done)|(simp [*];done)),(by first|rfl|(simp;done)|(simp [*];done)),H',⟨by have:=HK1.out;have:=HK2.out;have:=HK3.out;have:=HK4.out;have:=HJ37.out;omega⟩,⟨by(with_reducible repeat(first|apply Kd.S_alloc|apply aV|apply aW));exact HO_4.out⟩,⟨by(with_reducible repeat(first|apply Kd.S_alloc|apply aV|apply aW));exact HO_9.out⟩,⟨by(with_reducible repeat(first|apply aA|apply aB|apply aC));exact HO_10.out⟩,⟨by(with_reducible repeat(first|apply aA|apply aB|apply aC));exact HO_12.out⟩,⟨by(with_reducible repeat(first|refine aJ ?_ _|refine aK ?_|refine aI ?_ _));exact BK396.out⟩,⟨by repeat(first|(with_reducible first|exact HB.out|apply aN|apply aP|apply aO|refine aL ?_ GE396.out)|exact HB.out)⟩⟩
                 ·rw [if_neg c48] at H
                  have c48b0:decide (x14_4<0)=false:=decide_eq_false c48
                  clear c48
                  by_cases c49:x10_4.length<4398046511104
                  rotate_left
                  ·rw [if_neg c49] at H
                   exact absurd H (by simp)
                  rw [if_pos c49] at H
                  have LMc49:=aM c49
                  clear c49
                  obtain⟨y426,hy426⟩:∃y_:List (S78),y_=(x10_4++ [(⟨x11_2,x13_3,x14_4,x15_4⟩:S78)]):=⟨_,rfl⟩
                  replace H:(regletref14_Predict.l3 kj37 x4_1 x9_2 y426 x11_2 x12_3 x13_3 x14_4 (wrap64 (x15_4+1)) l0_0 l0_1 a0_2 a0_3 l0_4)=some (r1,r2):=by first|(rw [hy426];with_reducible exact H)|(have H2_:=(Option.bind_some _ _).symm.trans H;rw [hy426];with_reducible exact H2_)|(have H2_:=(Option.bind_some _ _).symm.trans H;with_reducible exact H2_)|with_reducible exact H|(rw [hy426];exact H)|exact H
                  have Ny426:=aM hy426
                  clear hy426
                  have H':=aM H
                  clear H
                  go_wp2_with (first|((with_reducible refine gate_builtin (b:= .append) (xs:=#[.tmp 96,.tmp 102]) rfl ?_);at_builtin;refine Kd.R_append k78 (w0:=w) w.heap.size rfl (.tmp 96) (.tmp 102) 48 78 (.agg #[(.int .i64 0),(.int .i64 0),(.int .i64 0),(.int .i64 0)]) 32 rfl Try.underlying48 info78 rfl (by decide) (by omega) u10 x10_4 (⟨x11_2,x13_3,x14_4,x15_4⟩:S78) [.int .i64 x11_2,.int .i64 x13_3,.int .i64 x14_4,.int .i64 x15_4] (fun _=>True) (fun _=>False) rfl rfl ?aP (fun _ hk=>hk.elim) ?aF ?aO ?aB ?aS ?aL ?_;(case aP=>exact k78_mkM _ _ _ (⟨x11_2,x13_3,x14_4,x15_4⟩:S78));(case aB=>exact(by repeat(first|(with_reducible first|exact HB.out|apply aN|apply aP|apply aO|refine aL ?_ GE396.out)|exact HB.out)));(case aF=>exact(fun _ _=>trivial));(case aO=>exact(by(with_reducible repeat(first|apply aA|apply aB|apply aC));exact HO_10.out));(case aS=>exact(bH (by repeat(first|(with_reducible first|exact HB.out|apply aN|apply aP|apply aO|refine aL ?_ GE396.out)|exact HB.out))));(case aL=>have:=LMc49.out;omega);intro v427 w50 ho hb hg hat;rw [←Ny426.out] at ho;have n0_:=aM (Kd.S_over' (by(with_reducible repeat(first|apply Kd.S_alloc|apply aV|apply aW));exact HO_4.out) (Kd.R_typed (by(with_reducible repeat(first|apply aA|apply aB|apply aC));exact HO_10.out)) (by decide) hg);have n1_:=aM (Kd.S_over' (by(with_reducible repeat(first|apply Kd.S_alloc|apply aV|apply aW));exact HO_9.out) (Kd.R_typed (by(with_reducible repeat(first|apply aA|apply aB|apply aC));exact HO_10.out)) (by decide) hg);have n2_:=aM (Kd.R_over' (by(with_reducible repeat(first|apply aA|apply aB|apply aC));exact HO_12.out) (Kd.R_typed (by(with_reducible repeat(first|apply aA|apply aB|apply aC));exact HO_10.out)) (by decide) hg);have n3_:=aM (blk_grown (g:=gb396) (o:= .cells #[.slice A0_0 l0_0.length c0_0,.slice A0_1 l0_1.length c0_1,.int .i64 a0_2,.int .i64 a0_3,.slice A0_4 l0_4.length c0_4] 26 (0,0)) (by(with_reducible repeat(first|refine aJ ?_ _|refine aK ?_|refine aI ?_ _));exact BK396.out) hg (Kd.R_ne HO_10.out BK396.out (by decide)));have n4_:=aM (hb);have n5_:=aM (ho);clear HO_4;clear HO_9;clear HO_12;clear BK396;clear HB;clear HO_10;have HO_4:=n0_;have HO_9:=n1_;have HO_12:=n2_;have BK396:=n3_;have HB:=n4_;have HO428:=n5_;clear n0_ n1_ n2_ n3_ n4_ n5_;clear ho hb hg hat))
                  go_roundg kj37
                  case measure=>have:=HK1.out;have:=HK2.out;have:=HK3.out;have:=HK4.out;have:=HJ37.out;omega
                  case rel=>exact⟨(y426),(x14_4),(wrap64 (x15_4+1)),(by first|rfl|(simp;done)|(simp [*];done)),(by first|rfl|(simp;done)|(simp [*];done)),H',⟨by have:=HK1.out;have:=HK2.out;have:=HK3.out;have:=HK4.out;have:=HJ37.out;omega⟩,⟨by(with_reducible repeat(first|apply Kd.S_alloc|apply aV|apply aW));exact HO_4.out⟩,⟨by(with_reducible repeat(first|apply Kd.S_alloc|apply aV|apply aW));exact HO_9.out⟩,⟨by(with_reducible repeat(first|apply aA|apply aB|apply aC));exact HO428.out⟩,⟨by(with_reducible repeat(first|apply aA|apply aB|apply aC));exact HO_12.out⟩,⟨by(with_reducible repeat(first|refine aJ ?_ _|refine aK ?_|refine aI ?_ _));exact BK396.out⟩,⟨by repeat(first|(with_reducible first|exact HB.out|apply aN|apply aP|apply aO|refine aL ?_ GE396.out)|exact HB.out)⟩⟩
             ·rw [if_neg c37] at H
              have c37b0:decide (x15_4<(l0_4.length:Int))=false:=decide_eq_false c37
              clear c37
              by_cases c51:x12_3.length<17592186044416
              rotate_left
              ·rw [if_neg c51] at H
               exact absurd H (by simp)
              rw [if_pos c51] at H
              have LMc51:=aM c51
              clear c51
              obtain⟨y420,hy420⟩:∃y_:List Int,y_=(x12_3++ [x14_4]):=⟨_,rfl⟩
              replace H:(regletref14_Predict.l2 k4 x4_1 x9_2 x10_4 x11_2 y420 (wrap64 (x13_3+1)) l0_0 l0_1 a0_2 a0_3 l0_4)=some (r1,r2):=by first|(rw [hy420];with_reducible exact H)|(have H2_:=(Option.bind_some _ _).symm.trans H;rw [hy420];with_reducible exact H2_)|(have H2_:=(Option.bind_some _ _).symm.trans H;with_reducible exact H2_)|with_reducible exact H|(rw [hy420];exact H)|exact H
              have Ny420:=aM hy420
              clear hy420
              have H':=aM H
              clear H
              have hcz52_0:wr.cell? ⟨gb396,0,none⟩=some (.slice A0_0 l0_0.length c0_0):=(aG BK396.out 0).trans rfl
              have hcz52_1:wr.cell? ⟨gb396,1,none⟩=some (.slice A0_1 l0_1.length c0_1):=(aG BK396.out 1).trans rfl
              have hcz52_2:wr.cell? ⟨gb396,2,none⟩=some (.int .i64 a0_2):=(aG BK396.out 2).trans rfl
              have hcz52_3:wr.cell? ⟨gb396,3,none⟩=some (.int .i64 a0_3):=(aG BK396.out 3).trans rfl
              have hcz52_4:wr.cell? ⟨gb396,4,none⟩=some (.slice A0_4 l0_4.length c0_4):=(aG BK396.out 4).trans rfl
              have hfz52_0:=aH BK396.out 0
              have hfz52_1:=aH BK396.out 1
              have hfz52_2:=aH BK396.out 2
              have hfz52_3:=aH BK396.out 3
              have hfz52_4:=aH BK396.out 4
              go_wp2_with (first|((with_reducible refine gate_builtin (b:= .append) (xs:=#[.tmp 104,.tmp 106]) rfl ?_);at_builtin;refine Kd.R_append (Kd.int .i64) (w0:=w) w.heap.size rfl (.tmp 104) (.tmp 106) 32 3 (.int .i64 0) 8 rfl Try.underlying32 info3 rfl (by decide) (by omega) u12 x12_3 x14_4 [.int .i64 x14_4] (fun _=>True) (fun _=>False) rfl rfl ?aP (fun _ hk=>hk.elim) ?aF ?aO ?aB ?aS ?aL ?_;(case aP=>exact rfl);(case aB=>exact(by repeat(first|(with_reducible first|exact HB.out|apply aN|apply aP|apply aO|refine aL ?_ GE396.out)|exact HB.out)));(case aF=>exact(fun _ _=>trivial));(case aO=>exact(by(with_reducible repeat(first|apply aA|apply aB|apply aC));exact HO_12.out));(case aS=>exact(bH (by repeat(first|(with_reducible first|exact HB.out|apply aN|apply aP|apply aO|refine aL ?_ GE396.out)|exact HB.out))));(case aL=>have:=LMc51.out;omega);intro v421 w53 ho hb hg hat;rw [←Ny420.out] at ho;have n0_:=aM (Kd.S_after (ok:=(fun k_=>some k_≠(u9:Value).ownBlock)) (by(with_reducible repeat(first|apply Kd.S_alloc|apply aV|apply aW));exact HO_4.out) hg hat);have n1_:=aM (Kd.S_after (ok:=(fun k_=>some k_≠(u4:Value).ownBlock)) (by(with_reducible repeat(first|apply Kd.S_alloc|apply aV|apply aW));exact HO_9.out) hg hat);have n2_:=aM (Kd.R_over' (by(with_reducible repeat(first|apply aA|apply aB|apply aC));exact HO_10.out) (Kd.R_typed (by(with_reducible repeat(first|apply aA|apply aB|apply aC));exact HO_12.out)) (by decide) hg);have n3_:=aM (blk_grown (g:=gb396) (o:= .cells #[.slice A0_0 l0_0.length c0_0,.slice A0_1 l0_1.length c0_1,.int .i64 a0_2,.int .i64 a0_3,.slice A0_4 l0_4.length c0_4] 26 (0,0)) (by(with_reducible repeat(first|refine aJ ?_ _|refine aK ?_|refine aI ?_ _));exact BK396.out) hg (Kd.R_ne HO_12.out BK396.out (by decide)));have n4_:=aM (hb);have n5_:=aM (ho);clear HO_4;clear HO_9;clear HO_10;clear BK396;clear HB;clear HO_12;have HO_4:=n0_;have HO_9:=n1_;have HO_10:=n2_;have BK396:=n3_;have HB:=n4_;have HO422:=n5_;clear n0_ n1_ n2_ n3_ n4_ n5_;clear ho hb hg hat))
              go_roundg k4
              case measure=>have:=HK1.out;have:=HK2.out;have:=HK3.out;have:=HK4.out;omega
              case rel=>exact⟨(x10_4),(y420),(wrap64 (x13_3+1)),(by first|rfl|(simp;done)|(simp [*];done)),H',⟨by have:=HK1.out;have:=HK2.out;have:=HK3.out;have:=HK4.out;omega⟩,⟨by(with_reducible repeat(first|apply Kd.S_alloc|apply aV|apply aW));exact HO_4.out⟩,⟨by(with_reducible repeat(first|apply Kd.S_alloc|apply aV|apply aW));exact HO_9.out⟩,⟨by(with_reducible repeat(first|apply aA|apply aB|apply aC));exact HO_10.out⟩,⟨by(with_reducible repeat(first|apply aA|apply aB|apply aC));exact HO422.out⟩,⟨by(with_reducible repeat(first|refine aJ ?_ _|refine aK ?_|refine aI ?_ _));exact BK396.out⟩,⟨by repeat(first|(with_reducible first|exact HB.out|apply aN|apply aP|apply aO|refine aL ?_ GE396.out)|exact HB.out)⟩⟩
          ·rw [if_neg c35] at H
           have c35b0:decide (x13_3≤(l0_1.length:Int))=false:=decide_eq_false c35
           clear c35
           by_cases c54:x9_2.length<5864062014805
           rotate_left
           ·rw [if_neg c54] at H
            exact absurd H (by simp)
           rw [if_pos c54] at H
           have LMc54:=aM c54
           clear c54
           obtain⟨y417,hy417⟩:∃y_:List (List Int),y_=(x9_2++ [x12_3]):=⟨_,rfl⟩
           replace H:(regletref14_Predict.l1 k3 x4_1 y417 x10_3 (wrap64 (x11_2+1)) l0_0 l0_1 a0_2 a0_3 l0_4)=some (r1,r2):=by first|(rw [hy417];with_reducible exact H)|(have H2_:=(Option.bind_some _ _).symm.trans H;rw [hy417];with_reducible exact H2_)|(have H2_:=(Option.bind_some _ _).symm.trans H;with_reducible exact H2_)|with_reducible exact H|(rw [hy417];exact H)|exact H
           have Ny417:=aM hy417
           clear hy417
           have H':=aM H
           clear H
           have hcz55_0:wr.cell? ⟨gb396,0,none⟩=some (.slice A0_0 l0_0.length c0_0):=(aG BK396.out 0).trans rfl
           have hcz55_1:wr.cell? ⟨gb396,1,none⟩=some (.slice A0_1 l0_1.length c0_1):=(aG BK396.out 1).trans rfl
           have hcz55_2:wr.cell? ⟨gb396,2,none⟩=some (.int .i64 a0_2):=(aG BK396.out 2).trans rfl
           have hcz55_3:wr.cell? ⟨gb396,3,none⟩=some (.int .i64 a0_3):=(aG BK396.out 3).trans rfl
           have hcz55_4:wr.cell? ⟨gb396,4,none⟩=some (.slice A0_4 l0_4.length c0_4):=(aG BK396.out 4).trans rfl
           have hfz55_0:=aH BK396.out 0
           have hfz55_1:=aH BK396.out 1
           have hfz55_2:=aH BK396.out 2
           have hfz55_3:=aH BK396.out 3
           have hfz55_4:=aH BK396.out 4
           obtain⟨Ao57,co57,eo57⟩:=Kd.R_slice HO_12.out
           subst eo57
           go_wp2_with (first|((with_reducible refine gate_builtin (b:= .append) (xs:=#[.tmp 108,.tmp 110]) rfl ?_);at_builtin;refine Kd.S_append (Kd.slice 3 (Kd.int .i64)) (w0:=w) w.heap.size rfl (.tmp 108) (.tmp 110) 28 32 (.slice none 0 0) 24 rfl Try.underlying28 info32 rfl (by decide) (by omega) u9 x9_2 x12_3 [.slice Ao57 x12_3.length co57] (fun k_=>some k_≠(u4:Value).ownBlock) (fun k_=>some k_=(.slice Ao57 x12_3.length co57:Value).ownBlock) rfl rfl ?aP (fun k_ hk_=>((Kd.R_mono (ok':=fun k_=>((fun k_=>some k_≠(u4:Value).ownBlock)) k_∧some k_≠(u9:Value).ownBlock) (Kd.R_apart' (Kd.R_apart' (HO_12.out) (Kd.S_typed HO_4.out) (by decide)) (Kd.S_typed HO_9.out) (by decide)) (fun k_ hk=>⟨hk.1.2,hk.2⟩))).1 k_ hk_.symm) ?aF ?aO ?aB ?aS ?aL ?_;(case aP=>exact Kd.M_row (Kd.R_mono (Kd.R_tight rfl (Kd.R_mono (ok':=fun k_=>((fun k_=>some k_≠(u4:Value).ownBlock)) k_∧some k_≠(u9:Value).ownBlock) (Kd.R_apart' (Kd.R_apart' (HO_12.out) (Kd.S_typed HO_4.out) (by decide)) (Kd.S_typed HO_9.out) (by decide)) (fun k_ hk=>⟨hk.1.2,hk.2⟩))) (fun _ h_=>h_)));(case aB=>exact(by repeat(first|(with_reducible first|exact HB.out|apply aN|apply aP|apply aO|refine aL ?_ GE396.out)|exact HB.out)));(case aF=>exact(fun k_ hk=>Kd.fresh' (Kd.S_lt (by(with_reducible repeat(first|apply Kd.S_alloc|apply aV|apply aW));exact HO_4.out)) k_ hk));(case aO=>exact(by(with_reducible repeat(first|apply Kd.S_alloc|apply aV|apply aW));exact Kd.S_mono HO_9.out (fun k_ hk=>⟨hk.1,fun e_=>hk.2 e_⟩)));(case aS=>exact(bH (by repeat(first|(with_reducible first|exact HB.out|apply aN|apply aP|apply aO|refine aL ?_ GE396.out)|exact HB.out))));(case aL=>have:=LMc54.out;omega);intro v418 w56 ho hb hg hat;rw [←Ny417.out] at ho;have n0_:=aM (Kd.S_after (ok:=(fun k_=>some k_≠(.slice Ao57 x12_3.length co57:Value).ownBlock)) (by(with_reducible repeat(first|apply Kd.S_alloc|apply aV|apply aW));exact Kd.S_mono HO_4.out (fun _ hk=>⟨hk.2,hk.1⟩)) hg hat);have n1_:=aM (Kd.R_over' (by(with_reducible repeat(first|apply aA|apply aB|apply aC));exact HO_10.out) (Kd.S_typed (by(with_reducible repeat(first|apply Kd.S_alloc|apply aV|apply aW));exact HO_9.out)) (by decide) hg);have n2_:=aM (blk_grown (g:=gb396) (o:= .cells #[.slice A0_0 l0_0.length c0_0,.slice A0_1 l0_1.length c0_1,.int .i64 a0_2,.int .i64 a0_3,.slice A0_4 l0_4.length c0_4] 26 (0,0)) (by(with_reducible repeat(first|refine aJ ?_ _|refine aK ?_|refine aI ?_ _));exact BK396.out) hg (Kd.S_ne HO_9.out BK396.out (by decide)));have n3_:=aM (hb);have n4_:=aM (ho);clear HO_4;clear HO_10;clear BK396;clear HB;clear HO_9;clear HO_12;have HO_4:=n0_;have HO_10:=n1_;have BK396:=n2_;have HB:=n3_;have HO419:=n4_;clear n0_ n1_ n2_ n3_ n4_;clear ho hb hg hat))
           go_roundg k3
           case measure=>have:=HK1.out;have:=HK2.out;have:=HK3.out;omega
           case rel=>exact⟨(y417),(x10_3),(wrap64 (x11_2+1)),(by first|rfl|(simp;done)|(simp [*];done)),H',⟨by have:=HK1.out;have:=HK2.out;have:=HK3.out;omega⟩,⟨by(with_reducible repeat(first|apply Kd.S_alloc|apply aV|apply aW));exact Kd.S_mono HO_4.out (fun _ hk=>hk.2)⟩,⟨by(with_reducible repeat(first|apply Kd.S_alloc|apply aV|apply aW));exact HO419.out⟩,⟨by(with_reducible repeat(first|apply aA|apply aB|apply aC));exact HO_10.out⟩,⟨by(with_reducible repeat(first|refine aJ ?_ _|refine aK ?_|refine aI ?_ _));exact BK396.out⟩,⟨by repeat(first|(with_reducible first|exact HB.out|apply aN|apply aP|apply aO|refine aL ?_ GE396.out)|exact HB.out)⟩⟩
       ·rw [if_neg c33] at H
        have c33b0:decide (x11_2<(l0_0.length:Int))=false:=decide_eq_false c33
        clear c33
        simp only [Option.some.injEq,Prod.mk.injEq] at H
        obtain⟨rfl,rfl⟩:=H
        have hcz58_0:wr.cell? ⟨gb396,0,none⟩=some (.slice A0_0 l0_0.length c0_0):=(aG BK396.out 0).trans rfl
        have hcz58_1:wr.cell? ⟨gb396,1,none⟩=some (.slice A0_1 l0_1.length c0_1):=(aG BK396.out 1).trans rfl
        have hcz58_2:wr.cell? ⟨gb396,2,none⟩=some (.int .i64 a0_2):=(aG BK396.out 2).trans rfl
        have hcz58_3:wr.cell? ⟨gb396,3,none⟩=some (.int .i64 a0_3):=(aG BK396.out 3).trans rfl
        have hcz58_4:wr.cell? ⟨gb396,4,none⟩=some (.slice A0_4 l0_4.length c0_4):=(aG BK396.out 4).trans rfl
        have hfz58_0:=aH BK396.out 0
        have hfz58_1:=aH BK396.out 1
        have hfz58_2:=aH BK396.out 2
        have hfz58_3:=aH BK396.out 3
        have hfz58_4:=aH BK396.out 4
        go_wp2
        go_ret2
        exact⟨_,_,by first|rfl|(simp [errW_none,errW_some]<;>rfl)|(simp [*,errW_none,errW_some]<;>rfl),by(with_reducible repeat(first|apply Kd.S_alloc|apply aV|apply aW));exact Kd.S_mono HO_9.out (fun _ hk=>trivial),by(with_reducible repeat(first|apply aA|apply aB|apply aC));exact HO_10.out,by repeat(first|(with_reducible first|exact HB.out|apply aN|apply aP|apply aO|refine aL ?_ GE396.out)|exact HB.out)⟩
 ·replace c3:=Bool.eq_false_iff.mpr c3
  subst c3
  have H1:(some (([]:List (List Int)),([]:List (S78))))=some (r1,r2):=by rw [if_neg (show ¬(false=true) by decide)] at H;exact H
  clear H
  have H:=H1
  clear H1
  simp only [Option.some.injEq,Prod.mk.injEq] at H
  obtain⟨rfl,rfl⟩:=H
  go_enter Try.func20,Try.ntmps20
  go_wp2_with (first|((with_reducible refine bJ (N:=1) rfl ?_);refine box_event ?hg (N:=1) ?hd (cs:=#[.slice A0_0 l0_0.length c0_0,.slice A0_1 l0_1.length c0_1,.int .i64 a0_2,.int .i64 a0_3,.slice A0_4 l0_4.length c0_4]) (t:=26) ?hr ?_;(case hd=>rfl);(case hg=>rfl);(case hr=>first|(go_simp;done)|(go_simp;rfl));intro gb396 hg w59 hbox hb;have n0_:=aM (bG (by repeat(first|(with_reducible first|exact HB.out|apply aN|apply aP|apply aO)|exact HB.out)) hb);have n1_:=aM (hbox);have n2_:=aM ((by rw [hg];exact(bH (by repeat(first|(with_reducible first|exact HB.out|apply aN|apply aP|apply aO)|exact HB.out))):w.heap.size≤gb396));have n3_:=aM ((by rw [hg];exact(bH (by repeat(first|(with_reducible first|exact HB.out|apply aN|apply aP|apply aO)|exact HB.out))):w.heap.size≤gb396));clear HB;have HB:=n0_;have BK396:=n1_;have GW396:=n2_;have GE396:=n3_;clear n0_ n1_ n2_ n3_;clear hb hbox hg;have hcz60_0:w59.cell? ⟨gb396,0,none⟩=some (.slice A0_0 l0_0.length c0_0):=(aG BK396.out 0).trans rfl;have hcz60_1:w59.cell? ⟨gb396,1,none⟩=some (.slice A0_1 l0_1.length c0_1):=(aG BK396.out 1).trans rfl;have hcz60_2:w59.cell? ⟨gb396,2,none⟩=some (.int .i64 a0_2):=(aG BK396.out 2).trans rfl;have hcz60_3:w59.cell? ⟨gb396,3,none⟩=some (.int .i64 a0_3):=(aG BK396.out 3).trans rfl;have hcz60_4:w59.cell? ⟨gb396,4,none⟩=some (.slice A0_4 l0_4.length c0_4):=(aG BK396.out 4).trans rfl;have hfz60_0:=aH BK396.out 0;have hfz60_1:=aH BK396.out 1;have hfz60_2:=aH BK396.out 2;have hfz60_3:=aH BK396.out 3;have hfz60_4:=aH BK396.out 4)|((with_reducible refine bI (f:=30) rfl ?_);refine goesL_ (some 17) rfl rfl Try.func30 (by kernel_rfl) rfl #[.agg #[.slice A0_0 l0_0.length c0_0,.slice A0_1 l0_1.length c0_1,.int .i64 a0_2,.int .i64 a0_3,.slice A0_4 l0_4.length c0_4]] rfl (by(try simp only [List.map_toArray,List.map_cons,List.map_nil]);first|done|rfl|(simp only [List.length_drop,List.length_take];rfl)) ?_;(with_reducible refine(regletref13_Right.calls k _ _ l0_0 _ _ l0_1 a0_2 a0_3 _ _ l0_4 false _ ?side1 ?side2 ?side3 ?side4 ?side5 ?side6 A2.out).mono ?_);(case side1=>repeat(first|exact(bD HR0_0.out HB.out)|(with_reducible refine Kd.C_alloc ?_ _)|(with_reducible refine Kd.C_drewN ?_ _)|(with_reducible refine Kd.C_drew ?_)));(case side2=>exact HC0_0.out);(case side3=>repeat(first|exact(bD HR0_1.out HB.out)|(with_reducible refine Kd.C_alloc ?_ _)|(with_reducible refine Kd.C_drewN ?_ _)|(with_reducible refine Kd.C_drew ?_)));(case side4=>exact HC0_1.out);(case side5=>repeat(first|exact(bD HR0_4.out HB.out)|(with_reducible refine Kd.C_alloc ?_ _)|(with_reducible refine Kd.C_drewN ?_ _)|(with_reducible refine Kd.C_drew ?_)));(case side6=>exact HC0_4.out);rintro e w61 ⟨rfl,hb⟩;refine⟨_,rfl,?_⟩;have n0_:=aM (bF (g:=gb396) (o:= .cells #[.slice A0_0 l0_0.length c0_0,.slice A0_1 l0_1.length c0_1,.int .i64 a0_2,.int .i64 a0_3,.slice A0_4 l0_4.length c0_4] 26 (0,0)) (by(with_reducible repeat(first|refine aJ ?_ _|refine aK ?_|refine aI ?_ _));exact BK396.out) hb);have n1_:=aM (bG (by repeat(first|(with_reducible first|exact HB.out|apply aN|apply aP|apply aO|refine aL ?_ GE396.out)|exact HB.out)) hb);clear BK396;clear HB;have BK396:=n0_;have HB:=n1_;clear n0_ n1_;(try clear hb);(try clear hb2);(try clear hk);(try clear hi)))
  go_ret2
  exact⟨_,_,by first|rfl|(simp [errW_none,errW_some]<;>rfl)|(simp [*,errW_none,errW_some]<;>rfl),by first|exact Kd.S_nil _ _ _ _ _|exact Kd.N_nil _ _ _ _ _|exact Kd.V_nil _ _ _ _ _|exact Kd.Q_nil _ _ _ _ _|exact Kd.R_nil _ _ _ _ _,by first|exact Kd.R_nil _ _ _ _ _|exact Kd.N_nil _ _ _ _ _|exact Kd.V_nil _ _ _ _ _|exact Kd.Q_nil _ _ _ _ _|exact Kd.S_nil _ _ _ _ _,by repeat(first|(with_reducible first|exact HB.out|apply aN|apply aP|apply aO|refine aL ?_ GE396.out)|exact HB.out)⟩
end Go.Proofs.Ytapjfnfengefpaa.P
end
